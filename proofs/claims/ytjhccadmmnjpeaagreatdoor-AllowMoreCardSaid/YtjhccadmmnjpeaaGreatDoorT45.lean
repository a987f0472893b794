/-
  Package allow: held, Integrity.
-/
import Derived.Test.YtjhccadmmnjpeaaGreatDoorT41
set_option maxHeartbeats 4000000
set_option maxRecDepth 100000
namespace Lz
open Go
theorem cutW_nil (k:UInt8):Lib.cut [] [k]=([],[],false):=by unfold Lib.cut;rfl
theorem cutW_at (k:UInt8) (t:Bs):Lib.cut (k::t) [k]=([],t,true):=by
 have:=cut_facts k (k::t);obtain⟨h1,h2,h3,h4⟩:=this;generalize Lib.cut (k::t) [k]=z at h1 h2 h3 h4;obtain⟨a,b,q⟩:=z;cases q with
 | false=>obtain⟨rfl,_⟩:=h2 rfl;simp at h1
 | true=>
   have:=h4 rfl;cases a with
   | nil=>simp at this;subst this;rfl
   | cons x r=>simp at this;obtain⟨rfl,_⟩:=this;simp at h1
theorem cutW_skip {k c:UInt8} (h:c≠k) (t:Bs):Lib.cut (c::t) [k]=(c::(Lib.cut t [k]).1,(Lib.cut t [k]).2.1,(Lib.cut t [k]).2.2):=by
 have f1:=cut_facts k (c::t);have f2:=cut_facts k t;obtain⟨h1,h2,h3,h4⟩:=f1;obtain⟨g1,g2,g3,g4⟩:=f2;generalize Lib.cut (c::t) [k]=z at h1 h2 h3 h4;generalize Lib.cut t [k]=y at g1 g2 g3 g4;obtain⟨a,b,q⟩:=z;obtain⟨a',b',q'⟩:=y
 have split:∀(x x':Bs) (r r':Bs),k∉x->k∉x'->x++k::r=x'++k::r'->x=x'/\r=r':=by
  intro x
  induction x with
  | nil=>
    intro x' r r' _ h' e;cases x' with
    | nil=>simp at e;exact⟨rfl,e⟩
    | cons y s=>simp at e;obtain⟨rfl,_⟩:=e;simp at h'
  | cons y s ih=>
    intro x' r r' hx h' e;cases x' with
    | nil=>simp at e;obtain⟨rfl,_⟩:=e;simp at hx
    | cons z s'=>
      simp only[List.cons_append,List.cons.injEq]at e;obtain⟨rfl,e⟩:=e;obtain⟨rfl,rfl⟩:=ih s' r r' (fun hm=>hx (by simp[hm])) (fun hm=>h' (by simp[hm])) e;exact⟨rfl,rfl⟩
 cases q with
 | false=>
   obtain⟨rfl,rfl⟩:=h2 rfl;cases q' with
   | false=>obtain⟨rfl,rfl⟩:=g2 rfl;rfl
   | true=>
     have e:=g4 rfl;exact absurd (by rw[show t=_ from e];simp) h1
 | true=>
   have e:=h4 rfl;cases q' with
   | false=>
     obtain⟨rfl,rfl⟩:=g2 rfl;have hm:k∈c::a':=by rw[show c::a'=_ from e];simp
     rcases List.mem_cons.1 hm with hm|hm
     ·exact absurd hm.symm h
     ·exact absurd hm g1
   | true=>
     have e':=g4 rfl
     obtain⟨rfl,rfl⟩:=split a (c::a') b b' h1 (by simp only[List.mem_cons,not_or];exact⟨fun x=>h x.symm,g1⟩) (by
      show a++k::b=(c::a')++k::b';rw[List.cons_append];exact e.symm.trans (congrArg (c::·) e'))
     rfl
theorem cut_while (k:UInt8):∀s:Bs,(Lib.cut s [k]).1=s.takeWhile (·!= k)
 | []=>by rw[cutW_nil];rfl
 | c::t=>by
   by_cases h:c=k
   ·subst h;rw[cutW_at];simp
   ·rw[cutW_skip h,cut_while k t,List.takeWhile_cons_of_pos (by simpa using h)]
theorem seg_len:∀(l w:Bs),w∈segP l->w.length<=l.length
 | [],w,h=>by simp[segP]at h;simp[h]
 | c::r,w,h=>by
   rw[segP]at h;split at h
   ·rcases List.mem_cons.1 h with rfl|h
    ·simp
    ·have:=seg_len r w h;simp;omega
   ·split at h
    ·simp at h;simp[h]
    ·rename_i h0 t0 heq;rcases List.mem_cons.1 h with rfl|h
     ·have:=seg_len r h0 (by rw[heq];simp);simp;omega
     ·have:=seg_len r w (by rw[heq];simp[h]);simp;omega
theorem seg_count:∀l:Bs,(segP l).length<=l.length+1
 | []=>by simp[segP]
 | c::r=>by
   have:=seg_count r;rw[segP];split
   ·simp;omega
   ·split
    ·simp
    ·rename_i heq;rw[heq]at this
     simp at this⊢;omega
theorem fields_len (l w:Bs) (h:w∈fieldsP l):w.length<=l.length:=seg_len l w (List.mem_filter.1 h).1
theorem fields_count (l:Bs):(fieldsP l).length<=l.length+1:=Nat.le_trans (List.length_filter_le _ _) (seg_count l)
end Lz
namespace Go.Proofs.YtjhccadmmnjpeaaGreatDoor
open Go.RowKit
attribute [local go_sem ↓] Go.wp_at_zero Go.wp_at_succ
theorem word_eq (w:List UInt8):Lz.wordOf w=if parseE (39::((Lib.cut w [63]).1++[39]))=0/\(parseR (39::((Lib.cut w [63]).1++[39]))).kind=5 then some (parseR (39::((Lib.cut w [63]).1++[39])))else none:=by
 unfold Lz.wordOf;rw[<-Lz.cut_while];cases h:Lz.parseS (39::((Lib.cut w [63]).1++[39]))with
 | none=>rw[parseE_none h,if_neg (by rintro⟨h,_⟩;revert h;decide)]
 | some x=>rw[(parseE_some h).1,(parseE_some h).2];simp
def RHeld (l:List Lz.Src) (w:World) (e:Ending) (w':World):Prop:=∃(v:Value) (ys:List SrcB),e=.returned v/\Hid (ys.map SrcB.src=l)/\SrcsAt w' v ys/\Below w.heap.size w w'
theorem held_any (s:ByteArray) (hs:s.size<=100000) (w:World) (hE:Env w):Calls Tryz.prog 41 #[.string s] w (RHeld (Lz.heldP Lz.fieldsP s.data.toList) w):=by
 obtain⟨i0,hi,hz0,hz1,hz2⟩:=info_parts infoSrc;have cF:=Ih (Fields_any s (by omega) w);have HE:=Ih hE;clear hE;go_enter Tryz.func41,Tryz.ntmps41
 go_wp2_with fail
 refine cF.out.mono ?_;rintro e w6 ⟨sv,rfl,hp,hb6⟩;have HZ:Hid (∀x∈Lz.fieldsP s.data.toList,x.length<=s.size):=Ih (fun x hx=>by rw[<-len_of_size];exact Lz.fields_len _ x hx);have HW:Hid ((Lz.fieldsP s.data.toList).length<=s.size+1):=Ih (by rw[<-len_of_size];exact Lz.fields_count _);obtain⟨l,hl0⟩:∃l,l=Lz.fieldsP s.data.toList:=⟨_,rfl⟩;rw[<-hl0]at hp HZ HW;have HL0:=Ih hl0;clear hl0;obtain⟨a,c,xs,rfl,hl,hx⟩:=hp;have hll:l.length=xs.length:=by rw[<-hl,List.length_map]
 obtain⟨n,hn⟩:∃n,n=xs.length:=⟨_,rfl⟩;rw[<-hn];have hLn:n<=100001:=by have:=HW.out;omega
 have Hx:=Ih hx
 have HZ2:Hid (∀x,x∈xs->x.size<=100000):=Ih (fun x hx=>by
  rw[<-len_of_size];exact Nat.le_trans (HZ.out _ (by rw[<-hl];exact List.mem_map.2 ⟨x,hx,rfl⟩)) hs)
 have HL:=Ih hl;have HN:=Ih hn;have h06:SrcsOwn w6 w6.heap.size (.slice none 0 0) []:=World.ownsRow_nil w6 _ _ _;have HE6:=Ih (HE.out.below hb6);have hb6s:=hb6.size;clear hx hl hn hll cF
 go_wp2_with fail
 go_loopw [3,5,6,7,11] (fun o _ _ _ i wr=>∃(j:Nat) (ys:List SrcB),j<=n/\i=.int .i64 j/\ys.length<=j/\Hid (ys.map SrcB.src=(l.take j).filterMap Lz.wordOf)/\SrcsOwn wr w6.heap.size o ys/\Below w6.heap.size w6 wr) (fun _ _ _ _ i _=>n-(intOf i).toNat)
 case atStart=>exact⟨0,[],Nat.zero_le _,rfl,Nat.le_refl _,Ih (by simp),h06,Below.refl _ _⟩
 case round=>
  clear h06;obtain⟨j,ys,hj,rfl,hyj,hys,hown,hbw⟩:=hrel;by_cases hlt:j<n
  ·have hltI:(j:Int)<(n:Int):=by omega
   have hj0:(0:Int)<=(j:Int):=by omega
   obtain⟨x,hx⟩:∃x,xs[j]? =some x:=⟨_,List.getElem?_eq_getElem (by rw[<-HN.out];exact hlt)⟩;obtain⟨B,off,rfl,hB,hc⟩:=Hx.out j x hx;have hc1:wr.cell? ⟨B,off+j,none⟩=some (.string x):=by rw[hbw.cell (p:=⟨B,off+j,none⟩) hB];exact hc
   have hsz:x.size<=100000:=HZ2.out x (List.mem_of_getElem? hx)
   have htk:l.take (j+1)=l.take j++[x.data.toList]:=by
    rw[List.take_add_one,<-HL.out,List.getElem?_map,hx];rfl
   have Hst:Hid ((l.take (j+1)).filterMap Lz.wordOf=(l.take j).filterMap Lz.wordOf++(Lz.wordOf x.data.toList).toList):=by
    show _=_;rw[htk,List.filterMap_append];cases h:Lz.wordOf x.data.toList<;>simp[h]
   have cC:=Ih (Cut_c x ⟨#[63]⟩ (by omega) wr (HE6.out.below hbw));have hbww:=hbw;have Hown:=Ih hown;have HWE:=Ih (word_eq x.data.toList);clear hx hc htk hown
   go_wp2_with fail
   refine cC.out.mono ?_;rintro e w7 ⟨u,u2,rfl,hu,_,hb7⟩;replace hbww:=below_call hbww hb7;obtain⟨q0,hq0⟩:∃q:List UInt8,q=(Lib.cut x.data.toList [63]).1:=⟨_,rfl⟩;have hu':u.data.toList=q0:=by rw[hq0];exact hu.out
   have hq0l:q0.length<=100000:=by
    rw[hq0,Lz.cut_while];exact Nat.le_trans (List.takeWhile_sublist _).length_le (by rw[len_of_size];exact hsz)
   have husz:u.size<=100000:=by rw[<-len_of_size,hu'];exact hq0l
   rw[<-hq0]at HWE;have Hu:=Ih hu';have hcat:¬9223372036854775807<1+u.size:=by omega
   have hcat2:¬9223372036854775807<1+u.size+1:=by omega
   clear hu hu' hq0 hq0l
   have cP:Hid (Calls Tryz.prog 50 #[.string ((⟨#[39]⟩:ByteArray)++u++(⟨#[39]⟩:ByteArray))] w7 (RParse (39::(q0++[39])) w7)):=by
    have h:=Parse_any ((⟨#[39]⟩:ByteArray)++u++(⟨#[39]⟩:ByteArray)) (by simp[ByteArray.size_append];show 1+u.size+1<=_;omega) w7 (HE6.out.below hbww)
    rwa [show((⟨#[39]⟩:ByteArray)++u++(⟨#[39]⟩:ByteArray)).data.toList=39::(q0++[39]) by rw[<-Hu.out];simp]at h
   go_wp2_with fail
   refine cP.out.mono ?_;rintro e w8 ⟨y,rfl,hxs,hb8⟩;obtain⟨k,t,b,sc,ho,wd,po,pa⟩:=y
   dsimp only[SrcB.val]
   have hbw8:=below_call hbww hb8;have hbw8s:=hbw8.size;have Hown8:=Ih ((SrcsOwn.below Hown.out hb7).below hb8);clear cP hbw hb7 hb8 hbww cC
   go_upto_region 7 with(first |(refine store_src rfl _ _ rfl w8.heap.size rfl rfl _ (heap_new _ _) rfl ?_))
   obtain⟨W2,hW2⟩:∃W2,W2=(w8.alloc (.cells #[.int .i64 0,.string ⟨#[]⟩,.int .i64 0,.string ⟨#[]⟩,.string ⟨#[]⟩,.bool false,.int .i64 0,.string ⟨#[]⟩] 47)).setRow w8.heap.size #[.int .i64 k,.string t,.int .i64 b,.string sc,.string ho,.bool wd,.int .i64 po,.string pa]:=⟨_,rfl⟩;rw[<-hW2];have hb2:Below w8.heap.size w8 W2:=by rw[hW2];exact below_setRowT ((Below.refl _ w8).alloc (Nat.le_refl _) _) (Nat.le_refl _)
   have hR2:W2.heap[w8.heap.size]? =some (.cells #[.int .i64 k,.string t,.int .i64 b,.string sc,.string ho,.bool wd,.int .i64 po,.string pa] 47 (0,0)):=by rw[hW2];exact setRow_heap _ _ _ _ _ _ (heap_new _ _)
   have Hown2:=Ih (SrcsOwn.below Hown8.out hb2);have hbW2:Below w6.heap.size w6 W2:=below_call hbw8 hb2;have hsz2:=hbW2.size;obtain⟨c0,c1,c2,c3,c4,c5,c6,c7⟩:=row8c hR2;clear hW2 hb2 hbw8 hR2;obtain⟨pe,hpe⟩:∃n:Int,n=parseE (39::(q0++[39])):=⟨_,rfl⟩;rw[<-hpe]at HWE;have hk:(parseR (39::(q0++[39]))).kind=k:=by rw[<-hxs.out];rfl
   by_cases hp:pe=0
   ·have hE0:(parseE (39::(q0++[39]))==0)=true:=by rw[<-hpe,hp];rfl
    by_cases hk5:k=5
    ·have HS:Hid ((ys++[(SrcB.mk k t b sc ho wd po pa)]).map SrcB.src=(l.take (j+1)).filterMap Lz.wordOf):=by
      show _=_;rw[Hst.out,HWE.out,if_pos ⟨hp,by rw[hk,hk5]⟩,List.map_append,hys.out];show _++[SrcB.src (SrcB.mk k t b sc ho wd po pa)]=_;rw[hxs.out];rfl
     have hrow:ys.flatMap SrcB.row++SrcB.row (SrcB.mk k t b sc ho wd po pa)=(ys++[(SrcB.mk k t b sc ho wd po pa)]).flatMap SrcB.row:=by rw[List.flatMap_append];simp
     have Hrow:=Ih hrow;clear hp Hst hys hrow hk hpe hxs HWE;subst hk5
     go_wp2_with (at_builtin;refine wpList_append_own _ rfl (.tmp 35) (.tmp 37) 43 rfl w6.heap.size 47 i0 (.agg #[.int .i64 0,.string ⟨#[]⟩,.int .i64 0,.string ⟨#[]⟩,.string ⟨#[]⟩,.bool false,.int .i64 0,.string ⟨#[]⟩]) 8 96 Tryz.underlying43 hi hz0 hz1 hz2 rfl (by decide) _ _ _ rfl (World.ownsRow.alloc Hown2.out _) ⟨W2.heap.size,0,none⟩ 1 1 (SrcB.row (SrcB.mk 5 t b sc ho wd po pa)) rfl rfl (cell_row W2 (SrcB.row (SrcB.mk 5 t b sc ho wd po pa)) _) (by simp[SrcB.row,Value.oneCell']) (by unfold maxLen;omega) (by omega) (by simp;omega) ?_)
     intro v' w3 hown' hgrow _;have hb3:=Below.grown1 hbW2 Hown2.out hgrow hsz2 (Nat.le_refl _);rw[Hrow.out]at hown'
     have hown3:SrcsOwn w3 w6.heap.size v' (ys++[(SrcB.mk 5 t b sc ho wd po pa)]):=by
      unfold SrcsOwn;rw[List.length_append];exact hown'
     have Hown3:=Ih hown3;clear hown' hgrow hown3 c0 c1 c2 c3 c4 c5 c6 c7
     go_wp2
     go_roundw
     case rel=>exact⟨j+1,_,by omega,by go_num,by rw[List.length_append];simp;omega,HS,Hown3.out,hb3⟩
     case measure=>simp[intOf];omega
    ·have HS:Hid (ys.map SrcB.src=(l.take (j+1)).filterMap Lz.wordOf):=by
      show _=_;rw[Hst.out,HWE.out,if_neg (by rw[hk];exact fun h=>hk5 h.2),hys.out];simp
     clear hp Hst hys hk hpe hxs HWE
     go_wp2_with fail
     go_roundw
     case rel=>exact⟨j+1,ys,by omega,by go_num,by omega,HS,Hown2.out,hbW2⟩
     case measure=>simp[intOf];omega
   ·have hE0:(parseE (39::(q0++[39]))==0)=false:=by rw[<-hpe];simpa using hp
    have HS:Hid (ys.map SrcB.src=(l.take (j+1)).filterMap Lz.wordOf):=by
     show _=_;rw[Hst.out,HWE.out,if_neg (fun h=>hp h.1),hys.out];simp
    clear hp Hst hys hk hpe hxs HWE
    go_wp2_with fail
    go_roundw
    case rel=>exact⟨j+1,ys,by omega,by go_num,by omega,HS,Hown2.out,hbW2⟩
    case measure=>simp[intOf];omega
  ·have hltI:¬(j:Int)<(n:Int):=by omega
   have HV:Hid (ys.map SrcB.src=Lz.heldP Lz.fieldsP s.data.toList):=by
    show _=_;unfold Lz.heldP;rw[hys.out,<-HL0.out,List.take_of_length_le (by rw[<-HL.out,List.length_map,<-HN.out];omega)]
   clear hys
   go_wp2_with fail
   go_ret;exact⟨_,ys,rfl,HV,SrcsOwn.at hown,below_call hb6 hbw⟩
end Go.Proofs.YtjhccadmmnjpeaaGreatDoor
