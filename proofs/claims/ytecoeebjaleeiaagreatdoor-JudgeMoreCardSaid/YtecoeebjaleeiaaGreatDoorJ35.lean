/-
  Package allow: held, Integrity.
-/
import Derived.Test.YtecoeebjaleeiaaGreatDoorJ34
import Derived.Test.YtecoeebjaleeiaaGreatDoorJ17
set_option maxHeartbeats 4000000
set_option maxRecDepth 100000
namespace Lz
open Go
theorem MH (k:UInt8):Lib.cut [] [k]=([],[],false):=by unfold Lib.cut;rfl
theorem QO (k:UInt8) (t:Bs):Lib.cut (k::t) [k]=([],t,true):=by
 have:=eB k (k::t);obtain⟨h1,h2,h3,h4⟩:=this;generalize Lib.cut (k::t) [k]=z at h1 h2 h3 h4;obtain⟨a,b,q⟩:=z;cases q with
 | false=>obtain⟨rfl,_⟩:=h2 rfl;simp at h1
 | true=>
   have:=h4 rfl;cases a with
   | nil=>simp at this;subst this;rfl
   | cons x r=>simp at this;obtain⟨rfl,_⟩:=this;simp at h1
theorem Kg {k c:UInt8} (h:c≠k) (t:Bs):Lib.cut (c::t) [k]=(c::(Lib.cut t [k]).1,(Lib.cut t [k]).2.1,(Lib.cut t [k]).2.2):=by
 have f1:=eB k (c::t);have f2:=eB k t;obtain⟨h1,h2,h3,h4⟩:=f1;obtain⟨g1,g2,g3,g4⟩:=f2;generalize Lib.cut (c::t) [k]=z at h1 h2 h3 h4;generalize Lib.cut t [k]=y at g1 g2 g3 g4;obtain⟨a,b,q⟩:=z;obtain⟨a',b',q'⟩:=y
 have split:∀(x x':Bs) (r r':Bs),k∉x->k∉x'->x++k::r=x'++k::r'->x=x'/\r=r':=by
  intro x
  induction x with
  | nil=>
    intro x' r r' _ h' e;cases x' with
    | nil=>simp at e;exact⟨rfl,e⟩
    | cons y s=>simp at e;obtain⟨rfl,_⟩:=e;simp at h'
  | cons y s ih=>
    intro x' r r' hx h' e;cases x' with
    | nil=>simp at e;obtain⟨rfl,_⟩:=e;simp at hx
    | cons z s'=>
      simp only[List.cons_append,List.cons.injEq]at e;obtain⟨rfl,e⟩:=e;obtain⟨rfl,rfl⟩:=ih s' r r' (fun hm=>hx (by simp[hm])) (fun hm=>h' (by simp[hm])) e;exact⟨rfl,rfl⟩
 cases q with
 | false=>
   obtain⟨rfl,rfl⟩:=h2 rfl;cases q' with
   | false=>obtain⟨rfl,rfl⟩:=g2 rfl;rfl
   | true=>
     have e:=g4 rfl;exact absurd (by rw[show t=_ from e];simp) h1
 | true=>
   have e:=h4 rfl;cases q' with
   | false=>
     obtain⟨rfl,rfl⟩:=g2 rfl;have hm:k∈c::a':=by rw[show c::a'=_ from e];simp
     rcases List.mem_cons.1 hm with hm|hm
     ·exact absurd hm.symm h
     ·exact absurd hm g1
   | true=>
     have e':=g4 rfl
     obtain⟨rfl,rfl⟩:=split a (c::a') b b' h1 (by simp only[List.mem_cons,not_or];exact⟨fun x=>h x.symm,g1⟩) (by
      show a++k::b=(c::a')++k::b';rw[List.cons_append];exact e.symm.trans (congrArg (c::·) e'))
     rfl
theorem tA (k:UInt8):∀s:Bs,(Lib.cut s [k]).1=s.takeWhile (·!= k)
 | []=>by rw[MH];rfl
 | c::t=>by
   by_cases h:c=k
   ·subst h;rw[QO];simp
   ·rw[Kg h,tA k t,List.takeWhile_cons_of_pos (by simpa using h)]
theorem vJ:∀(l w:Bs),w∈jI l->w.length<=l.length
 | [],w,h=>by simp[jI]at h;simp[h]
 | c::r,w,h=>by
   rw[jI]at h;split at h
   ·rcases List.mem_cons.1 h with rfl|h
    ·simp
    ·have:=vJ r w h;simp;omega
   ·split at h
    ·simp at h;simp[h]
    ·rename_i h0 t0 heq;rcases List.mem_cons.1 h with rfl|h
     ·have:=vJ r h0 (by rw[heq];simp);simp;omega
     ·have:=vJ r w (by rw[heq];simp[h]);simp;omega
theorem Ax:∀l:Bs,(jI l).length<=l.length+1
 | []=>by simp[jI]
 | c::r=>by
   have:=Ax r;rw[jI];split
   ·simp;omega
   ·split
    ·simp
    ·rename_i heq;rw[heq]at this
     simp at this⊢;omega
theorem qG (l w:Bs) (h:w∈aG l):w.length<=l.length:=vJ l w (List.mem_filter.1 h).1
theorem nd (l:Bs):(aG l).length<=l.length+1:=Nat.le_trans (List.length_filter_le _ _) (Ax l)
end Lz
namespace Go.Proofs.YtecoeebjaleeiaaGreatDoor
open Go.RowKit
attribute [local go_sem ↓] Go.wp_at_zero Go.wp_at_succ
theorem R4 (w:List UInt8):Lz.j7 w=if ic (39::((Lib.cut w [63]).1++[39]))=0/\(lP (39::((Lib.cut w [63]).1++[39]))).kind=5 then some (lP (39::((Lib.cut w [63]).1++[39])))else none:=by
 unfold Lz.j7;rw[<-Lz.tA];cases h:Lz.ez (39::((Lib.cut w [63]).1++[39]))with
 | none=>rw[uC h,if_neg (by rintro⟨h,_⟩;revert h;decide)]
 | some x=>rw[(lG h).1,(lG h).2];simp
def S3 (l:List Lz.Src) (w:World) (e:Ending) (w':World):Prop:=∃(v:Value) (ys:List ak),e=.returned v/\Hid (ys.map ak.src=l)/\ik w' v ys/\Below w.heap.size w w'
theorem Ms (s:ByteArray) (hs:s.size<=100000) (w:World) (hE:Env w):Calls Tryz.prog 150 #[.string s] w (S3 (Lz.nF Lz.aG s.data.toList) w):=by
 obtain⟨i0,hi,fI,ei,eM⟩:=info_parts I1;have cF:=Ih (Gd s (by omega) w);have HE:=Ih hE;clear hE;go_enter Tryz.func150,Tryz.ntmps150
 go_wp2_with fail
 refine cF.out.mono ?_;rintro e w6 ⟨sv,rfl,hp,fX⟩;have HZ:Hid (∀x∈Lz.aG s.data.toList,x.length<=s.size):=Ih (fun x hx=>by rw[<-aa];exact Lz.qG _ x hx);have HW:Hid ((Lz.aG s.data.toList).length<=s.size+1):=Ih (by rw[<-aa];exact Lz.nd _);obtain⟨l,yB⟩:∃l,l=Lz.aG s.data.toList:=⟨_,rfl⟩;rw[<-yB]at hp HZ HW;have HL0:=Ih yB;clear yB;obtain⟨a,c,xs,rfl,hl,hx⟩:=hp;have mS:l.length=xs.length:=by rw[<-hl,List.length_map]
 obtain⟨n,hn⟩:∃n,n=xs.length:=⟨_,rfl⟩;rw[<-hn];have hLn:n<=100001:=by have:=HW.out;omega
 have Hx:=Ih hx
 have PN:Hid (∀x,x∈xs->x.size<=100000):=Ih (fun x hx=>by
  rw[<-aa];exact Nat.le_trans (HZ.out _ (by rw[<-hl];exact List.mem_map.2 ⟨x,hx,rfl⟩)) hs)
 have HL:=Ih hl;have HN:=Ih hn;have h06:cn w6 w6.heap.size (.slice none 0 0) []:=World.ownsRow_nil w6 _ _ _;have HE6:=Ih (HE.out.below fX);have ac3:=fX.size;clear hx hl hn mS cF
 go_wp2_with fail
 go_loopw [3,5,6,7,11] (fun o _ _ _ i wr=>∃(j:Nat) (ys:List ak),j<=n/\i=.int .i64 j/\ys.length<=j/\Hid (ys.map ak.src=(l.take j).filterMap Lz.j7)/\cn wr w6.heap.size o ys/\Below w6.heap.size w6 wr) (fun _ _ _ _ i _=>n-(intOf i).toNat)
 case atStart=>exact⟨0,[],Nat.zero_le _,rfl,Nat.le_refl _,Ih (by simp),h06,Below.refl _ _⟩
 case round=>
  clear h06;obtain⟨j,ys,hj,rfl,Yq,jV,au,aK⟩:=hrel;by_cases aV:j<n
  ·have bW:(j:Int)<(n:Int):=by omega
   have tM:(0:Int)<=(j:Int):=by omega
   obtain⟨x,hx⟩:∃x,xs[j]? =some x:=⟨_,List.getElem?_eq_getElem (by rw[<-HN.out];exact aV)⟩;obtain⟨B,off,rfl,hB,hc⟩:=Hx.out j x hx;have iD:wr.cell? ⟨B,off+j,none⟩=some (.string x):=by rw[aK.cell (p:=⟨B,off+j,none⟩) hB];exact hc
   have ju:x.size<=100000:=PN.out x (List.mem_of_getElem? hx)
   have gH:l.take (j+1)=l.take j++[x.data.toList]:=by
    rw[List.take_add_one,<-HL.out,List.getElem?_map,hx];rfl
   have gM:Hid ((l.take (j+1)).filterMap Lz.j7=(l.take j).filterMap Lz.j7++(Lz.j7 x.data.toList).toList):=by
    show _=_;rw[gH,List.filterMap_append];cases h:Lz.j7 x.data.toList<;>simp[h]
   have cC:=Ih (Ny x ⟨#[63]⟩ (by omega) wr (HE6.out.below aK));have Ps:=aK;have ew:=Ih au;have Tw:=Ih (R4 x.data.toList);clear hx hc gH au
   go_wp2_with fail
   refine cC.out.mono ?_;rintro e w7 ⟨u,u2,rfl,hu,_,kJ⟩;replace Ps:=ac Ps kJ;obtain⟨q0,Cs⟩:∃q:List UInt8,q=(Lib.cut x.data.toList [63]).1:=⟨_,rfl⟩;have hu':u.data.toList=q0:=by rw[Cs];exact hu.out
   have ZF:q0.length<=100000:=by
    rw[Cs,Lz.tA];exact Nat.le_trans (List.takeWhile_sublist _).length_le (by rw[aa];exact ju)
   have ac9:u.size<=100000:=by rw[<-aa,hu'];exact ZF
   rw[<-Cs]at Tw;have Hu:=Ih hu';have acz:¬9223372036854775807<1+u.size:=by omega
   have acB:¬9223372036854775807<1+u.size+1:=by omega
   clear hu hu' Cs ZF
   have cP:Hid (Calls Tryz.prog 114 #[.string ((⟨#[39]⟩:ByteArray)++u++(⟨#[39]⟩:ByteArray))] w7 (Oh (39::(q0++[39])) w7)):=by
    have h:=zR ((⟨#[39]⟩:ByteArray)++u++(⟨#[39]⟩:ByteArray)) (by simp[ByteArray.size_append];show 1+u.size+1<=_;omega) w7 (HE6.out.below Ps)
    rwa [show((⟨#[39]⟩:ByteArray)++u++(⟨#[39]⟩:ByteArray)).data.toList=39::(q0++[39]) by rw[<-Hu.out];simp]at h
   go_wp2_with fail
   refine cP.out.mono ?_;rintro e w8 ⟨y,rfl,gW,pM⟩;obtain⟨k,t,b,sc,ho,wd,po,pa⟩:=y
   dsimp only[ak.val]
   have E9:=ac Ps pM;have acD:=E9.size;have AP:=Ih ((cn.below ew.out kJ).below pM);clear cP aK kJ pM Ps cC
   go_upto_region 7 with(first |(refine eh rfl _ _ rfl w8.heap.size rfl rfl _ (ah _ _) rfl ?_))
   obtain⟨W2,pH⟩:∃W2,W2=(w8.alloc (.cells #[.int .i64 0,.string ⟨#[]⟩,.int .i64 0,.string ⟨#[]⟩,.string ⟨#[]⟩,.bool false,.int .i64 0,.string ⟨#[]⟩] 174)).setRow w8.heap.size #[.int .i64 k,.string t,.int .i64 b,.string sc,.string ho,.bool wd,.int .i64 po,.string pa]:=⟨_,rfl⟩;rw[<-pH];have az:Below w8.heap.size w8 W2:=by rw[pH];exact aH ((Below.refl _ w8).alloc (Nat.le_refl _) _) (Nat.le_refl _)
   have nO:W2.heap[w8.heap.size]? =some (.cells #[.int .i64 k,.string t,.int .i64 b,.string sc,.string ho,.bool wd,.int .i64 po,.string pa] 174 (0,0)):=by rw[pH];exact setRow_heap _ _ _ _ _ _ (ah _ _)
   have fM:=Ih (cn.below AP.out az);have zp:Below w6.heap.size w6 W2:=ac E9 az;have ye:=zp.size;obtain⟨c0,c1,c2,c3,c4,c5,c6,c7⟩:=tW nO;clear pH az E9 nO;obtain⟨pe,Qh⟩:∃n:Int,n=ic (39::(q0++[39])):=⟨_,rfl⟩;rw[<-Qh]at Tw;have hk:(lP (39::(q0++[39]))).kind=k:=by rw[<-gW.out];rfl
   by_cases hp:pe=0
   ·have To:(ic (39::(q0++[39]))==0)=true:=by rw[<-Qh,hp];rfl
    by_cases XS:k=5
    ·have HS:Hid ((ys++[(ak.mk k t b sc ho wd po pa)]).map ak.src=(l.take (j+1)).filterMap Lz.j7):=by
      show _=_;rw[gM.out,Tw.out,if_pos ⟨hp,by rw[hk,XS]⟩,List.map_append,jV.out];show _++[ak.src (ak.mk k t b sc ho wd po pa)]=_;rw[gW.out];rfl
     have aZ:ys.flatMap ak.row++ak.row (ak.mk k t b sc ho wd po pa)=(ys++[(ak.mk k t b sc ho wd po pa)]).flatMap ak.row:=by rw[List.flatMap_append];simp
     have dV:=Ih aZ;clear hp gM jV aZ hk Qh gW Tw;subst XS
     go_wp2_with (at_builtin;refine wpList_append_own _ rfl (.tmp 35) (.tmp 37) 126 rfl w6.heap.size 174 i0 (.agg #[.int .i64 0,.string ⟨#[]⟩,.int .i64 0,.string ⟨#[]⟩,.string ⟨#[]⟩,.bool false,.int .i64 0,.string ⟨#[]⟩]) 8 96 Tryz.underlying126 hi fI ei eM rfl (by decide) _ _ _ rfl (World.ownsRow.alloc fM.out _) ⟨W2.heap.size,0,none⟩ 1 1 (ak.row (ak.mk 5 t b sc ho wd po pa)) rfl rfl (mC W2 (ak.row (ak.mk 5 t b sc ho wd po pa)) _) (by simp[ak.row,Value.oneCell']) (by unfold maxLen;omega) (by omega) (by simp;omega) ?_)
     intro v' w3 bf cp _;have aO:=Below.grown1 zp fM.out cp ye (Nat.le_refl _);rw[dV.out]at bf
     have eK:cn w3 w6.heap.size v' (ys++[(ak.mk 5 t b sc ho wd po pa)]):=by
      unfold cn;rw[List.length_append];exact bf
     have fi:=Ih eK;clear bf cp eK c0 c1 c2 c3 c4 c5 c6 c7
     go_wp2
     go_roundw
     case rel=>exact⟨j+1,_,by omega,by go_num,by rw[List.length_append];simp;omega,HS,fi.out,aO⟩
     case measure=>simp[intOf];omega
    ·have HS:Hid (ys.map ak.src=(l.take (j+1)).filterMap Lz.j7):=by
      show _=_;rw[gM.out,Tw.out,if_neg (by rw[hk];exact fun h=>XS h.2),jV.out];simp
     clear hp gM jV hk Qh gW Tw
     go_wp2_with fail
     go_roundw
     case rel=>exact⟨j+1,ys,by omega,by go_num,by omega,HS,fM.out,zp⟩
     case measure=>simp[intOf];omega
   ·have To:(ic (39::(q0++[39]))==0)=false:=by rw[<-Qh];simpa using hp
    have HS:Hid (ys.map ak.src=(l.take (j+1)).filterMap Lz.j7):=by
     show _=_;rw[gM.out,Tw.out,if_neg (fun h=>hp h.1),jV.out];simp
    clear hp gM jV hk Qh gW Tw
    go_wp2_with fail
    go_roundw
    case rel=>exact⟨j+1,ys,by omega,by go_num,by omega,HS,fM.out,zp⟩
    case measure=>simp[intOf];omega
  ·have bW:¬(j:Int)<(n:Int):=by omega
   have HV:Hid (ys.map ak.src=Lz.nF Lz.aG s.data.toList):=by
    show _=_;unfold Lz.nF;rw[jV.out,<-HL0.out,List.take_of_length_le (by rw[<-HL.out,List.length_map,<-HN.out];omega)]
   clear jV
   go_wp2_with fail
   go_ret;exact⟨_,ys,rfl,HV,cn.at au,ac fX aK⟩
end Go.Proofs.YtecoeebjaleeiaaGreatDoor
