/-
  lazaretref05.sum: loop 3 (all blocks), over a frame that is a letter.
-/
import Derived.Test.YtibcmemcfjhgmaaGreatDoorV37
import Derived.Test.YtibcmemcfjhgmaaGreatDoorV26
import Derived.Test.YtibcmemcfjhgmaaGreatDoorV35
import Derived.Test.YtibcmemcfjhgmaaGreatDoorV40
import Derived.Test.YtibcmemcfjhgmaaGreatDoorV41
set_option maxHeartbeats 4000000
set_option maxRecDepth 100000
namespace Lz
open Go
theorem LX (k:UInt8):Lib.cut [] [k]=([],[],false):=by unfold Lib.cut;rfl
theorem RA (k:UInt8) (t:Bs):Lib.cut (k::t) [k]=([],t,true):=by
 have:=gS k (k::t);obtain⟨h1,h2,h3,h4⟩:=this;generalize Lib.cut (k::t) [k]=z at h1 h2 h3 h4;obtain⟨a,b,q⟩:=z;cases q with
 | false=>obtain⟨rfl,_⟩:=h2 rfl;simp at h1
 | true=>
   have:=h4 rfl;cases a with
   | nil=>simp at this;subst this;rfl
   | cons x r=>simp at this;obtain⟨rfl,_⟩:=this;simp at h1
theorem Kr {k c:UInt8} (h:c≠k) (t:Bs):Lib.cut (c::t) [k]=(c::(Lib.cut t [k]).1,(Lib.cut t [k]).2.1,(Lib.cut t [k]).2.2):=by
 have f1:=gS k (c::t);have f2:=gS k t;obtain⟨h1,h2,h3,h4⟩:=f1;obtain⟨g1,g2,g3,g4⟩:=f2;generalize Lib.cut (c::t) [k]=z at h1 h2 h3 h4;generalize Lib.cut t [k]=y at g1 g2 g3 g4;obtain⟨a,b,q⟩:=z;obtain⟨a',b',q'⟩:=y
 have split:∀(x x':Bs) (r r':Bs),k∉x->k∉x'->x++k::r=x'++k::r'->x=x'/\r=r':=by
  intro x
  induction x with
  | nil=>
    intro x' r r' _ h' e;cases x' with
    | nil=>simp at e;exact⟨rfl,e⟩
    | cons y s=>simp at e;obtain⟨rfl,_⟩:=e;simp at h'
  | cons y s ih=>
    intro x' r r' hx h' e;cases x' with
    | nil=>simp at e;obtain⟨rfl,_⟩:=e;simp at hx
    | cons z s'=>
      simp only[List.cons_append,List.cons.injEq]at e;obtain⟨rfl,e⟩:=e;obtain⟨rfl,rfl⟩:=ih s' r r' (fun hm=>hx (by simp[hm])) (fun hm=>h' (by simp[hm])) e;exact⟨rfl,rfl⟩
 cases q with
 | false=>
   obtain⟨rfl,rfl⟩:=h2 rfl;cases q' with
   | false=>obtain⟨rfl,rfl⟩:=g2 rfl;rfl
   | true=>
     have e:=g4 rfl;exact absurd (by rw[show t=_ from e];simp) h1
 | true=>
   have e:=h4 rfl;cases q' with
   | false=>
     obtain⟨rfl,rfl⟩:=g2 rfl;have hm:k∈c::a':=by rw[show c::a'=_ from e];simp
     rcases List.mem_cons.1 hm with hm|hm
     ·exact absurd hm.symm h
     ·exact absurd hm g1
   | true=>
     have e':=g4 rfl
     obtain⟨rfl,rfl⟩:=split a (c::a') b b' h1 (by simp only[List.mem_cons,not_or];exact⟨fun x=>h x.symm,g1⟩) (by
      show a++k::b=(c::a')++k::b';rw[List.cons_append];exact e.symm.trans (congrArg (c::·) e'))
     rfl
theorem qZ (k:UInt8):∀s:Bs,(Lib.cut s [k]).1=s.takeWhile (·!= k)
 | []=>by rw[LX];rfl
 | c::t=>by
   by_cases h:c=k
   ·subst h;rw[RA];simp
   ·rw[Kr h,qZ k t,List.takeWhile_cons_of_pos (by simpa using h)]
theorem tr:∀(l w:Bs),w∈i6 l->w.length<=l.length
 | [],w,h=>by simp[i6]at h;simp[h]
 | c::r,w,h=>by
   rw[i6]at h;split at h
   ·rcases List.mem_cons.1 h with rfl|h
    ·simp
    ·have:=tr r w h;simp;omega
   ·split at h
    ·simp at h;simp[h]
    ·rename_i h0 t0 heq;rcases List.mem_cons.1 h with rfl|h
     ·have:=tr r h0 (by rw[heq];simp);simp;omega
     ·have:=tr r w (by rw[heq];simp[h]);simp;omega
theorem yf:∀l:Bs,(i6 l).length<=l.length+1
 | []=>by simp[i6]
 | c::r=>by
   have:=yf r;rw[i6];split
   ·simp;omega
   ·split
    ·simp
    ·rename_i heq;rw[heq]at this
     simp at this⊢;omega
theorem vM (l w:Bs) (h:w∈cn l):w.length<=l.length:=tr l w (List.mem_filter.1 h).1
theorem pH (l:Bs):(cn l).length<=l.length+1:=Nat.le_trans (List.length_filter_le _ _) (yf l)
end Lz
namespace Go.Proofs.YtibcmemcfjhgmaaGreatDoor
open Go.RowKit
attribute [local go_sem ↓] Go.wp_at_zero Go.wp_at_succ
theorem RD (w:List UInt8):Lz.jb w=if em (39::((Lib.cut w [63]).1++[39]))=0/\(ie (39::((Lib.cut w [63]).1++[39]))).kind=5 then some (ie (39::((Lib.cut w [63]).1++[39])))else none:=by
 unfold Lz.jb;rw[<-Lz.qZ];cases h:Lz.a8 (39::((Lib.cut w [63]).1++[39]))with
 | none=>rw[mT h,if_neg (by rintro⟨h,_⟩;revert h;decide)]
 | some x=>rw[(gP h).1,(gP h).2];simp
def S6 (l:List Lz.Src) (w:World) (e:Ending) (w':World):Prop:=∃(v:Value) (ys:List ah),e=.returned v/\Hid (ys.map ah.src=l)/\jd w' v ys/\Below w.heap.size w w'
theorem NZ (s:ByteArray) (hs:s.size<=100000) (w:World) (hE:Env w):Calls Tryz.prog 98 #[.string s] w (S6 (Lz.kZ Lz.cn s.data.toList) w):=by
 obtain⟨i0,hi,eZ,d9,eo⟩:=info_parts Ag;have cF:=Ih (F4 s (by omega) w);have HE:=Ih hE;clear hE;go_enter Tryz.func98,Tryz.ntmps98
 go_wp2_with fail
 refine cF.out.mono ?_;rintro e w6 ⟨sv,rfl,hp,eM⟩;have HZ:Hid (∀x∈Lz.cn s.data.toList,x.length<=s.size):=Ih (fun x hx=>by rw[<-ac];exact Lz.vM _ x hx);have HW:Hid ((Lz.cn s.data.toList).length<=s.size+1):=Ih (by rw[<-ac];exact Lz.pH _);obtain⟨l,XV⟩:∃l,l=Lz.cn s.data.toList:=⟨_,rfl⟩;rw[<-XV]at hp HZ HW;have HL0:=Ih XV;clear XV;obtain⟨a,c,xs,rfl,hl,hx⟩:=hp;have jf:l.length=xs.length:=by rw[<-hl,List.length_map]
 obtain⟨n,hn⟩:∃n,n=xs.length:=⟨_,rfl⟩;rw[<-hn];have hLn:n<=100001:=by have:=HW.out;omega
 have Hx:=Ih hx
 have HZ2:Hid (∀x,x∈xs->x.size<=100000):=Ih (fun x hx=>by
  rw[<-ac];exact Nat.le_trans (HZ.out _ (by rw[<-hl];exact List.mem_map.2 ⟨x,hx,rfl⟩)) hs)
 have HL:=Ih hl;have HN:=Ih hn;have h06:bo w6 w6.heap.size (.slice none 0 0) []:=World.ownsRow_nil w6 _ _ _;have HE6:=Ih (HE.out.below eM);have aad:=eM.size;clear hx hl hn jf cF
 go_wp2_with fail
 go_loopw [3,5,6,7,11] (fun o _ _ _ i wr=>∃(j:Nat) (ys:List ah),j<=n/\i=.int .i64 j/\ys.length<=j/\Hid (ys.map ah.src=(l.take j).filterMap Lz.jb)/\bo wr w6.heap.size o ys/\Below w6.heap.size w6 wr) (fun _ _ _ _ i _=>n-(intOf i).toNat)
 case atStart=>exact⟨0,[],Nat.zero_le _,rfl,Nat.le_refl _,Ih (by simp),h06,Below.refl _ _⟩
 case round=>
  clear h06;obtain⟨j,ys,hj,rfl,hyj,gY,ai,aC⟩:=hrel;by_cases aL:j<n
  ·have aK:(j:Int)<(n:Int):=by omega
   have tI:(0:Int)<=(j:Int):=by omega
   obtain⟨x,hx⟩:∃x,xs[j]? =some x:=⟨_,List.getElem?_eq_getElem (by rw[<-HN.out];exact aL)⟩;obtain⟨B,off,rfl,hB,hc⟩:=Hx.out j x hx;have iE:wr.cell? ⟨B,off+j,none⟩=some (.string x):=by rw[aC.cell (p:=⟨B,off+j,none⟩) hB];exact hc
   have fu:x.size<=100000:=HZ2.out x (List.mem_of_getElem? hx)
   have gu:l.take (j+1)=l.take j++[x.data.toList]:=by
    rw[List.take_add_one,<-HL.out,List.getElem?_map,hx];rfl
   have iA:Hid ((l.take (j+1)).filterMap Lz.jb=(l.take j).filterMap Lz.jb++(Lz.jb x.data.toList).toList):=by
    show _=_;rw[gu,List.filterMap_append];cases h:Lz.jb x.data.toList<;>simp[h]
   have cC:=Ih (Nv x ⟨#[63]⟩ (by omega) wr (HE6.out.below aC));have Pc:=aC;have bi:=Ih ai;have TR:=Ih (RD x.data.toList);clear hx hc gu ai
   go_wp2_with fail
   refine cC.out.mono ?_;rintro e w7 ⟨u,u2,rfl,hu,_,ll⟩;replace Pc:=ae Pc ll;obtain⟨q0,Gi⟩:∃q:List UInt8,q=(Lib.cut x.data.toList [63]).1:=⟨_,rfl⟩;have hu':u.data.toList=q0:=by rw[Gi];exact hu.out
   have aaM:q0.length<=100000:=by
    rw[Gi,Lz.qZ];exact Nat.le_trans (List.takeWhile_sublist _).length_le (by rw[ac];exact fu)
   have acN:u.size<=100000:=by rw[<-ac,hu'];exact aaM
   rw[<-Gi]at TR;have Hu:=Ih hu';have abT:¬9223372036854775807<1+u.size:=by omega
   have acA:¬9223372036854775807<1+u.size+1:=by omega
   clear hu hu' Gi aaM
   have cP:Hid (Calls Tryz.prog 60 #[.string ((⟨#[39]⟩:ByteArray)++u++(⟨#[39]⟩:ByteArray))] w7 (Fm (39::(q0++[39])) w7)):=by
    have h:=xY ((⟨#[39]⟩:ByteArray)++u++(⟨#[39]⟩:ByteArray)) (by simp[ByteArray.size_append];show 1+u.size+1<=_;omega) w7 (HE6.out.below Pc)
    rwa [show((⟨#[39]⟩:ByteArray)++u++(⟨#[39]⟩:ByteArray)).data.toList=39::(q0++[39]) by rw[<-Hu.out];simp]at h
   go_wp2_with fail
   refine cP.out.mono ?_;rintro e w8 ⟨y,rfl,mc,OJ⟩;obtain⟨k,t,b,sc,ho,wd,po,pa⟩:=y
   dsimp only[ah.val]
   have WD:=ae Pc OJ;have acy:=WD.size;have aay:=Ih ((bo.below bi.out ll).below OJ);clear cP aC ll OJ Pc cC
   go_upto_region 7 with(first |(refine a9 rfl _ _ rfl w8.heap.size rfl rfl _ (an _ _) rfl ?_))
   obtain⟨W2,lp⟩:∃W2,W2=(w8.alloc (.cells #[.int .i64 0,.string ⟨#[]⟩,.int .i64 0,.string ⟨#[]⟩,.string ⟨#[]⟩,.bool false,.int .i64 0,.string ⟨#[]⟩] 63)).setRow w8.heap.size #[.int .i64 k,.string t,.int .i64 b,.string sc,.string ho,.bool wd,.int .i64 po,.string pa]:=⟨_,rfl⟩;rw[<-lp];have aE:Below w8.heap.size w8 W2:=by rw[lp];exact aR ((Below.refl _ w8).alloc (Nat.le_refl _) _) (Nat.le_refl _)
   have nW:W2.heap[w8.heap.size]? =some (.cells #[.int .i64 k,.string t,.int .i64 b,.string sc,.string ho,.bool wd,.int .i64 po,.string pa] 63 (0,0)):=by rw[lp];exact setRow_heap _ _ _ _ _ _ (an _ _)
   have bF:=Ih (bo.below aay.out aE);have Gx:Below w6.heap.size w6 W2:=ae WD aE;have ns:=Gx.size;obtain⟨c0,c1,c2,c3,c4,c5,c6,c7⟩:=xU nW;clear lp aE WD nW;obtain⟨pe,Pg⟩:∃n:Int,n=em (39::(q0++[39])):=⟨_,rfl⟩;rw[<-Pg]at TR;have hk:(ie (39::(q0++[39]))).kind=k:=by rw[<-mc.out];rfl
   by_cases hp:pe=0
   ·have Pt:(em (39::(q0++[39]))==0)=true:=by rw[<-Pg,hp];rfl
    by_cases T9:k=5
    ·have HS:Hid ((ys++[(ah.mk k t b sc ho wd po pa)]).map ah.src=(l.take (j+1)).filterMap Lz.jb):=by
      show _=_;rw[iA.out,TR.out,if_pos ⟨hp,by rw[hk,T9]⟩,List.map_append,gY.out];show _++[ah.src (ah.mk k t b sc ho wd po pa)]=_;rw[mc.out];rfl
     have bz:ys.flatMap ah.row++ah.row (ah.mk k t b sc ho wd po pa)=(ys++[(ah.mk k t b sc ho wd po pa)]).flatMap ah.row:=by rw[List.flatMap_append];simp
     have Dz:=Ih bz;clear hp iA gY bz hk Pg mc TR;subst T9
     go_wp2_with (at_builtin;refine wpList_append_own _ rfl (.tmp 35) (.tmp 37) 59 rfl w6.heap.size 63 i0 (.agg #[.int .i64 0,.string ⟨#[]⟩,.int .i64 0,.string ⟨#[]⟩,.string ⟨#[]⟩,.bool false,.int .i64 0,.string ⟨#[]⟩]) 8 96 Tryz.underlying59 hi eZ d9 eo rfl (by decide) _ _ _ rfl (World.ownsRow.alloc bF.out _) ⟨W2.heap.size,0,none⟩ 1 1 (ah.row (ah.mk 5 t b sc ho wd po pa)) rfl rfl (p9 W2 (ah.row (ah.mk 5 t b sc ho wd po pa)) _) (by simp[ah.row,Value.oneCell']) (by unfold maxLen;omega) (by omega) (by simp;omega) ?_)
     intro v' w3 aS bp _;have bj:=Below.grown1 Gx bF.out bp ns (Nat.le_refl _);rw[Dz.out]at aS
     have ba:bo w3 w6.heap.size v' (ys++[(ah.mk 5 t b sc ho wd po pa)]):=by
      unfold bo;rw[List.length_append];exact aS
     have dZ:=Ih ba;clear aS bp ba c0 c1 c2 c3 c4 c5 c6 c7
     go_wp2
     go_roundw
     case rel=>exact⟨j+1,_,by omega,by go_num,by rw[List.length_append];simp;omega,HS,dZ.out,bj⟩
     case measure=>simp[intOf];omega
    ·have HS:Hid (ys.map ah.src=(l.take (j+1)).filterMap Lz.jb):=by
      show _=_;rw[iA.out,TR.out,if_neg (by rw[hk];exact fun h=>T9 h.2),gY.out];simp
     clear hp iA gY hk Pg mc TR
     go_wp2_with fail
     go_roundw
     case rel=>exact⟨j+1,ys,by omega,by go_num,by omega,HS,bF.out,Gx⟩
     case measure=>simp[intOf];omega
   ·have Pt:(em (39::(q0++[39]))==0)=false:=by rw[<-Pg];simpa using hp
    have HS:Hid (ys.map ah.src=(l.take (j+1)).filterMap Lz.jb):=by
     show _=_;rw[iA.out,TR.out,if_neg (fun h=>hp h.1),gY.out];simp
    clear hp iA gY hk Pg mc TR
    go_wp2_with fail
    go_roundw
    case rel=>exact⟨j+1,ys,by omega,by go_num,by omega,HS,bF.out,Gx⟩
    case measure=>simp[intOf];omega
  ·have aK:¬(j:Int)<(n:Int):=by omega
   have HV:Hid (ys.map ah.src=Lz.kZ Lz.cn s.data.toList):=by
    show _=_;unfold Lz.kZ;rw[gY.out,<-HL0.out,List.take_of_length_le (by rw[<-HL.out,List.length_map,<-HN.out];omega)]
   clear gY
   go_wp2_with fail
   go_ret;exact⟨_,ys,rfl,HV,bo.at ai,ae eM aC⟩
attribute [local go_sem ↓] Go.wp_at_zero Go.wp_at_succ
theorem oP (v:Value) (l:List (List UInt8)) (w:World) (hE:Env w) (h:eY w v l) (hL:l.length<=10000) (hZ:∀x,x∈l->x.length<=1000000):Calls Tryz.prog 38 #[v] w (BJ l w):=by
 obtain⟨i0,hi,eZ,d9,eo⟩:=info_parts Ag;obtain⟨a,c,xs,rfl,hl,hx⟩:=h;have jf:l.length=xs.length:=by rw[<-hl,List.length_map]
 obtain⟨n,hn⟩:∃n,n=xs.length:=⟨_,rfl⟩;rw[<-hn];rw[jf,<-hn]at hL;have Hx:=Ih hx;have HZ:Hid (∀x,x∈xs->x.size<=1000000):=Ih (fun x hx=>by rw[<-ac];exact hZ _ (by rw[<-hl];exact List.mem_map.2 ⟨x,hx,rfl⟩));have HL:=Ih hl;have HN:=Ih hn;have h0:bo w w.heap.size (.slice none 0 0) []:=World.ownsRow_nil w _ _ _;clear hx hl hn hZ jf;go_enter Tryz.func38,Tryz.ntmps38
 go_wp2_with fail
 go_loopw [3,4] (fun o i wr=>∃(j:Nat) (ys:List ah),j<=n/\i=.int .i64 j/\ys.length<=j/\Hid (ys.map ah.src=Lz.aM (l.take j))/\bo wr w.heap.size o ys/\Below w.heap.size w wr) (fun _ i _=>n-(intOf i).toNat)
 case atStart=>exact⟨0,[],Nat.zero_le _,rfl,Nat.le_refl _,Ih (by simp[Lz.aM]),h0,Below.refl _ _⟩
 case round=>
  clear h0;obtain⟨j,ys,hj,rfl,hyj,gY,ai,aC⟩:=hrel;by_cases aL:j<n
  ·have aK:(j:Int)<(n:Int):=by omega
   have tI:(0:Int)<=(j:Int):=by omega
   obtain⟨s,hs⟩:∃s,xs[j]? =some s:=⟨_,List.getElem?_eq_getElem (by rw[<-HN.out];exact aL)⟩;obtain⟨B,off,rfl,hB,hc⟩:=Hx.out j s hs;have iE:wr.cell? ⟨B,off+j,none⟩=some (.string s):=by rw[aC.cell (p:=⟨B,off+j,none⟩) hB];exact hc
   have fu:s.size<=1000000:=HZ.out s (List.mem_of_getElem? hs)
   have gu:l.take (j+1)=l.take j++[s.data.toList]:=by
    rw[List.take_add_one,<-HL.out,List.getElem?_map,hs];rfl
   have hst:Lz.aM (l.take (j+1))=Lz.aM (l.take j)++(match Lz.a8 s.data.toList with|some y=>[y]|none=>[]):=by
    rw[gu];unfold Lz.aM;rw[List.filterMap_append];cases h:Lz.a8 s.data.toList<;>simp[h]
   have cP:=Ih (BP s (by omega) wr (hE.below aC));have bi:=Ih ai;have iA:=Ih hst;clear hs hc gu hst ai
   go_wp2_with fail
   refine cP.out.mono ?_;rintro e w1 ⟨x,rfl,mc,av⟩;obtain⟨k,t,b,sc,ho,wd,po,pa⟩:=x
   dsimp only[ah.val]
   go_upto_region 6 with(refine a9 rfl _ _ rfl w1.heap.size rfl rfl _ (an _ _) rfl ?_)
   obtain⟨W2,lp⟩:∃W2,W2=(w1.alloc (.cells #[.int .i64 0,.string ⟨#[]⟩,.int .i64 0,.string ⟨#[]⟩,.string ⟨#[]⟩,.bool false,.int .i64 0,.string ⟨#[]⟩] 63)).setRow w1.heap.size #[.int .i64 k,.string t,.int .i64 b,.string sc,.string ho,.bool wd,.int .i64 po,.string pa]:=⟨_,rfl⟩;rw[<-lp];have aE:Below w1.heap.size w1 W2:=by rw[lp];exact aR ((Below.refl _ w1).alloc (Nat.le_refl _) _) (Nat.le_refl _)
   have nW:W2.heap[w1.heap.size]? =some (.cells #[.int .i64 k,.string t,.int .i64 b,.string sc,.string ho,.bool wd,.int .i64 po,.string pa] 63 (0,0)):=by rw[lp];exact setRow_heap _ _ _ _ _ _ (an _ _)
   have bF:=Ih ((bo.below bi.out av).below aE);have eC:Below w.heap.size w W2:=ae (ae aC av) aE;have ns:=eC.size;clear lp aE cP aC av;cases hp:Lz.a8 s.data.toList with
   | none=>
     have Pt:(em s.data.toList==0)=false:=by rw[mT hp];rfl
     have HS:Hid (ys.map ah.src=Lz.aM (l.take (j+1))):=by show _=_;rw[iA.out,hp,gY.out];simp
     clear hp iA gY
     go_wp2_with fail
     go_roundw
     case rel=>exact⟨j+1,ys,by omega,by go_num,by omega,HS,bF.out,eC⟩
     case measure=>simp[intOf];omega
   | some y=>
     have Pt:(em s.data.toList==0)=true:=by rw[(gP hp).1];rfl
     have HS:Hid ((ys++[(ah.mk k t b sc ho wd po pa)]).map ah.src=Lz.aM (l.take (j+1))):=by
      show _=_;rw[iA.out,hp,List.map_append,gY.out];show _++[ah.src (ah.mk k t b sc ho wd po pa)]=_++[y];rw[mc.out,(gP hp).2]
     have bz:ys.flatMap ah.row++ah.row (ah.mk k t b sc ho wd po pa)=(ys++[(ah.mk k t b sc ho wd po pa)]).flatMap ah.row:=by rw[List.flatMap_append];simp
     have Dz:=Ih bz;obtain⟨c0,c1,c2,c3,c4,c5,c6,c7⟩:=xU nW;clear hp iA gY bz nW
     go_wp2_with (at_builtin;refine wpList_append_own _ rfl (.tmp 23) (.tmp 25) 59 rfl w.heap.size 63 i0 (.agg #[.int .i64 0,.string ⟨#[]⟩,.int .i64 0,.string ⟨#[]⟩,.string ⟨#[]⟩,.bool false,.int .i64 0,.string ⟨#[]⟩]) 8 96 Tryz.underlying59 hi eZ d9 eo rfl (by decide) _ _ _ rfl (World.ownsRow.alloc bF.out _) ⟨W2.heap.size,0,none⟩ 1 1 (ah.row (ah.mk k t b sc ho wd po pa)) rfl rfl (p9 W2 (ah.row (ah.mk k t b sc ho wd po pa)) _) (by simp[ah.row,Value.oneCell']) (by unfold maxLen;omega) (by omega) (by simp;omega) ?_)
     intro v' w3 aS bp _;have bj:=Below.grown1 eC bF.out bp ns (Nat.le_refl _);rw[Dz.out]at aS
     have ba:bo w3 w.heap.size v' (ys++[(ah.mk k t b sc ho wd po pa)]):=by
      unfold bo;rw[List.length_append];exact aS
     have dZ:=Ih ba;clear aS bp ba c0 c1 c2 c3 c4 c5 c6 c7
     go_wp2
     go_roundw
     case rel=>exact⟨j+1,_,by omega,by go_num,by rw[List.length_append];simp;omega,HS,dZ.out,bj⟩
     case measure=>simp[intOf];omega
  ·have aK:¬(j:Int)<(n:Int):=by omega
   have HV:Hid (ys.map ah.src=Lz.aM l):=by
    show _=_;rw[gY.out,List.take_of_length_le (by rw[<-HL.out,List.length_map,<-HN.out];omega)]
   clear gY
   go_wp2_with fail
   go_ret;exact⟨_,ys,rfl,HV,ai,aC⟩
attribute [local go_sem ↓] Go.wp_at_zero Go.wp_at_succ
theorem Lw:uE Tryz.f114.body=.seq (dn1 (uE Tryz.f114.body)) (.seq (.block 3 (oD Tryz.f114.body)) (dn2 (dn2 (uE Tryz.f114.body)))):=by kernel_rfl
theorem kE.trans {A B C:Act} (h:kE A B) (k:kE B C):kE A C:=fun i hi=>(k i hi).trans (h i hi)
def bt9 (A:Act):Nat:=(intOf ((A.tmps[9]?).getD (.bool false))).toNat
theorem E5 {A:Act} {i:Nat} (h:A.tmps[9]? =some (.int .i64 (i:Int))):bt9 A=i:=by unfold bt9;rw[h];rfl
def Vx (A0:Act) (w0:World) (bb:List UInt8) (A:Act) (w:World):Prop:=∃(i:Nat) (v:Value),i<=80/\A.tmps.size=272/\A.defers=A0.defers/\kE A0 A/\A.tmps[9]? =some (.int .i64 (i:Int))/\A.tmps[8]? =some v/\dt w w0.heap.size v (Lz.az bb i)/\Below w0.heap.size w0 w
theorem GJ (A:Act) (w:World) (Q:Exit->Act->World->Prop) (i:Nat) (hi:i<80) (hs:A.tmps.size=272) (t11:A.tmps[9]? =some (.int .i64 (i:Int)))
  (hQ:∀A',A'.tmps.size=272->A'.defers=A.defers->eI 9 39 40 A A'->A'.tmps[9]? =some (.int .i64 ((i+1:Nat):Int))->Q .normal A' w):
  Code.wp Tryz.prog (dn2 (dn2 (uE Tryz.f114.body))) Q A w:=by
 obtain⟨IS,e11⟩:=ag t11;have f1:IntKind.i64.wrap ((i:Int)+1)=((i+1:Nat):Int):=by rw[IntWalk.i64_in _ (by omega)];omega
 have HQ:=Ih hQ;have F1:=Ih f1;clear hQ f1
 conv=>arg 2;whnf
 go_wp2_with fail
 refine HQ.out _ ?_ ?_ ?_ ?_
 ·simp only[Array.size_setIfInBounds];exact hs
 ·rfl
 ·intro k hk cf
  simp(disch:=exact bf k hk cf _ (by decide)) only[Array.getElem?_setIfInBounds_ne]
 ·rw[Array.getElem?_setIfInBounds_self_of_lt (by simp only[Array.size_setIfInBounds];rw[hs];decide)];rw[show((i+1:Nat):Int)=(i:Int)+1 by omega]
theorem Na (A0:Act) (w0 w:World) (Q:Exit->Act->World->Prop) (m:ByteArray) (bb:List UInt8) (a0:Nat) (Lb:a0<=1073742000) (sN:Hid (∀x,x<128->∃h:a0+x<m.size,bb.getD x 0=m[a0+x])) (v0:Value)
  (hs:A0.tmps.size=272) (t8:A0.tmps[6]? =some (.string m)) (t9:A0.tmps[7]? =some (.int .i64 (a0:Int))) (t10:A0.tmps[8]? =some v0) (t11:A0.tmps[9]? =some (.int .i64 0))
  (ai:dt w w0.heap.size v0 []) (aC:Below w0.heap.size w0 w) (aO:∀i,(Lz.az bb i).length=i)
  (ak:∀c a a' w,Q (.panic c) a w->Q (.panic c) a' w)
  (hQ:∀A' w' v',A'.tmps.size=272->A'.defers=A0.defers->kE A0 A'->A'.tmps[8]? =some v'->dt w' w0.heap.size v' (Lz.az bb 80)->Below w0.heap.size w0 w'->Q .normal A' w'):
  Code.wp Tryz.prog (.block 2 (.loop (uE Tryz.f114.body))) Q A0 w:=by
 refine wp_block (wp_loop (Vx A0 w0 bb) (fun a _=>80-bt9 a) ⟨0,v0,by decide,hs,rfl,fun _ _=>rfl,t11,t10,ai,aC⟩ ?_);rintro A w ⟨i,v,hi,hs,hd,hk,t11,t10,ai,aC⟩;have t8:=(hk 6 (by decide)).trans t8;have t9:=(hk 7 (by decide)).trans t9;obtain⟨IS,e11⟩:=ag t11;have HI:Hid (∀A' w',Vx A0 w0 bb A' w'->80-bt9 A'<80-bt9 A->Exit.then (fun a' w'=>Vx A0 w0 bb a' w'/\80-bt9 a'<80-bt9 A) (Exit.inBlock 2 Q) .normal A' w'):=Ih (fun A' w' h1 h2=>⟨h1,h2⟩);have qH:=Ih ak;have HQ:=Ih hQ;have M:=E5 t11;rw[Lw];refine wp_seq ?_
 conv=>arg 2;whnf
 go_wp2_with fail
 by_cases aL:i<80
 ·have aK:(i:Int)<80:=by omega
  refine wp_cond_true (by simp[Act.eval,hs,aK]) ?_;refine aw (fun A1 bc=>?_);have g0:A1.tmps.size=272:=by rw[bc];simp only[Array.size_setIfInBounds];exact hs
  have K1:∀k,k≠37->k≠38->A1.tmps[k]? =A.tmps[k]? :=fun k hk cf=>by
   rw[bc];simp(disch:=first |exact hk.symm|exact cf.symm) only[Array.getElem?_setIfInBounds_ne]
  have D1:A1.defers=A0.defers:=by rw[bc]
  clear bc e11 aK;have g8:=(K1 6 (by decide) (by decide)).trans t8;have g9:=(K1 7 (by decide) (by decide)).trans t9;have om:=(K1 8 (by decide) (by decide)).trans t10;have tp:=(K1 9 (by decide) (by decide)).trans t11;have HK:kE A0 A1:=hk.trans (fun k hk=>K1 k (by omega) (by omega));clear K1 hk t8 t9 t10 t11
  go_wp2_with fail
  by_cases tN:i<16
  ·refine RH A1 w0 w _ m bb a0 i v Lb tN sN g0 g8 g9 om tp ai (aO i) aC (fun c a a' w h=>qH.out c a a' w h) (fun A2 w2 v2 z2 d2 k2 r2 p2 o2 b2=>?_)
   go_wp2_with fail
   refine GJ A2 w2 _ i aL z2 (r2.trans tp) (fun A3 z3 d3 k3 r3=>?_);exact HI.out A3 w2 ⟨i+1,v2,by omega,z3,d3.trans (d2.trans D1),HK.trans (k2.trans (fun k hk=>k3 k (by omega) (by omega))),r3,(k3 8 (by decide) (by decide)).trans p2,o2,b2⟩ (by rw[E5 r3,M];omega)
  ·refine Mw A1 w0 w _ bb i v (by omega) aL g0 om tp ai (aO i) aC (fun c a a' w h=>qH.out c a a' w h) (fun A2 w2 v2 z2 d2 k2 r2 p2 o2 b2=>?_)
   go_wp2_with fail
   refine GJ A2 w2 _ i aL z2 (r2.trans tp) (fun A3 z3 d3 k3 r3=>?_);exact HI.out A3 w2 ⟨i+1,v2,by omega,z3,d3.trans (d2.trans D1),HK.trans (k2.trans (fun k hk=>k3 k (by omega) (by omega))),r3,(k3 8 (by decide) (by decide)).trans p2,o2,b2⟩ (by rw[E5 r3,M];omega)
 ·have aK:¬((i:Int)<80):=by omega
  obtain rfl:i=80:=by omega
  refine wp_cond_false (by simp[Act.eval,hs]) ?_;refine aw (fun A1 bc=>?_);have g0:A1.tmps.size=272:=by rw[bc];simp only[Array.size_setIfInBounds];exact hs
  have K1:∀k,k≠37->k≠38->A1.tmps[k]? =A.tmps[k]? :=fun k hk cf=>by
   rw[bc];simp(disch:=first |exact hk.symm|exact cf.symm) only[Array.getElem?_setIfInBounds_ne]
  have D1:A1.defers=A0.defers:=by rw[bc]
  clear bc e11 aK;have HK:kE A0 A1:=hk.trans (fun k hk=>K1 k (by omega) (by omega));have om:=(K1 8 (by decide) (by decide)).trans t10
  go_wp2_with fail
  exact HQ.out A1 w v g0 D1 HK om ai aC
attribute [local go_sem ↓] Go.wp_at_zero Go.wp_at_succ
def Tl (b:Option Code):Code:=dn2 (dn1 (dn2 (uk b)))
def SR (b:Option Code):Code:=dn2 (Vu b)
def U9 (b:Option Code):Code:=dn2 (dn2 (dn2 (dn2 (uk b))))
theorem PD:Tl Tryz.f114.body=.block 2 (.loop (uE Tryz.f114.body)):=by kernel_rfl
theorem QZ:SR Tryz.f114.body=.block 6 (.loop (uR Tryz.f114.body)):=by kernel_rfl
theorem Rt:uk Tryz.f114.body=.seq (dn1 (uk Tryz.f114.body)) (.seq (.seq (dn1 (dn1 (dn2 (uk Tryz.f114.body)))) (Tl Tryz.f114.body)) (.seq (ML Tryz.f114.body) (.seq (.seq (dn1 (Vu Tryz.f114.body)) (SR Tryz.f114.body)) (U9 Tryz.f114.body)))):=by kernel_rfl
theorem C8L.below {w w':World} {g:Nat} {s:Lz.St8 UInt64} (h:C8L w g s) (b:Below w.heap.size w w'):C8L w' g s:=by
 have k:∀(p:Addr) (v:Value),w.cell? p=some v->w'.cell? p=some v:=fun p v e=>(b.cell (World.block_lt_of_cell? _ _ e)).trans e;obtain⟨c0,c1,c2,c3,c4,c5,c6,c7⟩:=h;exact⟨k _ _ c0,k _ _ c1,k _ _ c2,k _ _ c3,k _ _ c4,k _ _ c5,k _ _ c6,k _ _ c7⟩
def Rn (A A':Act):Prop:=∀k,((0<k/\k<8)\/(24<k/\k<37)\/250<k)->A'.tmps[k]? =A.tmps[k]?
theorem Fo (A0:Act) (w0:World) (Q:Exit->Act->World->Prop) (aP:List UInt64) (m:ByteArray) (bb:List UInt8) (a0:Nat) (h:Lz.St8 UInt64) (Lb:a0<=1073742000) (sN:Hid (∀x,x<128->∃h:a0+x<m.size,bb.getD x 0=m[a0+x])) (g4 c4 g6 c6:Nat)
  (hs:A0.tmps.size=272) (t4:A0.tmps[5]? =some (.slice (some ⟨g4,0,none⟩) 80 c4)) (t6:A0.tmps[0]? =some (.slice (some ⟨g6,0,none⟩) 8 c6)) (t8:A0.tmps[6]? =some (.string m)) (t9:A0.tmps[7]? =some (.int .i64 (a0:Int)))
  (sR:∀i,i<80->w0.cell? ⟨g4,i,none⟩=some (.int .u64 (N64 (aP.getD i 0)))) (xz:C8L w0 g6 h)
  (ak:∀c a a' w,Q (.panic c) a w->Q (.panic c) a' w)
  (hQ:∀A' w' G,A'.tmps.size=272->A'.defers=A0.defers->Rn A0 A'->A'.tmps[0]? =some (.slice (some ⟨G,0,none⟩) 8 8)->C8L w' G (Lz.sH aP h bb)->Below w0.heap.size w0 w'->Q .normal A' w'):
  Code.wp Tryz.prog (uk Tryz.f114.body) Q A0 w0:=by
 have qH:=Ih ak;have HQ:=Ih hQ;have yZ:=Ih sR;have Pf:=Ih xz;clear sR xz hQ ak;rw[Rt];refine wp_seq ?_
 conv=>arg 2;whnf
 go_wp2_with fail
 conv=>arg 2;whnf
 go_wp2_with fail
 refine aw (fun A1 bc=>?_);have g0:A1.tmps.size=272:=by rw[bc];simp only[Array.size_setIfInBounds];exact hs
 have K1:∀k,k≠8->k≠9->A1.tmps[k]? =A0.tmps[k]? :=fun k hk cf=>by
  rw[bc];simp(disch:=first |exact hk.symm|exact cf.symm) only[Array.getElem?_setIfInBounds_ne]
 have om:A1.tmps[8]? =some (.slice none 0 0):=by rw[bc];simp only[Array.getElem?_setIfInBounds,Array.size_setIfInBounds,hs];rfl
 have tp:A1.tmps[9]? =some (.int .i64 0):=by rw[bc];simp only[Array.getElem?_setIfInBounds,Array.size_setIfInBounds,hs];rfl
 have D1:A1.defers=A0.defers:=by rw[bc]
 clear bc;rw[PD];refine Na A1 w0 w0 _ m bb a0 Lb sN (.slice none 0 0) g0 ((K1 6 (by decide) (by decide)).trans t8) ((K1 7 (by decide) (by decide)).trans t9) om tp ⟨rfl,.inl ⟨rfl,rfl⟩⟩ (Below.refl _ _) (fun i=>Lz.fL bb i) (fun c a a' w h=>qH.out c a a' w h) (fun A2 w2 v2 z2 d2 k2 p2 o2 b2=>?_);obtain⟨g,c,rfl,wJ⟩:=dt.form o2 (by rw[Lz.fL];decide);have HAt:=Ih wJ;have hl:(Lz.az bb 80).length=80:=Lz.fL bb 80;rw[hl]at p2;clear wJ o2
 go_wp2_with fail
 refine Rc A2 w2 _ h g6 c6 z2 ((k2 0 (by decide)).trans ((K1 0 (by decide) (by decide)).trans t6)) ?_ (fun c a a' w h=>qH.out c a a' w h) (fun A3 w3 z3 d3 k3 s3 b3=>?_)
 ·exact Pf.out.below b2
 go_wp2_with fail
 conv=>arg 2;whnf
 go_wp2_with fail
 refine aw (fun A4 th=>?_);have g4s:A4.tmps.size=272:=by rw[th];simp only[Array.size_setIfInBounds];exact z3
 have K4:∀k,k≠22->A4.tmps[k]? =A3.tmps[k]? :=fun k hk=>by
  rw[th];simp(disch:=exact hk.symm) only[Array.getElem?_setIfInBounds_ne]
 have R7:A4.tmps[22]? =some (.int .i64 0):=by rw[th];simp only[Array.getElem?_setIfInBounds,z3];rfl
 have D4:A4.defers=A0.defers:=by rw[th]
 clear th;have Wq:=b2.trans (b3.mono b2.size);rw[QZ];have old:∀k,((0<k/\k<8)\/(24<k/\k<37)\/250<k\/k=0)->A4.tmps[k]? =A0.tmps[k]? :=fun k hk=>(K4 k (by omega)).trans ((k3 k (by omega) (by omega)).trans ((k2 k (by omega)).trans (K1 k (by omega) (by omega))));have o4:=(old 5 (by decide)).trans t4;have Wf:=(K4 8 (by decide)).trans ((k3 8 (by decide) (by decide)).trans p2);refine PM A4 w3 _ aP bb h g4 c4 g c g4s o4 Wf R7 (s3.kept (fun j h1 h2=>K4 j (by omega))) ?_ ?_ (fun c a a' w h=>qH.out c a a' w h) (fun A5 w5 z5 d5 k5 s5 b5=>?_)
 ·intro i hi;exact(Wq.cell (p:=⟨g4,i,none⟩) (World.block_lt_of_cell? _ _ (yZ.out i hi))).trans (yZ.out i hi)
 ·intro i hi;have e:=HAt.out i (by rw[hl];exact hi);exact(b3.cell (p:=⟨g,i,none⟩) (World.block_lt_of_cell? _ _ e)).trans e
 have V0:=Wq.trans (b5.mono Wq.size)
 go_wp2_with fail
 refine QR A5 w5 _ h (Lz.eD aP bb h 80) g6 c6 z5 ((k5 0 (by decide)).trans ((old 0 (by decide)).trans t6)) (Pf.out.below V0) s5 (fun c a a' w h=>qH.out c a a' w h) (fun A6 w6 G z6 d6 k6 p6 c8 b6=>?_);exact HQ.out A6 w6 G z6 (d6.trans (d5.trans D4)) (fun k hk=>(k6 k (by omega) (by omega)).trans ((k5 k (by omega)).trans (old k (by omega)))) p6 c8 (V0.trans (b6.mono V0.size))
attribute [local go_sem ↓] Go.wp_at_zero Go.wp_at_succ
theorem Cu (m:ByteArray) (a0 x:Nat) (hx:x<128) (h:a0+128<=m.size):∃h:a0+x<m.size,((m.data.toList.drop a0).take 128).getD x 0=m[a0+x]:=by
 have hl:a0+x<m.data.toList.length:=by rw[Array.length_toList];show a0+x<m.size;omega
 refine⟨by omega,?_⟩;rw[List.getD_eq_getElem?_getD,List.getElem?_take_of_lt hx,List.getElem?_drop,List.getElem?_eq_getElem hl];rfl
def Yh (b:Option Code):Code:=.block 1 (uk b)
theorem Rd:Ev Tryz.f114.body=.seq (dn1 (Ev Tryz.f114.body)) (.seq (Yh Tryz.f114.body) (dn2 (dn2 (Ev Tryz.f114.body)))):=by kernel_rfl
theorem Mq (k:Nat) (h:k<31\/34<k) (s:Nat) (hs:31<=s/\s<=34):s≠k:=by omega
def qR (A A':Act):Prop:=∀k,((0<k/\k<7)\/(24<k/\k<31)\/250<k)->A'.tmps[k]? =A.tmps[k]?
theorem qR.trans {A B C:Act} (h:qR A B) (k:qR B C):qR A C:=fun i hi=>(k i hi).trans (h i hi)
def bt7 (A:Act):Nat:=(intOf ((A.tmps[7]?).getD (.bool false))).toNat
theorem LQ {A:Act} {i:Nat} (h:A.tmps[7]? =some (.int .i64 (i:Int))):bt7 A=i:=by unfold bt7;rw[h];rfl
def M3I (A0:Act) (w0:World) (aP:List UInt64) (l:List UInt8) (N:Nat) (h:Lz.St8 UInt64) (A:Act) (w:World):Prop:=∃(n G c:Nat),n<=N/\A.tmps.size=272/\A.defers=A0.defers/\qR A0 A/\A.tmps[7]? =some (.int .i64 ((128*n:Nat):Int))/\A.tmps[0]? =some (.slice (some ⟨G,0,none⟩) 8 c)/\C8L w G (Lz.bh (Lz.sH aP) 128 n h l)/\Below w0.heap.size w0 w
theorem UW (A:Act) (w:World) (Q:Exit->Act->World->Prop) (i j:Nat) (hi:i<=1073742000) (hj:j=i+128) (hs:A.tmps.size=272) (t9:A.tmps[7]? =some (.int .i64 (i:Int)))
  (hQ:∀A',A'.tmps.size=272->A'.defers=A.defers->eI 7 35 36 A A'->A'.tmps[7]? =some (.int .i64 (j:Int))->Q .normal A' w):
  Code.wp Tryz.prog (dn2 (dn2 (Ev Tryz.f114.body))) Q A w:=by
 obtain⟨b9,e9⟩:=ag t9;have f1:IntKind.i64.wrap ((i:Int)+128)=(j:Int):=by rw[IntWalk.i64_in _ (by omega)];omega
 have HQ:=Ih hQ;clear hQ hj
 conv=>arg 2;whnf
 go_wp2_with fail
 refine HQ.out _ ?_ ?_ ?_ ?_
 ·simp only[Array.size_setIfInBounds];exact hs
 ·rfl
 ·intro k hk cf
  simp(disch:=exact bf k hk cf _ (by decide)) only[Array.getElem?_setIfInBounds_ne]
 ·rw[Array.getElem?_setIfInBounds_self_of_lt (by simp only[Array.size_setIfInBounds];rw[hs];decide)]
theorem Q1 (A0:Act) (w0:World) (Q:Exit->Act->World->Prop) (aP:List UInt64) (m:ByteArray) (N:Nat) (h:Lz.St8 UInt64) (g4 c4 g6 c6:Nat) (hN:m.size=128*N) (hm:m.size<=1073742000)
  (hs:A0.tmps.size=272) (t4:A0.tmps[5]? =some (.slice (some ⟨g4,0,none⟩) 80 c4)) (t6:A0.tmps[0]? =some (.slice (some ⟨g6,0,none⟩) 8 c6)) (t8:A0.tmps[6]? =some (.string m)) (t9:A0.tmps[7]? =some (.int .i64 0))
  (sR:∀i,i<80->w0.cell? ⟨g4,i,none⟩=some (.int .u64 (N64 (aP.getD i 0)))) (xz:C8L w0 g6 h)
  (ak:∀c a a' w,Q (.panic c) a w->Q (.panic c) a' w)
  (hQ:∀A' w' G c,A'.tmps.size=272->A'.defers=A0.defers->qR A0 A'->A'.tmps[0]? =some (.slice (some ⟨G,0,none⟩) 8 c)->C8L w' G (Lz.bh (Lz.sH aP) 128 N h m.data.toList)->Below w0.heap.size w0 w'->Q .normal A' w'):
  Code.wp Tryz.prog (.block 0 (.loop (Ev Tryz.f114.body))) Q A0 w0:=by
 refine wp_block (wp_loop (M3I A0 w0 aP m.data.toList N h) (fun a _=>128*N-bt7 a) ⟨0,g6,c6,Nat.zero_le _,hs,rfl,fun _ _=>rfl,t9,t6,xz,Below.refl _ _⟩ ?_);rintro A w ⟨n,G,c,hn,hs,hd,hk,t9,t6,xz,aC⟩;have t4:=(hk 5 (by decide)).trans t4;have t8:=(hk 6 (by decide)).trans t8;obtain⟨b9,e9⟩:=ag t9;obtain⟨b8,e8⟩:=ag t8;have HI:Hid (∀A' w',M3I A0 w0 aP m.data.toList N h A' w'->128*N-bt7 A'<128*N-bt7 A->Exit.then (fun a' w'=>M3I A0 w0 aP m.data.toList N h a' w'/\128*N-bt7 a'<128*N-bt7 A) (Exit.inBlock 0 Q) .normal A' w'):=Ih (fun A' w' h1 h2=>⟨h1,h2⟩);have qH:=Ih ak;have HQ:=Ih hQ;have HM:=Ih (LQ t9);have yZ:=Ih sR;have HN:=Ih hN;clear sR hQ ak hN;rw[Rd];refine wp_seq ?_;obtain⟨p,hp⟩:∃p,p=128*n:=⟨_,rfl⟩;rw[<-hp]at t9 e9;have Hp:=Ih hp;clear hp
 conv=>arg 2;whnf
 go_wp2_with fail
 by_cases aL:n<N
 ·have aK:p<m.size:=by rw[HN.out,Hp.out];omega
  refine wp_cond_true (by simp[Act.eval,hs,aK]) ?_;refine aw (fun A1 bc=>?_);have g0:A1.tmps.size=272:=by rw[bc];simp only[Array.size_setIfInBounds];exact hs
  have K1:∀k,(k<31\/34<k)->A1.tmps[k]? =A.tmps[k]? :=fun k hk=>by
   rw[bc];simp(disch:=exact Mq k hk _ (by decide)) only[Array.getElem?_setIfInBounds_ne]
  have D1:A1.defers=A0.defers:=by rw[bc]
  clear bc e9 e8 aK;have hb:=b9;have Wd:p+128<=m.size:=by rw[HN.out,Hp.out];omega
  have kO:∀q:Addr,q.block<w0.heap.size->w.cell? q=w0.cell? q:=fun q hq=>aC.cell hq
  go_wp2_with fail
  refine wp_block ?_;refine Fo A1 w _ aP m ((m.data.toList.drop p).take 128) p (Lz.bh (Lz.sH aP) 128 n h m.data.toList) (by omega) (Ih (fun x hx=>Cu m p x hx Wd)) g4 c4 G c g0 ((K1 5 (by decide)).trans t4) ((K1 0 (by decide)).trans t6) ((K1 6 (by decide)).trans t8) ((K1 7 (by decide)).trans t9) (fun i hi=>(kO ⟨g4,i,none⟩ (World.block_lt_of_cell? _ _ (yZ.out i hi))).trans (yZ.out i hi)) xz (fun c a a' w h=>qH.out c a a' w h) (fun A2 w2 G2 z2 d2 k2 p2 c2 b2=>?_)
  go_wp2_with fail
  refine UW A2 w2 _ p (p+128) (by omega) rfl z2 ((k2 7 (by decide)).trans ((K1 7 (by decide)).trans t9)) (fun A3 z3 d3 k3 r3=>?_);have ep:p+128=128*(n+1):=by rw[Hp.out];omega
  rw[ep]at r3;exact HI.out A3 w2 ⟨n+1,G2,8,by omega,z3,d3.trans (d2.trans D1),hk.trans (fun k hk=>(k3 k (by omega) (by omega)).trans ((k2 k (by omega)).trans (K1 k (by omega)))),r3,(k3 0 (by decide) (by decide)).trans p2,by rw[qD,<-Hp.out];exact c2,aC.trans (b2.mono aC.size)⟩ (by rw[LQ r3,HM.out];omega)
 ·have aK:m.size<=p:=by rw[HN.out,Hp.out];omega
  refine wp_cond_false (by simp[Act.eval,hs,aK]) ?_;refine aw (fun A1 bc=>?_);have g0:A1.tmps.size=272:=by rw[bc];simp only[Array.size_setIfInBounds];exact hs
  have K1:∀k,(k<31\/34<k)->A1.tmps[k]? =A.tmps[k]? :=fun k hk=>by
   rw[bc];simp(disch:=exact Mq k hk _ (by decide)) only[Array.getElem?_setIfInBounds_ne]
  have D1:A1.defers=A0.defers:=by rw[bc]
  clear bc e9 e8 aK;obtain rfl:n=N:=by omega
  go_wp2_with fail
  exact HQ.out A1 w G c g0 D1 (hk.trans (fun k hk=>K1 k (by omega))) ((K1 0 (by decide)).trans t6) xz aC
end Go.Proofs.YtibcmemcfjhgmaaGreatDoor
