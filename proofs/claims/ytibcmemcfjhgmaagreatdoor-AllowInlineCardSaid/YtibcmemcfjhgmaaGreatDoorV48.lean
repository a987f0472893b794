/-
  lazaretref27.Inline.
-/
import Derived.Test.YtibcmemcfjhgmaaGreatDoorV47
import Derived.Test.YtibcmemcfjhgmaaGreatDoorV44
set_option maxHeartbeats 8000000
set_option maxRecDepth 100000
namespace Go.Proofs.YtibcmemcfjhgmaaGreatDoor
open Go.RowKit
attribute [local go_sem ↓] Go.wp_at_zero Go.wp_at_succ
def yS:ByteArray:=⟨#[117,110,115,97,102,101,45,105,110,108,105,110,101]⟩
def ym:ByteArray:=⟨#[115,116,114,105,99,116,45,100,121,110,97,109,105,99]⟩
theorem yh (kind:Int) (v:Value) (l:List (List UInt8)) (w:World) (hE:Env w) (h:bQ w v l):Calls Tryz.prog 12 #[.int .i64 kind,v] w (a5 (Lz.kA kind l) w):=by
 have c1:Hid (Calls Tryz.prog 30 #[v,.int .i64 1,.string yS] w (a5 (Lz.kY l 1 Lz.i3) w)):=Ih (nR v l 1 yS w hE h);have c2:Hid (∀V,Below w.heap.size w V->Calls Tryz.prog 32 #[v,.int .i64 4] V (a5 (Lz.ip l 4) V)):=Ih (fun V hV=>sj v l 4 V (hE.below hV) (h.below hV));have c3:Hid (∀V,Below w.heap.size w V->Calls Tryz.prog 32 #[v,.int .i64 5] V (a5 (Lz.ip l 5) V)):=Ih (fun V hV=>sj v l 5 V (hE.below hV) (h.below hV));have c4:Hid (∀V,Below w.heap.size w V->Calls Tryz.prog 30 #[v,.int .i64 1,.string ym] V (a5 (Lz.kY l 1 Lz.fW) V)):=Ih (fun V hV=>nR v l 1 ym V (hE.below hV) (h.below hV));obtain⟨R,hR⟩:∃R,R=Lz.kA kind l:=⟨_,rfl⟩;rw[<-hR];rw[<-Lz.zi]at hR;unfold Lz.RM at hR;generalize Lz.kY l 1 Lz.i3=q1 at c1 hR;generalize Lz.ip l 4=q2 at c2 hR;generalize Lz.ip l 5=q3 at c3 hR;generalize Lz.kY l 1 Lz.fW=q4 at c4 hR;have HR:=Ih hR;clear hR h hE;cases q1 with
 | false=>
   have HV:Hid (R=false):=by show _=_;rw[HR.out];rfl
   go_enter Tryz.func12,Tryz.ntmps12
   go_wp2_with fail
   refine c1.out.mono ?_;rintro e w1 ⟨rfl,av⟩
   go_wp2_with fail
   go_ret;exact⟨by rw[HV.out];rfl,av⟩
 | true=>
   cases q2 with
   | true=>
     have HV:Hid (R=false):=by show _=_;rw[HR.out];rfl
     go_enter Tryz.func12,Tryz.ntmps12
     go_wp2_with fail
     refine c1.out.mono ?_;rintro e w1 ⟨rfl,av⟩
     go_wp2_with fail
     refine(c2.out w1 av).mono ?_;rintro e w2 ⟨rfl,aE⟩
     go_wp2_with fail
     go_ret;exact⟨by rw[HV.out];rfl,ae av aE⟩
   | false=>
     cases q3 with
     | true=>
       have HV:Hid (R=false):=by show _=_;rw[HR.out];rfl
       go_enter Tryz.func12,Tryz.ntmps12
       go_wp2_with fail
       refine c1.out.mono ?_;rintro e w1 ⟨rfl,av⟩
       go_wp2_with fail
       refine(c2.out w1 av).mono ?_;rintro e w2 ⟨rfl,aE⟩
       go_wp2_with fail
       refine(c3.out w2 (ae av aE)).mono ?_;rintro e w3 ⟨rfl,bj⟩
       go_wp2_with fail
       go_ret;exact⟨by rw[HV.out];rfl,ae (ae av aE) bj⟩
     | false=>
       by_cases hk:3<kind
       ·have HV:Hid (R=true):=by show _=_;rw[HR.out,decide_eq_true hk];rfl
        go_enter Tryz.func12,Tryz.ntmps12
        go_wp2_with fail
        refine c1.out.mono ?_;rintro e w1 ⟨rfl,av⟩
        go_wp2_with fail
        refine(c2.out w1 av).mono ?_;rintro e w2 ⟨rfl,aE⟩
        go_wp2_with fail
        refine(c3.out w2 (ae av aE)).mono ?_;rintro e w3 ⟨rfl,bj⟩
        go_wp2_with fail
        go_ret;exact⟨by rw[HV.out];rfl,ae (ae av aE) bj⟩
       ·have HV:Hid (R=(decide (3<kind)|| !q4)):=by show _=_;rw[HR.out];rfl
        go_enter Tryz.func12,Tryz.ntmps12
        go_wp2_with fail
        refine c1.out.mono ?_;rintro e w1 ⟨rfl,av⟩
        go_wp2_with fail
        refine(c2.out w1 av).mono ?_;rintro e w2 ⟨rfl,aE⟩
        go_wp2_with fail
        refine(c3.out w2 (ae av aE)).mono ?_;rintro e w3 ⟨rfl,bj⟩
        go_wp2_with fail
        refine(c4.out w3 (ae (ae av aE) bj)).mono ?_;rintro e w4 ⟨rfl,eB⟩
        go_wp2_with fail
        go_ret;exact⟨by rw[HV.out];rfl,ae (ae (ae av aE) bj) eB⟩
theorem rV (v:Value) (l:List (List UInt8)) (n:ByteArray) (w:World) (hE:Env w) (h:bQ w v l):Calls Tryz.prog 14 #[v,.string n] w (a5 (Lz.dQ l n.data.toList) w):=by
 have c1:=Ih (nR v l 4 n w hE h);rw[<-Lz.JP];generalize Lz.kY l 4 n.data.toList=q at c1;clear h hE;by_cases hz:n.size=0
 ·have du:n.toList.isEmpty=true:=kv hz;have HV:Hid ((n.data.toList != []&&q)=false):=by show _=_;rw[List.length_eq_zero_iff.1 (show n.data.toList.length=0 by rw[ac,hz])];rfl
  generalize (n.data.toList != []&&q)=R at HV;clear hz;go_enter Tryz.func14,Tryz.ntmps14
  go_wp2_with fail
  go_ret;exact⟨by rw[HV.out];rfl,Below.refl _ _⟩
 ·have du:n.toList.isEmpty=false:=lE (by omega)
  have HV:Hid ((n.data.toList != []&&q)=q):=by
   show _=_
   have:(n.data.toList != [])=true:=by
    rw[bne_iff_ne];intro e;exact hz (by rw[<-ac,e];rfl)
   rw[this,Bool.true_and]
  generalize (n.data.toList != []&&q)=R at HV;clear hz;go_enter Tryz.func14,Tryz.ntmps14
  go_wp2_with fail
  refine c1.out.mono ?_;rintro e w1 ⟨rfl,av⟩
  go_wp2_with fail
  go_ret;exact⟨by rw[HV.out];rfl,av⟩
theorem Jd (b:Int) (t:ByteArray) (ht:t.size<=1000000) (w:World):Calls Tryz.prog 40 #[.int .i64 b,.string t] w (dX (Lz.dm (bP fO bC) b t.data.toList) w):=by
 have cE:=Ih (fun(u:ByteArray) (hu:u.size<=64) W=>Ai u (by omega) W);have rJ:=(jY fO bC b t.data.toList).1;by_cases h1:b=256
 ·have cS:=Ih (JN t (by omega) w);subst h1;generalize hD:bP fO bC 256 t.data.toList=D at cS rJ;have HD:=Ih hD;clear hD;go_enter Tryz.func40,Tryz.ntmps40
  go_wp2_with fail
  refine cS.out.mono ?_;rintro e w1 ⟨u,rfl,hu,av⟩;have hz:u.size<=64:=by rw[<-ac,hu.out];exact rJ
  go_wp2_with fail
  refine(cE.out u hz _).mono ?_;rintro e w2 ⟨x,rfl,hx,aE⟩
  go_wp2_with fail
  go_ret;exact⟨x,rfl,Ih (by rw[hx.out,hu.out];unfold Lz.dm;rw[HD.out]),ae av aE⟩
 ·by_cases h2:b=384
  ·have cS:=Ih (BB t (by omega) w);subst h2;generalize hD:bP fO bC 384 t.data.toList=D at cS rJ;have HD:=Ih hD;clear hD h1;go_enter Tryz.func40,Tryz.ntmps40
   go_wp2_with fail
   refine cS.out.mono ?_;rintro e w1 ⟨u,rfl,hu,av⟩;have hz:u.size<=64:=by rw[<-ac,hu.out];exact rJ
   go_wp2_with fail
   refine(cE.out u hz _).mono ?_;rintro e w2 ⟨x,rfl,hx,aE⟩
   go_wp2_with fail
   go_ret;exact⟨x,rfl,Ih (by rw[hx.out,hu.out];unfold Lz.dm;rw[HD.out]),ae av aE⟩
  ·have h5:bP fO bC b t.data.toList=bP fO bC 512 t.data.toList:=by unfold bP;rw[if_neg h1,if_neg h2,if_neg (by decide),if_neg (by decide)]
   have cS:=Ih (Bo t (by omega) w);rw[h5]at rJ;generalize hD:bP fO bC 512 t.data.toList=D at cS rJ h5;have HD:=Ih h5;clear hD h5;go_enter Tryz.func40,Tryz.ntmps40
   go_wp2_with fail
   refine cS.out.mono ?_;rintro e w1 ⟨u,rfl,hu,av⟩;have hz:u.size<=64:=by rw[<-ac,hu.out];exact rJ
   go_wp2_with fail
   refine(cE.out u hz _).mono ?_;rintro e w2 ⟨x,rfl,hx,aE⟩
   go_wp2_with fail
   go_ret;exact⟨x,rfl,Ih (by rw[hx.out,hu.out];unfold Lz.dm;rw[HD.out]),ae av aE⟩
theorem EX {vs:List (List UInt8)} {x:Lz.Src} (h:x∈Lz.aM vs):x.bits=0\/x.bits=256\/x.bits=384\/x.bits=512:=by
 unfold Lz.aM at h;obtain⟨l,_,h⟩:=List.mem_filterMap.1 h;unfold Lz.a8 at h;split at h
 ·rcases Lz.lL h with⟨_,rfl⟩|⟨v,rfl,_,_⟩|⟨v,b,rfl,hb,_,_⟩
  ·exact Or.inl rfl
  ·exact Or.inl rfl
  ·exact Or.inr hb
 ·split at h
  ·rw[<-Option.some.inj h];exact Or.inl rfl
  ·obtain⟨sch,host,wild,port,path,rfl,_⟩:=Lz.lu h;exact Or.inl rfl
theorem PH {l:List (List UInt8)} {ys:List ah} (hy:ys.map ah.src=Lz.aM l) {x:ah} (hx:x∈ys):x.bits=0\/x.bits=256\/x.bits=384\/x.bits=512:=
 EX (x:=x.src) (by rw[<-hy];exact List.mem_map.2 ⟨x,hx,rfl⟩)
def ku (tx:List UInt8) (x:ah):Bool:=x.src.kind==5&&((x.src.text.length:Int)==Lz.yJ x.src.bits&&Lz.bd x.src.text==Lz.dm (bP fO bC) x.src.bits tx)
theorem Ei (v:Value) (l:List (List UInt8)) (tx:ByteArray) (ht:tx.size<=1000000) (w:World) (hE:Env w) (h:bQ w v l):Calls Tryz.prog 16 #[v,.string tx] w (a5 (Lz.B5 (Lz.dm (bP fO bC)) l tx.data.toList) w):=by
 have cL:=Ih (oP v l w hE h.at' h.len (fun x hx=>by have:=h.size x hx;omega));have eu:Hid (∀ys:List ah,ys.map ah.src=Lz.aM l->ys.length<=100000):=Ih (fun ys hy=>h.ylen hy);have HTz:Hid (∀(ys:List ah) (x:ah),ys.map ah.src=Lz.aM l->x∈ys->x.text.size<=90000):=Ih (fun ys x hy hx=>zT h.size hy hx);obtain⟨R,hR⟩:∃R,R=Lz.B5 (Lz.dm (bP fO bC)) l tx.data.toList:=⟨_,rfl⟩;rw[<-hR]
 have HR:Hid (∀ys:List ah,ys.map ah.src=Lz.aM l->R=ys.any (ku tx.data.toList)):=by
  show ∀ys,_;intro ys hy;rw[hR];unfold Lz.B5;rw[<-hy,List.any_map];rfl
 clear hR hE h;go_enter Tryz.func16,Tryz.ntmps16
 go_wp2_with fail
 refine cL.out.mono ?_;rintro e w1 ⟨sv,ys,rfl,gY,wK,av⟩;have nW:=HR.out ys gY.out;have aO:=eu.out ys gY.out;have HT2:=Ih (fun x hx=>HTz.out ys x gY.out hx);obtain⟨a,c,rfl,hx⟩:=bo.at wK;have Hx:=Ih hx;obtain⟨m,hm⟩:∃m,m=ys.length:=⟨_,rfl⟩;rw[<-hm]at aO⊢;have HM:=Ih hm;have wM:=Ih nW;clear hx hm wK nW HR eu cL HTz
 go_wp2_with fail
 go_loopw [6,7] (fun i _ wr=>∃j:Nat,j<=m/\i=.int .i64 (j:Int)/\Hid ((ys.take j).any (ku tx.data.toList)=false)/\Below w1.heap.size w1 wr) (fun i _ _=>m-(intOf i).toNat)
 case atStart=>exact⟨0,Nat.zero_le _,rfl,Ih (by simp),Below.refl _ _⟩
 case round=>
  obtain⟨j,hj,rfl,hT,aC⟩:=hrel;by_cases aL:j<m
  ·have aK:(j:Int)<(m:Int):=by omega
   have tI:(0:Int)<=(j:Int):=by omega
   obtain⟨x,hx⟩:∃x,ys[j]? =some x:=⟨_,List.getElem?_eq_getElem (by rw[<-HM.out];exact aL)⟩;obtain⟨g,rfl,hg,hc⟩:=Hx.out j x hx;have hN:=Ih (qr hT.out hx);have hA:=Ih (qt (p:=ku tx.data.toList) hx);have We:=List.mem_of_getElem? hx;have Sb:=HT2.out x We;have WX:=PH gY.out We;obtain⟨kk,t,b,sc,ho,wd,po,pa⟩:=x;have HB:Hid (ku tx.data.toList (ah.mk kk t b sc ho wd po pa)=(kk==5&&((t.data.toList.length:Int)==Lz.yJ b&&Lz.bd t.data.toList==Lz.dm (bP fO bC) b tx.data.toList))):=Ih rfl
   dsimp only at Sb WX
   have Ty:∀(k:Nat) (u:Value),(ah.row (ah.mk kk t b sc ho wd po pa))[k]? =some u->∀U,Below w1.heap.size w1 U->U.cell? ⟨g,j*8+k,none⟩=some u:=fun k u hk U hU=>by rw[hU.cell (p:=⟨g,j*8+k,none⟩) hg];exact hc k u hk
   have lW:=Ty 0 _ rfl;have iE:=Ty 1 _ rfl;have sO:=Ty 2 _ rfl;rw[Nat.add_zero]at lW;have c0:=lW wr aC;have c1:=iE wr aC;have c2:=sO wr aC;obtain⟨d1,h1⟩:∃d,d=Int.tdiv b 8:=⟨_,rfl⟩;obtain⟨d2,h2⟩:∃d,d=d1+2:=⟨_,rfl⟩;obtain⟨d3,h3⟩:∃d,d=Int.tdiv d2 3:=⟨_,rfl⟩;obtain⟨L,h4⟩:∃d,d=d3*4:=⟨_,rfl⟩;have hL:Lz.yJ b=L:=by rw[h4,h3,h2,h1];rfl
   have g0:0<=b/\b<=512:=by rcases WX with h|h|h|h<;>omega
   have g1:Int.tdiv b 8=d1:=h1.symm;have g1':b / 8=d1:=by rw[h1,Int.tdiv_eq_ediv_of_nonneg g0.1]
   have g2:IntKind.i64.wrap d1=d1:=IntWalk.i64_in _ (by omega);have g3:IntKind.i64.wrap (d1+2)=d2:=by rw[IntWalk.i64_in _ (by omega)];exact h2.symm
   have g4':d2 / 3=d3:=by rw[h3,Int.tdiv_eq_ediv_of_nonneg (by omega)]
   have g4:Int.tdiv d2 3=d3:=h3.symm;have g5:IntKind.i64.wrap d3=d3:=IntWalk.i64_in _ (by omega);have g6:IntKind.i64.wrap (d3*4)=L:=by rw[IntWalk.i64_in _ (by omega)];exact h4.symm
   have kK:(t.data.toList.length:Int)=(t.size:Int):=by rw[ac]
   rw[hL,kK]at HB;obtain⟨q1,gF⟩:∃q,q=(kk==5):=⟨_,rfl⟩;obtain⟨q2,jr⟩:∃q,q=((t.size:Int)==L):=⟨_,rfl⟩;rw[<-gF,<-jr]at HB;have k1:(kk==5)=q1:=gF.symm;have k2:((t.size:Int)==L)=q2:=jr.symm;have cP:Hid (∀U,Below w1.heap.size w1 U->Calls Tryz.prog 39 #[.string t] U (dX (Lz.bd t.data.toList) U)):=Ih (fun U _=>Cn t (by omega) U);have cS:Hid (∀U,Below w1.heap.size w1 U->Calls Tryz.prog 40 #[.int .i64 b,.string tx] U (dX (Lz.dm (bP fO bC) b tx.data.toList) U)):=Ih (fun U _=>Jd b tx ht U);clear gF jr hL kK h1 h2 h3 h4 WX hx hT Ty We hc;cases q1 with
   | false=>
     have HS:Hid ((ys.take (j+1)).any (ku tx.data.toList)=false):=by show _=_;rw[hN.out];exact HB.out
     clear hN hA HB lW iE sO
     go_wp2_with fail
     go_quiet (fail)
     go_wp2_with fail
     go_roundw
     case rel=>exact⟨j+1,by omega,by go_num,HS,below_drewN aC _⟩
     case measure=>simp[intOf];omega
   | true=>
     cases q2 with
     | false=>
       have HS:Hid ((ys.take (j+1)).any (ku tx.data.toList)=false):=by show _=_;rw[hN.out];exact HB.out
       clear hN hA HB lW iE sO
       go_wp2_with fail
       go_quiet (fail)
       go_wp2_with fail
       go_roundw
       case rel=>exact⟨j+1,by omega,by go_num,HS,below_drewN aC _⟩
       case measure=>simp[intOf];omega
     | true=>
       have T9:kk=5:=beq_iff_eq.1 k1;subst T9;have hC:Hid (∀U,Below w1.heap.size w1 U->(U.cell? ⟨g,j*8,none⟩=some (.int .i64 5)/\U.cell? ⟨g,j*8+1,none⟩=some (.string t)/\U.cell? ⟨g,j*8+2,none⟩=some (.int .i64 b))/\Below w1.heap.size w1 U):=Ih (fun U hU=>⟨⟨lW U hU,iE U hU,sO U hU⟩,hU⟩);clear lW iE sO k1
       go_upto_region 6 with fail
       refine wp_region_held_drew (S:=fun U=>(U.cell? ⟨g,j*8,none⟩=some (.int .i64 5)/\U.cell? ⟨g,j*8+1,none⟩=some (.string t)/\U.cell? ⟨g,j*8+2,none⟩=some (.int .i64 b))/\Below w1.heap.size w1 U) (by kernel_rfl) (hC.out _ aC.drew) (fun af=>?_);generalize wr.drew=W1 at af⊢;apply TkG 0 25;apply TkG 1 26;apply TkG 2 27;apply TkG 3 28;apply TkG 4 29;apply TkG 5 30;apply TkG 6 31
       iterate 7 (rotate_right 2;(·(intro W ar;(try dsimp only at ar);(try simp only[Act.put]);(try simp only[List.setIfInBounds_toArray]);(try simp only[List.set_cons_zero,List.set_cons_succ]);go_simp;try with_reducible rfl)))
       (try simp only[Act.put]);(try simp only[List.setIfInBounds_toArray]);(try simp only[List.set_cons_zero,List.set_cons_succ])
       apply TkG 7 32;apply TkG 8 33;apply TkG 9 34;apply TkG 10 35;apply TkG 11 36;apply TkG 12 37;apply TkG 13 38;apply TkG 14 39;apply TkG 15 40
       iterate 9 (rotate_right 2;(·(intro W ar;(try dsimp only at ar);(try simp only[Act.put]);(try simp only[List.setIfInBounds_toArray]);(try simp only[List.set_cons_zero,List.set_cons_succ]);go_simp;try with_reducible rfl)))
       (try simp only[Act.put]);(try simp only[List.setIfInBounds_toArray]);(try simp only[List.set_cons_zero,List.set_cons_succ])
       apply TkG 16 41
       iterate 1 (rotate_right 2;(·(intro W ar;(try dsimp only at ar);(try simp only[Act.put]);(try simp only[List.setIfInBounds_toArray]);(try simp only[List.set_cons_zero,List.set_cons_succ]);go_simp;try with_reducible rfl)))
       (try simp only[Act.put]);(try simp only[List.setIfInBounds_toArray]);(try simp only[List.set_cons_zero,List.set_cons_succ])
       apply TkG 17 42;apply TkG 18 43;apply TkG 19 44;apply TkG 20 45;apply TkG 21 46
       iterate 5 (rotate_right 2;(·(intro W ar;(try dsimp only at ar);(try simp only[Act.put]);(try simp only[List.setIfInBounds_toArray]);(try simp only[List.set_cons_zero,List.set_cons_succ]);go_simp;try with_reducible rfl)))
       (try simp only[Act.put]);(try simp only[List.setIfInBounds_toArray]);(try simp only[List.set_cons_zero,List.set_cons_succ])
       apply TkG 23 48;apply TkG 24 49;apply TkG 25 50
       iterate 3 (rotate_right 2;(·(intro W ar;(try dsimp only at ar);(try simp only[Act.put]);(try simp only[List.setIfInBounds_toArray]);(try simp only[List.set_cons_zero,List.set_cons_succ]);go_simp;try with_reducible rfl)))
       (try simp only[Act.put]);(try simp only[List.setIfInBounds_toArray]);(try simp only[List.set_cons_zero,List.set_cons_succ])
       apply TkG 26 51;apply TkG 27 52;apply TkG 28 53
       iterate 3 (rotate_right 2;(·(intro W ar;(try dsimp only at ar);(try simp only[Act.put]);(try simp only[List.setIfInBounds_toArray]);(try simp only[List.set_cons_zero,List.set_cons_succ]);go_simp;try with_reducible rfl)))
       (try simp only[Act.put]);(try simp only[List.setIfInBounds_toArray]);(try simp only[List.set_cons_zero,List.set_cons_succ])
       refine wpAnyH_ready (rs:=[22]) (by kernel_rfl) (by simp) ?_;refine AllReadyH.cons rfl (fun K hK=>?_) AllReadyH.nil;go_simp
       go_at_call 39
       refine(cP.out _ af.2).mono ?_;rintro e u1w ⟨u1,rfl,tP,bv⟩;have eM:=af.2.trans (bv.mono af.2.size);refine hK.out _ _ (hC.out _ eM) (fun af=>?_);clear hK K bv eM
       (try simp only[Act.put]);(try simp only[List.setIfInBounds_toArray]);(try simp only[List.set_cons_zero,List.set_cons_succ])
       refine wpAnyH_ready (rs:=[29]) (by kernel_rfl) (by simp) ?_;refine AllReadyH.cons rfl (fun K hK=>?_) AllReadyH.nil;go_simp
       go_at_call 40
       refine(cS.out _ af.2).mono ?_;rintro e u2w ⟨u2,rfl,qG,bv⟩;have eM:=af.2.trans (bv.mono af.2.size);refine hK.out _ _ (hC.out _ eM) (fun af=>?_);clear hK K bv eM
       (try simp only[Act.put]);(try simp only[List.setIfInBounds_toArray]);(try simp only[List.set_cons_zero,List.set_cons_succ])
       apply TkG 30 55
       iterate 1 (rotate_right 2;(·(intro W ar;(try dsimp only at ar);(try simp only[Act.put]);(try simp only[List.setIfInBounds_toArray]);(try simp only[List.set_cons_zero,List.set_cons_succ]);go_simp;try with_reducible rfl)))
       (try simp only[Act.put]);(try simp only[List.setIfInBounds_toArray]);(try simp only[List.set_cons_zero,List.set_cons_succ])
       apply TkG 31 56
       iterate 1 (rotate_right 2;(·(intro W ar;(try dsimp only at ar);(try simp only[Act.put]);(try simp only[List.setIfInBounds_toArray]);(try simp only[List.set_cons_zero,List.set_cons_succ]);go_simp;try with_reducible rfl)))
       (try simp only[Act.put]);(try simp only[List.setIfInBounds_toArray]);(try simp only[List.set_cons_zero,List.set_cons_succ])
       refine wpAnyH_done (by kernel_rfl) ?_ _;obtain⟨q3,OQ⟩:∃q,q=(u1.toList==u2.toList):=⟨_,rfl⟩;have k3:(u1.toList==u2.toList)=q3:=OQ.symm
       have T6:Hid (ku tx.data.toList (ah.mk 5 t b sc ho wd po pa)=q3):=by
        show _=_;rw[HB.out,OQ,qX,tP.out,qG.out];rfl
       have hbU:=af.2;simp only[k3];clear OQ HB tP qG af k3;cases q3 with
       | false=>
         have HS:Hid ((ys.take (j+1)).any (ku tx.data.toList)=false):=by show _=_;rw[hN.out];exact T6.out
         clear hN hA T6
         go_wp2_with fail
         go_roundw
         case rel=>exact⟨j+1,by omega,by go_num,HS,hbU⟩
         case measure=>simp[intOf];omega
       | true=>
         have HV:Hid (R=true):=by show _=_;rw[wM.out];exact hA.out T6.out
         clear hN hA T6
         go_wp2_with fail
         go_ret;exact⟨by rw[HV.out];rfl,ae av hbU⟩
  ·have aK:¬(j:Int)<(m:Int):=by omega
   have HV:Hid (R=false):=by
    show _=_;rw[wM.out,<-List.take_of_length_le (l:=ys) (i:=j) (by rw[<-HM.out];omega),hT.out]
   clear hT
   go_wp2_with fail
   go_ret;exact⟨by rw[HV.out];rfl,ae av aC⟩
attribute [local go_sem ↓] Go.wp_at_zero Go.wp_at_succ
def xH:ByteArray:=⟨#[117,110,115,97,102,101,45,104,97,115,104,101,115]⟩
theorem L6 (aP:List UInt32) (bJ:List UInt64):(∀t,(bP aP bJ 256 t).length=32)/\(∀t,(bP aP bJ 384 t).length=48)/\(∀t,(bP aP bJ 512 t).length=64):=by
 refine⟨fun t=>?_,fun t=>?_,fun t=>?_⟩
 ·unfold bP;rw[if_pos rfl];exact Lz.yj _
 ·unfold bP;rw[if_neg (by decide),if_pos rfl,List.length_take];unfold Lz.eJ;rw[Lz.qM];rfl
 ·unfold bP;rw[if_neg (by decide),if_neg (by decide)];unfold Lz.eJ;rw[Lz.qM]
theorem ya (v:Value) (l:List (List UInt8)) (tx:ByteArray) (ht:tx.size<=1000000) (w:World) (hE:Env w) (h:bQ w v l):Calls Tryz.prog 16 #[v,.string tx] w (a5 (Lz.gl (Lz.dm (bP fO bC)) l tx.data.toList) w):=by
 obtain⟨h1,h2,h3⟩:=L6 fO bC;rw[<-Lz.Mk (bP fO bC) h1 h2 h3];exact Ei v l tx ht w hE h
theorem zq (kind:Int) (v:Value) (l:List (List UInt8)) (nn tx:ByteArray) (ht:tx.size<=1000000) (w:World) (hE:Env w) (h:bQ w v l):Calls Tryz.prog 10 #[.int .i64 kind,v,.string nn,.string tx] w (a5 (Lz.cw (Lz.dm (bP fO bC)) kind l nn.data.toList tx.data.toList) w):=by
 have cN:Hid (Calls Tryz.prog 29 #[v] w (a5 (Lz.eQ l) w)):=Ih (F5 v l w h.at' (fun x hx=>by have:=h.size x hx;omega));have cA:Hid (∀V,Below w.heap.size w V->Calls Tryz.prog 12 #[.int .i64 kind,v] V (a5 (Lz.kA kind l) V)):=Ih (fun V hV=>yh kind v l V (hE.below hV) (h.below hV));have cZ:Hid (∀V,Below w.heap.size w V->Calls Tryz.prog 14 #[v,.string nn] V (a5 (Lz.dQ l nn.data.toList) V)):=Ih (fun V hV=>rV v l nn V (hE.below hV) (h.below hV));have cK:Hid (∀V,Below w.heap.size w V->Calls Tryz.prog 30 #[v,.int .i64 1,.string xH] V (a5 (Lz.kY l 1 Lz.fX) V)):=Ih (fun V hV=>nR v l 1 xH V (hE.below hV) (h.below hV));have cH:Hid (∀V,Below w.heap.size w V->Calls Tryz.prog 16 #[v,.string tx] V (a5 (Lz.gl (Lz.dm (bP fO bC)) l tx.data.toList) V)):=Ih (fun V hV=>ya v l tx ht V (hE.below hV) (h.below hV));obtain⟨R,hR⟩:∃R,R=Lz.cw (Lz.dm (bP fO bC)) kind l nn.data.toList tx.data.toList:=⟨_,rfl⟩;rw[<-hR];rw[<-Lz.EV]at hR;unfold Lz.zw at hR;rw[Lz.zi]at hR;clear h hE;generalize Lz.eQ l=qn at cN hR;generalize Lz.kA kind l=qa at cA hR
 generalize Lz.dQ l nn.data.toList=qz at cZ hR;generalize Lz.kY l 1 Lz.fX=qk at cK hR;generalize Lz.gl (Lz.dm (bP fO bC)) l tx.data.toList=qh at cH hR;have HR:=Ih hR;clear hR;by_cases h1:kind<1
 ·have HV:Hid (R=false):=by show _=_;rw[HR.out,if_pos (Or.inl h1)]
  go_enter Tryz.func10,Tryz.ntmps10
  go_wp2_with fail
  go_ret;exact⟨by rw[HV.out];rfl,Below.refl _ _⟩
 ·by_cases h5:5<kind
  ·have HV:Hid (R=false):=by show _=_;rw[HR.out,if_pos (Or.inr (Or.inl h5))]
   go_enter Tryz.func10,Tryz.ntmps10
   go_wp2_with fail
   go_ret;exact⟨by rw[HV.out];rfl,Below.refl _ _⟩
  ·cases qn with
   | true=>
     have HV:Hid (R=false):=by show _=_;rw[HR.out,if_pos (Or.inr (Or.inr rfl))]
     go_enter Tryz.func10,Tryz.ntmps10
     go_wp2_with fail
     refine cN.out.mono ?_;rintro e w1 ⟨rfl,av⟩
     go_wp2_with fail
     go_ret;exact⟨by rw[HV.out];rfl,av⟩
   | false=>
     have nx:¬(kind<1\/5<kind\/false=true):=by simp;omega
     cases qa with
     | true=>
       have HV:Hid (R=true):=by show _=_;rw[HR.out,if_neg nx,if_pos rfl]
       clear nx;go_enter Tryz.func10,Tryz.ntmps10
       go_wp2_with fail
       refine cN.out.mono ?_;rintro e w1 ⟨rfl,av⟩
       go_wp2_with fail
       refine(cA.out w1 av).mono ?_;rintro e w2 ⟨rfl,aE⟩
       go_wp2_with fail
       go_ret;exact⟨by rw[HV.out];rfl,ae av aE⟩
     | false=>
       obtain⟨XW,Wc⟩:∃q,q=(kind==1||kind==4):=⟨_,rfl⟩;have HQ:Hid (XW=(kind==1||kind==4)):=Ih Wc
       have HV:Hid (R=if XW=true then(qz||qh)else(qk&&qh)):=by
        show _=_;rw[HR.out,if_neg nx,if_neg (by decide),Wc];by_cases e:kind=1\/kind=4
        ·rw[if_pos e,if_pos (by rcases e with rfl|rfl<;>rfl)]
        ·rw[if_neg e,if_neg (by simp;omega)]
       clear nx Wc HR;go_enter Tryz.func10,Tryz.ntmps10
       go_wp2_with fail
       refine cN.out.mono ?_;rintro e w1 ⟨rfl,av⟩
       go_wp2_with fail
       refine(cA.out w1 av).mono ?_;rintro e w2 ⟨rfl,aE⟩;have nC:=ae av aE
       go_upto_region 5 with fail
       go_cut [27] (fun s wx=>s=.bool XW/\w2=wx)
       case first=>
        by_cases k1:kind=1
        ·have Tw:Hid (XW=true):=by show _=_;rw[HQ.out,k1];rfl
         have f1:(kind==1)=true:=by rw[k1];rfl
         clear k1
         go_wp2_with fail
         go_meet;exact⟨by rw[Tw.out],rfl⟩
        ·have f1:(kind==1)=false:=beq_eq_false_iff_ne.2 k1;have Tw:Hid (XW=(kind==4)):=by show _=_;rw[HQ.out,f1];rfl
         clear k1
         go_wp2_with fail
         go_meet;exact⟨by rw[Tw.out],rfl⟩
       case rest=>
        obtain⟨rfl,rfl⟩:=hcut;cases XW with
        | true=>
          have y5:Hid (R=(qz||qh)):=by show _=_;rw[HV.out];rfl
          clear HV HQ
          go_wp2_with fail
          refine(cZ.out w2 nC).mono ?_;rintro e w3 ⟨rfl,bj⟩;have mn:=ae nC bj;cases qz with
          | true=>
            have DT:Hid (R=true):=by show _=_;rw[y5.out];rfl
            go_wp2_with fail
            go_ret;exact⟨by rw[DT.out];rfl,mn⟩
          | false=>
            have DT:Hid (R=qh):=by show _=_;rw[y5.out];rfl
            go_wp2_with fail
            refine(cH.out w3 mn).mono ?_;rintro e w4 ⟨rfl,eB⟩
            go_wp2_with fail
            go_ret;exact⟨by rw[DT.out];rfl,ae mn eB⟩
        | false=>
          have y5:Hid (R=(qk&&qh)):=by show _=_;rw[HV.out];rfl
          clear HV HQ
          go_wp2_with fail
          refine(cK.out w2 nC).mono ?_;rintro e w3 ⟨rfl,bj⟩;have mn:=ae nC bj;cases qk with
          | false=>
            have DT:Hid (R=false):=by show _=_;rw[y5.out];rfl
            go_wp2_with fail
            go_ret;exact⟨by rw[DT.out];rfl,mn⟩
          | true=>
            have DT:Hid (R=qh):=by show _=_;rw[y5.out];rfl
            go_wp2_with fail
            refine(cH.out w3 mn).mono ?_;rintro e w4 ⟨rfl,eB⟩
            go_wp2_with fail
            go_ret;exact⟨by rw[DT.out];rfl,ae mn eB⟩
end Go.Proofs.YtibcmemcfjhgmaaGreatDoor
