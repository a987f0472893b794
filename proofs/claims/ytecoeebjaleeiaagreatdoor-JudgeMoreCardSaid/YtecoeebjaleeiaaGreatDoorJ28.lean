/-
  Package urls: same.
-/
import Derived.Test.YtecoeebjaleeiaaGreatDoorJ24
set_option maxHeartbeats 4000000
set_option maxRecDepth 100000
namespace Go.Proofs.YtecoeebjaleeiaaGreatDoor
open Go.RowKit
theorem zZ (v1 v2:Value) (l1 l2:List (List UInt8)) (w:World) (h1:bd w v1 l1) (h2:bd w v2 l2) (hL:l1.length<=1000000000):Calls Tryz.prog 31 #[v1,v2] w (aC (decide (l1=l2)) w):=by
 obtain⟨a1,c1,mQ,rfl,rfl,iY⟩:=h1;obtain⟨a2,c2,iC,rfl,rfl,pY⟩:=h2;obtain⟨q,hq⟩:∃q,q=decide (mQ.map (fun x:ByteArray=>x.data.toList)=iC.map (fun x:ByteArray=>x.data.toList)):=⟨_,rfl⟩;rw[<-hq];have Hq:=Ih hq;rw[List.length_map]at hL;clear hq;by_cases hl:mQ.length=iC.length
 ·have Z7:((mQ.length:Int) != (iC.length:Int))=false:=by rw[hl];simp
  by_cases h0:mQ.length=0
  ·have e1:mQ=[]:=List.length_eq_zero_iff.1 h0;have e2:iC=[]:=List.length_eq_zero_iff.1 (by omega);subst e1;subst e2;have HQ:Hid (q=true):=by show _=_;rw[Hq.out];rfl
   clear hl iY pY h0;go_enter Tryz.func31,Tryz.ntmps31
   go_wp2_with fail
   refine wp_loop_rounds 1 ?_;rw[rounds_succ]
   go_wp2_with fail
   go_ret;exact⟨by rw[HQ.out];rfl,Below.refl _ _⟩
  have Hl:=Ih hl;obtain⟨G1,o1,rfl,VJ,Ql⟩:=iY 0 mQ[0] (List.getElem?_eq_getElem (by omega));obtain⟨G2,o2,rfl,LK,Ic⟩:=pY 0 iC[0] (List.getElem?_eq_getElem (by omega));clear Ql Ic
  have Hx1:Hid (∀(j:Nat) (x:ByteArray),mQ[j]? =some x->w.cell? ⟨G1,o1+j,none⟩=some (.string x)):=Ih (fun j x hj=>by
   obtain⟨G,o,e,_,hc⟩:=iY j x hj;injection e with e;injection e with e1 e2 _
   subst e1;subst e2;exact hc)
  have Hx2:Hid (∀(j:Nat) (x:ByteArray),iC[j]? =some x->w.cell? ⟨G2,o2+j,none⟩=some (.string x)):=Ih (fun j x hj=>by
   obtain⟨G,o,e,_,hc⟩:=pY j x hj;injection e with e;injection e with e1 e2 _
   subst e1;subst e2;exact hc)
  clear hl iY pY;go_enter Tryz.func31,Tryz.ntmps31
  go_wp2_with fail
  go_loopw [13] (fun k wr=>∃i:Nat,k=.int .i64 i/\i<=mQ.length/\Hid ((mQ.map (fun x:ByteArray=>x.data.toList)).take i=(iC.map (fun x:ByteArray=>x.data.toList)).take i)/\Below w.heap.size w wr) (fun k _=>mQ.length-(intOf k).toNat)
  case atStart=>exact⟨0,rfl,Nat.zero_le _,Ih (by simp),Below.refl _ _⟩
  case round=>
   obtain⟨i,rfl,hi,hT,aK⟩:=hrel;by_cases aV:i<mQ.length
   ·have bW:(i:Int)<(mQ.length:Int):=by omega
    have oY:i<iC.length:=by rw[<-Hl.out];exact aV
    have Jt:(i:Int)<(iC.length:Int):=by omega
    have o9:(0:Int)<=(i:Int):=by omega
    obtain⟨x,hx⟩:∃x,x=mQ[i]:=⟨_,rfl⟩;obtain⟨y,hy⟩:∃y,y=iC[i]:=⟨_,rfl⟩;have O4:mQ[i]? =some x:=by rw[List.getElem?_eq_getElem aV,hx]
    have Ud:iC[i]? =some y:=by rw[List.getElem?_eq_getElem oY,hy]
    have iD:=Hx1.out i x O4;have su:=Hx2.out i y Ud;have d1:wr.cell? ⟨G1,o1+i,none⟩=some (.string x):=by rw[aK.cell (p:=⟨G1,o1+i,none⟩) VJ];exact iD
    have d2:wr.cell? ⟨G2,o2+i,none⟩=some (.string y):=by rw[aK.cell (p:=⟨G2,o2+i,none⟩) LK];exact su
    have hd:=iy x y
    have bZ:(mQ.map (fun x:ByteArray=>x.data.toList)).take (i+1)=(mQ.map (fun x:ByteArray=>x.data.toList)).take i++[x.data.toList]/\(iC.map (fun x:ByteArray=>x.data.toList)).take (i+1)=(iC.map (fun x:ByteArray=>x.data.toList)).take i++[y.data.toList]:=by
     constructor
     ·rw[List.take_succ_eq_append_getElem (by simpa using aV)];simp[hx]
     ·rw[List.take_succ_eq_append_getElem (by simpa using oY)];simp[hy]
    by_cases he:x.data.toList=y.data.toList
    ·rw[decide_eq_true he]at hd;have AI:Hid ((mQ.map (fun x:ByteArray=>x.data.toList)).take (i+1)=(iC.map (fun x:ByteArray=>x.data.toList)).take (i+1)):=by show _=_;rw[bZ.1,bZ.2,hT.out,he]
     clear hx hy O4 Ud iD su he bZ hT
     go_wp2_with fail
     go_quiet (fail)
     have nW:Below w.heap.size w (wr.drewN nq):=below_drewN aK nq;generalize wr.drewN nq=wq at nW⊢
     go_wp2_with fail
     go_roundw
     case rel=>exact⟨i+1,by go_num,by omega,AI,nW⟩
     case measure=>simp[intOf];omega
    ·rw[decide_eq_false he]at hd
     have HQ:Hid (q=false):=by
      show _=_;rw[Hq.out];refine decide_eq_false fun e=>he ?_;have h1:=congrArg (List.take (i+1)) e;rw[bZ.1,bZ.2,hT.out]at h1;simpa using List.append_cancel_left h1
     clear hx hy O4 Ud iD su he bZ hT
     go_wp2_with fail
     go_quiet (fail)
     have nW:Below w.heap.size w (wr.drewN nq):=below_drewN aK nq;generalize wr.drewN nq=wq at nW⊢
     go_wp2_with fail
     go_ret;exact⟨by rw[HQ.out];rfl,nW⟩
   ·have bW:¬(i:Int)<(mQ.length:Int):=by omega
    have HQ:Hid (q=true):=by
     show _=_;rw[Hq.out];refine decide_eq_true ?_;have h1:=hT.out;rw[List.take_of_length_le (by simp;omega),List.take_of_length_le (by have:=Hl.out;simp;omega)]at h1;exact h1
    clear hT
    go_wp2_with fail
    go_ret;exact⟨by rw[HQ.out];rfl,aK⟩
 ·have Z7:((mQ.length:Int) != (iC.length:Int))=true:=by simp;omega
  have HQ:Hid (q=false):=by
   show _=_;rw[Hq.out];refine decide_eq_false fun e=>hl ?_;have:=congrArg List.length e;simpa using this
  clear hl iY pY;go_enter Tryz.func31,Tryz.ntmps31
  go_wp2_with fail
  go_ret;exact⟨by rw[HQ.out];rfl,Below.refl _ _⟩
theorem RG (a1 a2 a3 a5 a11 a12 b1 b2 b3 b5 b11 b12:List UInt8) (a4 a7 a9 a10 b4 b7 b9 b10:Bool) (a6 b6:Int) (a8 b8:List (List UInt8)):
  decide ((⟨a1,a2,a3,a4,a5,a6,a7,a8,a9,a10,a11,a12⟩:Lz.ag)=⟨b1,b2,b3,b4,b5,b6,b7,b8,b9,b10,b11,b12⟩)=(decide (a8=b8)&&decide ([a1,a2,a3,a5,a11,a12]=[b1,b2,b3,b5,b11,b12])&&(a4==b4)&&(a6==b6)&&(a7==b7)&&(a9==b9)&&(a10==b10)):=by
 rw[Bool.eq_iff_iff];simp only[decide_eq_true_eq,Bool.and_eq_true,beq_iff_eq,Lz.ag.mk.injEq,List.cons.injEq];constructor
 ·rintro⟨h1,h2,h3,h4,h5,h6,h7,h8,h9,Me,h11,h12⟩;exact⟨⟨⟨⟨⟨⟨h8,h1,h2,h3,h5,h11,h12,trivial⟩,h4⟩,h6⟩,h7⟩,h9⟩,Me⟩
 ·rintro⟨⟨⟨⟨⟨⟨h8,h1,h2,h3,h5,h11,h12,_⟩,h4⟩,h6⟩,h7⟩,h9⟩,Me⟩;exact⟨h1,h2,h3,h4,h5,h6,h7,h8,h9,Me,h11,h12⟩
theorem Nr (w:World) (a b c d e f:ByteArray) {w':World} (hb:Below (w.alloc (.cells #[.string a,.string b,.string c,.string d,.string e,.string f] 9)).heap.size (w.alloc (.cells #[.string a,.string b,.string c,.string d,.string e,.string f] 9)) w'):bd w' (.slice (some ⟨w.heap.size,0,none⟩) 6 6) [a.data.toList,b.data.toList,c.data.toList,d.data.toList,e.data.toList,f.data.toList]:=by
 refine⟨_,6,[a,b,c,d,e,f],rfl,rfl,fun j x hj=>⟨w.heap.size,0,rfl,by have:=hb.size;simp at this;omega,?_⟩⟩;rw[hb.cell (p:=⟨w.heap.size,0+j,none⟩) (by simp),Nat.zero_add,World.cell?_alloc_mark,<-Array.getElem?_toList];have:(#[Value.string a,.string b,.string c,.string d,.string e,.string f]:Array Value).toList=[a,b,c,d,e,f].map Value.string:=rfl;rw[this,List.getElem?_map,hj];rfl
theorem Mn (v1 v2:Value) (u1 u2:Lz.ag) (w:World) (h1:aX w v1 u1) (h2:aX w v2 u2) (hL:u1.path.length<=1000000000):Calls Tryz.prog 15 #[v1,v2] w (aC (decide (u1=u2)) w):=by
 obtain⟨sch,usr,pas,hh,hst,prt,opq,a,c,xs,hq,hf,qry,frg,rfl,rfl,iD⟩:=h1.form;obtain⟨jO,gn,gC,eA,fh,gS,jx,a2,c2,iC,bQ,ee,gB,jM,rfl,rfl,su⟩:=h2.form;rw[RG];obtain⟨W,hW⟩:∃W,W=(w.alloc (.cells #[.string sch,.string usr,.string pas,.bool hh,.string hst,.int .i64 prt,.bool opq,.slice a xs.length c,.bool hq,.bool hf,.string qry,.string frg] 32)).alloc (.cells #[.string jO,.string gn,.string gC,.bool eA,.string fh,.int .i64 gS,.bool jx,.slice a2 iC.length c2,.bool bQ,.bool ee,.string gB,.string jM] 32):=⟨_,rfl⟩;have aS:Below w.heap.size w W:=by rw[hW];exact((Below.refl _ w).alloc (Nat.le_refl _) _).alloc (by simp) _
 have lk:W.heap[w.heap.size]? =some (.cells #[.string sch,.string usr,.string pas,.bool hh,.string hst,.int .i64 prt,.bool opq,.slice a xs.length c,.bool hq,.bool hf,.string qry,.string frg] 32 (0,0)):=by rw[hW,Below.heap_alloc _ _ _ (by simp)];exact ah _ _
 have nO:W.heap[w.heap.size+1]? =some (.cells #[.string jO,.string gn,.string gC,.bool eA,.string fh,.int .i64 gS,.bool jx,.slice a2 iC.length c2,.bool bQ,.bool ee,.string gB,.string jM] 32 (0,0)):=by rw[hW];exact dm _ _ _
 have km:=af lk;have uM:=af nO;have t7:=rowAt lk 7 (.slice a xs.length c) rfl;have s7:=rowAt nO 7 (.slice a2 iC.length c2) rfl;have aZ:∀w1,Below W.heap.size W w1->w1.heap[w.heap.size]? =some (.cells #[.string sch,.string usr,.string pas,.bool hh,.string hst,.int .i64 prt,.bool opq,.slice a xs.length c,.bool hq,.bool hf,.string qry,.string frg] 32 (0,0))/\w1.heap[w.heap.size+1]? =some (.cells #[.string jO,.string gn,.string gC,.bool eA,.string fh,.int .i64 gS,.bool jx,.slice a2 iC.length c2,.bool bQ,.bool ee,.string gB,.string jM] 32 (0,0)):=fun w1 hb=>⟨(hb.block _ km).trans lk,(hb.block _ uM).trans nO⟩;have ck:bd W (.slice a xs.length c) (xs.map (fun x:ByteArray=>x.data.toList)):=bd.below (w:=w) ⟨a,c,xs,rfl,rfl,iD⟩ aS;have jm:bd W (.slice a2 iC.length c2) (iC.map (fun x:ByteArray=>x.data.toList)):=bd.below (w:=w) ⟨a2,c2,iC,rfl,rfl,su⟩ aS;have cE:=zZ _ _ _ _ W ck jm hL
 have WG:∀w1,Below W.heap.size W w1->Calls Tryz.prog 31 #[.slice (some ⟨w1.heap.size,0,none⟩) 6 6,.slice (some ⟨w1.heap.size+1,0,none⟩) 6 6] ((w1.alloc (.cells #[.string sch,.string usr,.string pas,.string hst,.string qry,.string frg] 9)).alloc (.cells #[.string jO,.string gn,.string gC,.string fh,.string gB,.string jM] 9)) (aC (decide ([sch.data.toList,usr.data.toList,pas.data.toList,hst.data.toList,qry.data.toList,frg.data.toList]=[jO.data.toList,gn.data.toList,gC.data.toList,fh.data.toList,gB.data.toList,jM.data.toList])) ((w1.alloc (.cells #[.string sch,.string usr,.string pas,.string hst,.string qry,.string frg] 9)).alloc (.cells #[.string jO,.string gn,.string gC,.string fh,.string gB,.string jM] 9))):=fun w1 ar=>by
  have h1:=Nr w1 sch usr pas hst qry frg (((Below.refl _ (w1.alloc (.cells #[.string sch,.string usr,.string pas,.string hst,.string qry,.string frg] 9))).alloc (Nat.le_refl _) (.cells #[.string jO,.string gn,.string gC,.string fh,.string gB,.string jM] 9)));have h2:=Nr (w1.alloc (.cells #[.string sch,.string usr,.string pas,.string hst,.string qry,.string frg] 9)) jO gn gC fh gB jM (Below.refl _ _);rw[show(w1.alloc (.cells #[.string sch,.string usr,.string pas,.string hst,.string qry,.string frg] 9)).heap.size=w1.heap.size+1 by simp]at h2;exact zZ _ _ _ _ _ h1 h2 (by simp)
 generalize decide (xs.map (fun x:ByteArray=>x.data.toList)=iC.map (fun x:ByteArray=>x.data.toList))=e1 at cE;generalize decide ([sch.data.toList,usr.data.toList,pas.data.toList,hst.data.toList,qry.data.toList,frg.data.toList]=[jO.data.toList,gn.data.toList,gC.data.toList,fh.data.toList,gB.data.toList,jM.data.toList])=e2 at WG;obtain⟨b3,aO⟩:∃b3,(hh==eA)=b3:=⟨_,rfl⟩;obtain⟨b4,dy⟩:∃b4,(prt==gS)=b4:=⟨_,rfl⟩;obtain⟨b5,aI⟩:∃b5,(opq==jx)=b5:=⟨_,rfl⟩;obtain⟨b6,fX⟩:∃b6,(hq==bQ)=b6:=⟨_,rfl⟩;obtain⟨b7,kJ⟩:∃b7,(hf==ee)=b7:=⟨_,rfl⟩;rw[aO,dy,aI,fX,kJ];obtain⟨q,hqq⟩:∃q,q=(e1&&e2&&b3&&b4&&b5&&b6&&b7):=⟨_,rfl⟩;rw[<-hqq];have TJ:=Ih hqq;have LH:=Ih cE;have HW:=Ih hW;have Iu:=Ih WG;have dV:=Ih aZ;clear hqq cE hW lk nO ck jm iD su h1 h2 WG aZ;cases e1 with
 | false=>
   have HQ:Hid (q=false):=by show _=_;rw[TJ.out];simp
   go_enter Tryz.func15,Tryz.ntmps15;simp only[List.append_eq,List.cons_append,List.nil_append]
   go_wp2_with (rw[<-HW.out])
   refine LH.out.mono ?_;rintro e w1 ⟨rfl,ar⟩;have fk:=ac aS ar
   go_wp2_with fail
   go_ret;exact⟨by rw[HQ.out];rfl,fk⟩
 | true=>
   cases e2 with
   | false=>
     have HQ:Hid (q=false):=by show _=_;rw[TJ.out];simp
     go_enter Tryz.func15,Tryz.ntmps15;simp only[List.append_eq,List.cons_append,List.nil_append]
     go_wp2_with (rw[<-HW.out])
     refine LH.out.mono ?_;rintro e w1 ⟨rfl,ar⟩;have fk:=ac aS ar;have mP:=Ih (Iu.out w1 ar);obtain⟨bC,bB⟩:=dV.out w1 ar;have Cj:=af bC;have vv:=af bB;have p0:=rowAt bC 0 (.string sch) rfl;have p1:=rowAt bC 1 (.string usr) rfl;have p2:=rowAt bC 2 (.string pas) rfl;have p3:=rowAt bC 3 (.bool hh) rfl;have p4:=rowAt bC 4 (.string hst) rfl;have p5:=rowAt bC 5 (.int .i64 prt) rfl;have p6:=rowAt bC 6 (.bool opq) rfl;have p7:=rowAt bC 7 (.slice a xs.length c) rfl;have p8:=rowAt bC 8 (.bool hq) rfl;have p9:=rowAt bC 9 (.bool hf) rfl;have Uo:=rowAt bC 10 (.string qry) rfl;have Ub:=rowAt bC 11 (.string frg) rfl;have q0:=rowAt bB 0 (.string jO) rfl;have q1:=rowAt bB 1 (.string gn) rfl;have q2:=rowAt bB 2 (.string gC) rfl;have q3:=rowAt bB 3 (.bool eA) rfl;have q4:=rowAt bB 4 (.string fh) rfl;have q5:=rowAt bB 5 (.int .i64 gS) rfl;have q6:=rowAt bB 6 (.bool jx) rfl;have q7:=rowAt bB 7 (.slice a2 iC.length c2) rfl;have q8:=rowAt bB 8 (.bool bQ) rfl;have q9:=rowAt bB 9 (.bool ee) rfl;have IC:=rowAt bB 10 (.string gB) rfl;have Ya:=rowAt bB 11 (.string jM) rfl
     go_wp2_with fail
     refine mP.out.mono ?_;rintro e w2 ⟨rfl,az⟩;have fW:Below w1.heap.size w1 w2:=(((Below.refl _ w1).alloc (Nat.le_refl _) _).alloc (by simp) _).trans (az.mono (by simp<;>omega));have bI:=ac fk fW
     go_wp2_with fail
     go_ret;exact⟨by rw[HQ.out];rfl,bI⟩
   | true=>
     cases b3 with
     | false=>
       have HQ:Hid (q=false):=by show _=_;rw[TJ.out];simp
       go_enter Tryz.func15,Tryz.ntmps15;simp only[List.append_eq,List.cons_append,List.nil_append]
       go_wp2_with (rw[<-HW.out])
       refine LH.out.mono ?_;rintro e w1 ⟨rfl,ar⟩;have fk:=ac aS ar;have mP:=Ih (Iu.out w1 ar);obtain⟨bC,bB⟩:=dV.out w1 ar;have Cj:=af bC;have vv:=af bB;have p0:=rowAt bC 0 (.string sch) rfl;have p1:=rowAt bC 1 (.string usr) rfl;have p2:=rowAt bC 2 (.string pas) rfl;have p3:=rowAt bC 3 (.bool hh) rfl;have p4:=rowAt bC 4 (.string hst) rfl;have p5:=rowAt bC 5 (.int .i64 prt) rfl;have p6:=rowAt bC 6 (.bool opq) rfl;have p7:=rowAt bC 7 (.slice a xs.length c) rfl;have p8:=rowAt bC 8 (.bool hq) rfl;have p9:=rowAt bC 9 (.bool hf) rfl;have Uo:=rowAt bC 10 (.string qry) rfl;have Ub:=rowAt bC 11 (.string frg) rfl;have q0:=rowAt bB 0 (.string jO) rfl;have q1:=rowAt bB 1 (.string gn) rfl;have q2:=rowAt bB 2 (.string gC) rfl;have q3:=rowAt bB 3 (.bool eA) rfl;have q4:=rowAt bB 4 (.string fh) rfl;have q5:=rowAt bB 5 (.int .i64 gS) rfl;have q6:=rowAt bB 6 (.bool jx) rfl;have q7:=rowAt bB 7 (.slice a2 iC.length c2) rfl;have q8:=rowAt bB 8 (.bool bQ) rfl;have q9:=rowAt bB 9 (.bool ee) rfl;have IC:=rowAt bB 10 (.string gB) rfl;have Ya:=rowAt bB 11 (.string jM) rfl
       go_wp2_with fail
       refine mP.out.mono ?_;rintro e w2 ⟨rfl,az⟩;have fW:Below w1.heap.size w1 w2:=(((Below.refl _ w1).alloc (Nat.le_refl _) _).alloc (by simp) _).trans (az.mono (by simp<;>omega));have bI:=ac fk fW;obtain⟨aU,dN⟩:=dV.out w2 (ac ar fW);have r3:=rowAt aU 3 (.bool hh) rfl;have r5:=rowAt aU 5 (.int .i64 prt) rfl;have r6:=rowAt aU 6 (.bool opq) rfl;have r8:=rowAt aU 8 (.bool hq) rfl;have r9:=rowAt aU 9 (.bool hf) rfl;have s3:=rowAt dN 3 (.bool eA) rfl;have s5:=rowAt dN 5 (.int .i64 gS) rfl;have s6:=rowAt dN 6 (.bool jx) rfl;have s8:=rowAt dN 8 (.bool bQ) rfl;have s9:=rowAt dN 9 (.bool ee) rfl
       go_wp2_with fail
       go_ret;exact⟨by rw[HQ.out];rfl,bI⟩
     | true=>
       cases b4 with
       | false=>
         have HQ:Hid (q=false):=by show _=_;rw[TJ.out];simp
         go_enter Tryz.func15,Tryz.ntmps15;simp only[List.append_eq,List.cons_append,List.nil_append]
         go_wp2_with (rw[<-HW.out])
         refine LH.out.mono ?_;rintro e w1 ⟨rfl,ar⟩;have fk:=ac aS ar;have mP:=Ih (Iu.out w1 ar);obtain⟨bC,bB⟩:=dV.out w1 ar;have Cj:=af bC;have vv:=af bB;have p0:=rowAt bC 0 (.string sch) rfl;have p1:=rowAt bC 1 (.string usr) rfl;have p2:=rowAt bC 2 (.string pas) rfl;have p3:=rowAt bC 3 (.bool hh) rfl;have p4:=rowAt bC 4 (.string hst) rfl;have p5:=rowAt bC 5 (.int .i64 prt) rfl;have p6:=rowAt bC 6 (.bool opq) rfl;have p7:=rowAt bC 7 (.slice a xs.length c) rfl;have p8:=rowAt bC 8 (.bool hq) rfl;have p9:=rowAt bC 9 (.bool hf) rfl;have Uo:=rowAt bC 10 (.string qry) rfl;have Ub:=rowAt bC 11 (.string frg) rfl;have q0:=rowAt bB 0 (.string jO) rfl;have q1:=rowAt bB 1 (.string gn) rfl;have q2:=rowAt bB 2 (.string gC) rfl;have q3:=rowAt bB 3 (.bool eA) rfl;have q4:=rowAt bB 4 (.string fh) rfl;have q5:=rowAt bB 5 (.int .i64 gS) rfl;have q6:=rowAt bB 6 (.bool jx) rfl;have q7:=rowAt bB 7 (.slice a2 iC.length c2) rfl;have q8:=rowAt bB 8 (.bool bQ) rfl;have q9:=rowAt bB 9 (.bool ee) rfl;have IC:=rowAt bB 10 (.string gB) rfl;have Ya:=rowAt bB 11 (.string jM) rfl
         go_wp2_with fail
         refine mP.out.mono ?_;rintro e w2 ⟨rfl,az⟩;have fW:Below w1.heap.size w1 w2:=(((Below.refl _ w1).alloc (Nat.le_refl _) _).alloc (by simp) _).trans (az.mono (by simp<;>omega));have bI:=ac fk fW;obtain⟨aU,dN⟩:=dV.out w2 (ac ar fW);have r3:=rowAt aU 3 (.bool hh) rfl;have r5:=rowAt aU 5 (.int .i64 prt) rfl;have r6:=rowAt aU 6 (.bool opq) rfl;have r8:=rowAt aU 8 (.bool hq) rfl;have r9:=rowAt aU 9 (.bool hf) rfl;have s3:=rowAt dN 3 (.bool eA) rfl;have s5:=rowAt dN 5 (.int .i64 gS) rfl;have s6:=rowAt dN 6 (.bool jx) rfl;have s8:=rowAt dN 8 (.bool bQ) rfl;have s9:=rowAt dN 9 (.bool ee) rfl
         go_wp2_with fail
         go_ret;exact⟨by rw[HQ.out];rfl,bI⟩
       | true=>
         cases b5 with
         | false=>
           have HQ:Hid (q=false):=by show _=_;rw[TJ.out];simp
           go_enter Tryz.func15,Tryz.ntmps15;simp only[List.append_eq,List.cons_append,List.nil_append]
           go_wp2_with (rw[<-HW.out])
           refine LH.out.mono ?_;rintro e w1 ⟨rfl,ar⟩;have fk:=ac aS ar;have mP:=Ih (Iu.out w1 ar);obtain⟨bC,bB⟩:=dV.out w1 ar;have Cj:=af bC;have vv:=af bB;have p0:=rowAt bC 0 (.string sch) rfl;have p1:=rowAt bC 1 (.string usr) rfl;have p2:=rowAt bC 2 (.string pas) rfl;have p3:=rowAt bC 3 (.bool hh) rfl;have p4:=rowAt bC 4 (.string hst) rfl;have p5:=rowAt bC 5 (.int .i64 prt) rfl;have p6:=rowAt bC 6 (.bool opq) rfl;have p7:=rowAt bC 7 (.slice a xs.length c) rfl;have p8:=rowAt bC 8 (.bool hq) rfl;have p9:=rowAt bC 9 (.bool hf) rfl;have Uo:=rowAt bC 10 (.string qry) rfl;have Ub:=rowAt bC 11 (.string frg) rfl;have q0:=rowAt bB 0 (.string jO) rfl;have q1:=rowAt bB 1 (.string gn) rfl;have q2:=rowAt bB 2 (.string gC) rfl;have q3:=rowAt bB 3 (.bool eA) rfl;have q4:=rowAt bB 4 (.string fh) rfl;have q5:=rowAt bB 5 (.int .i64 gS) rfl;have q6:=rowAt bB 6 (.bool jx) rfl;have q7:=rowAt bB 7 (.slice a2 iC.length c2) rfl;have q8:=rowAt bB 8 (.bool bQ) rfl;have q9:=rowAt bB 9 (.bool ee) rfl;have IC:=rowAt bB 10 (.string gB) rfl;have Ya:=rowAt bB 11 (.string jM) rfl
           go_wp2_with fail
           refine mP.out.mono ?_;rintro e w2 ⟨rfl,az⟩;have fW:Below w1.heap.size w1 w2:=(((Below.refl _ w1).alloc (Nat.le_refl _) _).alloc (by simp) _).trans (az.mono (by simp<;>omega));have bI:=ac fk fW;obtain⟨aU,dN⟩:=dV.out w2 (ac ar fW);have r3:=rowAt aU 3 (.bool hh) rfl;have r5:=rowAt aU 5 (.int .i64 prt) rfl;have r6:=rowAt aU 6 (.bool opq) rfl;have r8:=rowAt aU 8 (.bool hq) rfl;have r9:=rowAt aU 9 (.bool hf) rfl;have s3:=rowAt dN 3 (.bool eA) rfl;have s5:=rowAt dN 5 (.int .i64 gS) rfl;have s6:=rowAt dN 6 (.bool jx) rfl;have s8:=rowAt dN 8 (.bool bQ) rfl;have s9:=rowAt dN 9 (.bool ee) rfl
           go_wp2_with fail
           go_ret;exact⟨by rw[HQ.out];rfl,bI⟩
         | true=>
           cases b6 with
           | false=>
             have HQ:Hid (q=false):=by show _=_;rw[TJ.out];simp
             go_enter Tryz.func15,Tryz.ntmps15;simp only[List.append_eq,List.cons_append,List.nil_append]
             go_wp2_with (rw[<-HW.out])
             refine LH.out.mono ?_;rintro e w1 ⟨rfl,ar⟩;have fk:=ac aS ar;have mP:=Ih (Iu.out w1 ar);obtain⟨bC,bB⟩:=dV.out w1 ar;have Cj:=af bC;have vv:=af bB;have p0:=rowAt bC 0 (.string sch) rfl;have p1:=rowAt bC 1 (.string usr) rfl;have p2:=rowAt bC 2 (.string pas) rfl;have p3:=rowAt bC 3 (.bool hh) rfl;have p4:=rowAt bC 4 (.string hst) rfl;have p5:=rowAt bC 5 (.int .i64 prt) rfl;have p6:=rowAt bC 6 (.bool opq) rfl;have p7:=rowAt bC 7 (.slice a xs.length c) rfl;have p8:=rowAt bC 8 (.bool hq) rfl;have p9:=rowAt bC 9 (.bool hf) rfl;have Uo:=rowAt bC 10 (.string qry) rfl;have Ub:=rowAt bC 11 (.string frg) rfl;have q0:=rowAt bB 0 (.string jO) rfl;have q1:=rowAt bB 1 (.string gn) rfl;have q2:=rowAt bB 2 (.string gC) rfl;have q3:=rowAt bB 3 (.bool eA) rfl;have q4:=rowAt bB 4 (.string fh) rfl;have q5:=rowAt bB 5 (.int .i64 gS) rfl;have q6:=rowAt bB 6 (.bool jx) rfl;have q7:=rowAt bB 7 (.slice a2 iC.length c2) rfl;have q8:=rowAt bB 8 (.bool bQ) rfl;have q9:=rowAt bB 9 (.bool ee) rfl;have IC:=rowAt bB 10 (.string gB) rfl;have Ya:=rowAt bB 11 (.string jM) rfl
             go_wp2_with fail
             refine mP.out.mono ?_;rintro e w2 ⟨rfl,az⟩;have fW:Below w1.heap.size w1 w2:=(((Below.refl _ w1).alloc (Nat.le_refl _) _).alloc (by simp) _).trans (az.mono (by simp<;>omega));have bI:=ac fk fW;obtain⟨aU,dN⟩:=dV.out w2 (ac ar fW);have r3:=rowAt aU 3 (.bool hh) rfl;have r5:=rowAt aU 5 (.int .i64 prt) rfl;have r6:=rowAt aU 6 (.bool opq) rfl;have r8:=rowAt aU 8 (.bool hq) rfl;have r9:=rowAt aU 9 (.bool hf) rfl;have s3:=rowAt dN 3 (.bool eA) rfl;have s5:=rowAt dN 5 (.int .i64 gS) rfl;have s6:=rowAt dN 6 (.bool jx) rfl;have s8:=rowAt dN 8 (.bool bQ) rfl;have s9:=rowAt dN 9 (.bool ee) rfl
             go_wp2_with fail
             go_ret;exact⟨by rw[HQ.out];rfl,bI⟩
           | true=>
             cases b7 with
             | false=>
               have HQ:Hid (q=false):=by show _=_;rw[TJ.out];simp
               go_enter Tryz.func15,Tryz.ntmps15;simp only[List.append_eq,List.cons_append,List.nil_append]
               go_wp2_with (rw[<-HW.out])
               refine LH.out.mono ?_;rintro e w1 ⟨rfl,ar⟩;have fk:=ac aS ar;have mP:=Ih (Iu.out w1 ar);obtain⟨bC,bB⟩:=dV.out w1 ar;have Cj:=af bC;have vv:=af bB;have p0:=rowAt bC 0 (.string sch) rfl;have p1:=rowAt bC 1 (.string usr) rfl;have p2:=rowAt bC 2 (.string pas) rfl;have p3:=rowAt bC 3 (.bool hh) rfl;have p4:=rowAt bC 4 (.string hst) rfl;have p5:=rowAt bC 5 (.int .i64 prt) rfl;have p6:=rowAt bC 6 (.bool opq) rfl;have p7:=rowAt bC 7 (.slice a xs.length c) rfl;have p8:=rowAt bC 8 (.bool hq) rfl;have p9:=rowAt bC 9 (.bool hf) rfl;have Uo:=rowAt bC 10 (.string qry) rfl;have Ub:=rowAt bC 11 (.string frg) rfl;have q0:=rowAt bB 0 (.string jO) rfl;have q1:=rowAt bB 1 (.string gn) rfl;have q2:=rowAt bB 2 (.string gC) rfl;have q3:=rowAt bB 3 (.bool eA) rfl;have q4:=rowAt bB 4 (.string fh) rfl;have q5:=rowAt bB 5 (.int .i64 gS) rfl;have q6:=rowAt bB 6 (.bool jx) rfl;have q7:=rowAt bB 7 (.slice a2 iC.length c2) rfl;have q8:=rowAt bB 8 (.bool bQ) rfl;have q9:=rowAt bB 9 (.bool ee) rfl;have IC:=rowAt bB 10 (.string gB) rfl;have Ya:=rowAt bB 11 (.string jM) rfl
               go_wp2_with fail
               refine mP.out.mono ?_;rintro e w2 ⟨rfl,az⟩;have fW:Below w1.heap.size w1 w2:=(((Below.refl _ w1).alloc (Nat.le_refl _) _).alloc (by simp) _).trans (az.mono (by simp<;>omega));have bI:=ac fk fW;obtain⟨aU,dN⟩:=dV.out w2 (ac ar fW);have r3:=rowAt aU 3 (.bool hh) rfl;have r5:=rowAt aU 5 (.int .i64 prt) rfl;have r6:=rowAt aU 6 (.bool opq) rfl;have r8:=rowAt aU 8 (.bool hq) rfl;have r9:=rowAt aU 9 (.bool hf) rfl;have s3:=rowAt dN 3 (.bool eA) rfl;have s5:=rowAt dN 5 (.int .i64 gS) rfl;have s6:=rowAt dN 6 (.bool jx) rfl;have s8:=rowAt dN 8 (.bool bQ) rfl;have s9:=rowAt dN 9 (.bool ee) rfl
               go_wp2_with fail
               go_ret;exact⟨by rw[HQ.out];rfl,bI⟩
             | true=>
               have HQ:Hid (q=true):=Ih TJ.out;go_enter Tryz.func15,Tryz.ntmps15;simp only[List.append_eq,List.cons_append,List.nil_append]
               go_wp2_with (rw[<-HW.out])
               refine LH.out.mono ?_;rintro e w1 ⟨rfl,ar⟩;have fk:=ac aS ar;have mP:=Ih (Iu.out w1 ar);obtain⟨bC,bB⟩:=dV.out w1 ar;have Cj:=af bC;have vv:=af bB;have p0:=rowAt bC 0 (.string sch) rfl;have p1:=rowAt bC 1 (.string usr) rfl;have p2:=rowAt bC 2 (.string pas) rfl;have p3:=rowAt bC 3 (.bool hh) rfl;have p4:=rowAt bC 4 (.string hst) rfl;have p5:=rowAt bC 5 (.int .i64 prt) rfl;have p6:=rowAt bC 6 (.bool opq) rfl;have p7:=rowAt bC 7 (.slice a xs.length c) rfl;have p8:=rowAt bC 8 (.bool hq) rfl;have p9:=rowAt bC 9 (.bool hf) rfl;have Uo:=rowAt bC 10 (.string qry) rfl;have Ub:=rowAt bC 11 (.string frg) rfl;have q0:=rowAt bB 0 (.string jO) rfl;have q1:=rowAt bB 1 (.string gn) rfl;have q2:=rowAt bB 2 (.string gC) rfl;have q3:=rowAt bB 3 (.bool eA) rfl;have q4:=rowAt bB 4 (.string fh) rfl;have q5:=rowAt bB 5 (.int .i64 gS) rfl;have q6:=rowAt bB 6 (.bool jx) rfl;have q7:=rowAt bB 7 (.slice a2 iC.length c2) rfl;have q8:=rowAt bB 8 (.bool bQ) rfl;have q9:=rowAt bB 9 (.bool ee) rfl;have IC:=rowAt bB 10 (.string gB) rfl;have Ya:=rowAt bB 11 (.string jM) rfl
               go_wp2_with fail
               refine mP.out.mono ?_;rintro e w2 ⟨rfl,az⟩;have fW:Below w1.heap.size w1 w2:=(((Below.refl _ w1).alloc (Nat.le_refl _) _).alloc (by simp) _).trans (az.mono (by simp<;>omega));have bI:=ac fk fW;obtain⟨aU,dN⟩:=dV.out w2 (ac ar fW);have r3:=rowAt aU 3 (.bool hh) rfl;have r5:=rowAt aU 5 (.int .i64 prt) rfl;have r6:=rowAt aU 6 (.bool opq) rfl;have r8:=rowAt aU 8 (.bool hq) rfl;have r9:=rowAt aU 9 (.bool hf) rfl;have s3:=rowAt dN 3 (.bool eA) rfl;have s5:=rowAt dN 5 (.int .i64 gS) rfl;have s6:=rowAt dN 6 (.bool jx) rfl;have s8:=rowAt dN 8 (.bool bQ) rfl;have s9:=rowAt dN 9 (.bool ee) rfl
               go_wp2_with fail
               go_ret;exact⟨by rw[HQ.out];rfl,bI⟩
end Go.Proofs.YtecoeebjaleeiaaGreatDoor
