/-
  Package urls: same.
-/
import Derived.Test.YtjhccadmmnjpeaaGreatDoorT29
set_option maxHeartbeats 4000000
set_option maxRecDepth 100000
namespace Go.Proofs.YtjhccadmmnjpeaaGreatDoor
open Go.RowKit
theorem Equal_any (v1 v2:Value) (l1 l2:List (List UInt8)) (w:World) (h1:PathAt w v1 l1) (h2:PathAt w v2 l2) (hL:l1.length<=1000000000):Calls Tryz.prog 73 #[v1,v2] w (RBool (decide (l1=l2)) w):=by
 obtain⟨a1,c1,xs1,rfl,rfl,hx1⟩:=h1;obtain⟨a2,c2,xs2,rfl,rfl,hx2⟩:=h2;obtain⟨q,hq⟩:∃q,q=decide (xs1.map (fun x:ByteArray=>x.data.toList)=xs2.map (fun x:ByteArray=>x.data.toList)):=⟨_,rfl⟩;rw[<-hq];have Hq:=Ih hq;rw[List.length_map]at hL;clear hq;by_cases hl:xs1.length=xs2.length
 ·have hlI:((xs1.length:Int) != (xs2.length:Int))=false:=by rw[hl];simp
  by_cases h0:xs1.length=0
  ·have e1:xs1=[]:=List.length_eq_zero_iff.1 h0;have e2:xs2=[]:=List.length_eq_zero_iff.1 (by omega);subst e1;subst e2;have HQ:Hid (q=true):=by show _=_;rw[Hq.out];rfl
   clear hl hx1 hx2 h0;go_enter Tryz.func73,Tryz.ntmps73
   go_wp2_with fail
   refine wp_loop_rounds 1 ?_;rw[rounds_succ]
   go_wp2_with fail
   go_ret;exact⟨by rw[HQ.out];rfl,Below.refl _ _⟩
  have Hl:=Ih hl;obtain⟨G1,o1,rfl,hG1,hj1⟩:=hx1 0 xs1[0] (List.getElem?_eq_getElem (by omega));obtain⟨G2,o2,rfl,hG2,hj2⟩:=hx2 0 xs2[0] (List.getElem?_eq_getElem (by omega));clear hj1 hj2
  have Hx1:Hid (∀(j:Nat) (x:ByteArray),xs1[j]? =some x->w.cell? ⟨G1,o1+j,none⟩=some (.string x)):=Ih (fun j x hj=>by
   obtain⟨G,o,e,_,hc⟩:=hx1 j x hj;injection e with e;injection e with e1 e2 _
   subst e1;subst e2;exact hc)
  have Hx2:Hid (∀(j:Nat) (x:ByteArray),xs2[j]? =some x->w.cell? ⟨G2,o2+j,none⟩=some (.string x)):=Ih (fun j x hj=>by
   obtain⟨G,o,e,_,hc⟩:=hx2 j x hj;injection e with e;injection e with e1 e2 _
   subst e1;subst e2;exact hc)
  clear hl hx1 hx2;go_enter Tryz.func73,Tryz.ntmps73
  go_wp2_with fail
  go_loopw [13] (fun k wr=>∃i:Nat,k=.int .i64 i/\i<=xs1.length/\Hid ((xs1.map (fun x:ByteArray=>x.data.toList)).take i=(xs2.map (fun x:ByteArray=>x.data.toList)).take i)/\Below w.heap.size w wr) (fun k _=>xs1.length-(intOf k).toNat)
  case atStart=>exact⟨0,rfl,Nat.zero_le _,Ih (by simp),Below.refl _ _⟩
  case round=>
   obtain⟨i,rfl,hi,hT,hbw⟩:=hrel;by_cases hlt:i<xs1.length
   ·have hltI:(i:Int)<(xs1.length:Int):=by omega
    have hlt2:i<xs2.length:=by rw[<-Hl.out];exact hlt
    have hltI2:(i:Int)<(xs2.length:Int):=by omega
    have hi0:(0:Int)<=(i:Int):=by omega
    obtain⟨x,hx⟩:∃x,x=xs1[i]:=⟨_,rfl⟩;obtain⟨y,hy⟩:∃y,y=xs2[i]:=⟨_,rfl⟩;have hxg:xs1[i]? =some x:=by rw[List.getElem?_eq_getElem hlt,hx]
    have hyg:xs2[i]? =some y:=by rw[List.getElem?_eq_getElem hlt2,hy]
    have hc1:=Hx1.out i x hxg;have hc2:=Hx2.out i y hyg;have d1:wr.cell? ⟨G1,o1+i,none⟩=some (.string x):=by rw[hbw.cell (p:=⟨G1,o1+i,none⟩) hG1];exact hc1
    have d2:wr.cell? ⟨G2,o2+i,none⟩=some (.string y):=by rw[hbw.cell (p:=⟨G2,o2+i,none⟩) hG2];exact hc2
    have hd:=same_text x y
    have hstep:(xs1.map (fun x:ByteArray=>x.data.toList)).take (i+1)=(xs1.map (fun x:ByteArray=>x.data.toList)).take i++[x.data.toList]/\(xs2.map (fun x:ByteArray=>x.data.toList)).take (i+1)=(xs2.map (fun x:ByteArray=>x.data.toList)).take i++[y.data.toList]:=by
     constructor
     ·rw[List.take_succ_eq_append_getElem (by simpa using hlt)];simp[hx]
     ·rw[List.take_succ_eq_append_getElem (by simpa using hlt2)];simp[hy]
    by_cases he:x.data.toList=y.data.toList
    ·rw[decide_eq_true he]at hd;have hT2:Hid ((xs1.map (fun x:ByteArray=>x.data.toList)).take (i+1)=(xs2.map (fun x:ByteArray=>x.data.toList)).take (i+1)):=by show _=_;rw[hstep.1,hstep.2,hT.out,he]
     clear hx hy hxg hyg hc1 hc2 he hstep hT
     go_wp2_with fail
     go_quiet (fail)
     have hbq:Below w.heap.size w (wr.drewN nq):=below_drewN hbw nq;generalize wr.drewN nq=wq at hbq⊢
     go_wp2_with fail
     go_roundw
     case rel=>exact⟨i+1,by go_num,by omega,hT2,hbq⟩
     case measure=>simp[intOf];omega
    ·rw[decide_eq_false he]at hd
     have HQ:Hid (q=false):=by
      show _=_;rw[Hq.out];refine decide_eq_false fun e=>he ?_;have h1:=congrArg (List.take (i+1)) e;rw[hstep.1,hstep.2,hT.out]at h1;simpa using List.append_cancel_left h1
     clear hx hy hxg hyg hc1 hc2 he hstep hT
     go_wp2_with fail
     go_quiet (fail)
     have hbq:Below w.heap.size w (wr.drewN nq):=below_drewN hbw nq;generalize wr.drewN nq=wq at hbq⊢
     go_wp2_with fail
     go_ret;exact⟨by rw[HQ.out];rfl,hbq⟩
   ·have hltI:¬(i:Int)<(xs1.length:Int):=by omega
    have HQ:Hid (q=true):=by
     show _=_;rw[Hq.out];refine decide_eq_true ?_;have h1:=hT.out;rw[List.take_of_length_le (by simp;omega),List.take_of_length_le (by have:=Hl.out;simp;omega)]at h1;exact h1
    clear hT
    go_wp2_with fail
    go_ret;exact⟨by rw[HQ.out];rfl,hbw⟩
 ·have hlI:((xs1.length:Int) != (xs2.length:Int))=true:=by simp;omega
  have HQ:Hid (q=false):=by
   show _=_;rw[Hq.out];refine decide_eq_false fun e=>hl ?_;have:=congrArg List.length e;simpa using this
  clear hl hx1 hx2;go_enter Tryz.func73,Tryz.ntmps73
  go_wp2_with fail
  go_ret;exact⟨by rw[HQ.out];rfl,Below.refl _ _⟩
theorem url_dec (a1 a2 a3 a5 a11 a12 b1 b2 b3 b5 b11 b12:List UInt8) (a4 a7 a9 a10 b4 b7 b9 b10:Bool) (a6 b6:Int) (a8 b8:List (List UInt8)):
  decide ((⟨a1,a2,a3,a4,a5,a6,a7,a8,a9,a10,a11,a12⟩:Lz.UrlL)=⟨b1,b2,b3,b4,b5,b6,b7,b8,b9,b10,b11,b12⟩)=(decide (a8=b8)&&decide ([a1,a2,a3,a5,a11,a12]=[b1,b2,b3,b5,b11,b12])&&(a4==b4)&&(a6==b6)&&(a7==b7)&&(a9==b9)&&(a10==b10)):=by
 rw[Bool.eq_iff_iff];simp only[decide_eq_true_eq,Bool.and_eq_true,beq_iff_eq,Lz.UrlL.mk.injEq,List.cons.injEq];constructor
 ·rintro⟨h1,h2,h3,h4,h5,h6,h7,h8,h9,h10,h11,h12⟩;exact⟨⟨⟨⟨⟨⟨h8,h1,h2,h3,h5,h11,h12,trivial⟩,h4⟩,h6⟩,h7⟩,h9⟩,h10⟩
 ·rintro⟨⟨⟨⟨⟨⟨h8,h1,h2,h3,h5,h11,h12,_⟩,h4⟩,h6⟩,h7⟩,h9⟩,h10⟩;exact⟨h1,h2,h3,h4,h5,h6,h7,h8,h9,h10,h11,h12⟩
theorem six_at (w:World) (a b c d e f:ByteArray) {w':World} (hb:Below (w.alloc (.cells #[.string a,.string b,.string c,.string d,.string e,.string f] 9)).heap.size (w.alloc (.cells #[.string a,.string b,.string c,.string d,.string e,.string f] 9)) w'):PathAt w' (.slice (some ⟨w.heap.size,0,none⟩) 6 6) [a.data.toList,b.data.toList,c.data.toList,d.data.toList,e.data.toList,f.data.toList]:=by
 refine⟨_,6,[a,b,c,d,e,f],rfl,rfl,fun j x hj=>⟨w.heap.size,0,rfl,by have:=hb.size;simp at this;omega,?_⟩⟩;rw[hb.cell (p:=⟨w.heap.size,0+j,none⟩) (by simp),Nat.zero_add,World.cell?_alloc_mark,<-Array.getElem?_toList];have:(#[Value.string a,.string b,.string c,.string d,.string e,.string f]:Array Value).toList=[a,b,c,d,e,f].map Value.string:=rfl;rw[this,List.getElem?_map,hj];rfl
theorem same_any (v1 v2:Value) (u1 u2:Lz.UrlL) (w:World) (h1:UrlVal w v1 u1) (h2:UrlVal w v2 u2) (hL:u1.path.length<=1000000000):Calls Tryz.prog 45 #[v1,v2] w (RBool (decide (u1=u2)) w):=by
 obtain⟨sch,usr,pas,hh,hst,prt,opq,a,c,xs,hq,hf,qry,frg,rfl,rfl,hc1⟩:=h1.form;obtain⟨sch2,usr2,pas2,hh2,hst2,prt2,opq2,a2,c2,xs2,hq2,hf2,qry2,frg2,rfl,rfl,hc2⟩:=h2.form;rw[url_dec];obtain⟨W,hW⟩:∃W,W=(w.alloc (.cells #[.string sch,.string usr,.string pas,.bool hh,.string hst,.int .i64 prt,.bool opq,.slice a xs.length c,.bool hq,.bool hf,.string qry,.string frg] 36)).alloc (.cells #[.string sch2,.string usr2,.string pas2,.bool hh2,.string hst2,.int .i64 prt2,.bool opq2,.slice a2 xs2.length c2,.bool hq2,.bool hf2,.string qry2,.string frg2] 36):=⟨_,rfl⟩;have hbW:Below w.heap.size w W:=by rw[hW];exact((Below.refl _ w).alloc (Nat.le_refl _) _).alloc (by simp) _
 have hR1:W.heap[w.heap.size]? =some (.cells #[.string sch,.string usr,.string pas,.bool hh,.string hst,.int .i64 prt,.bool opq,.slice a xs.length c,.bool hq,.bool hf,.string qry,.string frg] 36 (0,0)):=by rw[hW,Below.heap_alloc _ _ _ (by simp)];exact heap_new _ _
 have hR2:W.heap[w.heap.size+1]? =some (.cells #[.string sch2,.string usr2,.string pas2,.bool hh2,.string hst2,.int .i64 prt2,.bool opq2,.slice a2 xs2.length c2,.bool hq2,.bool hf2,.string qry2,.string frg2] 36 (0,0)):=by rw[hW];exact heap_new2 _ _ _
 have hw1:=row_lt hR1;have hw2:=row_lt hR2;have t7:=rowAt hR1 7 (.slice a xs.length c) rfl;have s7:=rowAt hR2 7 (.slice a2 xs2.length c2) rfl;have hrow:∀w1,Below W.heap.size W w1->w1.heap[w.heap.size]? =some (.cells #[.string sch,.string usr,.string pas,.bool hh,.string hst,.int .i64 prt,.bool opq,.slice a xs.length c,.bool hq,.bool hf,.string qry,.string frg] 36 (0,0))/\w1.heap[w.heap.size+1]? =some (.cells #[.string sch2,.string usr2,.string pas2,.bool hh2,.string hst2,.int .i64 prt2,.bool opq2,.slice a2 xs2.length c2,.bool hq2,.bool hf2,.string qry2,.string frg2] 36 (0,0)):=fun w1 hb=>⟨(hb.block _ hw1).trans hR1,(hb.block _ hw2).trans hR2⟩;have pa1:PathAt W (.slice a xs.length c) (xs.map (fun x:ByteArray=>x.data.toList)):=PathAt.below (w:=w) ⟨a,c,xs,rfl,rfl,hc1⟩ hbW;have pa2:PathAt W (.slice a2 xs2.length c2) (xs2.map (fun x:ByteArray=>x.data.toList)):=PathAt.below (w:=w) ⟨a2,c2,xs2,rfl,rfl,hc2⟩ hbW;have cE:=Equal_any _ _ _ _ W pa1 pa2 hL
 have hsix:∀w1,Below W.heap.size W w1->Calls Tryz.prog 73 #[.slice (some ⟨w1.heap.size,0,none⟩) 6 6,.slice (some ⟨w1.heap.size+1,0,none⟩) 6 6] ((w1.alloc (.cells #[.string sch,.string usr,.string pas,.string hst,.string qry,.string frg] 9)).alloc (.cells #[.string sch2,.string usr2,.string pas2,.string hst2,.string qry2,.string frg2] 9)) (RBool (decide ([sch.data.toList,usr.data.toList,pas.data.toList,hst.data.toList,qry.data.toList,frg.data.toList]=[sch2.data.toList,usr2.data.toList,pas2.data.toList,hst2.data.toList,qry2.data.toList,frg2.data.toList])) ((w1.alloc (.cells #[.string sch,.string usr,.string pas,.string hst,.string qry,.string frg] 9)).alloc (.cells #[.string sch2,.string usr2,.string pas2,.string hst2,.string qry2,.string frg2] 9))):=fun w1 hb1=>by
  have h1:=six_at w1 sch usr pas hst qry frg (((Below.refl _ (w1.alloc (.cells #[.string sch,.string usr,.string pas,.string hst,.string qry,.string frg] 9))).alloc (Nat.le_refl _) (.cells #[.string sch2,.string usr2,.string pas2,.string hst2,.string qry2,.string frg2] 9)));have h2:=six_at (w1.alloc (.cells #[.string sch,.string usr,.string pas,.string hst,.string qry,.string frg] 9)) sch2 usr2 pas2 hst2 qry2 frg2 (Below.refl _ _);rw[show(w1.alloc (.cells #[.string sch,.string usr,.string pas,.string hst,.string qry,.string frg] 9)).heap.size=w1.heap.size+1 by simp]at h2;exact Equal_any _ _ _ _ _ h1 h2 (by simp)
 generalize decide (xs.map (fun x:ByteArray=>x.data.toList)=xs2.map (fun x:ByteArray=>x.data.toList))=e1 at cE;generalize decide ([sch.data.toList,usr.data.toList,pas.data.toList,hst.data.toList,qry.data.toList,frg.data.toList]=[sch2.data.toList,usr2.data.toList,pas2.data.toList,hst2.data.toList,qry2.data.toList,frg2.data.toList])=e2 at hsix;obtain⟨b3,hb3⟩:∃b3,(hh==hh2)=b3:=⟨_,rfl⟩;obtain⟨b4,hb4⟩:∃b4,(prt==prt2)=b4:=⟨_,rfl⟩;obtain⟨b5,hb5⟩:∃b5,(opq==opq2)=b5:=⟨_,rfl⟩;obtain⟨b6,hb6⟩:∃b6,(hq==hq2)=b6:=⟨_,rfl⟩;obtain⟨b7,hb7⟩:∃b7,(hf==hf2)=b7:=⟨_,rfl⟩;rw[hb3,hb4,hb5,hb6,hb7];obtain⟨q,hqq⟩:∃q,q=(e1&&e2&&b3&&b4&&b5&&b6&&b7):=⟨_,rfl⟩;rw[<-hqq];have HQ0:=Ih hqq;have cE1:=Ih cE;have HW:=Ih hW;have Hsix:=Ih hsix;have Hrow:=Ih hrow;clear hqq cE hW hR1 hR2 pa1 pa2 hc1 hc2 h1 h2 hsix hrow;cases e1 with
 | false=>
   have HQ:Hid (q=false):=by show _=_;rw[HQ0.out];simp
   go_enter Tryz.func45,Tryz.ntmps45;simp only[List.append_eq,List.cons_append,List.nil_append]
   go_wp2_with (rw[<-HW.out])
   refine cE1.out.mono ?_;rintro e w1 ⟨rfl,hb1⟩;have hb01:=below_call hbW hb1
   go_wp2_with fail
   go_ret;exact⟨by rw[HQ.out];rfl,hb01⟩
 | true=>
   cases e2 with
   | false=>
     have HQ:Hid (q=false):=by show _=_;rw[HQ0.out];simp
     go_enter Tryz.func45,Tryz.ntmps45;simp only[List.append_eq,List.cons_append,List.nil_append]
     go_wp2_with (rw[<-HW.out])
     refine cE1.out.mono ?_;rintro e w1 ⟨rfl,hb1⟩;have hb01:=below_call hbW hb1;have hE2:=Ih (Hsix.out w1 hb1);obtain⟨hr1,hr2⟩:=Hrow.out w1 hb1;have hl1:=row_lt hr1;have hl2:=row_lt hr2;have p0:=rowAt hr1 0 (.string sch) rfl;have p1:=rowAt hr1 1 (.string usr) rfl;have p2:=rowAt hr1 2 (.string pas) rfl;have p3:=rowAt hr1 3 (.bool hh) rfl;have p4:=rowAt hr1 4 (.string hst) rfl;have p5:=rowAt hr1 5 (.int .i64 prt) rfl;have p6:=rowAt hr1 6 (.bool opq) rfl;have p7:=rowAt hr1 7 (.slice a xs.length c) rfl;have p8:=rowAt hr1 8 (.bool hq) rfl;have p9:=rowAt hr1 9 (.bool hf) rfl;have p10:=rowAt hr1 10 (.string qry) rfl;have p11:=rowAt hr1 11 (.string frg) rfl;have q0:=rowAt hr2 0 (.string sch2) rfl;have q1:=rowAt hr2 1 (.string usr2) rfl;have q2:=rowAt hr2 2 (.string pas2) rfl;have q3:=rowAt hr2 3 (.bool hh2) rfl;have q4:=rowAt hr2 4 (.string hst2) rfl;have q5:=rowAt hr2 5 (.int .i64 prt2) rfl;have q6:=rowAt hr2 6 (.bool opq2) rfl;have q7:=rowAt hr2 7 (.slice a2 xs2.length c2) rfl;have q8:=rowAt hr2 8 (.bool hq2) rfl;have q9:=rowAt hr2 9 (.bool hf2) rfl;have q10:=rowAt hr2 10 (.string qry2) rfl;have q11:=rowAt hr2 11 (.string frg2) rfl
     go_wp2_with fail
     refine hE2.out.mono ?_;rintro e w2 ⟨rfl,hb2⟩;have hb12:Below w1.heap.size w1 w2:=(((Below.refl _ w1).alloc (Nat.le_refl _) _).alloc (by simp) _).trans (hb2.mono (by simp<;>omega));have hb02:=below_call hb01 hb12
     go_wp2_with fail
     go_ret;exact⟨by rw[HQ.out];rfl,hb02⟩
   | true=>
     cases b3 with
     | false=>
       have HQ:Hid (q=false):=by show _=_;rw[HQ0.out];simp
       go_enter Tryz.func45,Tryz.ntmps45;simp only[List.append_eq,List.cons_append,List.nil_append]
       go_wp2_with (rw[<-HW.out])
       refine cE1.out.mono ?_;rintro e w1 ⟨rfl,hb1⟩;have hb01:=below_call hbW hb1;have hE2:=Ih (Hsix.out w1 hb1);obtain⟨hr1,hr2⟩:=Hrow.out w1 hb1;have hl1:=row_lt hr1;have hl2:=row_lt hr2;have p0:=rowAt hr1 0 (.string sch) rfl;have p1:=rowAt hr1 1 (.string usr) rfl;have p2:=rowAt hr1 2 (.string pas) rfl;have p3:=rowAt hr1 3 (.bool hh) rfl;have p4:=rowAt hr1 4 (.string hst) rfl;have p5:=rowAt hr1 5 (.int .i64 prt) rfl;have p6:=rowAt hr1 6 (.bool opq) rfl;have p7:=rowAt hr1 7 (.slice a xs.length c) rfl;have p8:=rowAt hr1 8 (.bool hq) rfl;have p9:=rowAt hr1 9 (.bool hf) rfl;have p10:=rowAt hr1 10 (.string qry) rfl;have p11:=rowAt hr1 11 (.string frg) rfl;have q0:=rowAt hr2 0 (.string sch2) rfl;have q1:=rowAt hr2 1 (.string usr2) rfl;have q2:=rowAt hr2 2 (.string pas2) rfl;have q3:=rowAt hr2 3 (.bool hh2) rfl;have q4:=rowAt hr2 4 (.string hst2) rfl;have q5:=rowAt hr2 5 (.int .i64 prt2) rfl;have q6:=rowAt hr2 6 (.bool opq2) rfl;have q7:=rowAt hr2 7 (.slice a2 xs2.length c2) rfl;have q8:=rowAt hr2 8 (.bool hq2) rfl;have q9:=rowAt hr2 9 (.bool hf2) rfl;have q10:=rowAt hr2 10 (.string qry2) rfl;have q11:=rowAt hr2 11 (.string frg2) rfl
       go_wp2_with fail
       refine hE2.out.mono ?_;rintro e w2 ⟨rfl,hb2⟩;have hb12:Below w1.heap.size w1 w2:=(((Below.refl _ w1).alloc (Nat.le_refl _) _).alloc (by simp) _).trans (hb2.mono (by simp<;>omega));have hb02:=below_call hb01 hb12;obtain⟨hs1,hs2⟩:=Hrow.out w2 (below_call hb1 hb12);have r3:=rowAt hs1 3 (.bool hh) rfl;have r5:=rowAt hs1 5 (.int .i64 prt) rfl;have r6:=rowAt hs1 6 (.bool opq) rfl;have r8:=rowAt hs1 8 (.bool hq) rfl;have r9:=rowAt hs1 9 (.bool hf) rfl;have s3:=rowAt hs2 3 (.bool hh2) rfl;have s5:=rowAt hs2 5 (.int .i64 prt2) rfl;have s6:=rowAt hs2 6 (.bool opq2) rfl;have s8:=rowAt hs2 8 (.bool hq2) rfl;have s9:=rowAt hs2 9 (.bool hf2) rfl
       go_wp2_with fail
       go_ret;exact⟨by rw[HQ.out];rfl,hb02⟩
     | true=>
       cases b4 with
       | false=>
         have HQ:Hid (q=false):=by show _=_;rw[HQ0.out];simp
         go_enter Tryz.func45,Tryz.ntmps45;simp only[List.append_eq,List.cons_append,List.nil_append]
         go_wp2_with (rw[<-HW.out])
         refine cE1.out.mono ?_;rintro e w1 ⟨rfl,hb1⟩;have hb01:=below_call hbW hb1;have hE2:=Ih (Hsix.out w1 hb1);obtain⟨hr1,hr2⟩:=Hrow.out w1 hb1;have hl1:=row_lt hr1;have hl2:=row_lt hr2;have p0:=rowAt hr1 0 (.string sch) rfl;have p1:=rowAt hr1 1 (.string usr) rfl;have p2:=rowAt hr1 2 (.string pas) rfl;have p3:=rowAt hr1 3 (.bool hh) rfl;have p4:=rowAt hr1 4 (.string hst) rfl;have p5:=rowAt hr1 5 (.int .i64 prt) rfl;have p6:=rowAt hr1 6 (.bool opq) rfl;have p7:=rowAt hr1 7 (.slice a xs.length c) rfl;have p8:=rowAt hr1 8 (.bool hq) rfl;have p9:=rowAt hr1 9 (.bool hf) rfl;have p10:=rowAt hr1 10 (.string qry) rfl;have p11:=rowAt hr1 11 (.string frg) rfl;have q0:=rowAt hr2 0 (.string sch2) rfl;have q1:=rowAt hr2 1 (.string usr2) rfl;have q2:=rowAt hr2 2 (.string pas2) rfl;have q3:=rowAt hr2 3 (.bool hh2) rfl;have q4:=rowAt hr2 4 (.string hst2) rfl;have q5:=rowAt hr2 5 (.int .i64 prt2) rfl;have q6:=rowAt hr2 6 (.bool opq2) rfl;have q7:=rowAt hr2 7 (.slice a2 xs2.length c2) rfl;have q8:=rowAt hr2 8 (.bool hq2) rfl;have q9:=rowAt hr2 9 (.bool hf2) rfl;have q10:=rowAt hr2 10 (.string qry2) rfl;have q11:=rowAt hr2 11 (.string frg2) rfl
         go_wp2_with fail
         refine hE2.out.mono ?_;rintro e w2 ⟨rfl,hb2⟩;have hb12:Below w1.heap.size w1 w2:=(((Below.refl _ w1).alloc (Nat.le_refl _) _).alloc (by simp) _).trans (hb2.mono (by simp<;>omega));have hb02:=below_call hb01 hb12;obtain⟨hs1,hs2⟩:=Hrow.out w2 (below_call hb1 hb12);have r3:=rowAt hs1 3 (.bool hh) rfl;have r5:=rowAt hs1 5 (.int .i64 prt) rfl;have r6:=rowAt hs1 6 (.bool opq) rfl;have r8:=rowAt hs1 8 (.bool hq) rfl;have r9:=rowAt hs1 9 (.bool hf) rfl;have s3:=rowAt hs2 3 (.bool hh2) rfl;have s5:=rowAt hs2 5 (.int .i64 prt2) rfl;have s6:=rowAt hs2 6 (.bool opq2) rfl;have s8:=rowAt hs2 8 (.bool hq2) rfl;have s9:=rowAt hs2 9 (.bool hf2) rfl
         go_wp2_with fail
         go_ret;exact⟨by rw[HQ.out];rfl,hb02⟩
       | true=>
         cases b5 with
         | false=>
           have HQ:Hid (q=false):=by show _=_;rw[HQ0.out];simp
           go_enter Tryz.func45,Tryz.ntmps45;simp only[List.append_eq,List.cons_append,List.nil_append]
           go_wp2_with (rw[<-HW.out])
           refine cE1.out.mono ?_;rintro e w1 ⟨rfl,hb1⟩;have hb01:=below_call hbW hb1;have hE2:=Ih (Hsix.out w1 hb1);obtain⟨hr1,hr2⟩:=Hrow.out w1 hb1;have hl1:=row_lt hr1;have hl2:=row_lt hr2;have p0:=rowAt hr1 0 (.string sch) rfl;have p1:=rowAt hr1 1 (.string usr) rfl;have p2:=rowAt hr1 2 (.string pas) rfl;have p3:=rowAt hr1 3 (.bool hh) rfl;have p4:=rowAt hr1 4 (.string hst) rfl;have p5:=rowAt hr1 5 (.int .i64 prt) rfl;have p6:=rowAt hr1 6 (.bool opq) rfl;have p7:=rowAt hr1 7 (.slice a xs.length c) rfl;have p8:=rowAt hr1 8 (.bool hq) rfl;have p9:=rowAt hr1 9 (.bool hf) rfl;have p10:=rowAt hr1 10 (.string qry) rfl;have p11:=rowAt hr1 11 (.string frg) rfl;have q0:=rowAt hr2 0 (.string sch2) rfl;have q1:=rowAt hr2 1 (.string usr2) rfl;have q2:=rowAt hr2 2 (.string pas2) rfl;have q3:=rowAt hr2 3 (.bool hh2) rfl;have q4:=rowAt hr2 4 (.string hst2) rfl;have q5:=rowAt hr2 5 (.int .i64 prt2) rfl;have q6:=rowAt hr2 6 (.bool opq2) rfl;have q7:=rowAt hr2 7 (.slice a2 xs2.length c2) rfl;have q8:=rowAt hr2 8 (.bool hq2) rfl;have q9:=rowAt hr2 9 (.bool hf2) rfl;have q10:=rowAt hr2 10 (.string qry2) rfl;have q11:=rowAt hr2 11 (.string frg2) rfl
           go_wp2_with fail
           refine hE2.out.mono ?_;rintro e w2 ⟨rfl,hb2⟩;have hb12:Below w1.heap.size w1 w2:=(((Below.refl _ w1).alloc (Nat.le_refl _) _).alloc (by simp) _).trans (hb2.mono (by simp<;>omega));have hb02:=below_call hb01 hb12;obtain⟨hs1,hs2⟩:=Hrow.out w2 (below_call hb1 hb12);have r3:=rowAt hs1 3 (.bool hh) rfl;have r5:=rowAt hs1 5 (.int .i64 prt) rfl;have r6:=rowAt hs1 6 (.bool opq) rfl;have r8:=rowAt hs1 8 (.bool hq) rfl;have r9:=rowAt hs1 9 (.bool hf) rfl;have s3:=rowAt hs2 3 (.bool hh2) rfl;have s5:=rowAt hs2 5 (.int .i64 prt2) rfl;have s6:=rowAt hs2 6 (.bool opq2) rfl;have s8:=rowAt hs2 8 (.bool hq2) rfl;have s9:=rowAt hs2 9 (.bool hf2) rfl
           go_wp2_with fail
           go_ret;exact⟨by rw[HQ.out];rfl,hb02⟩
         | true=>
           cases b6 with
           | false=>
             have HQ:Hid (q=false):=by show _=_;rw[HQ0.out];simp
             go_enter Tryz.func45,Tryz.ntmps45;simp only[List.append_eq,List.cons_append,List.nil_append]
             go_wp2_with (rw[<-HW.out])
             refine cE1.out.mono ?_;rintro e w1 ⟨rfl,hb1⟩;have hb01:=below_call hbW hb1;have hE2:=Ih (Hsix.out w1 hb1);obtain⟨hr1,hr2⟩:=Hrow.out w1 hb1;have hl1:=row_lt hr1;have hl2:=row_lt hr2;have p0:=rowAt hr1 0 (.string sch) rfl;have p1:=rowAt hr1 1 (.string usr) rfl;have p2:=rowAt hr1 2 (.string pas) rfl;have p3:=rowAt hr1 3 (.bool hh) rfl;have p4:=rowAt hr1 4 (.string hst) rfl;have p5:=rowAt hr1 5 (.int .i64 prt) rfl;have p6:=rowAt hr1 6 (.bool opq) rfl;have p7:=rowAt hr1 7 (.slice a xs.length c) rfl;have p8:=rowAt hr1 8 (.bool hq) rfl;have p9:=rowAt hr1 9 (.bool hf) rfl;have p10:=rowAt hr1 10 (.string qry) rfl;have p11:=rowAt hr1 11 (.string frg) rfl;have q0:=rowAt hr2 0 (.string sch2) rfl;have q1:=rowAt hr2 1 (.string usr2) rfl;have q2:=rowAt hr2 2 (.string pas2) rfl;have q3:=rowAt hr2 3 (.bool hh2) rfl;have q4:=rowAt hr2 4 (.string hst2) rfl;have q5:=rowAt hr2 5 (.int .i64 prt2) rfl;have q6:=rowAt hr2 6 (.bool opq2) rfl;have q7:=rowAt hr2 7 (.slice a2 xs2.length c2) rfl;have q8:=rowAt hr2 8 (.bool hq2) rfl;have q9:=rowAt hr2 9 (.bool hf2) rfl;have q10:=rowAt hr2 10 (.string qry2) rfl;have q11:=rowAt hr2 11 (.string frg2) rfl
             go_wp2_with fail
             refine hE2.out.mono ?_;rintro e w2 ⟨rfl,hb2⟩;have hb12:Below w1.heap.size w1 w2:=(((Below.refl _ w1).alloc (Nat.le_refl _) _).alloc (by simp) _).trans (hb2.mono (by simp<;>omega));have hb02:=below_call hb01 hb12;obtain⟨hs1,hs2⟩:=Hrow.out w2 (below_call hb1 hb12);have r3:=rowAt hs1 3 (.bool hh) rfl;have r5:=rowAt hs1 5 (.int .i64 prt) rfl;have r6:=rowAt hs1 6 (.bool opq) rfl;have r8:=rowAt hs1 8 (.bool hq) rfl;have r9:=rowAt hs1 9 (.bool hf) rfl;have s3:=rowAt hs2 3 (.bool hh2) rfl;have s5:=rowAt hs2 5 (.int .i64 prt2) rfl;have s6:=rowAt hs2 6 (.bool opq2) rfl;have s8:=rowAt hs2 8 (.bool hq2) rfl;have s9:=rowAt hs2 9 (.bool hf2) rfl
             go_wp2_with fail
             go_ret;exact⟨by rw[HQ.out];rfl,hb02⟩
           | true=>
             cases b7 with
             | false=>
               have HQ:Hid (q=false):=by show _=_;rw[HQ0.out];simp
               go_enter Tryz.func45,Tryz.ntmps45;simp only[List.append_eq,List.cons_append,List.nil_append]
               go_wp2_with (rw[<-HW.out])
               refine cE1.out.mono ?_;rintro e w1 ⟨rfl,hb1⟩;have hb01:=below_call hbW hb1;have hE2:=Ih (Hsix.out w1 hb1);obtain⟨hr1,hr2⟩:=Hrow.out w1 hb1;have hl1:=row_lt hr1;have hl2:=row_lt hr2;have p0:=rowAt hr1 0 (.string sch) rfl;have p1:=rowAt hr1 1 (.string usr) rfl;have p2:=rowAt hr1 2 (.string pas) rfl;have p3:=rowAt hr1 3 (.bool hh) rfl;have p4:=rowAt hr1 4 (.string hst) rfl;have p5:=rowAt hr1 5 (.int .i64 prt) rfl;have p6:=rowAt hr1 6 (.bool opq) rfl;have p7:=rowAt hr1 7 (.slice a xs.length c) rfl;have p8:=rowAt hr1 8 (.bool hq) rfl;have p9:=rowAt hr1 9 (.bool hf) rfl;have p10:=rowAt hr1 10 (.string qry) rfl;have p11:=rowAt hr1 11 (.string frg) rfl;have q0:=rowAt hr2 0 (.string sch2) rfl;have q1:=rowAt hr2 1 (.string usr2) rfl;have q2:=rowAt hr2 2 (.string pas2) rfl;have q3:=rowAt hr2 3 (.bool hh2) rfl;have q4:=rowAt hr2 4 (.string hst2) rfl;have q5:=rowAt hr2 5 (.int .i64 prt2) rfl;have q6:=rowAt hr2 6 (.bool opq2) rfl;have q7:=rowAt hr2 7 (.slice a2 xs2.length c2) rfl;have q8:=rowAt hr2 8 (.bool hq2) rfl;have q9:=rowAt hr2 9 (.bool hf2) rfl;have q10:=rowAt hr2 10 (.string qry2) rfl;have q11:=rowAt hr2 11 (.string frg2) rfl
               go_wp2_with fail
               refine hE2.out.mono ?_;rintro e w2 ⟨rfl,hb2⟩;have hb12:Below w1.heap.size w1 w2:=(((Below.refl _ w1).alloc (Nat.le_refl _) _).alloc (by simp) _).trans (hb2.mono (by simp<;>omega));have hb02:=below_call hb01 hb12;obtain⟨hs1,hs2⟩:=Hrow.out w2 (below_call hb1 hb12);have r3:=rowAt hs1 3 (.bool hh) rfl;have r5:=rowAt hs1 5 (.int .i64 prt) rfl;have r6:=rowAt hs1 6 (.bool opq) rfl;have r8:=rowAt hs1 8 (.bool hq) rfl;have r9:=rowAt hs1 9 (.bool hf) rfl;have s3:=rowAt hs2 3 (.bool hh2) rfl;have s5:=rowAt hs2 5 (.int .i64 prt2) rfl;have s6:=rowAt hs2 6 (.bool opq2) rfl;have s8:=rowAt hs2 8 (.bool hq2) rfl;have s9:=rowAt hs2 9 (.bool hf2) rfl
               go_wp2_with fail
               go_ret;exact⟨by rw[HQ.out];rfl,hb02⟩
             | true=>
               have HQ:Hid (q=true):=Ih HQ0.out;go_enter Tryz.func45,Tryz.ntmps45;simp only[List.append_eq,List.cons_append,List.nil_append]
               go_wp2_with (rw[<-HW.out])
               refine cE1.out.mono ?_;rintro e w1 ⟨rfl,hb1⟩;have hb01:=below_call hbW hb1;have hE2:=Ih (Hsix.out w1 hb1);obtain⟨hr1,hr2⟩:=Hrow.out w1 hb1;have hl1:=row_lt hr1;have hl2:=row_lt hr2;have p0:=rowAt hr1 0 (.string sch) rfl;have p1:=rowAt hr1 1 (.string usr) rfl;have p2:=rowAt hr1 2 (.string pas) rfl;have p3:=rowAt hr1 3 (.bool hh) rfl;have p4:=rowAt hr1 4 (.string hst) rfl;have p5:=rowAt hr1 5 (.int .i64 prt) rfl;have p6:=rowAt hr1 6 (.bool opq) rfl;have p7:=rowAt hr1 7 (.slice a xs.length c) rfl;have p8:=rowAt hr1 8 (.bool hq) rfl;have p9:=rowAt hr1 9 (.bool hf) rfl;have p10:=rowAt hr1 10 (.string qry) rfl;have p11:=rowAt hr1 11 (.string frg) rfl;have q0:=rowAt hr2 0 (.string sch2) rfl;have q1:=rowAt hr2 1 (.string usr2) rfl;have q2:=rowAt hr2 2 (.string pas2) rfl;have q3:=rowAt hr2 3 (.bool hh2) rfl;have q4:=rowAt hr2 4 (.string hst2) rfl;have q5:=rowAt hr2 5 (.int .i64 prt2) rfl;have q6:=rowAt hr2 6 (.bool opq2) rfl;have q7:=rowAt hr2 7 (.slice a2 xs2.length c2) rfl;have q8:=rowAt hr2 8 (.bool hq2) rfl;have q9:=rowAt hr2 9 (.bool hf2) rfl;have q10:=rowAt hr2 10 (.string qry2) rfl;have q11:=rowAt hr2 11 (.string frg2) rfl
               go_wp2_with fail
               refine hE2.out.mono ?_;rintro e w2 ⟨rfl,hb2⟩;have hb12:Below w1.heap.size w1 w2:=(((Below.refl _ w1).alloc (Nat.le_refl _) _).alloc (by simp) _).trans (hb2.mono (by simp<;>omega));have hb02:=below_call hb01 hb12;obtain⟨hs1,hs2⟩:=Hrow.out w2 (below_call hb1 hb12);have r3:=rowAt hs1 3 (.bool hh) rfl;have r5:=rowAt hs1 5 (.int .i64 prt) rfl;have r6:=rowAt hs1 6 (.bool opq) rfl;have r8:=rowAt hs1 8 (.bool hq) rfl;have r9:=rowAt hs1 9 (.bool hf) rfl;have s3:=rowAt hs2 3 (.bool hh2) rfl;have s5:=rowAt hs2 5 (.int .i64 prt2) rfl;have s6:=rowAt hs2 6 (.bool opq2) rfl;have s8:=rowAt hs2 8 (.bool hq2) rfl;have s9:=rowAt hs2 9 (.bool hf2) rfl
               go_wp2_with fail
               go_ret;exact⟨by rw[HQ.out];rfl,hb02⟩
end Go.Proofs.YtjhccadmmnjpeaaGreatDoor
