/-
  Package urls: Text.
-/
import Derived.Test.YtipndhbgehdeoaaGreatDoorQ28
set_option maxHeartbeats 8000000
set_option maxRecDepth 100000
namespace Go.Proofs.YtipndhbgehdeoaaGreatDoor
open Go.RowKit
theorem url_dec2 (a1 a2 a3 a5 a11 a12 b1 b2 b3 b5 b11 b12:List UInt8) (a4 a7 a9 a10 b4 b7 b9 b10:Bool) (a6 b6:Int) (a8 b8:List (List UInt8)):
  decide ((⟨a1,a2,a3,a4,a5,a6,a7,a8,a9,a10,a11,a12⟩:Lz.UrlL)=⟨b1,b2,b3,b4,b5,b6,b7,b8,b9,b10,b11,b12⟩)=(decide (a8=b8)&&(decide (a1=b1)&&(decide (a2=b2)&&(decide (a3=b3)&&((a4==b4)&&(decide (a5=b5)&&((a6==b6)&&((a7==b7)&&((a9==b9)&&((a10==b10)&&(decide (a11=b11)&&(decide (a12=b12)&&true)))))))))))):=by
 rw[Bool.eq_iff_iff];simp only[decide_eq_true_eq,Bool.and_eq_true,beq_iff_eq,Lz.UrlL.mk.injEq];constructor
 ·rintro⟨h1,h2,h3,h4,h5,h6,h7,h8,h9,h10,h11,h12⟩;exact⟨h8,h1,h2,h3,h4,h5,h6,h7,h9,h10,h11,h12,trivial⟩
 ·rintro⟨h8,h1,h2,h3,h4,h5,h6,h7,h9,h10,h11,h12,_⟩;exact⟨h1,h2,h3,h4,h5,h6,h7,h8,h9,h10,h11,h12⟩
theorem refSame_any (v1 v2:Value) (u1 u2:Lz.UrlL) (w:World) (h1:UrlVal w v1 u1) (h2:UrlVal w v2 u2) (hL:u1.path.length<=1000000000):Calls Tryz.prog 21 #[v1,v2] w (RBool (decide (u1=u2)) w):=by
 obtain⟨sch,usr,pas,hh,hst,prt,opq,a,c,xs,hq,hf,qry,frg,rfl,rfl,hx1⟩:=h1.form;obtain⟨sch2,usr2,pas2,hh2,hst2,prt2,opq2,a2,c2,xs2,hq2,hf2,qry2,frg2,rfl,rfl,hx2⟩:=h2.form;rw[url_dec2];obtain⟨W,hW⟩:∃W,W=(w.alloc (.cells #[.string sch,.string usr,.string pas,.bool hh,.string hst,.int .i64 prt,.bool opq,.slice a xs.length c,.bool hq,.bool hf,.string qry,.string frg] 25)).alloc (.cells #[.string sch2,.string usr2,.string pas2,.bool hh2,.string hst2,.int .i64 prt2,.bool opq2,.slice a2 xs2.length c2,.bool hq2,.bool hf2,.string qry2,.string frg2] 25):=⟨_,rfl⟩;have hbW:Below w.heap.size w W:=by rw[hW];exact((Below.refl _ w).alloc (Nat.le_refl _) _).alloc (by simp) _
 have hR1:W.heap[w.heap.size]? =some (.cells #[.string sch,.string usr,.string pas,.bool hh,.string hst,.int .i64 prt,.bool opq,.slice a xs.length c,.bool hq,.bool hf,.string qry,.string frg] 25 (0,0)):=by rw[hW,Below.heap_alloc _ _ _ (by simp)];exact heap_new _ _
 have hR2:W.heap[w.heap.size+1]? =some (.cells #[.string sch2,.string usr2,.string pas2,.bool hh2,.string hst2,.int .i64 prt2,.bool opq2,.slice a2 xs2.length c2,.bool hq2,.bool hf2,.string qry2,.string frg2] 25 (0,0)):=by rw[hW];exact heap_new2 _ _ _
 have hw1:=row_lt hR1;have hw2:=row_lt hR2;have hrow:∀w1,Below W.heap.size W w1->w1.heap[w.heap.size]? =some (.cells #[.string sch,.string usr,.string pas,.bool hh,.string hst,.int .i64 prt,.bool opq,.slice a xs.length c,.bool hq,.bool hf,.string qry,.string frg] 25 (0,0))/\w1.heap[w.heap.size+1]? =some (.cells #[.string sch2,.string usr2,.string pas2,.bool hh2,.string hst2,.int .i64 prt2,.bool opq2,.slice a2 xs2.length c2,.bool hq2,.bool hf2,.string qry2,.string frg2] 25 (0,0)):=fun w1 hb=>⟨(hb.block _ hw1).trans hR1,(hb.block _ hw2).trans hR2⟩;have t7:=rowAt hR1 7 (.slice a xs.length c) rfl;have s7:=rowAt hR2 7 (.slice a2 xs2.length c2) rfl;rw[List.length_map]at hL;rw[<-same_text sch sch2];obtain⟨e0,E0⟩:∃e,(sch.toList==sch2.toList)=e:=⟨_,rfl⟩;rw[E0];rw[<-same_text usr usr2];obtain⟨e1,E1⟩:∃e,(usr.toList==usr2.toList)=e:=⟨_,rfl⟩;rw[E1];rw[<-same_text pas pas2];obtain⟨e2,E2⟩:∃e,(pas.toList==pas2.toList)=e:=⟨_,rfl⟩;rw[E2];obtain⟨e3,E3⟩:∃e,(hh==hh2)=e:=⟨_,rfl⟩;rw[E3];rw[<-same_text hst hst2];obtain⟨e4,E4⟩:∃e,(hst.toList==hst2.toList)=e:=⟨_,rfl⟩;rw[E4];obtain⟨e5,E5⟩:∃e,(prt==prt2)=e:=⟨_,rfl⟩;rw[E5];obtain⟨e6,E6⟩:∃e,(opq==opq2)=e:=⟨_,rfl⟩;rw[E6];obtain⟨e7,E7⟩:∃e,(hq==hq2)=e:=⟨_,rfl⟩;rw[E7]
 obtain⟨e8,E8⟩:∃e,(hf==hf2)=e:=⟨_,rfl⟩;rw[E8];rw[<-same_text qry qry2];obtain⟨e9,E9⟩:∃e,(qry.toList==qry2.toList)=e:=⟨_,rfl⟩;rw[E9];rw[<-same_text frg frg2];obtain⟨e10,E10⟩:∃e,(frg.toList==frg2.toList)=e:=⟨_,rfl⟩;rw[E10];obtain⟨q,hqq⟩:∃q,q=(decide (xs.map (fun x:ByteArray=>x.data.toList)=xs2.map (fun x:ByteArray=>x.data.toList))&&(e0&&(e1&&(e2&&(e3&&(e4&&(e5&&(e6&&(e7&&(e8&&(e9&&(e10&&true)))))))))))):=⟨_,rfl⟩;rw[<-hqq];have Hq:=Ih hqq;have HW:=Ih hW;have Hrow:=Ih hrow;clear hqq hW hrow;by_cases hl:xs.length=xs2.length
 ·have hlI:((xs.length:Int) != (xs2.length:Int))=false:=by rw[hl];simp
  have Hl:=Ih hl;have Hx1:Hid (∀(j:Nat) (x:ByteArray),xs[j]? =some x->∃G o,a=some ⟨G,o,none⟩/\G<w.heap.size/\w.cell? ⟨G,o+j,none⟩=some (.string x)):=Ih hx1;have Hx2:Hid (∀(j:Nat) (x:ByteArray),xs2[j]? =some x->∃G o,a2=some ⟨G,o,none⟩/\G<w.heap.size/\w.cell? ⟨G,o+j,none⟩=some (.string x)):=Ih hx2;clear hl hx1 hx2;clear hR1 hR2;go_enter Tryz.func21,Tryz.ntmps21;simp only[List.append_eq,List.cons_append,List.nil_append]
  go_wp2_with (rw[<-HW.out])
  clear t7 s7
  go_loopw [5] (fun k wr=>∃i:Nat,k=.int .i64 i/\i<=xs.length/\Hid ((xs.map (fun x:ByteArray=>x.data.toList)).take i=(xs2.map (fun x:ByteArray=>x.data.toList)).take i)/\Below W.heap.size W wr) (fun k _=>xs.length-(intOf k).toNat)
  case atStart=>exact⟨0,rfl,Nat.zero_le _,Ih (by simp),Below.refl _ _⟩
  case round=>
   obtain⟨i,rfl,hi,hT,hbw⟩:=hrel;obtain⟨hr1,hr2⟩:=Hrow.out wr hbw;have hl1:=row_lt hr1;have hl2:=row_lt hr2;have p7:=rowAt hr1 7 (.slice a xs.length c) rfl;have q7:=rowAt hr2 7 (.slice a2 xs2.length c2) rfl;by_cases hlt:i<xs.length
   ·have hltI:(i:Int)<(xs.length:Int):=by omega
    have hlt2:i<xs2.length:=by rw[<-Hl.out];exact hlt
    have hltI2:(i:Int)<(xs2.length:Int):=by omega
    have hi0:(0:Int)<=(i:Int):=by omega
    obtain⟨x,hx⟩:∃x,x=xs[i]:=⟨_,rfl⟩;obtain⟨y,hy⟩:∃y,y=xs2[i]:=⟨_,rfl⟩;have hxg:xs[i]? =some x:=by rw[List.getElem?_eq_getElem hlt,hx]
    have hyg:xs2[i]? =some y:=by rw[List.getElem?_eq_getElem hlt2,hy]
    obtain⟨G1,o1,ha1,hG1,hc1⟩:=Hx1.out i x hxg;obtain⟨G2,o2,ha2,hG2,hc2⟩:=Hx2.out i y hyg;rw[ha1]at p7;rw[ha2]at q7;have hbw0:Below w.heap.size w wr:=hbW.trans (hbw.mono hbW.size);have d1:wr.cell? ⟨G1,o1+i,none⟩=some (.string x):=by rw[hbw0.cell (p:=⟨G1,o1+i,none⟩) hG1];exact hc1
    have d2:wr.cell? ⟨G2,o2+i,none⟩=some (.string y):=by rw[hbw0.cell (p:=⟨G2,o2+i,none⟩) hG2];exact hc2
    have hd:=same_text x y
    have hstep:(xs.map (fun x:ByteArray=>x.data.toList)).take (i+1)=(xs.map (fun x:ByteArray=>x.data.toList)).take i++[x.data.toList]/\(xs2.map (fun x:ByteArray=>x.data.toList)).take (i+1)=(xs2.map (fun x:ByteArray=>x.data.toList)).take i++[y.data.toList]:=by
     constructor
     ·rw[List.take_succ_eq_append_getElem (by simpa using hlt)];simp[hx]
     ·rw[List.take_succ_eq_append_getElem (by simpa using hlt2)];simp[hy]
    by_cases he:x.data.toList=y.data.toList
    ·rw[decide_eq_true he]at hd;have hT2:Hid ((xs.map (fun x:ByteArray=>x.data.toList)).take (i+1)=(xs2.map (fun x:ByteArray=>x.data.toList)).take (i+1)):=by show _=_;rw[hstep.1,hstep.2,hT.out,he]
     clear hx hy hxg hyg hc1 hc2 he hstep hT ha1 ha2 hr1 hr2
     go_wp2_with fail
     go_quiet (fail)
     have hbq:Below W.heap.size W (wr.drewN nq):=below_drewN hbw nq;generalize wr.drewN nq=wq at hbq⊢
     go_wp2_with fail
     go_roundw
     case rel=>exact⟨i+1,by go_num,by omega,hT2,hbq⟩
     case measure=>simp[intOf];omega
    ·rw[decide_eq_false he]at hd
     have HQ:Hid (q=false):=by
      show _=_;rw[Hq.out];rw[decide_eq_false (fun e=>he ?_),Bool.false_and];have h1:=congrArg (List.take (i+1)) e;rw[hstep.1,hstep.2,hT.out]at h1;simpa using List.append_cancel_left h1
     clear hx hy hxg hyg hc1 hc2 he hstep hT ha1 ha2 hr1 hr2
     go_wp2_with fail
     go_quiet (fail)
     have hbq:Below w.heap.size w (wr.drewN nq):=below_drewN hbw0 nq;generalize wr.drewN nq=wq at hbq⊢
     go_wp2_with fail
     go_ret;exact⟨by rw[HQ.out];rfl,hbq⟩
   ·have hltI:¬(i:Int)<(xs.length:Int):=by omega
    have hbw0:Below w.heap.size w wr:=hbW.trans (hbw.mono hbW.size)
    have Hq2:Hid (q=((e0&&(e1&&(e2&&(e3&&(e4&&(e5&&(e6&&(e7&&(e8&&(e9&&(e10&&true))))))))))))):=by
     show _=_;rw[Hq.out];rw[decide_eq_true,Bool.true_and];have h1:=hT.out;rw[List.take_of_length_le (by simp;omega),List.take_of_length_le (by have:=Hl.out;simp;omega)]at h1;exact h1
    clear hT Hq;have p0:=rowAt hr1 0 (.string sch) rfl;have q0:=rowAt hr2 0 (.string sch2) rfl;have p1:=rowAt hr1 1 (.string usr) rfl;have q1:=rowAt hr2 1 (.string usr2) rfl;have p2:=rowAt hr1 2 (.string pas) rfl;have q2:=rowAt hr2 2 (.string pas2) rfl;have p3:=rowAt hr1 3 (.bool hh) rfl;have q3:=rowAt hr2 3 (.bool hh2) rfl;have p4:=rowAt hr1 4 (.string hst) rfl;have q4:=rowAt hr2 4 (.string hst2) rfl;have p5:=rowAt hr1 5 (.int .i64 prt) rfl;have q5:=rowAt hr2 5 (.int .i64 prt2) rfl;have p6:=rowAt hr1 6 (.bool opq) rfl;have q6:=rowAt hr2 6 (.bool opq2) rfl;have p8:=rowAt hr1 8 (.bool hq) rfl;have q8:=rowAt hr2 8 (.bool hq2) rfl;have p9:=rowAt hr1 9 (.bool hf) rfl;have q9:=rowAt hr2 9 (.bool hf2) rfl;have p10:=rowAt hr1 10 (.string qry) rfl;have q10:=rowAt hr2 10 (.string qry2) rfl;have p11:=rowAt hr1 11 (.string frg) rfl;have q11:=rowAt hr2 11 (.string frg2) rfl;clear hr1 hr2;cases e0 with
    | false=>
      have HQ:Hid (q=false):=by show _=_;rw[Hq2.out];rfl
      clear Hq2
      go_wp2_with fail
      go_ret;exact⟨by rw[HQ.out];rfl,hbw0⟩
    | true=>
      cases e1 with
      | false=>
        have HQ:Hid (q=false):=by show _=_;rw[Hq2.out];rfl
        clear Hq2
        go_wp2_with fail
        go_ret;exact⟨by rw[HQ.out];rfl,hbw0⟩
      | true=>
        cases e2 with
        | false=>
          have HQ:Hid (q=false):=by show _=_;rw[Hq2.out];rfl
          clear Hq2
          go_wp2_with fail
          go_ret;exact⟨by rw[HQ.out];rfl,hbw0⟩
        | true=>
          cases e3 with
          | false=>
            have HQ:Hid (q=false):=by show _=_;rw[Hq2.out];rfl
            clear Hq2
            go_wp2_with fail
            go_ret;exact⟨by rw[HQ.out];rfl,hbw0⟩
          | true=>
            cases e4 with
            | false=>
              have HQ:Hid (q=false):=by show _=_;rw[Hq2.out];rfl
              clear Hq2
              go_wp2_with fail
              go_ret;exact⟨by rw[HQ.out];rfl,hbw0⟩
            | true=>
              cases e5 with
              | false=>
                have HQ:Hid (q=false):=by show _=_;rw[Hq2.out];rfl
                clear Hq2
                go_wp2_with fail
                go_ret;exact⟨by rw[HQ.out];rfl,hbw0⟩
              | true=>
                cases e6 with
                | false=>
                  have HQ:Hid (q=false):=by show _=_;rw[Hq2.out];rfl
                  clear Hq2
                  go_wp2_with fail
                  go_ret;exact⟨by rw[HQ.out];rfl,hbw0⟩
                | true=>
                  cases e7 with
                  | false=>
                    have HQ:Hid (q=false):=by show _=_;rw[Hq2.out];rfl
                    clear Hq2
                    go_wp2_with fail
                    go_ret;exact⟨by rw[HQ.out];rfl,hbw0⟩
                  | true=>
                    cases e8 with
                    | false=>
                      have HQ:Hid (q=false):=by show _=_;rw[Hq2.out];rfl
                      clear Hq2
                      go_wp2_with fail
                      go_ret;exact⟨by rw[HQ.out];rfl,hbw0⟩
                    | true=>
                      cases e9 with
                      | false=>
                        have HQ:Hid (q=false):=by show _=_;rw[Hq2.out];rfl
                        clear Hq2
                        go_wp2_with fail
                        go_ret;exact⟨by rw[HQ.out];rfl,hbw0⟩
                      | true=>
                        cases e10 with
                        | false=>
                          have HQ:Hid (q=false):=by show _=_;rw[Hq2.out];rfl
                          clear Hq2
                          go_wp2_with fail
                          go_ret;exact⟨by rw[HQ.out];rfl,hbw0⟩
                        | true=>
                          have HQ:Hid (q=true):=by show _=_;rw[Hq2.out];rfl
                          clear Hq2
                          go_wp2_with fail
                          go_ret;exact⟨by rw[HQ.out];rfl,hbw0⟩
 ·have hlI:((xs.length:Int) != (xs2.length:Int))=true:=by simp;omega
  have HQ:Hid (q=false):=by
   show _=_;rw[Hq.out];rw[decide_eq_false (fun e=>hl ?_),Bool.false_and];have:=congrArg List.length e;simpa using this
  clear hl hx1 hx2 hR1 hR2 Hq;go_enter Tryz.func21,Tryz.ntmps21;simp only[List.append_eq,List.cons_append,List.nil_append]
  go_wp2_with (rw[<-HW.out])
  go_ret;exact⟨by rw[HQ.out];rfl,hbW⟩
theorem lawSame_any (v1 v2:Value) (u1 u2:Lz.UrlL) (w:World) (h1:UrlVal w v1 u1) (h2:UrlVal w v2 u2) (hL:u1.path.length<=1000000000):Calls Tryz.prog 8 #[v1,v2] w (RBool (decide (u1=u2)) w):=by
 have hk1:∀W,Below w.heap.size w W->UrlVal W v1 u1:=fun W hb=>h1.below hb;have hk2:∀W,Below w.heap.size w W->UrlVal W v2 u2:=fun W hb=>h2.below hb;obtain⟨sch,usr,pas,hh,hst,prt,opq,a,c,xs,hq,hf,qry,frg,rfl,hu1,hx1⟩:=h1.form;obtain⟨sch2,usr2,pas2,hh2,hst2,prt2,opq2,a2,c2,xs2,hq2,hf2,qry2,frg2,rfl,hu2,hx2⟩:=h2.form;obtain⟨W,hW⟩:∃W,W=(w.alloc (.cells #[.string sch,.string usr,.string pas,.bool hh,.string hst,.int .i64 prt,.bool opq,.slice a xs.length c,.bool hq,.bool hf,.string qry,.string frg] 25)).alloc (.cells #[.string sch2,.string usr2,.string pas2,.bool hh2,.string hst2,.int .i64 prt2,.bool opq2,.slice a2 xs2.length c2,.bool hq2,.bool hf2,.string qry2,.string frg2] 25):=⟨_,rfl⟩;have hbW:Below w.heap.size w W:=by rw[hW];exact((Below.refl _ w).alloc (Nat.le_refl _) _).alloc (by simp) _
 have hR1:W.heap[w.heap.size]? =some (.cells #[.string sch,.string usr,.string pas,.bool hh,.string hst,.int .i64 prt,.bool opq,.slice a xs.length c,.bool hq,.bool hf,.string qry,.string frg] 25 (0,0)):=by rw[hW,Below.heap_alloc _ _ _ (by simp)];exact heap_new _ _
 have hR2:W.heap[w.heap.size+1]? =some (.cells #[.string sch2,.string usr2,.string pas2,.bool hh2,.string hst2,.int .i64 prt2,.bool opq2,.slice a2 xs2.length c2,.bool hq2,.bool hf2,.string qry2,.string frg2] 25 (0,0)):=by rw[hW];exact heap_new2 _ _ _
 have cS:=Ih (refSame_any _ _ _ _ W (hk1 W hbW) (hk2 W hbW) hL);generalize decide (u1=u2)=q at cS⊢;have HW:=Ih hW;have HR1:=Ih hR1;have HR2:=Ih hR2;clear hW hR1 hR2 hk1 hk2 h1 h2 hu1 hu2 hx1 hx2 hL;go_enter Tryz.func8,Tryz.ntmps8
 go_wp2_with (first |rw[<-HW.out]|(refine wpList_load_row rfl 25 (.tmp 2) rfl w.heap.size rfl 25 _ (0,0) _ HR1.out Tryz.underlying25 rfl urlSize ?_)|(refine wpList_load_row rfl 25 (.tmp 3) rfl (w.heap.size+1) rfl 25 _ (0,0) _ HR2.out Tryz.underlying25 rfl urlSize ?_))
 refine cS.out.mono ?_;rintro e w1 ⟨rfl,hb1⟩
 go_wp2_with fail
 go_ret;exact⟨rfl,below_call hbW hb1⟩
theorem decDigits_len2:∀(k n:Nat),n<10^(k+1)->(Lib.decDigits n).length<=k+1
 | 0,n,h=>by rw[Lib.decDigits,dif_pos (by simpa using h)];simp
 | k+1,n,h=>by
   rw[Lib.decDigits];split
   ·simp
   ·rw[List.length_append];have:=decDigits_len2 k (n / 10) (by rw[Nat.pow_succ]at h;omega)
    simp
    omega
theorem itoa_len2 {n:Int} (h0: -9223372036854775808<=n) (h1:n<=9223372036854775807):(Lib.itoa n).length<=21:=by
 unfold Lib.itoa;split
 ·have:=decDigits_len2 19 n.natAbs (by omega)
  simp
  omega
 ·have:=decDigits_len2 19 n.toNat (by omega);omega
def AtE (w1 W:World):Prop:=EnvH W/\Below w1.heap.size w1 W
def AtS (hst:ByteArray) (prt:Int) (B:Nat) (w W:World):Prop:=W.cell? ⟨B,4,none⟩=some (.string hst)/\W.cell? ⟨B,5,none⟩=some (.int .i64 prt)/\AtE w W
theorem at_any (v:Value) (u:Lz.UrlL) (w:World) (hv:UrlVal w v u) (hE:EnvH w) (h0: -9223372036854775808<=u.port) (h1:u.port<=9223372036854775807) (hL:u.host.length<=1000000000):Calls Tryz.prog 23 #[v] w (RStr (Lz.atU u) w):=by
 obtain⟨sch,usr,pas,hh,hst,prt,opq,a,c,xs,hq,hf,qry,frg,rfl,rfl,hx⟩:=hv.form;replace h0: -9223372036854775808<=prt:=h0;replace h1:prt<=9223372036854775807:=h1;replace hL:hst.data.toList.length<=1000000000:=hL;rw[len_of_size]at hL;obtain⟨goal,hg⟩:∃goal,goal=Lz.atU ⟨sch.data.toList,usr.data.toList,pas.data.toList,hh,hst.data.toList,prt,opq,xs.map (fun x:ByteArray=>x.data.toList),hq,hf,qry.data.toList,frg.data.toList⟩:=⟨_,rfl⟩;rw[<-hg];have hg2:goal=if prt= -1 then hst.data.toList else hst.data.toList++[58]++Lib.itoa prt:=hg;have HG:=Ih hg2;obtain⟨W,hW⟩:∃W,W=w.alloc (.cells #[.string sch,.string usr,.string pas,.bool hh,.string hst,.int .i64 prt,.bool opq,.slice a xs.length c,.bool hq,.bool hf,.string qry,.string frg] 25):=⟨_,rfl⟩;have hbW:Below w.heap.size w W:=by rw[hW];exact(Below.refl _ w).alloc (Nat.le_refl _) _
 have hR:W.heap[w.heap.size]? =some (.cells #[.string sch,.string usr,.string pas,.bool hh,.string hst,.int .i64 prt,.bool opq,.slice a xs.length c,.bool hq,.bool hf,.string qry,.string frg] 25 (0,0)):=by rw[hW];exact heap_new _ _
 have hlt:=row_lt hR;have c4:=rowAt hR 4 (.string hst) rfl;have c5:=rowAt hR 5 (.int .i64 prt) rfl;have HW:=Ih hW;have HE:=Ih (hE.below hbW);clear hW hR hv hx hg hg2 hE;by_cases hp:prt= -1
 ·have hpb:(prt== -1)=true:=by simp[hp]
  have HG2:Hid (goal=hst.data.toList):=by show _=_;rw[HG.out,if_pos hp]
  clear hp;go_enter Tryz.func23,Tryz.ntmps23
  go_wp2_with (rw[<-HW.out])
  go_ret;exact⟨hst,rfl,Ih HG2.out.symm,hbW⟩
 ·have hpb:(prt== -1)=false:=by simp[hp]
  have HG2:Hid (goal=hst.data.toList++[58]++Lib.itoa prt):=by show _=_;rw[HG.out,if_neg hp]
  clear hp;have n1:¬(9223372036854775807<hst.size+1):=by omega
  have hSd:AtS hst prt w.heap.size W W.drew:=⟨c4,c5,HE.out.below (Below.refl _ _).drew,(Below.refl _ _).drew⟩
  have cI:Hid (∀V,AtS hst prt w.heap.size W V->Calls Tryz.prog 46 #[.int .i64 prt] V fun e w'=>∃u:ByteArray,e=.returned (.string u)/\Hid (u.data.toList=Lib.itoa prt)/\u.size<=21/\AtS hst prt w.heap.size W w'):=Ih (by
   rintro V ⟨k4,k5,kE,kb⟩;refine(Itoa_h prt h0 h1 V kE).mono ?_;rintro e w' ⟨u,he,hu,hb'⟩;have hlt':=Nat.lt_of_lt_of_le hlt kb.size;exact⟨u,he,hu,by rw[<-len_of_size,hu.out];exact itoa_len2 h0 h1,by rw[hb'.cell (p:=⟨w.heap.size,4,none⟩) hlt'];exact k4,by rw[hb'.cell (p:=⟨w.heap.size,5,none⟩) hlt'];exact k5,kE.below hb',below_call kb hb'⟩)
  go_enter Tryz.func23,Tryz.ntmps23
  go_wp2_with (rw[<-HW.out])
  go_upto_region 3 with fail
  go_cut [2] (fun s wx=>∃u:ByteArray,s=.string u/\Hid (u.data.toList=goal)/\Below w.heap.size w wx)
  case first=>
   go_region_held3 (fun V=>V.cell? ⟨w.heap.size,4,none⟩=some (.string hst)/\V.cell? ⟨w.heap.size,5,none⟩=some (.int .i64 prt)/\AtE W V) (first |assumption|exact hSd) (first |(go_at_call 46;refine(cI.out _ (by assumption)).mono ?_;rintro e w2 ⟨t,rfl,ht,hs,hS2⟩;have n2:¬(9223372036854775807<hst.size+1+t.size):=(by omega)))
   go_wp2_with fail
   go_meet;exact⟨_,rfl,by show _=_;rw[HG2.out,append_data',append_data',ht.out],hbW.trans (hS2.2.2.2.mono hbW.size)⟩
  case rest=>
   obtain⟨u,rfl,hu,hb⟩:=hcut
   go_wp2_with fail
   go_ret;exact⟨_,rfl,hu,hb⟩
theorem IsBuilder_below {T e:TypeId} {B b:Nat} {bs:List Value} {w w':World} (h:Lib.IsBuilder T e B b bs w) (hb:Below w.heap.size w w'):Lib.IsBuilder T e B b bs w':=by
 have go:∀p,Lib.BuilderAt T e B b p bs w->Lib.BuilderAt T e B b p bs w':=by
  intro p hp;have hlt:=hp.lt;obtain⟨h1,v,hk,hown,hne⟩:=hp;exact⟨h1,v,(hb.block _ hlt).trans hk,hown.kept (below_grown hb) (by cases v.ownBlock<;>simp),hne⟩
 rcases h with h|h
 ·exact Or.inl (go _ h)
 ·exact Or.inr (go _ h)
structure TB (b:Nat) (W0:World) (l:List UInt8) (W:World):Prop where
 made:Lib.IsBuilder 46 5 b b (Lib.byteCells l) W
 below:Below b W0 W
theorem TB.write {b:Nat} {W0 W:World} {l:List UInt8} (h:TB b W0 l W) (hb:b<=W0.heap.size) (s:ByteArray) (hl:l.length+s.size<=100000000000):
  Calls Tryz.prog 22 #[.pointer (some ⟨b,0,none⟩),.string s] W fun e w'=>e=.returned (.tuple #[.int .i64 s.size,.nilIface])/\TB b W0 (l++s.data.toList) w':=by
 refine(WriteString_any b b (Lib.byteCells l) s W h.made (by simp[Lib.byteCells];omega) (Nat.le_trans hb h.below.size)).mono ?_;rintro e w' ⟨rfl,hm,hbw⟩;exact⟨rfl,by rw[byteCells_append];exact hm,h.below.trans hbw⟩
theorem TB.call {b:Nat} {W0 W W':World} {l:List UInt8} (h:TB b W0 l W) (hb:b<=W0.heap.size) (hbw:Below W.heap.size W W'):TB b W0 l W':=
 ⟨IsBuilder_below h.made hbw,h.below.trans (hbw.mono (Nat.le_trans hb h.below.size))⟩
theorem TB.str {b:Nat} {W0 W:World} {l:List UInt8} (h:TB b W0 l W) (hb:b<=W0.heap.size):
  Calls Tryz.prog 24 #[.pointer (some ⟨b,0,none⟩)] W fun e w'=>e=.returned (.string ⟨l.toArray⟩)/\Below b W0 w':=by
 refine(Tryz.Builder_String_any b b l W h.made (Nat.le_trans hb h.below.size)).mono ?_;rintro e w' ⟨rfl,hbw⟩;exact⟨rfl,h.below.trans hbw⟩
theorem size_one (c:UInt8):(⟨#[c]⟩:ByteArray).size=1:=rfl
theorem size_two (c d:UInt8):(⟨#[c,d]⟩:ByteArray).size=2:=rfl
theorem emp_dec (s:ByteArray):s.toList.isEmpty=decide (s.data.toList=[]):=by
 by_cases h:s.data.toList=[]
 ·rw[decide_eq_true h];exact isEmpty_of_size (by rw[<-len_of_size,h];rfl)
 ·rw[decide_eq_false h];exact isEmpty_of_pos (by rw[<-len_of_size];exact List.length_pos_iff.2 h)
def partsH (u:Lz.UrlL):List UInt8:=(if u.hasHost then[47,47]++u.user++(if u.pass=[]then[]else[58]++u.pass)++(if u.user=[]/\u.pass=[]then[]else[64])++Lz.atU u
 else if u.opq=false/\1<u.path.length/\u.path.head? =some []then[47,46]else[])
def partsP (opq:Bool) (l:List (List UInt8)):List UInt8:=if opq then l.headD []else l.flatMap fun p=>47::p
theorem text_parts (u:Lz.UrlL):Lz.textU u=u.scheme++[58]++partsH u++partsP u.opq u.path++(if u.hasQuery then 63::u.query else[])++(if u.hasFragment then 35::u.fragment else[]):=rfl
theorem partsP_le (opq:Bool) (l:List (List UInt8)) (i:Nat):(partsP opq (l.take i)).length<=(partsP opq l).length:=by
 unfold partsP;cases opq with
 | true=>
   cases l with
   | nil=>simp
   | cons a r=>cases i<;>simp
 | false=>
   simp only[Bool.false_eq_true,if_false]
   conv=>rhs;rw[<-List.take_append_drop i l,List.flatMap_append]
   simp
theorem partsP_step {l:List (List UInt8)} {i:Nat} (h:i<l.length):partsP false (l.take (i+1))=partsP false (l.take i)++[47]++l[i]:=by
 unfold partsP;simp only[Bool.false_eq_true,if_false];rw[List.take_succ_eq_append_getElem h,List.flatMap_append]
 simp
theorem partsP_zero {l:List (List UInt8)} (h:0<l.length):partsP true (l.take 1)=l[0]:=by
 cases l with
 | nil=>simp at h
 | cons a r=>rfl
theorem partsP_more {l:List (List UInt8)} {i:Nat} (h:0<i):partsP true (l.take (i+1))=partsP true (l.take i):=by
 cases l with
 | nil=>simp
 | cons a r=>
   obtain⟨j,rfl⟩:∃j,i=j+1:=⟨i-1,by omega⟩;rfl
theorem Text_any (v:Value) (u:Lz.UrlL) (w:World) (hv:UrlVal w v u) (hE:EnvH w) (hp0: -9223372036854775808<=u.port) (hp1:u.port<=9223372036854775807) (hH:u.host.length<=1000000000) (hT:(Lz.textU u).length<=1000000000) (hN:u.path.length<=1000000000):Calls Tryz.prog 9 #[v] w (RStr (Lz.textU u) w):=by
 have hv0:=hv;obtain⟨sch,usr,pas,hh,hst,prt,opq,a,c,xs,hq,hf,qry,frg,rfl,hu,hx⟩:=hv.form;rw[text_parts]at hT⊢;have hA:=Ih (fun(V:World) (hb:Below w.heap.size w V)=>at_any _ u V (hv0.below hb) (hE.below hb) hp0 hp1 hH);obtain⟨AT,hAT⟩:∃AT,Lz.atU u=AT:=⟨_,rfl⟩;rw[hAT]at hA;obtain⟨PH,hPH⟩:∃PH,PH=partsH u:=⟨_,rfl⟩;have hPH2:PH=(if hh then[47,47]++usr.data.toList++(if pas.data.toList=[]then[]else[58]++pas.data.toList)++(if usr.data.toList=[]/\pas.data.toList=[]then[]else[64])++AT else if opq=false/\1<xs.length/\xs.head?.map (fun x:ByteArray=>x.data.toList)=some []then[47,46]else[]):=by rw[hPH,<-hAT,hu];simp[partsH,List.head?_map]
 have hPP:partsP u.opq u.path=partsP opq (xs.map fun x:ByteArray=>x.data.toList):=by rw[hu]
 rw[<-hPH,hPP]at hT⊢;have e1:u.scheme=sch.data.toList:=by rw[hu]
 have e2:u.hasQuery=hq:=by rw[hu]
 have e3:u.query=qry.data.toList:=by rw[hu]
 have e4:u.hasFragment=hf:=by rw[hu]
 have e5:u.fragment=frg.data.toList:=by rw[hu]
 have e6:u.path.length=xs.length:=by rw[hu];simp
 rw[e1,e2,e3,e4,e5]at hT⊢;rw[e6]at hN;obtain⟨PP,hPPd⟩:∃PP,PP=partsP opq (xs.map fun x:ByteArray=>x.data.toList):=⟨_,rfl⟩;rw[<-hPPd]at hT⊢;obtain⟨goal,hg⟩:∃goal,goal=sch.data.toList++[58]++PH++PP++(if hq then 63::qry.data.toList else[])++(if hf then 35::frg.data.toList else[]):=⟨_,rfl⟩;rw[<-hg]at hT⊢;have HG:=Ih hg;have HPP:=Ih hPPd;have HPH:=Ih hPH2
 have hsum:sch.size+1+PH.length+PP.length+(if hq then 1+qry.size else 0)+(if hf then 1+frg.size else 0)<=1000000000:=by
  rw[hg]at hT;simp only[List.length_append,List.length_cons,List.length_nil]at hT;rw[len_of_size]at hT;have h1:(if hq then 63::qry.data.toList else[]).length=(if hq then 1+qry.size else 0):=by split<;>simp<;>first |rfl|omega
  have h2:(if hf then 35::frg.data.toList else[]).length=(if hf then 1+frg.size else 0):=by split<;>simp<;>first |rfl|omega
  omega
 have hc0:sch.size+1<=1000000000:=by omega
 have hcH:sch.size+1+PH.length<=1000000000:=by omega
 have hcP:sch.size+1+PH.length+PP.length<=1000000000:=by omega
 have HSum:=Ih hsum;clear hAT;obtain⟨W,hW⟩:∃W,W=(w.alloc (.cells #[.string sch,.string usr,.string pas,.bool hh,.string hst,.int .i64 prt,.bool opq,.slice a xs.length c,.bool hq,.bool hf,.string qry,.string frg] 25)).alloc (.cells #[.pointer none,.slice none 0 0] 46):=⟨_,rfl⟩;obtain⟨b,hbd⟩:∃b,b=w.heap.size+1:=⟨_,rfl⟩;have hbW:Below w.heap.size w W:=by rw[hW];exact((Below.refl _ w).alloc (Nat.le_refl _) _).alloc (by simp) _
 have hR:W.heap[w.heap.size]? =some (.cells #[.string sch,.string usr,.string pas,.bool hh,.string hst,.int .i64 prt,.bool opq,.slice a xs.length c,.bool hq,.bool hf,.string qry,.string frg] 25 (0,0)):=by rw[hW,Below.heap_alloc _ _ _ (by simp)];exact heap_new _ _
 have hbz:b<=W.heap.size:=by rw[hW,hbd];simp
 have hGb:w.heap.size<b:=by omega
 have T0:TB b W [] W:=⟨by
  have:=Lib.fresh_isBuilder 46 5 (w.alloc (.cells #[.string sch,.string usr,.string pas,.bool hh,.string hst,.int .i64 prt,.bool opq,.slice a xs.length c,.bool hq,.bool hf,.string qry,.string frg] 25));rw[hW,hbd];simpa [Lib.byteCells]using this,Below.refl _ _⟩
 have hrow:∀V,Below b W V->V.heap[w.heap.size]? =some (.cells #[.string sch,.string usr,.string pas,.bool hh,.string hst,.int .i64 prt,.bool opq,.slice a xs.length c,.bool hq,.bool hf,.string qry,.string frg] 25 (0,0)):=fun V hb=>(hb.block _ hGb).trans hR;have hbel:∀V,Below b W V->Below w.heap.size w V:=fun V hb=>hbW.trans (hb.mono (by omega));have HW:=Ih hW;have Hrow:=Ih hrow;have HX:Hid (∀(j:Nat) (x:ByteArray),xs[j]? =some x->∃G o,a=some ⟨G,o,none⟩/\G<w.heap.size/\w.cell? ⟨G,o+j,none⟩=some (.string x)):=Ih hx;have HBd:=Ih hbd;have Hbel:=Ih hbel;obtain⟨eP,hEP⟩:∃e,pas.toList.isEmpty=e:=⟨_,rfl⟩;obtain⟨eU,hEU⟩:∃e,usr.toList.isEmpty=e:=⟨_,rfl⟩;have HEP:Hid (eP=decide (pas.data.toList=[])):=by show _=_;rw[<-hEP];exact emp_dec pas
 have HEU:Hid (eU=decide (usr.data.toList=[])):=by show _=_;rw[<-hEU];exact emp_dec usr
 have p0:=rowAt hR 0 (.string sch) rfl;have n0:¬(9223372036854775807<sch.size+1):=by omega
 have c0:=Ih (T0.write hbz (sch++⟨#[58]⟩) (by simp[size_one];omega));clear hW hR hbd hrow hbel hx hv hv0 hu hPH hPH2 hPP e1 e2 e3 e4 e5 e6 hPPd hg hsum hT T0 hE hp0 hp1 hH;go_enter Tryz.func9,Tryz.ntmps9
 go_upto_block 0 with(first |rw[<-HW.out]|(rw[<-HBd.out];refine c0.out.mono ?_;rintro e w1 ⟨rfl,T1⟩))
 rw[List.nil_append,append_data']at T1;have T1h:=Ih T1;have hr1:=Hrow.out w1 T1.below;clear T1 p0 c0
 go_cut [] (fun wx=>TB b W (sch.data.toList++[58]++PH) wx)
 case first=>
  cases hh with
  | true=>
    have hPH2:PH=[47,47]++usr.data.toList++(if eP then[]else[58]++pas.data.toList)++(if eU&&eP then[]else[64])++AT:=by
     rw[HPH.out,HEP.out,HEU.out]
     simp
    have hlH:PH.length=2+usr.size+(if eP then 0 else 1+pas.size)+(if eU&&eP then 0 else 1)+AT.length:=by
     rw[hPH2];simp only[List.length_append,len_of_size,List.length_cons,List.length_nil];have h1:(if eP=true then([]:List UInt8)else[58]++pas.data.toList).length=(if eP=true then 0 else 1+pas.size):=by split<;>simp<;>omega
     have h2:(if(eU&&eP)=true then([]:List UInt8)else[64]).length=(if(eU&&eP)=true then 0 else 1):=by split<;>simp
     omega
    have HPH2:=Ih hPH2;have hus:2+usr.size<=PH.length:=by omega
    have n2:¬(9223372036854775807<2+usr.size):=by omega
    have c2:=Ih (T1h.out.write hbz (⟨#[47,47]⟩++usr) (by simp[size_two];omega));have hlH2:=Ih hlH;have p3:=rowAt hr1 3 (.bool true) rfl;have p1:=rowAt hr1 1 (.string usr) rfl;clear HPH n0 hPH2 hlH hr1;obtain⟨e7,he7⟩:∃e7,e7=(eU&&eP):=⟨_,rfl⟩;have HE7:=Ih he7;clear he7
    go_wp2_with fail
    refine c2.out.mono ?_;rintro e w2 ⟨rfl,T2⟩;rw[append_data']at T2;have hr2:=Hrow.out w2 T2.below;have q2:=rowAt hr2 2 (.string pas) rfl;have T2h:=Ih T2;clear T2 c2 p1 p3 hr2
    go_upto_if 19 with fail
    go_cut [] (fun wx=>TB b W (sch.data.toList++[58]++([47,47]++usr.data.toList)++(if eP then[]else[58]++pas.data.toList)) wx)
    case first=>
     cases eP with
     | true=>
       go_wp2_with fail
       go_meet;simpa using T2h.out
     | false=>
       have hlp:2+usr.size+(1+pas.size)<=PH.length:=by have:=hlH2.out;simp at this;omega
       have n3:¬(9223372036854775807<1+pas.size):=by omega
       have c3:=Ih (T2h.out.write hbz (⟨#[58]⟩++pas) (by simp[size_one];omega))
       go_wp2_with fail
       refine c3.out.mono ?_;rintro e w3 ⟨rfl,T3⟩;rw[append_data']at T3
       go_wp2_with fail
       go_meet;simpa using T3
    case rest=>
    have T3h:=Ih hcut;have hr3:=Hrow.out wc hcut.below;clear hcut T2h q2;have k1:=rowAt hr3 1 (.string usr) rfl;have k2:=rowAt hr3 2 (.string pas) rfl
    go_upto_region 7 with fail
    go_cut [31] (fun s wx=>s=.bool (!e7)/\wc=wx)
    case first=>
     cases eU with
     | true=>
       cases eP with
       | true=>
         have HE:Hid (e7=true):=Ih HE7.out
         go_wp2_with fail
         go_meet;exact⟨by rw[HE.out];rfl,rfl⟩
       | false=>
         have HE:Hid (e7=false):=Ih HE7.out
         go_wp2_with fail
         go_meet;exact⟨by rw[HE.out];rfl,rfl⟩
     | false=>
       have HE:Hid (e7=false):=Ih HE7.out
       go_wp2_with fail
       go_meet;exact⟨by rw[HE.out];rfl,rfl⟩
    case rest=>
    obtain⟨rfl,rfl⟩:=hcut;clear k1 k2;have hl7:2+usr.size+(if eP=true then 0 else 1+pas.size)+(if e7=true then 0 else 1)+AT.length=PH.length:=by rw[HE7.out];exact hlH2.out.symm
    have hl3:(sch.data.toList++[58]++([47,47]++usr.data.toList)++(if eP then[]else[58]++pas.data.toList)).length+1+(if e7=true then 0 else 1)+AT.length<=2000000000:=by
     simp only[List.length_append,len_of_size,List.length_cons,List.length_nil];have h1:(if eP=true then([]:List UInt8)else[58]++pas.data.toList).length=(if eP=true then 0 else 1+pas.size):=by split<;>simp<;>omega
     omega
    have HPH3:Hid (sch.data.toList++[58]++PH=sch.data.toList++[58]++([47,47]++usr.data.toList)++(if eP then[]else[58]++pas.data.toList)++(if e7 then[]else[64])++AT):=by
     show _=_;rw[HPH2.out,HE7.out];simp only[List.append_assoc]
    generalize hL3:sch.data.toList++[58]++([47,47]++usr.data.toList)++(if eP then[]else[58]++pas.data.toList)=L3 at T3h hl3 HPH3;clear hL3 hl7 hlH2 HPH2 HE7
    go_upto_if 31 with fail
    go_cut [] (fun wx=>TB b W (L3++(if e7 then[]else[64])) wx)
    case first=>
     cases e7 with
     | true=>
       go_wp2_with fail
       go_meet;simpa using T3h.out
     | false=>
       have c4:=Ih (T3h.out.write hbz ⟨#[64]⟩ (by simp[size_one];omega))
       go_wp2_with fail
       refine c4.out.mono ?_;rintro e w4 ⟨rfl,T4⟩
       go_wp2_with fail
       go_meet;simpa using T4
    case rest=>
    have T4h:=Ih hcut;have Hr4:=Ih (Hrow.out wc hcut.below);have cA:=Ih (hA.out wc (Hbel.out wc hcut.below));clear hcut T3h hr3
    go_wp2_with (refine wpList_load_row rfl 25 (.tmp 1) rfl w.heap.size rfl 25 _ (0,0) _ Hr4.out Tryz.underlying25 rfl urlSize ?_)
    refine cA.out.mono ?_;rintro e w5 ⟨t,rfl,ht,hb5⟩;have hts:t.size=AT.length:=by rw[<-len_of_size,ht.out]
    have T5:=T4h.out.call hbz hb5
    have c5:=Ih (T5.write hbz t (by
     have h2:(if e7=true then([]:List UInt8)else[64]).length=(if e7=true then 0 else 1):=by split<;>simp
     rw[List.length_append];omega))
    clear T5
    go_wp2_with fail
    refine c5.out.mono ?_;rintro e w6 ⟨rfl,T6⟩
    go_wp2_with fail
    go_meet;rw[HPH3.out,<-ht.out];exact T6
  | false=>
    have p3:=rowAt hr1 3 (.bool false) rfl;obtain⟨q10,hq10⟩:∃q10,q10=decide (opq=false/\1<xs.length/\xs.head?.map (fun x:ByteArray=>x.data.toList)=some []):=⟨_,rfl⟩;have HQ:=Ih hq10
    have HPH2:Hid (PH=if q10 then[47,46]else[]):=by
     show _=_;rw[HPH.out,hq10]
     simp
    clear hq10 HPH;have p6:=rowAt hr1 6 (.bool opq) rfl;have p7:=rowAt hr1 7 (.slice a xs.length c) rfl
    go_upto_region 10 with fail
    go_cut [36] (fun s wx=>s=.bool q10/\w1=wx)
    case first=>
     cases opq with
     | true=>
       have HQ2:Hid (q10=false):=by show _=_;rw[HQ.out];simp
       go_wp2_with fail
       go_meet;exact⟨by rw[HQ2.out],rfl⟩
     | false=>
       by_cases h1:1<xs.length
       ·have h1I:(1:Int)<(xs.length:Int):=by omega
        have h0I:(0:Int)<(xs.length:Int):=by omega
        obtain⟨x0,hx0⟩:∃x0,xs[0]? =some x0:=⟨_,List.getElem?_eq_getElem (by omega)⟩;obtain⟨G1,o1,ha1,hG1,hc1⟩:=HX.out 0 x0 hx0;have d1:w1.cell? ⟨G1,o1,none⟩=some (.string x0):=by rw[(Hbel.out w1 T1h.out.below).cell (p:=⟨G1,o1,none⟩) hG1];exact hc1
        rw[ha1]at p7;obtain⟨e0,he0⟩:∃e,x0.toList.isEmpty=e:=⟨_,rfl⟩
        have HQ2:Hid (q10=e0):=by
         show _=_;rw[HQ.out,<-he0,emp_dec,List.head?_eq_getElem?,hx0]
         simp[h1]
        clear ha1 hx0 hc1 h1 HQ hr1;cases e0 with
        | true=>
          go_wp2_with fail
          go_meet;exact⟨by rw[HQ2.out],rfl⟩
        | false=>
          go_wp2_with fail
          go_meet;exact⟨by rw[HQ2.out],rfl⟩
       ·have h1I:¬(1:Int)<(xs.length:Int):=by omega
        have HQ2:Hid (q10=false):=by show _=_;rw[HQ.out];simp[h1]
        clear h1 HQ hr1
        go_wp2_with fail
        go_meet;exact⟨by rw[HQ2.out],rfl⟩
    case rest=>
    obtain⟨rfl,rfl⟩:=hcut;cases q10 with
    | true=>
      have c2:=Ih (T1h.out.write hbz ⟨#[47,46]⟩ (by simp[size_two];omega))
      go_wp2_with fail
      refine c2.out.mono ?_;rintro e w2 ⟨rfl,T2⟩
      go_wp2_with fail
      go_meet;rw[HPH2.out];exact T2
    | false=>
      go_wp2_with fail
      go_meet;rw[HPH2.out];simpa using T1h.out
 case rest=>
 have T2h:=Ih hcut;have hr2:=Hrow.out wc hcut.below;have p7:=rowAt hr2 7 (.slice a xs.length c) rfl;have hlL:(sch.data.toList++[58]++PH).length=sch.size+1+PH.length:=by rw[List.length_append,List.length_append,len_of_size];rfl
 generalize hLL:sch.data.toList++[58]++PH=L at T2h hlL HG;clear hcut T1h hr1 hLL hr2
 go_upto_block 1 with fail
 go_cut [] (fun wx=>TB b W (L++PP) wx)
 case first=>
  by_cases h0:xs.length=0
  ·have h0I:¬(0:Int)<(xs.length:Int):=by omega
   have HP2:Hid (PP=[]):=by
    show _=_;rw[HPP.out,List.length_eq_zero_iff.1 h0];cases opq<;>rfl
   clear h0
   go_wp2_with fail
   refine wp_loop_rounds 1 ?_;rw[rounds_succ]
   go_wp2_with fail
   go_meet;rw[HP2.out,List.append_nil];exact T2h.out
  ·obtain⟨G1,o1,rfl,hG1,hc1⟩:=HX.out 0 xs[0] (List.getElem?_eq_getElem (by omega));clear hc1
   have HX2:Hid (∀(j:Nat) (x:ByteArray),xs[j]? =some x->w.cell? ⟨G1,o1+j,none⟩=some (.string x)):=Ih (fun j x hj=>by
    obtain⟨G,o,e,_,hc⟩:=HX.out j x hj;injection e with e;injection e with e1 e2 _
    subst e1;subst e2;exact hc)
   clear h0;have HCP:=Ih hcP
   go_wp2_with fail
   go_loopw [57] (fun k wr=>∃i:Nat,k=.int .i64 i/\i<=xs.length/\TB b W (L++partsP opq ((xs.map fun x:ByteArray=>x.data.toList).take i)) wr) (fun k _=>xs.length-(intOf k).toNat)
   case atStart=>exact⟨0,rfl,Nat.zero_le _,by rw[List.take_zero];cases opq<;>simpa [partsP]using T2h.out⟩
   case round=>
    obtain⟨i,rfl,hi,TL⟩:=hrel;have hrr:=Hrow.out wr TL.below;have p6o:=rowAt hrr 6 (.bool opq) rfl;have hww:=Hbel.out wr TL.below;have TLh:=Ih TL;clear TL hrr;by_cases hlt:i<xs.length
    ·have hltI:(i:Int)<(xs.length:Int):=by omega
     have hi0:(0:Int)<=(i:Int):=by omega
     obtain⟨x,hx⟩:∃x,x=xs[i]:=⟨_,rfl⟩;have hxg:xs[i]? =some x:=by rw[List.getElem?_eq_getElem hlt,hx]
     have hc1:=HX2.out i x hxg;have d1:wr.cell? ⟨G1,o1+i,none⟩=some (.string x):=by rw[hww.cell (p:=⟨G1,o1+i,none⟩) hG1];exact hc1
     have hxm:(xs.map fun x:ByteArray=>x.data.toList)[i]'(by simpa using hlt)=x.data.toList:=by simp[hx]
     have hPl:(partsP opq ((xs.map fun x:ByteArray=>x.data.toList).take (i+1))).length<=PP.length:=by rw[HPP.out];exact partsP_le _ _ _
     obtain⟨o2,ho2⟩:∃o,o=opq:=⟨_,rfl⟩;have HO:=Ih ho2;have p6:wr.cell? ⟨w.heap.size,6,none⟩=some (.bool o2):=by rw[ho2];exact p6o
     clear ho2 p6o hxg hc1 hx;cases o2 with
     | false=>
       have hst:partsP opq ((xs.map fun x:ByteArray=>x.data.toList).take (i+1))=partsP opq ((xs.map fun x:ByteArray=>x.data.toList).take i)++[47]++x.data.toList:=by rw[<-HO.out,partsP_step (by simpa using hlt),hxm]
       have hln:(L++partsP opq ((xs.map fun x:ByteArray=>x.data.toList).take i)).length+1+x.size<=2000000000:=by
        rw[hst]at hPl;simp only[List.length_append,List.length_cons,List.length_nil,len_of_size]at hPl⊢;rw[hlL];omega
       have HST:=Ih hst;have c3:=Ih (TLh.out.write hbz ⟨#[47]⟩ (by rw[size_one];omega));generalize partsP opq ((xs.map fun x:ByteArray=>x.data.toList).take i)=Pi at *;clear hst hPl hxm
       go_wp2_with fail
       refine c3.out.mono ?_;rintro e w3 ⟨rfl,T3⟩;have hr3:=Hrow.out w3 T3.below;have k6:w3.cell? ⟨w.heap.size,6,none⟩=some (.bool false):=by rw[HO.out];exact rowAt hr3 6 _ rfl
       have c4:=Ih (T3.write hbz x (by rw[List.length_append];simp only[List.length_cons,List.length_nil];omega));clear hr3 c3 T3
       go_wp2_with fail
       refine c4.out.mono ?_;rintro e w4 ⟨rfl,T4⟩
       go_wp2_with fail
       go_roundw
       case rel=>exact⟨i+1,by go_num,by omega,by rw[HST.out];simpa using T4⟩
       case measure=>simp[intOf];omega
     | true=>
       by_cases hz:i=0
       ·have hzI:((i:Int)==0)=true:=by simp[hz]
        have hst:partsP opq ((xs.map fun x:ByteArray=>x.data.toList).take (i+1))=x.data.toList:=by
         rw[<-HO.out,<-hxm];have:=partsP_zero (l:=xs.map fun x:ByteArray=>x.data.toList) (by simp;omega);simpa [hz]using this
        have hst0:partsP opq ((xs.map fun x:ByteArray=>x.data.toList).take i)=[]:=by rw[<-HO.out,hz];rfl
        rw[hst0,List.append_nil]at TLh
        have hln:L.length+x.size<=2000000000:=by
         rw[hst,len_of_size]at hPl;rw[hlL];omega
        have HST:=Ih hst;have c3:=Ih (TLh.out.write hbz x (by omega));clear hst hst0 hPl hz hxm
        go_wp2_with fail
        refine c3.out.mono ?_;rintro e w3 ⟨rfl,T3⟩
        go_wp2_with fail
        go_roundw
        case rel=>exact⟨i+1,by go_num,by omega,by rw[HST.out];exact T3⟩
        case measure=>simp[intOf];omega
       ·have hzI:((i:Int)==0)=false:=by simp;omega
        have hst:partsP opq ((xs.map fun x:ByteArray=>x.data.toList).take (i+1))=partsP opq ((xs.map fun x:ByteArray=>x.data.toList).take i):=by rw[<-HO.out];exact partsP_more (by omega)
        have HST:=Ih hst;clear hst hPl hz hxm
        go_wp2_with fail
        go_roundw
        case rel=>exact⟨i+1,by go_num,by omega,by rw[HST.out];exact TLh.out⟩
        case measure=>simp[intOf];omega
    ·have hltI:¬(i:Int)<(xs.length:Int):=by omega
     clear p6o
     go_wp2_with fail
     go_meet;have hT:=TLh.out;rw[List.take_of_length_le (by simp;omega),<-HPP.out]at hT;exact hT
 case rest=>
 have T3h:=Ih hcut;have hr3:=Hrow.out wc hcut.below;have hlP:(L++PP).length=sch.size+1+PH.length+PP.length:=by rw[List.length_append,hlL]
 generalize hLP:L++PP=LP at T3h hlP HG;clear hcut T2h p7 hLP;have p8:=rowAt hr3 8 (.bool hq) rfl;have p10:=rowAt hr3 10 (.string qry) rfl
 go_upto_if 77 with fail
 go_cut [] (fun wx=>TB b W (LP++(if hq then 63::qry.data.toList else[])) wx)
 case first=>
  cases hq with
  | true=>
    have hq1:sch.size+1+PH.length+PP.length+(1+qry.size)<=1000000000:=by have:=HSum.out;simp only[if_true]at this;omega
    have n5:¬(9223372036854775807<1+qry.size):=by omega
    have c5:=Ih (T3h.out.write hbz (⟨#[63]⟩++qry) (by simp[size_one];omega))
    go_wp2_with fail
    refine c5.out.mono ?_;rintro e w5 ⟨rfl,T5⟩;rw[append_data']at T5
    go_wp2_with fail
    go_meet;simpa using T5
  | false=>
    go_wp2_with fail
    go_meet;simpa using T3h.out
 case rest=>
 have T4h:=Ih hcut;have hr4:=Hrow.out wc hcut.below;clear hcut T3h p8 p10 hr3
 have hlQ:(LP++(if hq then 63::qry.data.toList else[])).length+(if hf then 1+frg.size else 0)<=1000000000:=by
  rw[List.length_append,hlP];have h1:(if hq then 63::qry.data.toList else[]).length=(if hq then 1+qry.size else 0):=by split<;>simp<;>omega
  have:=HSum.out;omega
 generalize hLQ:LP++(if hq then 63::qry.data.toList else[])=LQ at T4h hlQ HG;clear hLQ;have p9:=rowAt hr4 9 (.bool hf) rfl;have p11:=rowAt hr4 11 (.string frg) rfl
 go_upto_if 83 with fail
 go_cut [] (fun wx=>TB b W goal wx)
 case first=>
  cases hf with
  | true=>
    have hf1:LQ.length+(1+frg.size)<=1000000000:=by simpa using hlQ
    have n6:¬(9223372036854775807<1+frg.size):=by omega
    have c6:=Ih (T4h.out.write hbz (⟨#[35]⟩++frg) (by simp[size_one];omega))
    go_wp2_with fail
    refine c6.out.mono ?_;rintro e w6 ⟨rfl,T6⟩;rw[append_data']at T6
    go_wp2_with fail
    go_meet;rw[HG.out];simpa using T6
  | false=>
    go_wp2_with fail
    go_meet;rw[HG.out];simpa using T4h.out
 case rest=>
 have T5h:=Ih hcut;have cZ:=Ih (hcut.str hbz);clear hcut T4h p9 p11 hr4
 go_wp2_with fail
 refine cZ.out.mono ?_;rintro e w7 ⟨rfl,hb7⟩
 go_wp2_with fail
 go_ret;exact⟨_,rfl,Ih rfl,Hbel.out w7 hb7⟩
end Go.Proofs.YtipndhbgehdeoaaGreatDoor
