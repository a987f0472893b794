/-
  Package urls: read.
-/
import Derived.Test.YtjhccadmmnjpeaaGreatDoorT29
set_option maxHeartbeats 4000000
set_option maxRecDepth 100000
namespace Go.Proofs.YtjhccadmmnjpeaaGreatDoor
open Go.RowKit
theorem BaseAt.mono {B B':Nat} {w:World} {bv:Value} {b:Option Lz.UrlL} (h:BaseAt B w bv b) (hB:B<=B'):BaseAt B' w bv b:=by
 cases b with
 | none=>exact h
 | some u=>
   obtain⟨p,fr,sch,usr,pas,hh,hst,prt,opq,a,c,xs,hq,hf,qry,frg,h1,h2,h3,h4,h5⟩:=h;refine⟨p,fr,sch,usr,pas,hh,hst,prt,opq,a,c,xs,hq,hf,qry,frg,h1,by omega,h3,h4,fun j x hj=>?_⟩;obtain⟨G,off,e1,e2,e3⟩:=h5 j x hj;exact⟨G,off,e1,by omega,e3⟩
theorem UrlVal.below {w w':World} {v:Value} {u:Lz.UrlL} (h:UrlVal w v u) (hb:Below w.heap.size w w'):UrlVal w' v u:=by
 obtain⟨x,h1,h2,h3⟩:=h;exact⟨x,h1,h2.below hb,h3⟩
def UrlOwn (w:World) (v:Value) (u:Lz.UrlL):Prop:=∃(B:Nat) (x:MkV),v=x.val/\PathOwn w B x.pv x.xs/\Hid (x.url=u)
theorem UrlOwn.val {w:World} {v:Value} {u:Lz.UrlL} (h:UrlOwn w v u):UrlVal w v u:=by
 obtain⟨B,x,h1,h2,h3⟩:=h;obtain⟨a,c,e,_,hc⟩:=h2.form;exact⟨x,h1,⟨a,c,x.xs,e,rfl,hc⟩,h3⟩
theorem UrlOwn.below {w w':World} {v:Value} {u:Lz.UrlL} (h:UrlOwn w v u) (hb:Below w.heap.size w w'):UrlOwn w' v u:=by
 obtain⟨B,x,h1,h2,h3⟩:=h;exact⟨B,x,h1,h2.below hb,h3⟩
def zeroU:Lz.UrlL:={port:=0}
def UrlRes (r:Lz.UR) (w:World) (v1 v2:Value):Prop:=match r with
 | .ok u=>v2=.nilIface/\UrlOwn w v1 u
 | .er n=>FaultU n v2/\UrlOwn w v1 zeroU
def RRead (r:Lz.UR) (w:World) (e:Ending) (w':World):Prop:=∃v1 v2,e=.returned (.tuple #[v1,v2])/\Below w.heap.size w w'/\UrlRes r w' v1 v2
theorem grown_setRow (w:World) (g:Nat) (cs:Array Value):w.grownBy (w.setRow g cs) (some g):=
 ⟨rfl,rfl,rfl,by simp[World.setRow],fun k _ hk=>setRow_other _ _ _ _ (fun e=>hk (by rw[e]))⟩
theorem UrlOwn.setRow {w:World} {v:Value} {u:Lz.UrlL} (h:UrlOwn w v u) {r:Nat} {cs:Array Value} {fr:Nat×Nat} (hr:w.heap[r]? =some (.cells cs 36 fr)) (cs':Array Value):UrlOwn (w.setRow r cs') v u:=by
 obtain⟨B,x,h1,h2,h3⟩:=h;exact⟨B,x,h1,h2.kept (grown_setRow w r cs') (fun k hk=>by injection hk with hk;subst hk;exact⟨_,_,_,hr,by decide⟩),h3⟩
theorem readU_eq (s:List UInt8) (b:Option Lz.UrlL):Lz.readU s b=(Lz.mainU {query:=(Lib.cut (Lib.cut (Lz.cleanP s) [35]).1 [63]).2.1,hasQuery:=(Lib.cut (Lib.cut (Lz.cleanP s) [35]).1 [63]).2.2,fragment:=(Lib.cut (Lz.cleanP s) [35]).2.1,hasFragment:=(Lib.cut (Lz.cleanP s) [35]).2.2} (Lib.cut (Lib.cut (Lz.cleanP s) [35]).1 [63]).1 b).bind Lz.finU:=rfl
theorem mk_query {B M:Nat} {w w1:World} {u:Lz.UrlL} (hm:MkIs B M w1 u) (hb:Below B w w1) (h:ByteArray):
  Below B w (w1.setCell ⟨M,10,none⟩ (.string h))/\MkIs B M (w1.setCell ⟨M,10,none⟩ (.string h)) {u with query:=h.data.toList}:=by
 obtain⟨sch,usr,pas,hh,hst,prt,opq,a,c,ys,hq,hf,qry,frg,hk,rfl,hc,hcells⟩:=hm.form;exact⟨hb.setCell (p:=⟨M,10,none⟩) hk.le _,_,mk_set hk 10 (.string h) ⟨sch,usr,pas,hh,hst,prt,opq,.slice a ys.length c,ys,hq,hf,h,frg⟩ (Lz.specP sch.data.toList) (slashB (Lz.specP sch.data.toList)) (by simp) (fun _ h=>h),Ih rfl⟩
theorem mk_frag {B M:Nat} {w w1:World} {u:Lz.UrlL} (hm:MkIs B M w1 u) (hb:Below B w w1) (h:ByteArray):
  Below B w (w1.setCell ⟨M,11,none⟩ (.string h))/\MkIs B M (w1.setCell ⟨M,11,none⟩ (.string h)) {u with fragment:=h.data.toList}:=by
 obtain⟨sch,usr,pas,hh,hst,prt,opq,a,c,ys,hq,hf,qry,frg,hk,rfl,hc,hcells⟩:=hm.form;exact⟨hb.setCell (p:=⟨M,11,none⟩) hk.le _,_,mk_set hk 11 (.string h) ⟨sch,usr,pas,hh,hst,prt,opq,.slice a ys.length c,ys,hq,hf,qry,h⟩ (Lz.specP sch.data.toList) (slashB (Lz.specP sch.data.toList)) (by simp) (fun _ h=>h),Ih rfl⟩
theorem mk_qf {B M:Nat} {w:World} {u:Lz.UrlL} (hm:MkIs B M w u):∃q f:ByteArray,w.cell? ⟨M,10,none⟩=some (.string q)/\q.data.toList=u.query/\w.cell? ⟨M,11,none⟩=some (.string f)/\f.data.toList=u.fragment:=by
 obtain⟨sch,usr,pas,hh,hst,prt,opq,a,c,ys,hq,hf,qry,frg,hk,rfl,hc,hcells⟩:=hm.form;exact⟨qry,frg,rowAt hk.row 10 _ rfl,rfl,rowAt hk.row 11 _ rfl,rfl⟩
theorem read_any (b:Option Lz.UrlL) (bv:Value) (s:ByteArray) (hs:s.size<=800000) (w:World) (hE:EnvU w) (hbv:BaseAt w.heap.size w bv b) (hN:∀y,b=some y->Lz.NU y/\Lz.wq y<=20000000):
  Calls Tryz.prog 43 #[.string s,bv] w (RRead (Lz.readU s.data.toList b) w):=by
 obtain⟨goal,hgoal⟩:∃goal,goal=Lz.readU s.data.toList b:=⟨_,rfl⟩;rw[<-hgoal];rw[readU_eq]at hgoal;have hcl:=Lz.clean_len s.data.toList;have hparts:=fun v hv=>Lz.main_parts (s:=s.data.toList) (b:=b) (v:=v) hv (fun y hy=>(hN y hy).1)
 have hbq:Lz.bq b<=20000000:=by
  cases b with
  | none=>exact Nat.zero_le _
  | some y=>exact(hN y rfl).2
 have hf1:=Lz.cut_len 35 (Lz.cleanP s.data.toList);have hq1:=Lz.cut_len 63 (Lib.cut (Lz.cleanP s.data.toList) [35]).1;obtain⟨W,hW⟩:∃W,W=(w.alloc (.cells #[.string ⟨#[]⟩,.string ⟨#[]⟩,.string ⟨#[]⟩,.bool false,.string ⟨#[]⟩,.int .i64 0,.bool false,.slice none 0 0,.bool false,.bool false,.string ⟨#[]⟩,.string ⟨#[]⟩] 36)).alloc (.cells #[.string ⟨#[]⟩,.string ⟨#[]⟩,.string ⟨#[]⟩,.bool false,.string ⟨#[]⟩,.int .i64 (-1),.bool false,.slice none 0 0,.bool false,.bool false,.string ⟨#[]⟩,.string ⟨#[]⟩,.bool false,.string ⟨#[]⟩] 91):=⟨_,rfl⟩;have hbW:Below w.heap.size w W:=by rw[hW];exact((Below.refl _ w).alloc (Nat.le_refl _) _).alloc (by simp) _
 have hR:W.heap[w.heap.size]? =some (.cells #[.string ⟨#[]⟩,.string ⟨#[]⟩,.string ⟨#[]⟩,.bool false,.string ⟨#[]⟩,.int .i64 0,.bool false,.slice none 0 0,.bool false,.bool false,.string ⟨#[]⟩,.string ⟨#[]⟩] 36 (0,0)):=by
  rw[hW,Below.heap_alloc _ _ _ (by simp)];show(w.heap.push _)[w.heap.size]? =_;simp
 obtain⟨M,hM⟩:∃M,M=w.heap.size+1:=⟨_,rfl⟩
 have hMrow:W.heap[M]? =some (.cells #[.string ⟨#[]⟩,.string ⟨#[]⟩,.string ⟨#[]⟩,.bool false,.string ⟨#[]⟩,.int .i64 (-1),.bool false,.slice none 0 0,.bool false,.bool false,.string ⟨#[]⟩,.string ⟨#[]⟩,.bool false,.string ⟨#[]⟩] 91 (0,0)):=by
  rw[hW,hM];exact heap_new2 w _ _
 obtain⟨B,hBd⟩:∃B,B=w.heap.size+1:=⟨_,rfl⟩;have hm0:MkAt B M W ⟨⟨#[]⟩,⟨#[]⟩,⟨#[]⟩,false,⟨#[]⟩,-1,false,.slice none 0 0,[],false,false,⟨#[]⟩,⟨#[]⟩⟩ false ⟨#[]⟩:=⟨hMrow,PathOwn.nil _ _,by omega⟩;have hwB:w.heap.size<B:=by omega
 have hBW:B<=W.heap.size:=by have:=row_lt hMrow;omega
 have hEW:=hE.below hbW;have hBg:13<=B:=by have:=hE.h.size;omega
 have hbvW:BaseAt B W bv b:=(hbv.at hbW).mono (by omega);have cC:=Ih (clean_any s (by omega) W hEW);have HW:=Ih hW;have HM:Hid (M=w.heap.size+1):=Ih hM;have HR:=Ih hR;have Hgoal:=Ih hgoal;have Hparts:=Ih hparts;have HE:=Ih hE;have Hf1:=Ih hf1;have Hq1:=Ih hq1;clear hW hR hgoal hparts hE hMrow hf1 hq1 hbv hM hBd;go_enter Tryz.func43,Tryz.ntmps43
 go_wp2_with (rw[<-HW.out])
 rw[<-HM.out];refine cC.out.mono ?_;rintro e w1 ⟨u1,rfl,hu1,hb1⟩;have hu1s:u1.size<=s.size:=by rw[<-len_of_size,hu1.out];rw[len_of_size]at hcl;exact hcl
 have cF:=Ih (Cut_h u1 ⟨#[35]⟩ (by omega) w1 (hEW.below hb1).h);rw[show Lib.cut u1.data.toList (⟨#[35]⟩:ByteArray).data.toList=Lib.cut (Lz.cleanP s.data.toList) [35] by rw[hu1.out]]at cF;obtain⟨hf,hhf⟩:∃hf,hf=(Lib.cut (Lz.cleanP s.data.toList) [35]).2.2:=⟨_,rfl⟩;rw[<-hhf]at cF;have Hhf:=Ih hhf;clear hhf
 go_wp2_with fail
 refine cF.out.mono ?_;rintro e w2 ⟨a1,f1,rfl,ha1,hf1,hb2⟩;have hb12:=below_call hb1 hb2;have hm2:=(hm0.below hb1).below hb2;have ha1s:a1.size<=s.size:=by rw[<-len_of_size,ha1.out];have:=Hf1.out;rw[len_of_size]at hcl;omega
 have c11:=rowAt hm2.row 11 (.string ⟨#[]⟩) rfl;have z11:=rowFz hm2.row 11;have m3:=mk_set hm2 11 (.string f1) ⟨⟨#[]⟩,⟨#[]⟩,⟨#[]⟩,false,⟨#[]⟩,-1,false,.slice none 0 0,[],false,false,⟨#[]⟩,f1⟩ false ⟨#[]⟩ (by simp) (fun _ h=>h);have c9:=rowAt m3.row 9 (.bool false) rfl;have z9:=rowFz m3.row 9;have m4:=mk_set m3 9 (.bool hf) ⟨⟨#[]⟩,⟨#[]⟩,⟨#[]⟩,false,⟨#[]⟩,-1,false,.slice none 0 0,[],false,hf,⟨#[]⟩,f1⟩ false ⟨#[]⟩ (by simp) (fun _ h=>h);have hle:=hm0.le;have hb24:Below B w2 ((w2.setCell ⟨M,11,none⟩ (.string f1)).setCell ⟨M,9,none⟩ (.bool hf)):=((Below.refl B w2).setCell (p:=⟨M,11,none⟩) hle _).setCell (p:=⟨M,9,none⟩) hle _;generalize hw4:(w2.setCell ⟨M,11,none⟩ (.string f1)).setCell ⟨M,9,none⟩ (.bool hf)=w4 at m4 hb24;have hb04:Below B W w4:=(hb12.mono hBW).trans hb24;have hE4:EnvH w4:=hEW.h.at hb04 hBg;have cQ:=Ih (Cut_h a1 ⟨#[63]⟩ (by omega) w4 hE4);rw[show Lib.cut a1.data.toList (⟨#[63]⟩:ByteArray).data.toList=Lib.cut (Lib.cut (Lz.cleanP s.data.toList) [35]).1 [63] by rw[ha1.out]]at cQ;obtain⟨hq,hhq⟩:∃hq,hq=(Lib.cut (Lib.cut (Lz.cleanP s.data.toList) [35]).1 [63]).2.2:=⟨_,rfl⟩;rw[<-hhq]at cQ;have Hhq:=Ih hhq;have Hm4:=Ih m4;clear hhq m3 m4 hm2 hm0 cC cF
 go_wp2_with fail
 refine cQ.out.mono ?_;rintro e w5 ⟨a2,q2,rfl,ha2,hq2,hb5⟩;have ha2s:a2.size<=s.size:=by rw[<-len_of_size,ha2.out];have:=Hq1.out;have:=Hf1.out;rw[len_of_size]at hcl;omega
 have hm5:=Hm4.out.below hb5;have hb05:Below B W w5:=hb04.trans (hb5.mono (Nat.le_trans hBW hb04.size));have c10:=rowAt hm5.row 10 (.string ⟨#[]⟩) rfl;have z10:=rowFz hm5.row 10;have m6:=mk_set hm5 10 (.string q2) ⟨⟨#[]⟩,⟨#[]⟩,⟨#[]⟩,false,⟨#[]⟩,-1,false,.slice none 0 0,[],false,hf,q2,f1⟩ false ⟨#[]⟩ (by simp) (fun _ h=>h);have c8:=rowAt m6.row 8 (.bool false) rfl;have z8:=rowFz m6.row 8;have m7:=mk_set m6 8 (.bool hq) ⟨⟨#[]⟩,⟨#[]⟩,⟨#[]⟩,false,⟨#[]⟩,-1,false,.slice none 0 0,[],hq,hf,q2,f1⟩ false ⟨#[]⟩ (by simp) (fun _ h=>h);have hb57:Below B w5 ((w5.setCell ⟨M,10,none⟩ (.string q2)).setCell ⟨M,8,none⟩ (.bool hq)):=((Below.refl B w5).setCell (p:=⟨M,10,none⟩) hle _).setCell (p:=⟨M,8,none⟩) hle _;generalize hw7:(w5.setCell ⟨M,10,none⟩ (.string q2)).setCell ⟨M,8,none⟩ (.bool hq)=w7 at m7 hb57;have hb07:Below B W w7:=hb05.trans hb57;have hB7:B<=w7.heap.size:=Nat.le_trans hBW hb07.size;have hE7:EnvH w7:=hEW.h.at hb07 hBg
 have HG:Hid (goal=(Lz.mainU ⟨[],[],[],false,[],-1,false,[],hq,hf,q2.data.toList,f1.data.toList⟩ a2.data.toList b).bind Lz.finU):=by
  show _=_;rw[Hgoal.out,<-Hhq.out,<-Hhf.out,<-ha2.out,<-hq2.out,<-hf1.out]
 have HP:Hid (∀v,Lz.mainU ⟨[],[],[],false,[],-1,false,[],hq,hf,q2.data.toList,f1.data.toList⟩ a2.data.toList b=.ok v->v.query.length<=s.data.toList.length+Lz.bq b/\v.fragment.length<=s.data.toList.length):=by
  intro v hv;refine Hparts.out v ?_;rw[<-Hhq.out,<-Hhf.out,<-ha2.out,<-hq2.out,<-hf1.out];exact hv
 have cM:=Ih (mainM_any B M _ _ rfl b bv a2 (by omega) w7 hE7 m7 hB7 hBg (hbvW.at hb07) (fun y hy=>by have h1:=(hN y hy).2;have:=Lz.path_wq y;omega) (by show 0<=_;omega));clear m6 m7 hm5 Hgoal Hparts Hhq Hhf ha2 hq2 hf1 ha1 hu1 cQ Hm4
 go_wp2_with fail
 refine cM.out.mono ?_;rintro e w8 ⟨v,rfl,hb8,hres⟩;have hb08:Below B W w8:=hb07.trans hb8;have hB8:B<=w8.heap.size:=Nat.le_trans hBW hb08.size;have HRm:Hid (MkRes B M (Lz.mainU ⟨[],[],[],false,[],-1,false,[],hq,hf,q2.data.toList,f1.data.toList⟩ a2.data.toList b) w8 v):=Ih hres;clear hres cM;generalize Lz.mainU ⟨[],[],[],false,[],-1,false,[],hq,hf,q2.data.toList,f1.data.toList⟩ a2.data.toList b=rm at HRm HG HP;have hR8:w8.heap[w.heap.size]? =_:=(hb08.block _ hwB).trans HR.out;cases rm with
 | er n=>
   obtain⟨pp,rfl⟩:=HRm.out;have HG2:Hid (goal=.er n):=Ih HG.out;clear HG HP HRm
   go_wp2_with (refine wpList_store_row rfl 36 (.tmp 4) (.tmp 47) rfl w.heap.size #[.string ⟨#[]⟩,.string ⟨#[]⟩,.string ⟨#[]⟩,.bool false,.string ⟨#[]⟩,.int .i64 0,.bool false,.slice none 0 0,.bool false,.bool false,.string ⟨#[]⟩,.string ⟨#[]⟩] rfl rfl 36 _ hR8 urlSize rfl (by simp[Value.oneCell']) ?_)
   refine bodyPost_ret (results_row2 (P:=Tryz.prog) (u:=5) rfl _ _ w.heap.size 36 _ (0,0) _ rfl (setRow_heap _ _ _ _ _ _ hR8) Tryz.underlying36 rfl urlSize) rfl ?_;refine⟨_,_,rfl,below_setRowT (hbW.trans (hb08.mono (by omega))) (Nat.le_refl _),?_⟩;rw[HG2.out];exact⟨⟨pp,rfl⟩,0,⟨⟨#[]⟩,⟨#[]⟩,⟨#[]⟩,false,⟨#[]⟩,0,false,.slice none 0 0,[],false,false,⟨#[]⟩,⟨#[]⟩⟩,rfl,PathOwn.nil _ _,Ih rfl⟩
 | ok u2=>
   obtain⟨rfl,hm8⟩:=HRm.out;obtain⟨hql,hfl⟩:=HP.out u2 rfl;rw[len_of_size]at hql hfl;obtain⟨qb,fb,e10,hqb,e11,hfb⟩:=mk_qf hm8;have hqs:qb.size<=30000000:=by rw[<-len_of_size,hqb];omega
   have hqd:Hid (qb.data.toList=u2.query):=Ih hqb;have HG2:Hid (goal=(Lz.UR.ok u2).bind Lz.finU):=Ih HG.out;obtain⟨sp,hsp⟩:∃sp,sp=Lz.specP u2.scheme:=⟨_,rfl⟩;obtain⟨h12,h13⟩:=mk_sp hm8 hsp;have Hsp:=Ih hsp;clear HG HP HRm hqb hfb e11 hsp;cases sp with
   | true=>
     have HG3:Hid (goal=.ok {u2 with query:=Lz.encodeP (Lz.setU 3) u2.query,fragment:=Lz.encodeP (Lz.setU 1) u2.fragment}):=by
      show _=_;rw[HG2.out];show Lz.finU u2=_;unfold Lz.finU;rw[<-Hsp.out];rfl
     have cE:=Ih (Encode_any 3 (by decide) qb (by omega) w8)
     go_wp2_with fail
     refine cE.out.mono ?_;rintro e w9 ⟨qe,rfl,hqe,hb9⟩;have hm9:=hm8.below hb9;have hb09:Below B W w9:=hb08.trans (hb9.mono hB8);obtain⟨v10,e10,z10⟩:=mk_cell hm9 10 (by decide);obtain⟨hb10,hm10⟩:=mk_query hm9 hb09 qe;have hb910:Below B w9 (w9.setCell ⟨M,10,none⟩ (.string qe)):=(Below.refl B w9).setCell (p:=⟨M,10,none⟩) hle _;obtain⟨q3,f3,e10',_,e11,hf3⟩:=mk_qf hm10;clear e10';generalize hw10:w9.setCell ⟨M,10,none⟩ (.string qe)=w10 at hb10 hm10 hb910 e11;have hf3s:f3.size<=s.size:=by rw[<-len_of_size f3,hf3];exact hfl
     have cE2:=Ih (Encode_any 1 (by decide) f3 (by omega) w10);have HF3:Hid (f3.data.toList=u2.fragment):=Ih hf3;clear hf3
     go_wp2_with fail
     refine cE2.out.mono ?_;rintro e w11 ⟨fe,rfl,hfe,hb11⟩;have hm11:=hm10.below hb11;have hb011:Below B W w11:=hb10.trans (hb11.mono (Nat.le_trans hBW hb10.size));obtain⟨v11,d11,z11⟩:=mk_cell hm11 11 (by decide);obtain⟨hb12,hm12⟩:=mk_frag hm11 hb011 fe;have hRx:(w11.setCell ⟨M,11,none⟩ (.string fe)).heap[w.heap.size]? =_:=(hb12.block _ hwB).trans HR.out
     have hfin:({({u2 with query:=qe.data.toList}:Lz.UrlL)with fragment:=fe.data.toList}:Lz.UrlL)={u2 with query:=Lz.encodeP (Lz.setU 3) u2.query,fragment:=Lz.encodeP (Lz.setU 1) u2.fragment}:=by
      rw[hqe.out,hfe.out,hqd.out,HF3.out];rfl
     rw[hfin]at hm12;generalize hw12:w11.setCell ⟨M,11,none⟩ (.string fe)=w12 at hb12 hm12 hRx;obtain⟨sch,usr,pas,hh,hst,prt,opq,a,c,xs,hqx,hfx,qry,frg,hk,hux,hc,hcells⟩:=hm12.form;have k0:=rowAt hk.row 0 (.string sch) rfl;have k1:=rowAt hk.row 1 (.string usr) rfl;have k2:=rowAt hk.row 2 (.string pas) rfl;have k3:=rowAt hk.row 3 (.bool hh) rfl;have k4:=rowAt hk.row 4 (.string hst) rfl;have k5:=rowAt hk.row 5 (.int .i64 prt) rfl;have k6:=rowAt hk.row 6 (.bool opq) rfl;have k7:=rowAt hk.row 7 (.slice a xs.length c) rfl;have k8:=rowAt hk.row 8 (.bool hqx) rfl;have k9:=rowAt hk.row 9 (.bool hfx) rfl;have k10:=rowAt hk.row 10 (.string qry) rfl;have k11:=rowAt hk.row 11 (.string frg) rfl;have hown':=hk.own.kept (grown_setRow w12 w.heap.size #[.string sch,.string usr,.string pas,.bool hh,.string hst,.int .i64 prt,.bool opq,.slice a xs.length c,.bool hqx,.bool hfx,.string qry,.string frg]) (fun k hk=>by injection hk with hk;subst hk;exact⟨_,_,_,hRx,by decide⟩)
     have HFin:Hid (UrlOwn (w12.setRow w.heap.size #[.string sch,.string usr,.string pas,.bool hh,.string hst,.int .i64 prt,.bool opq,.slice a xs.length c,.bool hqx,.bool hfx,.string qry,.string frg]) (.agg #[.string sch,.string usr,.string pas,.bool hh,.string hst,.int .i64 prt,.bool opq,.slice a xs.length c,.bool hqx,.bool hfx,.string qry,.string frg]) {u2 with query:=Lz.encodeP (Lz.setU 3) u2.query,fragment:=Lz.encodeP (Lz.setU 1) u2.fragment}):=by
      exact⟨_,⟨sch,usr,pas,hh,hst,prt,opq,.slice a xs.length c,xs,hqx,hfx,qry,frg⟩,rfl,hown',Ih hux.symm⟩
     clear hown';clear hux hcells hk hm12 hm11 hm10 hm9 hfin
     go_wp2_with (refine wpList_store_row rfl 36 (.tmp 4) (.tmp 77) rfl w.heap.size #[.string sch,.string usr,.string pas,.bool hh,.string hst,.int .i64 prt,.bool opq,.slice a xs.length c,.bool hqx,.bool hfx,.string qry,.string frg] rfl rfl 36 _ hRx urlSize rfl (by simp[Value.oneCell']) ?_)
     refine bodyPost_ret (results_row2 (P:=Tryz.prog) (u:=5) rfl _ _ w.heap.size 36 _ (0,0) _ rfl (setRow_heap _ _ _ _ _ _ hRx) Tryz.underlying36 rfl urlSize) rfl ?_;refine⟨_,_,rfl,below_setRowT (hbW.trans (hb12.mono (by omega))) (Nat.le_refl _),?_⟩;rw[HG3.out];exact⟨rfl,HFin.out⟩
   | false=>
     have HG3:Hid (goal=.ok {u2 with query:=Lz.encodeP (Lz.setU 2) u2.query,fragment:=Lz.encodeP (Lz.setU 1) u2.fragment}):=by
      show _=_;rw[HG2.out];show Lz.finU u2=_;unfold Lz.finU;rw[<-Hsp.out];rfl
     have cE:=Ih (Encode_any 2 (by decide) qb (by omega) w8)
     go_wp2_with fail
     refine cE.out.mono ?_;rintro e w9 ⟨qe,rfl,hqe,hb9⟩;have hm9:=hm8.below hb9;have hb09:Below B W w9:=hb08.trans (hb9.mono hB8);obtain⟨v10,e10,z10⟩:=mk_cell hm9 10 (by decide);obtain⟨hb10,hm10⟩:=mk_query hm9 hb09 qe;have hb910:Below B w9 (w9.setCell ⟨M,10,none⟩ (.string qe)):=(Below.refl B w9).setCell (p:=⟨M,10,none⟩) hle _;obtain⟨q3,f3,e10',_,e11,hf3⟩:=mk_qf hm10;clear e10';generalize hw10:w9.setCell ⟨M,10,none⟩ (.string qe)=w10 at hb10 hm10 hb910 e11;have hf3s:f3.size<=s.size:=by rw[<-len_of_size f3,hf3];exact hfl
     have cE2:=Ih (Encode_any 1 (by decide) f3 (by omega) w10);have HF3:Hid (f3.data.toList=u2.fragment):=Ih hf3;clear hf3
     go_wp2_with fail
     refine cE2.out.mono ?_;rintro e w11 ⟨fe,rfl,hfe,hb11⟩;have hm11:=hm10.below hb11;have hb011:Below B W w11:=hb10.trans (hb11.mono (Nat.le_trans hBW hb10.size));obtain⟨v11,d11,z11⟩:=mk_cell hm11 11 (by decide);obtain⟨hb12,hm12⟩:=mk_frag hm11 hb011 fe;have hRx:(w11.setCell ⟨M,11,none⟩ (.string fe)).heap[w.heap.size]? =_:=(hb12.block _ hwB).trans HR.out
     have hfin:({({u2 with query:=qe.data.toList}:Lz.UrlL)with fragment:=fe.data.toList}:Lz.UrlL)={u2 with query:=Lz.encodeP (Lz.setU 2) u2.query,fragment:=Lz.encodeP (Lz.setU 1) u2.fragment}:=by
      rw[hqe.out,hfe.out,hqd.out,HF3.out];rfl
     rw[hfin]at hm12;generalize hw12:w11.setCell ⟨M,11,none⟩ (.string fe)=w12 at hb12 hm12 hRx;obtain⟨sch,usr,pas,hh,hst,prt,opq,a,c,xs,hqx,hfx,qry,frg,hk,hux,hc,hcells⟩:=hm12.form;have k0:=rowAt hk.row 0 (.string sch) rfl;have k1:=rowAt hk.row 1 (.string usr) rfl;have k2:=rowAt hk.row 2 (.string pas) rfl;have k3:=rowAt hk.row 3 (.bool hh) rfl;have k4:=rowAt hk.row 4 (.string hst) rfl;have k5:=rowAt hk.row 5 (.int .i64 prt) rfl;have k6:=rowAt hk.row 6 (.bool opq) rfl;have k7:=rowAt hk.row 7 (.slice a xs.length c) rfl;have k8:=rowAt hk.row 8 (.bool hqx) rfl;have k9:=rowAt hk.row 9 (.bool hfx) rfl;have k10:=rowAt hk.row 10 (.string qry) rfl;have k11:=rowAt hk.row 11 (.string frg) rfl;have hown':=hk.own.kept (grown_setRow w12 w.heap.size #[.string sch,.string usr,.string pas,.bool hh,.string hst,.int .i64 prt,.bool opq,.slice a xs.length c,.bool hqx,.bool hfx,.string qry,.string frg]) (fun k hk=>by injection hk with hk;subst hk;exact⟨_,_,_,hRx,by decide⟩)
     have HFin:Hid (UrlOwn (w12.setRow w.heap.size #[.string sch,.string usr,.string pas,.bool hh,.string hst,.int .i64 prt,.bool opq,.slice a xs.length c,.bool hqx,.bool hfx,.string qry,.string frg]) (.agg #[.string sch,.string usr,.string pas,.bool hh,.string hst,.int .i64 prt,.bool opq,.slice a xs.length c,.bool hqx,.bool hfx,.string qry,.string frg]) {u2 with query:=Lz.encodeP (Lz.setU 2) u2.query,fragment:=Lz.encodeP (Lz.setU 1) u2.fragment}):=by
      exact⟨_,⟨sch,usr,pas,hh,hst,prt,opq,.slice a xs.length c,xs,hqx,hfx,qry,frg⟩,rfl,hown',Ih hux.symm⟩
     clear hown';clear hux hcells hk hm12 hm11 hm10 hm9 hfin
     go_wp2_with (refine wpList_store_row rfl 36 (.tmp 4) (.tmp 77) rfl w.heap.size #[.string sch,.string usr,.string pas,.bool hh,.string hst,.int .i64 prt,.bool opq,.slice a xs.length c,.bool hqx,.bool hfx,.string qry,.string frg] rfl rfl 36 _ hRx urlSize rfl (by simp[Value.oneCell']) ?_)
     refine bodyPost_ret (results_row2 (P:=Tryz.prog) (u:=5) rfl _ _ w.heap.size 36 _ (0,0) _ rfl (setRow_heap _ _ _ _ _ _ hRx) Tryz.underlying36 rfl urlSize) rfl ?_;refine⟨_,_,rfl,below_setRowT (hbW.trans (hb12.mono (by omega))) (Nat.le_refl _),?_⟩;rw[HG3.out];exact⟨rfl,HFin.out⟩
end Go.Proofs.YtjhccadmmnjpeaaGreatDoor
