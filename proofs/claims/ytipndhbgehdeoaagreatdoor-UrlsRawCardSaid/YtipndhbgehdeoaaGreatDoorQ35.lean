/-
  lazaretref08.run: file slash.
-/
import Derived.Test.YtipndhbgehdeoaaGreatDoorQ33
import Derived.Test.YtipndhbgehdeoaaGreatDoorQ34
set_option maxHeartbeats 16000000
set_option maxRecDepth 100000
namespace Go.Proofs.YtipndhbgehdeoaaGreatDoor
open Go.RowKit
theorem base_of_own {W:World} {C:Array Value} {u:Lz.UrlL} (h:UrlOwn W (.agg C) u):BaseAt (W.alloc (.cells C 25)).heap.size (W.alloc (.cells C 25)) (.pointer (some ⟨W.heap.size,0,none⟩)) (some u):=by
 obtain⟨sch,usr,pas,hh,hst,prt,opq,a,c,xs,hq,hf,qry,frg,h1,hu,hx⟩:=h.val.form;obtain rfl:C= #[.string sch,.string usr,.string pas,.bool hh,.string hst,.int .i64 prt,.bool opq,.slice a xs.length c,.bool hq,.bool hf,.string qry,.string frg]:=by injection h1
 have hb:Below W.heap.size W (W.alloc (.cells #[.string sch,.string usr,.string pas,.bool hh,.string hst,.int .i64 prt,.bool opq,.slice a xs.length c,.bool hq,.bool hf,.string qry,.string frg] 25)):=(Below.refl _ _).alloc (Nat.le_refl _) _;refine⟨W.heap.size,(0,0),sch,usr,pas,hh,hst,prt,opq,a,c,xs,hq,hf,qry,frg,rfl,by simp,heap_new _ _,hu,fun j x hj=>?_⟩;obtain⟨G,o,ha,hG,hc⟩:=hx j x hj;refine⟨G,o,ha,Nat.lt_of_lt_of_le hG hb.size,?_⟩;rw[hb.cell (p:=⟨G,o+j,none⟩) hG];exact hc
def readB (b:Option Lz.UrlL) (s want:List UInt8) (e0:Nat):Prop:=(∃u,Lz.parseU s b=.ok u/\e0=0/\Lz.textU u=want)\/(∃n,Lz.parseU s b=.er n/\e0=n/\n≠0)
theorem readsU_none {s want:List UInt8} {e0:Nat} (h:Lz.readsU s [] want e0=true):readB none s want e0:=by
 unfold Lz.readsU at h;rw[if_pos rfl]at h;simp only at h;cases hp:Lz.parseU s none with
 | ok u=>rw[hp]at h;simp at h;exact Or.inl ⟨u,hp,h.1,h.2⟩
 | er n=>rw[hp]at h;simp at h;exact Or.inr ⟨n,hp,h.1,h.2⟩
theorem readsU_some {s base want:List UInt8} {e0:Nat} (hb:base≠[]) (h:Lz.readsU s base want e0=true):∃b,Lz.parseU base none=.ok b/\readB (some b) s want e0:=by
 unfold Lz.readsU at h;rw[if_neg hb]at h;simp only at h;cases hq:Lz.parseU base none with
 | er n=>rw[hq]at h;cases h
 | ok b=>
   rw[hq]at h;simp only at h;refine⟨b,rfl,?_⟩;cases hp:Lz.parseU s (some b)with
   | ok u=>rw[hp]at h;simp at h;exact Or.inl ⟨u,hp,h.1,h.2⟩
   | er n=>rw[hp]at h;simp at h;exact Or.inr ⟨n,hp,h.1,h.2⟩
theorem zero_val (w:World):UrlVal w (.agg zeroC) zeroU:=(zero_own w).val
theorem reads_true (s base want:ByteArray) (e0:Nat) (w:World) (hE:EnvU w) (h:Lz.readsU s.data.toList base.data.toList want.data.toList e0=true):Calls Tryz.prog 13 #[.string s,.string base,.string want,.int .i64 e0] w (RBool true w):=by
 obtain⟨b,hb0,hbr⟩:∃b:Option Lz.UrlL,(match b with|none=>base.data.toList=[]|some x=>base.data.toList≠[]/\Lz.parseU base.data.toList none=.ok x)/\readB b s.data.toList want.data.toList e0:=by
  by_cases hz:base.data.toList=[]
  ·rw[hz]at h;exact⟨none,hz,readsU_none h⟩
  ·obtain⟨x,h1,h2⟩:=readsU_some hz h;exact⟨some x,⟨hz,h1⟩,h2⟩
 have hT:∀y,b=some y->TextOk y:=by
  intro y hy;subst hy;exact textOk_parse hb0.2 (fun z hz=>by cases hz)
 have hTy:∀u,Lz.parseU s.data.toList b=.ok u->TextOk u:=fun u hu=>textOk_parse hu (fun x hx=>by subst hx;exact⟨_,hb0.2⟩);have HB:=Ih hb0;have HBR:=Ih hbr;have HT:=Ih hT;have HTy:=Ih hTy;have HE:=Ih hE;have hb00:=Below.refl w.heap.size w;obtain⟨q,hq⟩:∃q,base.toList.isEmpty=q:=⟨_,rfl⟩
 have hqq:q=decide (base.data.toList=[]):=by
  rw[<-hq,Lib.toList_data];cases base.data.toList<;>rfl
 have Hqq:=Ih hqq;clear h hb0 hbr hT hTy hE hqq;go_enter Tryz.func13,Tryz.ntmps13
 go_upto_if 15 with fail
 go_cut [9] (fun s wx=>EnvU wx/\Below w.heap.size w wx/\BaseAt wx.heap.size wx s b)
 case first=>
  cases b with
  | none=>
    obtain rfl:q=true:=Hqq.out.trans (decide_eq_true HB.out)
    go_wp2_with fail
    go_meet;exact⟨HE.out,hb00,rfl⟩
  | some x=>
    obtain rfl:q=false:=Hqq.out.trans (decide_eq_false HB.out.1);have cP:=Ih (Parse_any none (.pointer none) base w HE.out rfl (fun y h=>by cases h));have hp:Hid (Lz.parseU base.data.toList none=.ok x):=Ih HB.out.2;rw[hp.out]at cP
    go_wp2_with fail
    refine cP.out.mono ?_;rintro e w1 ⟨v1,n,rfl,hb1,hn,hox⟩;subst hn;obtain⟨sc1,us1,pa1,hh1,hs1,pr1,op1,a1,n1,c1,hq1,hf1,qr1,fr1,rfl⟩:=hox.form;have hbase:=base_of_own hox;have hba:=(Below.refl w1.heap.size w1).alloc (Nat.le_refl _) (.cells #[.string sc1,.string us1,.string pa1,.bool hh1,.string hs1,.int .i64 pr1,.bool op1,.slice a1 n1 c1,.bool hq1,.bool hf1,.string qr1,.string fr1] 25);have hEV:=(HE.out.below hb1).below hba;have hbV:=hb1.trans (hba.mono hb1.size);clear hox cP hba
    go_upto_region 4 with fail
    generalize w1.alloc (.cells #[.string sc1,.string us1,.string pa1,.bool hh1,.string hs1,.int .i64 pr1,.bool op1,.slice a1 n1 c1,.bool hq1,.bool hf1,.string qr1,.string fr1] 25)=V at hbase hEV hbV⊢;generalize w1.heap.size=r1 at hbase⊢
    go_wp2_with fail
    go_meet;exact⟨hEV,hbV,hbase⟩
 case rest=>
  obtain⟨hE1,hb1,hbase⟩:=hcut;have cP:=Ih (Parse_any b _ s wc hE1 hbase HT.out);have HE1:=Ih hE1;clear hE1 hbase HT HB HE
  go_wp2_with fail
  refine cP.out.mono ?_;rintro e w2 ⟨v2,n,rfl,hb2,hres⟩;obtain⟨x,hox,hk⟩:=hres.cases;obtain⟨sc1,us1,pa1,hh1,hs1,pr1,op1,a1,n1,c1,hq1,hf1,qr1,fr1,rfl⟩:=hox.form;have hb02:=below_call hb1 hb2;have hba:=(Below.refl w2.heap.size w2).alloc (Nat.le_refl _) (.cells #[.string sc1,.string us1,.string pa1,.bool hh1,.string hs1,.int .i64 pr1,.bool op1,.slice a1 n1 c1,.bool hq1,.bool hf1,.string qr1,.string fr1] 25);have hEV:=(HE1.out.below hb2).below hba;have hbV:=below_call hb02 hba;have hoV:=hox.below hba;have hrV:(w2.alloc (.cells #[.string sc1,.string us1,.string pa1,.bool hh1,.string hs1,.int .i64 pr1,.bool op1,.slice a1 n1 c1,.bool hq1,.bool hf1,.string qr1,.string fr1] 25)).heap[w2.heap.size]? =some (.cells #[.string sc1,.string us1,.string pa1,.bool hh1,.string hs1,.int .i64 pr1,.bool op1,.slice a1 n1 c1,.bool hq1,.bool hf1,.string qr1,.string fr1] 25 (0,0)):=heap_new _ _;clear hox hba cP hres
  go_upto_region 8 with fail
  generalize w2.alloc (.cells #[.string sc1,.string us1,.string pa1,.bool hh1,.string hs1,.int .i64 pr1,.bool op1,.slice a1 n1 c1,.bool hq1,.bool hf1,.string qr1,.string fr1] 25)=V at hoV hEV hbV hrV⊢;generalize w2.heap.size=r2 at hrV⊢;have HRV:=Ih hrV;rcases HBR.out with⟨u,hu,rfl,ht⟩|⟨k,hu,rfl,hk0⟩
  ·obtain⟨hxu,hn⟩:u=x/\n=0:=by
    rcases hk with⟨h1,h2⟩|⟨m,h1,_⟩
    ·rw[hu]at h1;injection h1 with h1;exact⟨h1,h2⟩
    ·rw[hu]at h1;cases h1
   subst hn hxu;have hTu:=HTy.out u hu;have cT:=Ih (Text_any _ u V hoV.val hEV.h hTu.p0 hTu.p1 hTu.host (by have:=hTu.text;omega) hTu.path);have Ht:=Ih ht;clear hk hu ht hTu hoV hEV hrV HBR HTy
   go_wp2_with (first |(refine load_url_g rfl _ rfl r2 rfl _ HRV.out rfl ?_))
   refine cT.out.mono ?_;rintro e w3 ⟨t,rfl,htt,hb3⟩;have hwt:(t.toList==want.toList)=true:=by rw[same_text,htt.out,Ht.out];simp
   clear htt Ht cT
   go_wp2_with fail
   go_ret;exact⟨rfl,below_call hbV hb3⟩
  ·obtain⟨hxu,hn⟩:x=zeroU/\n=(e0:Int):=by
    rcases hk with⟨h1,h2⟩|⟨m,h1,h3,h2⟩
    ·rw[hu]at h1;cases h1
    ·rw[hu]at h1;injection h1 with h1;exact⟨h3,by rw[h2,h1]⟩
   subst hn hxu;have cS:=Ih (lawSame_any _ _ zeroU zeroU V hoV.val (zero_val V) (by show(0:Nat)<=_;omega));have hkb:((e0:Int)==0)=false:=by simp;omega
   have hkc:((e0:Int) != 0)=true:=by rw[bne,hkb];rfl
   rw[show decide (zeroU=zeroU)=true by simp]at cS;clear hk hu hk0 hoV hEV hrV HBR HTy
   go_wp2_with (first |(refine load_url_g rfl _ rfl r2 rfl _ HRV.out rfl ?_))
   refine cS.out.mono ?_;rintro e w3 ⟨rfl,hb3⟩
   go_wp2_with fail
   go_ret;exact⟨rfl,below_call hbV hb3⟩
def RTrueU (w0:World) (e:Ending) (w':World):Prop:=e=.returned (.bool true)/\EnvU w'/\Below w0.heap.size w0 w'
theorem reads_is (s base want:ByteArray) (e0:Int) (w0 w:World) (ho:(decide (0<=e0)&&Lz.readsU s.data.toList base.data.toList want.data.toList e0.toNat)=true) (hE:EnvU w) (hb:Below w0.heap.size w0 w):
  Calls Tryz.prog 13 #[.string s,.string base,.string want,.int .i64 e0] w (RTrueU w0):=by
 simp only[Bool.and_eq_true,decide_eq_true_eq]at ho;have he:e0=((e0.toNat:Nat):Int):=by omega
 have:=reads_true s base want e0.toNat w hE ho.2;rw[<-he]at this;refine this.mono ?_;rintro e w' ⟨he,hb'⟩;exact⟨he,hE.below hb',below_call hb hb'⟩
theorem default_is (s:ByteArray) (d:Int) (w:World) (h:Lz.defP s.data.toList=d):Calls Tryz.prog 14 #[.string s] w fun e w'=>e=.returned (.int .i64 d)/\w=w':=by
 rw[<-h];exact Default_any s w
theorem special_is (s:ByteArray) (w:World) (h:Lz.specP s.data.toList=true):Calls Tryz.prog 15 #[.string s] w fun e w'=>e=.returned (.bool true)/\w=w':=by
 rw[<-h];exact Special_any s w
theorem places_any (w:World) (hE:EnvU w):Calls Tryz.prog 5 #[] w (RBool true w):=by
 have hb:=Below.refl w.heap.size w;go_enter Tryz.func5,Tryz.ntmps5
 go_wp2_with (first
  | (go_at_call 13;refine(reads_is _ _ _ _ w _ (by decide +kernel) (by assumption) (by assumption)).mono ?_;rintro e wn ⟨rfl,hEn,hbn⟩)
  | (go_at_call 14;refine(default_is _ 80 _ (by decide +kernel)).mono ?_;rintro e wn ⟨rfl,rfl⟩)
  | (go_at_call 14;refine(default_is _ (-1) _ (by decide +kernel)).mono ?_;rintro e wn ⟨rfl,rfl⟩)
  | (go_at_call 15;refine(special_is _ _ (by decide +kernel)).mono ?_;rintro e wn ⟨rfl,rfl⟩))
 go_ret;exact⟨rfl,by assumption⟩
attribute [local go_sem ↓] Go.wp_at_zero Go.wp_at_succ
theorem str_det {l:List UInt8} {w:World} {e:Ending} {w':World} (h:RStr l w e w'):e=.returned (.string ⟨l.toArray⟩)/\Below w.heap.size w w':=by
 obtain⟨u,he,hu,hb⟩:=h;refine⟨?_,hb⟩
 have:u=⟨l.toArray⟩:=by
  have:=hu.out;subst this;rfl
 rw[he,this]
attribute [local go_sem ↓] Go.wp_at_zero Go.wp_at_succ
theorem rd_none:RdOk 2 .none:=by
 (intro X x buf a p n i e c nx sp sl ov f w hX hU hO hI hsp hR;subst hsp;have hile:=hI.1;have hsz:=hX.size;rw[len_of_size]at hile;have wm:IntKind.i64.wrap ((i:Int)-1)=(i:Int)-1:=IntWalk.i64_in _ (by omega);have wp:IntKind.i64.wrap ((i:Int)+1)=(i:Int)+1:=IntWalk.i64_in _ (by omega);have HI:=Ih hI;have HR:=Ih hR;clear hI hR;unfold FR;conv=>(arg 2;whnf))
 clear hO;have HN0:=Ih hU.non;have HB0:=Ih hU.res;cases hb:X.b with
 | none=>
   have hB:=hX.base;rw[hb]at hB;have hbv:X.bv=.pointer none:=hB;have HI2:=HI.out;rw[hb]at HI2;have HG:Hid (X.goal=.er 82):=Ih (Lz.w_none_er HI2);clear HI2 hB
   go_wp2_with (first |(refine wpList_load_row rfl 25 (.tmp 7) rfl X.N rfl 25 zeroC (0,0) _ HN0.out Tryz.underlying25 rfl urlSize ?_)|(refine wpList_store_row rfl 25 (.tmp 4) (.tmp 169) rfl X.B zeroC rfl rfl 25 zeroC HB0.out urlSize rfl (by simp[Value.oneCell']) ?_))
   exact⟨82,_,_,_,_,_,HG.out,rfl,rfl,below_setRow hU.below (Nat.le_refl _),setRow_heap _ _ _ _ _ _ HB0.out⟩
 | some y=>
   (have hB:=hX.base;rw[hb]at hB;obtain⟨q0,qfr,sch2,usr2,pas2,hh2,hst2,prt2,opq2,a2,c2,xs2,hq2,hf2,qry2,frg2,hbv,hq0,hrow0,hy,hcells0⟩:=hB)
   have hform:=hX.form y hb;subst hy;have hL2:xs2.length<=1000000:=by have:=hform.2;simpa using this
   have p0:=rowAt (brow hU.below hq0 hrow0) 0 (.string sch2) rfl;have p6:=rowAt (brow hU.below hq0 hrow0) 6 (.bool opq2) rfl;have k0:=hU.cell 0 (.string x.sch) rfl;have z0:=hU.fz 0;have hne:¬q0=X.M:=by have:=hX.bm;omega
   have hne2:¬X.M=q0:=fun h=>hne h.symm;have HC0:=Ih hcells0;have HR0:=Ih hrow0;have HI2:=HI.out;rw[hb]at HI2;have HI3:=Ih HI2;have HFo:=Ih hform;have HBV:=Ih hbv;have HBB:=Ih hb;have U0:=hU.setF hX 0 (.string sch2) {x with sch:=sch2} rfl rfl rfl;clear hcells0 hrow0 HI2 hform hb;cases opq2 with
   | true=>
     by_cases h35:c=35
     ·have n35:((c.toNat:Int) != 35)=false:=nq_y h35;have H35:=Ih h35;clear h35
      go_wp2_with fail
      rename_i K1 hK1;rw[<-HBV.out];clear hbv p0 p6 k0 z0 hU;generalize w.setCell ⟨X.M,0,none⟩ (.string sch2)=V5 at U0⊢;refine frame_st X (nmB .none) buf a p n i e c nx (Lz.specP x.url.scheme) sl ov _ rfl (fun A l hl hA=>?_);have sA:A.tmps.size=781:=by rw[hA];exact stL_size _ _ _ _ _ _ _ _ _ _ _ _ _ _ hl
      have e1:A.tmps[1]'(by rw[sA];decide)=.pointer (some ⟨q0,0,none⟩):=by subst hA;exact HBV.out
      have e6:A.tmps[6]'(by rw[sA];decide)=.pointer (some ⟨X.M,0,none⟩):=by subst hA;rfl
      have HA:=Ih hA;clear hA;have hUd:=U0.call hX (Below.refl _ V5).drew;have hSd:=hUd.below;clear U0;refine wp_region_held_drew (S:=fun V=>Below X.B X.w0 V) (by kernel_rfl) hSd (fun hHeld=>?_);generalize V5.drew=W0 at hUd hSd hHeld⊢;refine Tk 0 (v:=?_) rfl ?_ ?_;rotate_left
      ·(intro W hSw;go_simp;try with_reducible rfl)
      refine Tk 1 (v:=?_) rfl ?_ ?_;rotate_left
      ·(intro W hSw;go_simp;try with_reducible rfl)
      refine Tk 2 (v:=?_) rfl ?_ ?_;rotate_left
      ·(intro W hSw;go_simp;try with_reducible rfl)
      refine Tk 3 (v:=?_) rfl ?_ ?_;rotate_left
      ·(intro W hSw;have kk:=rowAt (brow hSw hq0 HR0.out) 7 (.slice a2 xs2.length c2) rfl;go_simp;try with_reducible rfl)
      refine Tk 5 (v:=?_) rfl ?_ ?_;rotate_left
      ·(intro W hSw;go_simp;try with_reducible rfl)
      refine Tk 6 (v:=?_) rfl ?_ ?_;rotate_left
      ·(intro W hSw;go_simp;try with_reducible rfl)
      refine Tk 7 (v:=?_) rfl ?_ ?_;rotate_left
      ·(intro W hSw;go_simp;try with_reducible rfl)
      refine Tk 8 (v:=?_) rfl ?_ ?_;rotate_left
      ·(intro W hSw;have kk:=rowAt (brow hSw hq0 HR0.out) 10 (.string qry2) rfl;go_simp;try with_reducible rfl)
      refine Tk 9 (v:=?_) rfl ?_ ?_;rotate_left
      ·(intro W hSw;go_simp;try with_reducible rfl)
      refine Tk 10 (v:=?_) rfl ?_ ?_;rotate_left
      ·(intro W hSw;go_simp;try with_reducible rfl)
      refine Tk 11 (v:=?_) rfl ?_ ?_;rotate_left
      ·(intro W hSw;go_simp;try with_reducible rfl)
      refine Tk 12 (v:=?_) rfl ?_ ?_;rotate_left
      ·(intro W hSw;have kk:=rowAt (brow hSw hq0 HR0.out) 8 (.bool hq2) rfl;go_simp;try with_reducible rfl)
      refine Tk 13 (v:=?_) rfl ?_ ?_;rotate_left
      ·(intro W hSw;go_simp;try with_reducible rfl)
      refine wpAnyH_ready (rs:=[4]) (by kernel_rfl) (by simp) ?_;refine AllReadyH.cons rfl (fun K hK=>?_) AllReadyH.nil;rw[if_pos (by rfl)];refine wp_append_nil X.B a2 c2 xs2 (.tmp 182) rfl (by go_simp) (bcells hSd HC0.out) (by omega) (hUd.hB hX) ?_;intro a3 n3 c3 W1 hP hb1;have U0:=hUd.call hX hb1;refine hK.out _ _ U0.below (fun hHeld=>?_);clear hK K hUd hSd hb1;refine wpAnyH_ready (rs:=[14]) (by kernel_rfl) (by simp) ?_;refine AllReadyH.cons rfl (fun K hK=>?_) AllReadyH.nil;have kk:=U0.cell 6 (.bool x.opq) rfl;have zz:=U0.fz 6;have U1:=U0.setF hX 6 (.bool true) {x with sch:=sch2,opq:=true} rfl rfl rfl;have hP1:=hP.setCell U0.row url_ne 6 (.bool true);go_simp;refine hK.out _ _ U1.below (fun hHeld=>?_);clear hK K kk zz U0 hP;generalize W1.setCell ⟨X.M,6,none⟩ (.bool true)=W2 at U1 hP1 hHeld⊢;refine Tk 15 (v:=?_) rfl ?_ ?_;rotate_left
      ·(intro W hSw;go_simp;try with_reducible rfl)
      refine wpAnyH_ready (rs:=[16]) (by kernel_rfl) (by simp) ?_;refine AllReadyH.cons rfl (fun K hK=>?_) AllReadyH.nil;have kk:=U1.cell 7 x.pv rfl;have zz:=U1.fz 7;have U2:=U1.set hX 7 (.slice a3 n3 c3) (x':={x with sch:=sch2,opq:=true,pv:=.slice a3 n3 c3,xs:=xs2}) rfl hP1;go_simp;refine hK.out _ _ U2.below (fun hHeld=>?_);clear hK K kk zz U1 hP1;generalize W2.setCell ⟨X.M,7,none⟩ (.slice a3 n3 c3)=W3 at U2 hHeld⊢;refine Tk 17 (v:=?_) rfl ?_ ?_;rotate_left
      ·(intro W hSw;go_simp;try with_reducible rfl)
      refine wpAnyH_ready (rs:=[18]) (by kernel_rfl) (by simp) ?_;refine AllReadyH.cons rfl (fun K hK=>?_) AllReadyH.nil;have kk:=U2.cell 10 (.string x.qry) rfl;have zz:=U2.fz 10;have U3:=U2.setF hX 10 (.string qry2) {x with sch:=sch2,opq:=true,pv:=.slice a3 n3 c3,xs:=xs2,qry:=qry2} rfl rfl rfl;go_simp;refine hK.out _ _ U3.below (fun hHeld=>?_);clear hK K kk zz U2;generalize W3.setCell ⟨X.M,10,none⟩ (.string qry2)=W4 at U3 hHeld⊢;refine Tk 19 (v:=?_) rfl ?_ ?_;rotate_left
      ·(intro W hSw;go_simp;try with_reducible rfl)
      refine wpAnyH_ready (rs:=[20]) (by kernel_rfl) (by simp) ?_;refine AllReadyH.cons rfl (fun K hK=>?_) AllReadyH.nil;have kk:=U3.cell 8 (.bool x.hq) rfl;have zz:=U3.fz 8;have U4:=U3.setF hX 8 (.bool hq2) {x with sch:=sch2,opq:=true,pv:=.slice a3 n3 c3,xs:=xs2,qry:=qry2,hq:=hq2} rfl rfl rfl;go_simp;refine hK.out _ _ U4.below (fun hHeld=>?_);clear hK K kk zz U3;generalize W4.setCell ⟨X.M,8,none⟩ (.bool hq2)=W5 at U4 hHeld⊢;refine wpAnyH_done (by kernel_rfl) ?_ _;clear e1 e6 sA;obtain rfl:=HA.out;simp only[stL_set,stL_eta,Nat.reduceLeDiff,Nat.reduceSub];refine hK1 _ _ ?_;refine reframe X (nmB .none) buf a p n i e c nx (Lz.specP x.url.scheme) sl ov _ (by simp only[List.length_set];exact hl) (fun f hf=>?_);clear hf hHeld HA hl;unfold FR;have k9:=U4.cell 9 (.bool x.hf) rfl;have z9:=U4.fz 9;have U5:=Ih (U4.setF hX 9 (.bool true) {x with sch:=sch2,opq:=true,pv:=.slice a3 n3 c3,xs:=xs2,qry:=qry2,hq:=hq2,hf:=true} rfl rfl rfl)
      have HN:Hid (Lz.After X.b X.s.data.toList X.goal .none i .frag ⟨buf.data.toList,a,p,n,MkV.url {x with sch:=sch2,opq:=true,pv:=.slice a3 n3 c3,xs:=xs2,qry:=qry2,hq:=hq2,hf:=true}⟩ (i:Int)):=Ih (by
       rw[HBB.out];exact Lz.w_none_opqf HFo.out.1 HI3.out HR.out rfl H35.out)
      go_wp2_with fail
      exact⟨.frag,_,_,_,_,_,{x with sch:=sch2,opq:=true,pv:=.slice a3 n3 c3,xs:=xs2,qry:=qry2,hq:=hq2,hf:=true},_,_,_,_,_,_,_,rfl,rfl,U5.out,opq_no (by nofun),(by nofun),HN.out⟩
     ·have n35:((c.toNat:Int) != 35)=true:=nq_n h35;have HG:Hid (X.goal=.er 82):=Ih (Lz.w_none_opq HI3.out HR.out rfl h35);clear h35 U0
      go_wp2_with (first |(refine wpList_load_row rfl 25 (.tmp 7) rfl X.N rfl 25 zeroC (0,0) _ HN0.out Tryz.underlying25 rfl urlSize ?_)|(refine wpList_store_row rfl 25 (.tmp 4) (.tmp 169) rfl X.B zeroC rfl rfl 25 zeroC HB0.out urlSize rfl (by simp[Value.oneCell']) ?_))
      exact⟨82,_,_,_,_,_,HG.out,rfl,rfl,below_setRow hU.below (Nat.le_refl _),setRow_heap _ _ _ _ _ _ HB0.out⟩
   | false=>
     have U1:=Ih U0;clear U0;by_cases hf0:sch2.data.toList=Lz.fileS
     ·have g0:=text_yes (k:=[102,105,108,101]) hf0
      have HN:Hid (Lz.After X.b X.s.data.toList X.goal .none i .file ⟨buf.data.toList,a,p,n,MkV.url {x with sch:=sch2}⟩ ((i:Int)-1)):=Ih (by
       rw[HBB.out];exact Lz.w_none_file HI3.out rfl hf0)
      clear hf0
      go_wp2_with fail
      exact⟨.file,_,_,_,_,_,{x with sch:=sch2},_,_,_,_,_,_,_,rfl,(by rw[hbv];rfl),U1.out,opq_no (by nofun),(by nofun),HN.out⟩
     ·have g0:=text_no (k:=[102,105,108,101]) hf0
      have HN:Hid (Lz.After X.b X.s.data.toList X.goal .none i .rel ⟨buf.data.toList,a,p,n,MkV.url {x with sch:=sch2}⟩ ((i:Int)-1)):=Ih (by
       rw[HBB.out];exact Lz.w_none_rel HI3.out rfl hf0)
      clear hf0
      go_wp2_with fail
      exact⟨.rel,_,_,_,_,_,{x with sch:=sch2},_,_,_,_,_,_,_,rfl,(by rw[hbv];rfl),U1.out,opq_no (by nofun),(by nofun),HN.out⟩
attribute [local go_sem ↓] Go.wp_at_zero Go.wp_at_succ
theorem sch_file {b:ByteArray} (h:b.data.toList=Lz.fileS):b=⟨#[102,105,108,101]⟩:=by
 cases b;simp only at h;congr 1;exact Array.toList_inj.1 h
theorem rd_file:RdOk 12 .file:=by
 (intro X x buf a p n i e c nx sp sl ov f w hX hU hO hI hsp hR;subst hsp;have hile:=hI.1;have hsz:=hX.size;rw[len_of_size]at hile;have wm:IntKind.i64.wrap ((i:Int)-1)=(i:Int)-1:=IntWalk.i64_in _ (by omega);have wp:IntKind.i64.wrap ((i:Int)+1)=(i:Int)+1:=IntWalk.i64_in _ (by omega);have HI:=Ih hI;have HR:=Ih hR;clear hI hR;unfold FR;conv=>(arg 2;whnf))
 clear hO;have hsch:x.sch=⟨#[102,105,108,101]⟩:=sch_file HI.out.2.2.2.1;have k0:=hU.cell 0 (.string x.sch) rfl;have z0:=hU.fz 0;have k3:=hU.cell 3 (.bool x.hh) rfl;have z3:=hU.fz 3;have U3:=(hU.setF hX 0 (.string ⟨#[102,105,108,101]⟩) {x with sch:=⟨#[102,105,108,101]⟩} rfl rfl rfl).setF hX 3 (.bool true) {x with hh:=true} (by show _=MkV.cells {x with hh:=true};rw[<-hsch];rfl) rfl rfl;have HSC:=Ih hsch;clear hsch;by_cases h47:c=47
 ·have b47:((c.toNat:Int)==47)=true:=bq_y h47;have HN:Hid (Lz.After X.b X.s.data.toList X.goal .file i .fileS ⟨buf.data.toList,a,p,n,MkV.url {x with hh:=true}⟩ (i:Int)):=Ih (Lz.w_file_slash HI.out HR.out (by rw[h47];rfl));have U3:=Ih U3;clear h47
  go_wp2_with fail
  exact⟨.fileS,_,_,_,_,_,{x with hh:=true},_,_,_,_,_,_,_,rfl,rfl,U3.out,opq_no (by nofun),(by nofun),HN.out⟩
 ·have b47:((c.toNat:Int)==47)=false:=bq_n h47;by_cases h92:c=92
  ·have b92:((c.toNat:Int)==92)=true:=bq_y h92;have HN:Hid (Lz.After X.b X.s.data.toList X.goal .file i .fileS ⟨buf.data.toList,a,p,n,MkV.url {x with hh:=true}⟩ (i:Int)):=Ih (Lz.w_file_slash HI.out HR.out (by rw[h92];rfl));have U3:=Ih U3;clear h47 h92
   go_wp2_with fail
   exact⟨.fileS,_,_,_,_,_,{x with hh:=true},_,_,_,_,_,_,_,rfl,rfl,U3.out,opq_no (by nofun),(by nofun),HN.out⟩
  ·have b92:((c.toNat:Int)==92)=false:=bq_n h92;have HC:Hid (Lz.slashQ true c=false):=Ih (by unfold Lz.slashQ;rw[beq_eq_false_iff_ne.2 h47,beq_eq_false_iff_ne.2 h92];rfl);clear h47 h92;cases hb:X.b with
   | none=>
     have hB:=hX.base;rw[hb]at hB;have hbv:X.bv=.pointer none:=hB;have HN:Hid (Lz.After X.b X.s.data.toList X.goal .file i .path ⟨buf.data.toList,a,p,n,MkV.url {x with hh:=true}⟩ ((i:Int)-1)):=Ih (Lz.w_file_no HI.out HR.out HC.out (by rw[hb];rfl));have U3:=Ih U3;clear hB
     go_wp2_with fail
     exact⟨.path,_,_,_,_,_,{x with hh:=true},_,_,_,_,_,_,_,rfl,(by rw[hbv];rfl),U3.out,opq_no (by nofun),(by nofun),HN.out⟩
   | some y=>
     (have hB:=hX.base;rw[hb]at hB;obtain⟨q0,qfr,sch2,usr2,pas2,hh2,hst2,prt2,opq2,a2,c2,xs2,hq2,hf2,qry2,frg2,hbv,hq0,hrow0,hy,hcells0⟩:=hB)
     have hform:=hX.form y hb;subst hy;have p0:=rowAt (brow hU.below hq0 hrow0) 0 (.string sch2) rfl;have hne:¬q0=X.M:=by have:=hX.bm;omega
     have hne2:¬X.M=q0:=fun h=>hne h.symm;by_cases hf0:sch2.data.toList=Lz.fileS
     ·have g0:=text_yes (k:=[102,105,108,101]) hf0;have HFB:Hid (Lz.fb X.b=some ⟨sch2.data.toList,usr2.data.toList,pas2.data.toList,hh2,hst2.data.toList,prt2,opq2,xs2.map (fun x:ByteArray=>x.data.toList),hq2,hf2,qry2.data.toList,frg2.data.toList⟩):=Ih (by rw[hb];exact if_pos hf0);have hL2:xs2.length<=1000000:=by have:=hform.2;simpa using this
      have HC0:=Ih hcells0;have HR0:=Ih hrow0;have HFo:=Ih hform;have HBV:=Ih hbv;clear hcells0 hrow0 hform hb hf0
      go_wp2_with fail
      rename_i K1 hK1;rw[<-HBV.out];clear hbv p0 k0 z0 k3 z3 hU;generalize (w.setCell ⟨X.M,0,none⟩ (.string ⟨#[102,105,108,101]⟩)).setCell ⟨X.M,3,none⟩ (.bool true)=V5 at U3⊢;refine frame_st X (nmB .file) buf a p n i e c nx (Lz.specP x.url.scheme) sl ov _ rfl (fun A l hl hA=>?_);have sA:A.tmps.size=781:=by rw[hA];exact stL_size _ _ _ _ _ _ _ _ _ _ _ _ _ _ hl
      have e1:A.tmps[1]'(by rw[sA];decide)=.pointer (some ⟨q0,0,none⟩):=by subst hA;exact HBV.out
      have e6:A.tmps[6]'(by rw[sA];decide)=.pointer (some ⟨X.M,0,none⟩):=by subst hA;rfl
      have HA:=Ih hA;clear hA;have hUd:=U3.call hX (Below.refl _ V5).drew;have hSd:=hUd.below;clear U3;refine wp_region_held_drew (S:=fun V=>Below X.B X.w0 V) (by kernel_rfl) hSd (fun hHeld=>?_);generalize V5.drew=W0 at hUd hSd hHeld⊢;refine Tk 0 (v:=?_) rfl ?_ ?_;rotate_left
      ·(intro W hSw;go_simp;try with_reducible rfl)
      refine Tk 1 (v:=?_) rfl ?_ ?_;rotate_left
      ·(intro W hSw;go_simp;try with_reducible rfl)
      refine Tk 2 (v:=?_) rfl ?_ ?_;rotate_left
      ·(intro W hSw;go_simp;try with_reducible rfl)
      refine Tk 3 (v:=?_) rfl ?_ ?_;rotate_left
      ·(intro W hSw;have kk:=rowAt (brow hSw hq0 HR0.out) 4 (.string hst2) rfl;go_simp;try with_reducible rfl)
      refine Tk 4 (v:=?_) rfl ?_ ?_;rotate_left
      ·(intro W hSw;go_simp;try with_reducible rfl)
      refine Tk 5 (v:=?_) rfl ?_ ?_;rotate_left
      ·(intro W hSw;go_simp;try with_reducible rfl)
      refine Tk 6 (v:=?_) rfl ?_ ?_;rotate_left
      ·(intro W hSw;go_simp;try with_reducible rfl)
      refine Tk 7 (v:=?_) rfl ?_ ?_;rotate_left
      ·(intro W hSw;have kk:=rowAt (brow hSw hq0 HR0.out) 7 (.slice a2 xs2.length c2) rfl;go_simp;try with_reducible rfl)
      refine Tk 9 (v:=?_) rfl ?_ ?_;rotate_left
      ·(intro W hSw;go_simp;try with_reducible rfl)
      refine Tk 10 (v:=?_) rfl ?_ ?_;rotate_left
      ·(intro W hSw;go_simp;try with_reducible rfl)
      refine Tk 11 (v:=?_) rfl ?_ ?_;rotate_left
      ·(intro W hSw;go_simp;try with_reducible rfl)
      refine Tk 12 (v:=?_) rfl ?_ ?_;rotate_left
      ·(intro W hSw;have kk:=rowAt (brow hSw hq0 HR0.out) 10 (.string qry2) rfl;go_simp;try with_reducible rfl)
      refine Tk 13 (v:=?_) rfl ?_ ?_;rotate_left
      ·(intro W hSw;go_simp;try with_reducible rfl)
      refine Tk 14 (v:=?_) rfl ?_ ?_;rotate_left
      ·(intro W hSw;go_simp;try with_reducible rfl)
      refine Tk 15 (v:=?_) rfl ?_ ?_;rotate_left
      ·(intro W hSw;go_simp;try with_reducible rfl)
      refine Tk 16 (v:=?_) rfl ?_ ?_;rotate_left
      ·(intro W hSw;have kk:=rowAt (brow hSw hq0 HR0.out) 8 (.bool hq2) rfl;go_simp;try with_reducible rfl)
      refine Tk 17 (v:=?_) rfl ?_ ?_;rotate_left
      ·(intro W hSw;go_simp;try with_reducible rfl)
      refine wpAnyH_ready (rs:=[8]) (by kernel_rfl) (by simp) ?_;refine AllReadyH.cons rfl (fun K hK=>?_) AllReadyH.nil;rw[if_pos (by rfl)];refine wp_append_nil X.B a2 c2 xs2 (.tmp 496) rfl (by go_simp) (bcells hSd HC0.out) (by omega) (hUd.hB hX) ?_;intro a3 n3 c3 W1 hP hb1;have U0:=hUd.call hX hb1;refine hK.out _ _ U0.below (fun hHeld=>?_);clear hK K hUd hSd hb1;refine wpAnyH_ready (rs:=[18]) (by kernel_rfl) (by simp) ?_;refine AllReadyH.cons rfl (fun K hK=>?_) AllReadyH.nil;have kk:=U0.cell 4 (.string x.hst) rfl;have zz:=U0.fz 4;have U1:=U0.setF hX 4 (.string hst2) {x with hh:=true,hst:=hst2} rfl rfl rfl;have hP1:=hP.setCell U0.row url_ne 4 (.string hst2);go_simp;refine hK.out _ _ U1.below (fun hHeld=>?_);clear hK K kk zz U0 hP;generalize W1.setCell ⟨X.M,4,none⟩ (.string hst2)=W2 at U1 hP1 hHeld⊢;refine Tk 19 (v:=?_) rfl ?_ ?_;rotate_left
      ·(intro W hSw;go_simp;try with_reducible rfl)
      refine wpAnyH_ready (rs:=[20]) (by kernel_rfl) (by simp) ?_;refine AllReadyH.cons rfl (fun K hK=>?_) AllReadyH.nil;have kk:=U1.cell 7 x.pv rfl;have zz:=U1.fz 7;have U2:=U1.set hX 7 (.slice a3 n3 c3) (x':={x with hh:=true,hst:=hst2,pv:=.slice a3 n3 c3,xs:=xs2}) rfl hP1;go_simp;refine hK.out _ _ U2.below (fun hHeld=>?_);clear hK K kk zz U1 hP1;generalize W2.setCell ⟨X.M,7,none⟩ (.slice a3 n3 c3)=W3 at U2 hHeld⊢;refine Tk 21 (v:=?_) rfl ?_ ?_;rotate_left
      ·(intro W hSw;go_simp;try with_reducible rfl)
      refine wpAnyH_ready (rs:=[22]) (by kernel_rfl) (by simp) ?_;refine AllReadyH.cons rfl (fun K hK=>?_) AllReadyH.nil;have kk:=U2.cell 10 (.string x.qry) rfl;have zz:=U2.fz 10;have U3:=U2.setF hX 10 (.string qry2) {x with hh:=true,hst:=hst2,pv:=.slice a3 n3 c3,xs:=xs2,qry:=qry2} rfl rfl rfl;go_simp;refine hK.out _ _ U3.below (fun hHeld=>?_);clear hK K kk zz U2;generalize W3.setCell ⟨X.M,10,none⟩ (.string qry2)=W4 at U3 hHeld⊢;refine Tk 23 (v:=?_) rfl ?_ ?_;rotate_left
      ·(intro W hSw;go_simp;try with_reducible rfl)
      refine wpAnyH_ready (rs:=[24]) (by kernel_rfl) (by simp) ?_;refine AllReadyH.cons rfl (fun K hK=>?_) AllReadyH.nil;have kk:=U3.cell 8 (.bool x.hq) rfl;have zz:=U3.fz 8;have U4:=U3.setF hX 8 (.bool hq2) {x with hh:=true,hst:=hst2,pv:=.slice a3 n3 c3,xs:=xs2,qry:=qry2,hq:=hq2} rfl rfl rfl;go_simp;refine hK.out _ _ U4.below (fun hHeld=>?_);clear hK K kk zz U3;generalize W4.setCell ⟨X.M,8,none⟩ (.bool hq2)=W5 at U4 hHeld⊢;refine wpAnyH_done (by kernel_rfl) ?_ _;clear e1 e6 sA;obtain rfl:=HA.out;simp only[stL_set,stL_eta,Nat.reduceLeDiff,Nat.reduceSub];refine hK1 _ _ ?_;refine reframe X (nmB .file) buf a p n i e c nx (Lz.specP x.url.scheme) sl ov _ (by simp only[List.length_set];exact hl) (fun f hf=>?_);clear hf hHeld HA hl;unfold FR;have k8:=U4.cell 8 (.bool hq2) rfl;have z8:=U4.fz 8;have k10:=U4.cell 10 (.string qry2) rfl;have z10:=U4.fz 10;by_cases h63:c=63
      ·have b63:((c.toNat:Int)==63)=true:=bq_y h63;have U5:=Ih ((U4.setF hX 10 (.string ⟨#[]⟩) {x with hh:=true,hst:=hst2,pv:=.slice a3 n3 c3,xs:=xs2,qry:=⟨#[]⟩,hq:=hq2} rfl rfl rfl).setF hX 8 (.bool true) {x with hh:=true,hst:=hst2,pv:=.slice a3 n3 c3,xs:=xs2,qry:=⟨#[]⟩,hq:=true} rfl rfl rfl);have HN:Hid (Lz.After X.b X.s.data.toList X.goal .file i .query ⟨buf.data.toList,a,p,n,MkV.url {x with hh:=true,hst:=hst2,pv:=.slice a3 n3 c3,xs:=xs2,qry:=⟨#[]⟩,hq:=true}⟩ (i:Int)):=Ih (Lz.w_file_q HI.out HR.out HFB.out h63);clear h63
       go_wp2_with fail
       exact⟨.query,_,_,_,_,_,{x with hh:=true,hst:=hst2,pv:=.slice a3 n3 c3,xs:=xs2,qry:=⟨#[]⟩,hq:=true},_,_,_,_,_,_,_,rfl,rfl,U5.out,opq_no (by nofun),(by nofun),HN.out⟩
      ·have b63:((c.toNat:Int)==63)=false:=bq_n h63;by_cases h35:c=35
       ·have b35:((c.toNat:Int)==35)=true:=bq_y h35;have k9:=U4.cell 9 (.bool x.hf) rfl;have z9:=U4.fz 9;have U5:=Ih (U4.setF hX 9 (.bool true) {x with hh:=true,hst:=hst2,pv:=.slice a3 n3 c3,xs:=xs2,qry:=qry2,hq:=hq2,hf:=true} rfl rfl rfl);have HN:Hid (Lz.After X.b X.s.data.toList X.goal .file i .frag ⟨buf.data.toList,a,p,n,MkV.url {x with hh:=true,hst:=hst2,pv:=.slice a3 n3 c3,xs:=xs2,qry:=qry2,hq:=hq2,hf:=true}⟩ (i:Int)):=Ih (Lz.w_file_f HFo.out.1 HI.out HR.out HFB.out h35);clear h35 h63
        go_wp2_with fail
        exact⟨.frag,_,_,_,_,_,{x with hh:=true,hst:=hst2,pv:=.slice a3 n3 c3,xs:=xs2,qry:=qry2,hq:=hq2,hf:=true},_,_,_,_,_,_,_,rfl,rfl,U5.out,opq_no (by nofun),(by nofun),HN.out⟩
       ·have b35:((c.toNat:Int)==35)=false:=bq_n h35;cases e with
        | true=>
          have HN:Hid (Lz.After X.b X.s.data.toList X.goal .file i .file ⟨buf.data.toList,a,p,n,MkV.url {x with hh:=true,hst:=hst2,pv:=.slice a3 n3 c3,xs:=xs2,qry:=qry2,hq:=hq2}⟩ (i:Int)):=Ih (Lz.w_file_end HFo.out.1 HI.out HR.out HFB.out rfl);clear h35 h63
          go_wp2_with fail
          exact⟨.file,_,_,_,_,_,{x with hh:=true,hst:=hst2,pv:=.slice a3 n3 c3,xs:=xs2,qry:=qry2,hq:=hq2},_,_,_,_,_,_,_,rfl,rfl,U4,opq_no (by nofun),(by nofun),HN.out⟩
        | false=>
          have hlt:=(Lz.Rd.no HR.out rfl).1;rw[len_of_size]at hlt;have hs0:(0:Int)<=(i:Int):=by omega
          have hs1:(i:Int)<=(X.s.size:Int):=by omega
          have U5:=(U4.setF hX 10 (.string ⟨#[]⟩) {x with hh:=true,hst:=hst2,pv:=.slice a3 n3 c3,xs:=xs2,qry:=⟨#[]⟩,hq:=hq2} rfl rfl rfl).setF hX 8 (.bool false) {x with hh:=true,hst:=hst2,pv:=.slice a3 n3 c3,xs:=xs2,qry:=⟨#[]⟩,hq:=false} rfl rfl rfl
          have HPD:∀ys:List (List UInt8),ys=(if Lz.drivenR (X.s.data.toList.drop i)then[]else Lz.shortP Lz.fileS (xs2.map (fun x:ByteArray=>x.data.toList)))->Hid (Lz.After X.b X.s.data.toList X.goal .file i .path ⟨buf.data.toList,a,p,n,{x.url with hasHost:=true,host:=hst2.data.toList,query:=[],hasQuery:=false,path:=ys}⟩ ((i:Int)-1)):=by
           intro ys hys;have:=Lz.w_file_path HFo.out.2 HI.out HR.out HFB.out HC.out rfl h63 h35;rw[hys];exact Ih this
          have cD:=driven08_any (X.s.extract i X.s.size) ((W5.setCell ⟨X.M,10,none⟩ (.string ⟨#[]⟩)).setCell ⟨X.M,8,none⟩ (.bool false));rw[extract_tail']at cD;have k7:=U5.cell 7 (.slice a3 n3 c3) rfl;have z7:=U5.fz 7;cases hdr:Lz.drivenR (X.s.data.toList.drop i)with
          | true=>
            rw[hdr]at cD;have CD:=Ih cD;have HN:=HPD [] (by rw[hdr];rfl);have U6:=Ih (U5.set hX 7 (.slice none 0 0) (x':={x with hh:=true,hst:=hst2,pv:=.slice none 0 0,xs:=[],qry:=⟨#[]⟩,hq:=false}) rfl (PathOwn.nil _ _));clear h35 h63 cD hdr HPD hlt
            go_wp2_with fail
            refine CD.out.mono ?_;rintro _ w1 ⟨rfl,rfl⟩
            go_wp2_with fail
            exact⟨.path,_,_,_,_,_,{x with hh:=true,hst:=hst2,pv:=.slice none 0 0,xs:=[],qry:=⟨#[]⟩,hq:=false},_,_,_,_,_,_,_,rfl,rfl,U6.out,opq_no (by nofun),(by nofun),HN.out⟩
          | false=>
            rw[hdr]at cD;have CD:=Ih cD;have cS:=Ih (shorten08_any X.B ⟨#[102,105,108,101]⟩ (.slice a3 n3 c3) xs2 _ U5.own (U5.hB hX) (by omega));clear h35 h63 cD hlt
            go_wp2_with fail
            refine CD.out.mono ?_;rintro _ w1 ⟨rfl,rfl⟩
            go_wp2_with fail
            refine cS.out.mono ?_;rintro _ w2 ⟨a4,n4,c4,ys,rfl,hys,hown,hb⟩;have hU2:=U5.call hX hb;have k7:=hU2.cell 7 (.slice a3 n3 c3) rfl;have z7:=hU2.fz 7;have U6:=Ih (hU2.set hX 7 (.slice a4 n4 c4) (x':={x with hh:=true,hst:=hst2,pv:=.slice a4 n4 c4,xs:=ys,qry:=⟨#[]⟩,hq:=false}) rfl hown);have HN:=HPD (ys.map (fun x:ByteArray=>x.data.toList)) (by rw[hdr,hys];rfl);clear hys hown hb cS hdr HPD
            go_wp2_with fail
            exact⟨.path,_,_,_,_,_,{x with hh:=true,hst:=hst2,pv:=.slice a4 n4 c4,xs:=ys,qry:=⟨#[]⟩,hq:=false},_,_,_,_,_,_,_,rfl,rfl,U6.out,opq_no (by nofun),(by nofun),HN.out⟩
     ·have g0:=text_no (k:=[102,105,108,101]) hf0;have HN:Hid (Lz.After X.b X.s.data.toList X.goal .file i .path ⟨buf.data.toList,a,p,n,MkV.url {x with hh:=true}⟩ ((i:Int)-1)):=Ih (Lz.w_file_no HI.out HR.out HC.out (by rw[hb];exact if_neg hf0));have U3:=Ih U3;clear hf0 hb hform hcells0
      go_wp2_with fail
      exact⟨.path,_,_,_,_,_,{x with hh:=true},_,_,_,_,_,_,_,rfl,(by rw[hbv];rfl),U3.out,opq_no (by nofun),(by nofun),HN.out⟩
theorem rd_fileS:RdOk 13 .fileS:=by
 (intro X x buf a p n i e c nx sp sl ov f w hX hU hO hI hsp hR;subst hsp;have hile:=hI.1;have hsz:=hX.size;rw[len_of_size]at hile;have wm:IntKind.i64.wrap ((i:Int)-1)=(i:Int)-1:=IntWalk.i64_in _ (by omega);have wp:IntKind.i64.wrap ((i:Int)+1)=(i:Int)+1:=IntWalk.i64_in _ (by omega);have HI:=Ih hI;have HR:=Ih hR;clear hI hR;unfold FR;conv=>(arg 2;whnf))
 clear hO;cases sl with
 | true=>
   go_wp2_with fail
   exact⟨.fileH,_,_,_,_,_,x,_,_,_,_,_,_,_,rfl,rfl,hU,opq_no (by nofun),(by nofun),Lz.w_fs_slash HI.out HR.out rfl⟩
 | false=>
   have k4:=hU.cell 4 (.string x.hst) rfl;have z4:=hU.fz 4;cases hb:X.b with
   | none=>
     have hB:=hX.base;rw[hb]at hB;have hbv:X.bv=.pointer none:=hB
     have HN:Hid (Lz.After X.b X.s.data.toList X.goal .fileS i .path ⟨buf.data.toList,a,p,n,x.url⟩ ((i:Int)-1)):=Ih (by
      have:=Lz.w_fs_path HI.out HR.out rfl;rw[hb]at this;rw[hb];exact this)
     clear hB
     go_wp2_with fail
     exact⟨.path,_,_,_,_,_,x,_,_,_,_,_,_,_,rfl,(by rw[hbv];rfl),hU,opq_no (by nofun),(by nofun),HN.out⟩
   | some y=>
     (have hB:=hX.base;rw[hb]at hB;obtain⟨q0,qfr,sch2,usr2,pas2,hh2,hst2,prt2,opq2,a2,c2,xs2,hq2,hf2,qry2,frg2,hbv,hq0,hrow0,hy,hcells0⟩:=hB)
     have hfb1:y.scheme=Lz.fileS->Lz.fb (some y)=some y:=fun h=>if_pos h;have hfb2:¬y.scheme=Lz.fileS->Lz.fb (some y)=none:=fun h=>if_neg h;subst hy;have p0:=rowAt (brow hU.below hq0 hrow0) 0 (.string sch2) rfl;have p4:=rowAt (brow hU.below hq0 hrow0) 4 (.string hst2) rfl;have p7:=rowAt (brow hU.below hq0 hrow0) 7 (.slice a2 xs2.length c2) rfl;have hne:¬q0=X.M:=by have:=hX.bm;omega
     have hne2:¬X.M=q0:=fun h=>hne h.symm;have HAf:=Lz.w_fs_path HI.out HR.out rfl;rw[hb]at HAf;by_cases hf0:sch2.data.toList=Lz.fileS
     ·have g0:=text_yes (k:=[102,105,108,101]) hf0;rw[hfb1 hf0]at HAf;have hs0:(0:Int)<=(i:Int):=by omega
      have hs1:(i:Int)<=(X.s.size:Int):=by omega
      have hmin:min (i:Int) (X.s.size:Int)=(i:Int):=by omega
      have hmin2:min i X.s.size=i:=by omega
      have U4:=hU.setF hX 4 (.string hst2) {x with hst:=hst2} rfl rfl rfl;have cD:=driven08_any (X.s.extract i X.s.size) (w.setCell ⟨X.M,4,none⟩ (.string hst2));rw[extract_tail']at cD;have hdE:Lz.drivenR (X.s.data.toList.drop i)=Lz.drivenP (Lz.mpU (X.s.data.toList.drop i)):=rfl;cases hdr:Lz.drivenR (X.s.data.toList.drop i)with
      | true=>
        rw[hdr]at cD;have CD:=Ih cD
        have HN:Hid (Lz.After X.b X.s.data.toList X.goal .fileS i .path ⟨buf.data.toList,a,p,n,MkV.url {x with hst:=hst2}⟩ ((i:Int)-1)):=Ih (by
         rw[hb];simp only[Lz.fileN]at HAf;rw[if_neg (by rw[<-hdE,hdr];simp)]at HAf;exact HAf)
        have U5:=Ih U4;clear hdr cD hdE HAf U4 hb hf0 hcells0 hrow0 hfb1 hfb2
        go_wp2_with fail
        refine CD.out.mono ?_;rintro _ w1 ⟨rfl,rfl⟩
        go_wp2_with fail
        exact⟨.path,_,_,_,_,_,{x with hst:=hst2},_,_,_,_,_,_,_,rfl,(by rw[hbv];rfl),U5.out,opq_no (by nofun),(by nofun),HN.out⟩
      | false=>
        rw[hdr]at cD;have CD:=Ih cD;cases xs2 with
        | nil=>
          have HN:Hid (Lz.After X.b X.s.data.toList X.goal .fileS i .path ⟨buf.data.toList,a,p,n,MkV.url {x with hst:=hst2}⟩ ((i:Int)-1)):=Ih (by
           rw[hb];simp only[Lz.fileN]at HAf;rw[if_neg (by simp[Lz.rootedP])]at HAf;exact HAf)
          have U5:=Ih U4;clear hdr cD hdE HAf U4 hb hf0 hcells0 hrow0 hfb1 hfb2
          go_wp2_with fail
          refine CD.out.mono ?_;rintro _ w1 ⟨rfl,rfl⟩
          go_wp2_with fail
          exact⟨.path,_,_,_,_,_,{x with hst:=hst2},_,_,_,_,_,_,_,rfl,(by rw[hbv];rfl),U5.out,opq_no (by nofun),(by nofun),HN.out⟩
        | cons z zs=>
          obtain⟨G,off,rfl,hGB,hz0⟩:=hcells0 0 z rfl;rw[Nat.add_zero]at hz0;have hlz0:(0:Int)<((z::zs).length:Int):=by rw[List.length_cons];omega
          have hlz1:(0:Int)<(zs.length:Int)+1:=by omega
          have q7:=rowAt (brow U4.below hq0 hrow0) 7 (.slice (some ⟨G,off,none⟩) (z::zs).length c2) rfl;have qz:(w.setCell ⟨X.M,4,none⟩ (.string hst2)).cell? ⟨G,off,none⟩=some (.string z):=by rw[U4.below.cell (p:=⟨G,off,none⟩) hGB];exact hz0
          have cR:=root08_any z (w.setCell ⟨X.M,4,none⟩ (.string hst2));have hrE:Lz.rootedP ((z::zs).map (fun x:ByteArray=>x.data.toList))=(Lz.driveP z.data.toList&&z.data.toList[1]? ==some 58):=rfl;simp only[Lz.fileN]at HAf;cases hrt:(Lz.driveP z.data.toList&&z.data.toList[1]? ==some 58)with
          | false=>
            rw[hrt]at cR hrE;have CR:=Ih cR
            have HN:Hid (Lz.After X.b X.s.data.toList X.goal .fileS i .path ⟨buf.data.toList,a,p,n,MkV.url {x with hst:=hst2}⟩ ((i:Int)-1)):=Ih (by
             rw[hb];rw[if_neg (fun h=>by rw[hrE]at h;exact absurd h.2 (by simp))]at HAf;exact HAf)
            clear hdr cD hdE HAf hb hf0 hcells0 hrow0 hfb1 hfb2 hrt cR hrE hz0
            go_wp2_with fail
            refine CD.out.mono ?_;rintro _ w1 ⟨rfl,rfl⟩
            go_wp2_with fail
            refine CR.out.mono ?_;rintro _ w1 ⟨rfl,rfl⟩
            go_wp2_with fail
            exact⟨.path,_,_,_,_,_,{x with hst:=hst2},_,_,_,_,_,_,_,rfl,(by rw[hbv];rfl),U4,opq_no (by nofun),(by nofun),HN.out⟩
          | true=>
            rw[hrt]at cR hrE;have CR:=Ih cR
            have HN:Hid (∀v:Value,Lz.After X.b X.s.data.toList X.goal .fileS i .path ⟨buf.data.toList,a,p,n,MkV.url {x with hst:=hst2,pv:=v,xs:=[z]}⟩ ((i:Int)-1)):=Ih (by
             intro v;rw[hb];rw[if_pos ⟨by rw[<-hdE];exact hdr,hrE⟩]at HAf;exact HAf)
            clear hdr cD hdE HAf hb hf0 hcells0 hrow0 hfb1 hfb2 hrt cR hrE hz0
            go_wp2_with fail
            refine CD.out.mono ?_;rintro _ w1 ⟨rfl,rfl⟩
            go_wp2_with fail
            refine CR.out.mono ?_;rintro _ w1 ⟨rfl,rfl⟩;generalize w.setCell ⟨X.M,4,none⟩ (.string hst2)=W5 at U4 q7 qz⊢;have U5:=U4.call hX ((Below.refl _ W5).alloc (Nat.le_refl _) (.cells #[.string z] 9));have k7:=U5.cell 7 x.pv rfl;have z7:=U5.fz 7;have U6:=Ih (U5.set hX 7 (.slice (some ⟨W5.heap.size,0,none⟩) 1 1) (x':={x with hst:=hst2,pv:=.slice (some ⟨W5.heap.size,0,none⟩) 1 1,xs:=[z]}) rfl (path_one W5 X.B z));clear CR CD p0 p4 p7 k4 z4 hU
            go_wp2_with fail
            exact⟨.path,_,_,_,_,_,{x with hst:=hst2,pv:=.slice (some ⟨W5.heap.size,0,none⟩) 1 1,xs:=[z]},_,_,_,_,_,_,_,rfl,(by rw[hbv];rfl),U6.out,opq_no (by nofun),(by nofun),HN.out _⟩
     ·have g0:=text_no (k:=[102,105,108,101]) hf0
      have HN:Hid (Lz.After X.b X.s.data.toList X.goal .fileS i .path ⟨buf.data.toList,a,p,n,x.url⟩ ((i:Int)-1)):=Ih (by
       rw[hb];rw[hfb2 hf0]at HAf;exact HAf)
      clear hf0 hb hcells0 HAf hfb1 hfb2
      go_wp2_with fail
      exact⟨.path,_,_,_,_,_,x,_,_,_,_,_,_,_,rfl,(by rw[hbv];rfl),hU,opq_no (by nofun),(by nofun),HN.out⟩
end Go.Proofs.YtipndhbgehdeoaaGreatDoor
