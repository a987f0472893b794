/-
  The tables that lazaretref04 and lazaretref05 reckon are those that packages digest and longs hold.
-/
import Derived.Test.YtibcmemcfjhgmaaGreatDoorV39
import Derived.Test.YtibcmemcfjhgmaaGreatDoorV34
import Derived.Test.YtibcmemcfjhgmaaGreatDoorV42
set_option maxHeartbeats 4000000
set_option maxRecDepth 100000
namespace Go.Proofs.YtibcmemcfjhgmaaGreatDoor
open Go.RowKit
theorem Fr (aP:List UInt32) (bJ:List UInt64) (t:ByteArray) (ht:t.size<=1000000) (k:Nat) (hk:k<256) (w:World) (hE:oS aP bJ w):Calls Tryz.prog 24 #[.string t,.int .u8 (k:Int)] w (dX (Lz.fC (bP aP bJ) (k%3) t.data.toList) w):=by
 have cE:=Ih (fun(u:ByteArray) (hu:u.size<=64) W=>pS u (by omega) W);have hel:∀l:List UInt8,l.length<=64->(Lz.bR l).length<=300:=fun l hl=>by have:=Lz.qQ l;omega
 have Hel:=Ih hel;obtain⟨m,hm⟩:∃m,m=k%3:=⟨_,rfl⟩;have fm:Int.tmod (k:Int) 3=(m:Int):=by rw[Int.tmod_eq_emod_of_nonneg (by omega)];omega
 have Dy:m=0\/m=1\/m=2:=by omega
 rw[<-hm];clear hm hel;rcases Dy with rfl|rfl|rfl
 ·have rJ:=(jY aP bJ 256 t.data.toList).1;have HD:Hid (bP aP bJ 256 t.data.toList=Lz.iJ aP bU t.data.toList):=Ih (by unfold bP;rw[if_pos rfl]);have cS:=Ih (Ib aP t (by omega) w hE.d);rw[HD.out]at rJ;clear hE;go_enter Tryz.func24,Tryz.ntmps24
  go_wp2_with fail
  refine cS.out.mono ?_;rintro e w1 ⟨rfl,av⟩;obtain⟨u,hu⟩:∃u:ByteArray,u=⟨(Lz.iJ aP bU t.data.toList).toArray⟩:=⟨_,rfl⟩;have Dt:u.data.toList=Lz.iJ aP bU t.data.toList:=by rw[hu]
  rw[<-hu];have hz:u.size<=64:=by rw[<-ac,Dt];exact rJ
  have Hul:=Ih Dt;clear hu Dt
  go_wp2_with fail
  refine(cE.out u hz _).mono ?_;rintro e w2 ⟨x,rfl,hx,aE⟩;have Py:x.size<=300:=by rw[<-ac,hx.out];exact Hel.out _ (by rw[ac];exact hz)
  have iz:¬(9223372036854775807<8+x.size):=by omega
  have GD:¬(9223372036854775807<8+x.size+1):=by omega
  go_wp2_with fail
  go_ret;exact⟨_,rfl,Ih (by simp only[ByteArray.data_append,Array.toList_append,hx.out,Hul.out];unfold Lz.fC Lz.dm;rw[show Lz.im 0=256 from rfl,HD.out];rfl),ae av aE⟩
 ·have rJ:=(jY aP bJ 384 t.data.toList).1;have HD:Hid (bP aP bJ 384 t.data.toList=(Lz.eJ bJ dO t.data.toList).take 48):=Ih (by unfold bP;rw[if_neg (by decide),if_pos rfl]);have cS:=Ih (uq bJ t (by omega) w hE.l);rw[HD.out]at rJ;clear hE;go_enter Tryz.func24,Tryz.ntmps24
  go_wp2_with fail
  refine cS.out.mono ?_;rintro e w1 ⟨u,rfl,Dt,av⟩;have hz:u.size<=64:=by rw[<-ac,Dt.out];exact rJ
  go_wp2_with fail
  refine(cE.out u hz _).mono ?_;rintro e w2 ⟨x,rfl,hx,aE⟩;have Py:x.size<=300:=by rw[<-ac,hx.out];exact Hel.out _ (by rw[ac];exact hz)
  have iz:¬(9223372036854775807<8+x.size):=by omega
  have GD:¬(9223372036854775807<8+x.size+1):=by omega
  go_wp2_with fail
  go_ret;exact⟨_,rfl,Ih (by simp only[ByteArray.data_append,Array.toList_append,hx.out,Dt.out];unfold Lz.fC Lz.dm;rw[show Lz.im 1=384 from rfl,HD.out];rfl),ae av aE⟩
 ·have rJ:=(jY aP bJ 512 t.data.toList).1;have HD:Hid (bP aP bJ 512 t.data.toList=Lz.eJ bJ eb t.data.toList):=Ih (by unfold bP;rw[if_neg (by decide),if_neg (by decide)]);have cS:=Ih (uA bJ t (by omega) w hE.l);rw[HD.out]at rJ;clear hE;go_enter Tryz.func24,Tryz.ntmps24
  go_wp2_with fail
  refine cS.out.mono ?_;rintro e w1 ⟨u,rfl,Dt,av⟩;have hz:u.size<=64:=by rw[<-ac,Dt.out];exact rJ
  go_wp2_with fail
  refine(cE.out u hz _).mono ?_;rintro e w2 ⟨x,rfl,hx,aE⟩;have Py:x.size<=300:=by rw[<-ac,hx.out];exact Hel.out _ (by rw[ac];exact hz)
  have iz:¬(9223372036854775807<8+x.size):=by omega
  have GD:¬(9223372036854775807<8+x.size+1):=by omega
  go_wp2_with fail
  go_ret;exact⟨_,rfl,Ih (by simp only[ByteArray.data_append,Array.toList_append,hx.out,Dt.out];unfold Lz.fC Lz.dm;rw[show Lz.im 2=512 from rfl,HD.out];rfl),ae av aE⟩
end Go.Proofs.YtibcmemcfjhgmaaGreatDoor
namespace Go.Proofs.YtibcmemcfjhgmaaGreatDoor
open Go.ChangeShapes Go.WideShapes Go.ChangeAt Go.RowKit
theorem aaU:ownKnob Tryz.prog.godebug=none:=by kernel_rfl
theorem BS {W:World} (h:laidMetH Tryz.prog Rows.allowInlineRow.laid W) (tK:W.ShapedOpen Tryz.prog):wg W:=
 zk h tK (.tail _ (.tail _ (.head _))) (.tail _ (.tail _ (.tail _ (.tail _ (.tail _ (.tail _ (.head _))))))) (.tail _ (.tail _ (.tail _ (.tail _ (.tail _ (.tail _ (.tail _ (.head _)))))))) (.tail _ (.tail _ (.tail _ (.tail _ (.tail _ (.tail _ (.tail _ (.tail _ (.head _))))))))) (.tail _ (.head _)) (.tail _ (.tail _ (.tail _ (.tail _ (.tail _ (.tail _ (.tail _ (.tail _ (.tail _ (.tail _ (.tail _ (.head _)))))))))))) (.tail _ (.tail _ (.tail _ (.tail _ (.tail _ (.head _))))))
theorem LP {W:World} (h:laidMetH Tryz.prog Rows.allowInlineRow.laid W) (tK:W.ShapedOpen Tryz.prog):oS E6 vk W:=
 ⟨QS (BS h tK).h (BS h tK) h (.tail _ (.tail _ (.tail _ (.tail _ (.tail _ (.tail _ (.tail _ (.tail _ (.tail _ (.head _)))))))))) (.tail _ (.tail _ (.tail _ (.tail _ (.tail _ (.tail _ (.tail _ (.tail _ (.tail _ (.tail _ (.head _))))))))))),Qd (ef h (.tail _ (.tail _ (.tail _ (.head _)))) rfl),Qq (ef h (.tail _ (.tail _ (.tail _ (.tail _ (.head _))))) rfl)⟩
def wS:DataW Unit->Array Value
 | .agg l=>(l.filterMap fun| .lit (.int k z)=>some (Value.int k z)|_=>none).toArray
 | _=> #[]
noncomputable def zS (os:Os):World:=
 {World.doorLaid Tryz.prog 130 os with heap:=(World.doorLaid Tryz.prog 130 os).heap.modify 8 fun
  | .cells _ t frozen=>.cells (wS Rows.laid_unicode_utf8_first) t frozen
  | o=>o}
theorem abi (os:Os) (args:Array Value):laidMetH Tryz.prog Rows.allowInlineRow.laid ((zS os).forCall (fun _ _=>0) ⟨#[],args,[]⟩).memory:=
 laidMetH_of_parts3 (fuel:=8) (laidMet_of_run3 8 (by kernel_rfl) (by kernel_rfl) (by kernel_rfl)) (by kernel_rfl) (by kernel_rfl)
theorem aaX {a b:Bool} (h1:a=true) (h2:b=true):(a&&b)=true:=by rw[h1,h2];rfl
theorem abr:Tryz.prog.mayEnter=true:=by kernel_rfl
theorem YJ:(Rows.allowInlineRow.lifted==Tryz.prog.liftsFinal)=true:=by kernel_rfl
theorem Zt:(Tryz.prog.make==some Rows.allowInlineRow.make)=true:=by kernel_rfl
theorem YE:mapsRowed Tryz.prog=true:=by kernel_rfl
theorem Zs:(Rows.allowInlineRow.plainKeys==Tryz.prog.plainKeys)=true:=by kernel_rfl
theorem Vv:Tryz.prog.stopsHeard=true:=by kernel_rfl
end Go.Proofs.YtibcmemcfjhgmaaGreatDoor
namespace Go.Proofs.YtibcmemcfjhgmaaGreatDoor
open Go.RowKit
attribute [local go_sem ↓] Go.wp_at_zero Go.wp_at_succ
def Y6 (b:Option Code):Code:=.block 0 (.loop (Ev b))
def Y3 (b:Option Code):Code:=.block 8 (.loop (EI b))
def At (b:Option Code):Code:=dno b
theorem MI:At Tryz.f114.body=.seq (dn1 (At Tryz.f114.body)) (.seq (dn1 (dn2 (At Tryz.f114.body))) (.seq (dn1 (dn2 (dn2 (At Tryz.f114.body)))) (.seq (.seq (dn1 (dn1 (dn2 (dn2 (dn2 (At Tryz.f114.body)))))) (Y6 Tryz.f114.body)) (.seq (dn1 (dn2 (dn2 (dn2 (dn2 (At Tryz.f114.body)))))) (.seq (.seq (dn1 (dn1 (dn2 (dn2 (dn2 (dn2 (dn2 (At Tryz.f114.body)))))))) (Y3 Tryz.f114.body)) (dn2 (dn2 (dn2 (dn2 (dn2 (dn2 (At Tryz.f114.body)))))))))))):=by kernel_rfl
def bC:List UInt64:=Lz.eX 0 80 3
def fO:List UInt32:=Lz.cp 3 64
theorem yi (h:Lz.St8 UInt64) (g c:Nat) (s:ByteArray) (fu:s.size<=1073741824) (w:World) (hc:C8L w g h):Calls Tryz.prog 114 #[.slice (some ⟨g,0,none⟩) 8 c,.string s] w (dX (Lz.eJ bC h s.data.toList) w):=by
 refine calls_of_wp (c:=At Tryz.f114.body) Tryz.func114 (by kernel_rfl) ?_;refine aw (fun A0 GC=>?_);have hT:A0.tmps= #[Value.slice (some ⟨g,0,none⟩) 8 c,.string s]++Array.replicate (272-2) undef:=by rw[GC,Tryz.ntmps114];rfl
 have z0:A0.tmps.size=272:=by rw[hT,Array.size_append,Array.size_replicate];rfl
 have t0:A0.tmps[0]? =some (.slice (some ⟨g,0,none⟩) 8 c):=by rw[hT,Array.getElem?_append_left (by show 0<2;decide)];rfl
 have t1:A0.tmps[1]? =some (.string s):=by rw[hT,Array.getElem?_append_left (by show 1<2;decide)];rfl
 have D0:A0.defers=[]:=by rw[GC]
 clear GC hT;obtain⟨R,hR⟩:∃R,R=dX (Lz.eJ bC h s.data.toList) w:=⟨_,rfl⟩;have HR:Hid (∀r w',r.data.toList=Lz.eJ bC h s.data.toList->Below w.heap.size w w'->R (.returned (.string r)) w'):=Ih (fun r w' h b=>by rw[hR];exact⟨r,rfl,Ih h,b⟩);have HRp:Hid (∀c w',¬R (.panicked c) w'):=Ih (fun c w' h=>by rw[hR]at h;obtain⟨_,h,_⟩:=h;cases h);rw[<-hR];clear hR;have cK:Hid (Calls Tryz.prog 115 #[.int .i64 0,.int .i64 80,.int .i64 3] w (zM 80 bC w)):=Ih (ro 0 80 3 (by decide) (by decide) (Or.inr rfl) w)
 have cM:Hid (∀V,Calls Tryz.prog 112 #[.string s,.int .i64 128,.int .i64 16] V (dX (s.data.toList++Lz.mB s.size) V)):=Ih (fun V=>by
  have:=so s 128 16 (Or.inr ⟨rfl,rfl⟩) fu V;rw[PS,ac]at this;exact this)
 have HC:=Ih hc;obtain⟨b1,e1⟩:=ag t1;clear hc;rw[MI];refine wp_seq ?_
 conv=>arg 2;whnf
 go_wp2_with fail
 conv=>arg 2;whnf
 go_wp2_with fail
 go_at_call 115
 refine cK.out.mono ?_;rintro e w1 ⟨gk,ck,rfl,hK,av⟩;have HK:=Ih hK;clear hK cK
 go_wp2_with fail
 conv=>arg 2;whnf
 go_wp2_with fail
 go_at_call 112
 refine(cM.out _).mono ?_;rintro e w2 ⟨m,rfl,hm,aE⟩;have HM:=Ih hm;clear hm cM
 go_wp2_with fail
 conv=>arg 2;whnf
 go_wp2_with fail
 refine aw (fun A1 bc=>?_);have z1:A1.tmps.size=272:=by rw[bc];simp only[Array.size_setIfInBounds];exact z0
 have g0:A1.tmps[0]? =some (.slice (some ⟨g,0,none⟩) 8 c):=by rw[bc];simp(disch:=decide) only[Array.getElem?_setIfInBounds_ne];exact t0
 have g5:A1.tmps[5]? =some (.slice (some ⟨gk,0,none⟩) 80 ck):=by rw[bc];simp only[Array.getElem?_setIfInBounds,Array.size_setIfInBounds,z0];rfl
 have g6:A1.tmps[6]? =some (.string m):=by rw[bc];simp only[Array.getElem?_setIfInBounds,Array.size_setIfInBounds,z0];rfl
 have g7:A1.tmps[7]? =some (.int .i64 0):=by rw[bc];simp only[Array.getElem?_setIfInBounds,Array.size_setIfInBounds,z0];rfl
 have D1:A1.defers=[]:=by rw[bc];try exact D0
 clear bc e1;have Wi:m.size=(s.data.toList++Lz.mB s.size).length:=by rw[<-HM.out.out,<-ac]
 have oj:(Lz.mB s.size).length=17+(240-(s.size+1)%128)%128:=by unfold Lz.mB Lz.wX;simp;omega
 have Px:(s.data.toList++Lz.mB s.size).length=s.size+(17+(240-(s.size+1)%128)%128):=by rw[List.length_append,oj,ac]
 obtain⟨N,hN⟩:∃N,s.size+(17+(240-(s.size+1)%128)%128)=128*N:=⟨(s.size+(17+(240-(s.size+1)%128)%128)) / 128,by omega⟩;have hmN:m.size=128*N:=by rw[Wi,Px,hN]
 have hmz:m.size<=1073742000:=by rw[Wi,Px];omega
 have HE:Hid (∀h',h'=Lz.bh (Lz.sH bC) 128 N h m.data.toList->Lz.BA h'=Lz.eJ bC h s.data.toList):=Ih (fun h' e=>by
  unfold Lz.eJ;rw[e,Lz.MS,ac,<-HM.out.out,ac,hmN,Nat.mul_div_cancel_left N (by decide)])
 clear Wi oj Px hN;have VS:=ae av aE;refine Q1 A1 w2 _ bC m N h gk ck g c hmN hmz z1 g5 g0 g6 g7 (fun i hi=>(HK.out.below aE) i (by rw[show bC.length=80 from ua 0 80 3 (by decide)];exact hi)) (HC.out.below VS) (fun c a a' w' h=>(HRp.out c w' h.2).elim) (fun A3 w3 G cc z3 d3 k3 p3 c3 b3=>?_);obtain⟨h',VV⟩:∃h',h'=Lz.bh (Lz.sH bC) 128 N h m.data.toList:=⟨_,rfl⟩;rw[<-VV]at c3;have E:=HE.out h' VV;clear VV HE
 go_wp2_with fail
 conv=>arg 2;whnf
 go_wp2_with fail
 conv=>arg 2;whnf
 go_wp2_with fail
 refine aw (fun A4 th=>?_);have z4:A4.tmps.size=272:=by rw[th];simp only[Array.size_setIfInBounds];exact z3
 have K4:∀k,k<25->A4.tmps[k]? =A3.tmps[k]? :=fun k hk=>by
  rw[th];simp(disch:=omega) only[Array.getElem?_setIfInBounds_ne]
 have g25:A4.tmps[25]? =some (.string ⟨#[]⟩):=by rw[th];simp only[Array.getElem?_setIfInBounds,Array.size_setIfInBounds,z3];rfl
 have Wj:A4.tmps[26]? =some (.int .i64 0):=by rw[th];simp only[Array.getElem?_setIfInBounds,Array.size_setIfInBounds,z3];rfl
 have D4:A4.defers=[]:=by rw[th];try exact d3.trans D1
 clear th;refine Qt A4 w3 _ h' G cc z4 ((K4 0 (by decide)).trans p3) g25 Wj c3 (fun A5 w5 r z5 d5 p5 hr b5=>?_);obtain⟨b25,e25⟩:=ag p5;have HR5:=Ih hr;clear hr
 go_wp2_with fail
 conv=>arg 2;whnf
 go_wp2_with fail
 have Xb:=VS.trans (b3.mono VS.size)
 have dH:((A5.tmps.setIfInBounds 271 (Value.string r)).setIfInBounds 4 (Value.string r)).getD 4 undef=.string r:=by
  rw[Array.getD_eq_getD_getElem?,Array.getElem?_setIfInBounds_self_of_lt (by simp only[Array.size_setIfInBounds];rw[z5];decide)];rfl
 rw[dH];exact HR.out r w5 (HR5.out.trans E) (Xb.trans (b5.mono Xb.size))
theorem Bp {w:World} {g:Nat} (h:uB w g (Lz.eX 8 8 2)):C8L w g dO:=by
 have e:Lz.eX 8 8 2=dO.list:=by decide +kernel
 rw[e]at h;exact⟨h 0 (by decide),h 1 (by decide),h 2 (by decide),h 3 (by decide),h 4 (by decide),h 5 (by decide),h 6 (by decide),h 7 (by decide)⟩
theorem AU {w:World} {g:Nat} (h:uB w g (Lz.eX 0 8 2)):C8L w g eb:=by
 have e:Lz.eX 0 8 2=eb.list:=by decide +kernel
 rw[e]at h;exact⟨h 0 (by decide),h 1 (by decide),h 2 (by decide),h 3 (by decide),h 4 (by decide),h 5 (by decide),h 6 (by decide),h 7 (by decide)⟩
theorem JN (s:ByteArray) (fu:s.size<=1073741824) (w:World):Calls Tryz.prog 67 #[.string s] w (dX (bP fO bC 256 s.data.toList) w):=by
 unfold bP;rw[if_pos rfl];exact JR s fu w
theorem Bo (s:ByteArray) (fu:s.size<=1073741824) (w:World):Calls Tryz.prog 69 #[.string s] w (dX (bP fO bC 512 s.data.toList) w):=by
 have hD:bP fO bC 512 s.data.toList=Lz.eJ bC eb s.data.toList:=by unfold bP;rw[if_neg (by decide),if_neg (by decide)]
 rw[hD];have cK:Hid (Calls Tryz.prog 115 #[.int .i64 0,.int .i64 8,.int .i64 2] w (zM 8 (Lz.eX 0 8 2) w)):=Ih (ro 0 8 2 (by decide) (by decide) (Or.inl rfl) w);have cS:Hid (∀g c V,C8L V g eb->Calls Tryz.prog 114 #[.slice (some ⟨g,0,none⟩) 8 c,.string s] V (dX (Lz.eJ bC eb s.data.toList) V)):=Ih (fun g c V h=>yi eb g c s fu V h);generalize Lz.eJ bC eb s.data.toList=l at cS⊢;clear hD;go_enter Tryz.func69,Tryz.ntmps69
 go_wp2_with fail
 refine cK.out.mono ?_;rintro e w1 ⟨g,c,rfl,hK,av⟩;have HK:=Ih (AU hK);clear hK cK
 go_wp2_with fail
 refine(cS.out g c _ HK.out).mono ?_;rintro e w2 ⟨u,rfl,hu,aE⟩
 go_wp2_with fail
 go_ret;exact⟨u,rfl,hu,ae av aE⟩
theorem BB (s:ByteArray) (fu:s.size<=1073741824) (w:World):Calls Tryz.prog 68 #[.string s] w (dX (bP fO bC 384 s.data.toList) w):=by
 have hD:bP fO bC 384 s.data.toList=(Lz.eJ bC dO s.data.toList).take 48:=by unfold bP;rw[if_neg (by decide),if_pos rfl]
 rw[hD];have cK:Hid (Calls Tryz.prog 115 #[.int .i64 8,.int .i64 8,.int .i64 2] w (zM 8 (Lz.eX 8 8 2) w)):=Ih (ro 8 8 2 (by decide) (by decide) (Or.inl rfl) w);have cS:Hid (∀g c V,C8L V g dO->Calls Tryz.prog 114 #[.slice (some ⟨g,0,none⟩) 8 c,.string s] V (dX (Lz.eJ bC dO s.data.toList) V)):=Ih (fun g c V h=>yi dO g c s fu V h);have jf:(Lz.eJ bC dO s.data.toList).length=64:=rx _ _ _;generalize Lz.eJ bC dO s.data.toList=l at cS jf⊢;clear hD;go_enter Tryz.func68,Tryz.ntmps68
 go_wp2_with fail
 refine cK.out.mono ?_;rintro e w1 ⟨g,c,rfl,hK,av⟩;have HK:=Ih (Bp hK);clear hK cK
 go_wp2_with fail
 refine(cS.out g c _ HK.out).mono ?_;rintro e w2 ⟨T,rfl,hu,aE⟩;have hz:T.size=64:=by rw[<-ac,hu.out,jf]
 clear jf
 go_wp2_with fail
 go_ret;exact⟨_,rfl,Ih (by rw[<-hu.out];simp[ByteArray.data_extract]),ae av aE⟩
end Go.Proofs.YtibcmemcfjhgmaaGreatDoor
namespace Go.Proofs.YtibcmemcfjhgmaaGreatDoor
open Go.ChangeShapes Go.WideShapes Go.ChangeAt Go.RowKit
theorem RQ:fO=E6:=by decide +kernel
theorem Mu:bC=vk:=by decide +kernel
theorem Mh {W:World} (h:laidMetH Tryz.prog Rows.allowInlineRow.laid W) (tK:W.ShapedOpen Tryz.prog):oS fO bC W:=by
 rw[RQ,Mu];exact LP h tK
end Go.Proofs.YtibcmemcfjhgmaaGreatDoor
