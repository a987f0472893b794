/-
  lazaretlaw26.MatchSelf.
-/
import Derived.Test.YtfepgodjaeddgaaGreatDoorR47
set_option maxHeartbeats 8000000
set_option maxRecDepth 100000
namespace Lz
open Go
theorem letU_lt:∀b:UInt8,ltQ (letU b)=true:=byte_all (by decide +kernel)
theorem hostW_of (l:List UInt8):HostW (104::l.map letU):=⟨by simp,fun c hc=>by
 rcases List.mem_cons.1 hc with rfl|hc
 ·decide
 ·obtain⟨b,_,rfl⟩:=List.mem_map.1 hc;exact letU_lt b⟩
theorem hostW_z (l:List UInt8):HostW (122::104::l.map letU):=⟨by simp,fun c hc=>by
 rcases List.mem_cons.1 hc with rfl|hc
 ·decide
 ·exact(hostW_of l).low c hc⟩
theorem dec_len5 (n:Nat) (h:n<65536):(Lib.decDigits n).length<=5:=by
 have:∀(k m:Nat),m<10^(k+1)->(Lib.decDigits m).length<=k+1:=by
  intro k
  induction k with
  | zero=>intro m h;rw[Lib.decDigits,dif_pos (by simpa using h)];simp
  | succ k ih=>
    intro m h;rw[Lib.decDigits];split
    ·simp
    ·have:=ih (m / 10) (by rw[Nat.pow_succ]at h;omega)
     simp;omega
 exact this 4 n (by omega)
end Lz
namespace Go.Proofs.YtfepgodjaeddgaaGreatDoor
open Go.RowKit
attribute [local go_sem ↓] Go.wp_at_zero Go.wp_at_succ
theorem wpAnyH_weakenX {P:Program} {ops:Array Oper} {Q:Exit->Act->World->Prop} {md:Region.Mode} {S S':World->Prop} (hS:∀W,S' W->S W) {fuel:Nat} {listed:Array Bool} {a:Act} {w:World} (h:wpAnyH P md ops Q S' fuel listed a w):wpAnyH P md ops Q S fuel listed a w:=by
 induction fuel generalizing listed a w with
 | zero=>exact h
 | succ fuel ih=>exact⟨h.1,fun i hi=>wpOp_mono (fun a' w' h'=>⟨hS _ h'.1,ih h'.2⟩) (h.2 i hi)⟩
theorem store_urlX {o:Oper} {a:Act} {K:Act->World->Prop} {Q:Exit->Act->World->Prop} {V:World} {r:Nat} {C0 C:Array Value} (h0:V.heap[r]? =some (.cells C0 29 (0,0))) (hs0:C0.size=12) (h12:C.size=12) (h1:C.all (·.oneCell')=true)
  (x y:Operand) (ho:o.op=.store 29 x y) (hx:a.eval x=.pointer (some ⟨r,0,none⟩)) (hy:a.eval y=.agg C) (hK:K (a.put o.dst undef) (V.setRow r C)):o.wp Tryz.prog a V K Q:=
 wp_store_row 29 x y ho r C hx hy 29 C0 h0 (by rw[h12];exact urlSize) (by rw[hs0,h12]) h1 hK
theorem cell_setRowX {V:World} {r b j:Nat} (C:Array Value) (h:b≠r):(V.setRow r C).cell? ⟨b,j,none⟩=V.cell? ⟨b,j,none⟩:=by
 unfold World.cell?;rw[setRow_other _ _ _ _ h]
def SelfQ (W:World) (B:Nat) (C:Array Value) (u:Lz.UrlL):Prop:=C.size=12/\∀V,Below W.heap.size W V->V.heap[B]? =some (.cells C 29 (0,0))/\UrlVal V (.agg C) u
theorem SelfQ.mk {W:World} {B:Nat} {C:Array Value} {u:Lz.UrlL} (h:C.size=12) (hr:W.heap[B]? =some (.cells C 29 (0,0))) (hu:UrlVal W (.agg C) u):SelfQ W B C u:=
 ⟨h,fun _ hV=>⟨(hV.block _ (row_lt hr)).trans hr,hu.below hV⟩⟩
theorem SelfQ.below {W W':World} {B:Nat} {C:Array Value} {u:Lz.UrlL} (h:SelfQ W B C u) (hb:Below W.heap.size W W'):SelfQ W' B C u:=⟨h.1,fun V hV=>h.2 V (below_call hb hV)⟩
theorem parse_is (s:ByteArray) (y:Lz.UrlL) (h:Lz.parseU s.data.toList none=.ok y) (w:World) (hE:EnvU w):Calls Tryz.prog 15 #[.string s,.pointer none] w fun e w'=>∃C:Array Value,e=.returned (.tuple #[.agg C,.int .i64 0])/\Below w.heap.size w w'/\UrlOwn w' (.agg C) y/\C.size=12/\C.all (·.oneCell')=true:=by
 refine(ParseU_any none (.pointer none) s w hE rfl (fun y h=>by cases h)).mono ?_;rintro e w' ⟨v,n,he,hb,hres⟩;obtain⟨u,h1,h2⟩:=hres.cases;rcases h2 with⟨h3,rfl⟩|⟨k,h3,_,_⟩
 ·obtain rfl:y=u:=by rw[h]at h3;exact Lz.UR.ok.inj h3
  obtain⟨sc1,us1,pa1,hh1,hs1,pr1,op1,a1,n1,c1,hq1,hf1,qr1,fr1,rfl⟩:=h1.form;exact⟨_,he,hb,h1,rfl,by simp[Value.oneCell']⟩
 ·rw[h]at h3;cases h3
theorem uok_of {s:List UInt8} {y:Lz.UrlL} (h:Lz.parseU s none=.ok y):UOk y:=⟨Lz.parse_form h,by have:=Lz.parse_wq0 h;omega⟩
theorem no_u8 {V:World} {B:Nat} {c:UInt8} (h:V.heap[B]? =some (.cells zeroC 29 (0,0))) (h2:V.cell? ⟨B,0,none⟩=some (.int .u8 c.toNat)):False:=by
 have:=rowAt h 0 _ rfl;rw[this]at h2;cases h2
theorem selfX_text (pre:ByteArray) (k:Nat) (hd:List UInt8) (hp:pre.data.toList=Lz.schemeAt k++[58,47,47]++hd) (S D:ByteArray) (n:Nat) (hD:D.data.toList=Lib.decDigits n) (r:ByteArray):((((pre++S)++⟨#[46,120,58]⟩)++D)++r:ByteArray).data.toList=Lz.schemeAt k++[58,47,47]++Lz.hostX (hd++S.data.toList)++[58]++Lib.decDigits n++r.data.toList:=by
 rw[append_data',append_data',append_data',append_data',hp,hD];unfold Lz.hostX
 simp
def sndC:Code->Code
 | .seq _ b=>b
 | c=>c
noncomputable def selfT:Code:=sndC (sndC (sndC (sndC (sndC (sndC (Tryz.f6.body.getD .skip))))))
theorem list_lettersX (n m:Nat) (l:List Value) (h:l.length=m):∃x:Nat->Value,l=(List.range' n m).map x:=
 ⟨fun k=>l.getD (k-n) undef,by
  apply List.ext_getElem
  ·simp[h]
  ·intro i h1 h2
   simp[List.getD_eq_getElem?_getD,h1]⟩
theorem self_tail (v pv:Value) (S:ByteArray) (l:List UInt8) (c:UInt8) (p0 p1:Nat) (a2 a3 a5 a8 a13 a14 a15 a16 a17 a18 a19:Value) (w B0 W2:World) (B1 B2:Nat) (C1 C2:Array Value) (r:List Value) (hr:r.length=145) (h0:p0<65536) (h1:p1<65536) (hSd:S.data.toList=104::l.map Lz.letU) (hsz:S.size<=21) (hcl:Lz.ltQ c=true) (HPC:Hid (∀V,Below B0.heap.size B0 V->V.cell? ⟨w.heap.size,0,none⟩=some (.int .u16 p0)/\V.cell? ⟨w.heap.size,1,none⟩=some (.int .u16 p1))) (hE:EnvM B0) (hbB:Below w.heap.size w B0) (hbV:Below B0.heap.size B0 W2) (hs1:SelfQ W2 B1 C1 (Lz.selfV 1 (104::l.map Lz.letU) p0 [])) (hs2:SelfQ W2 B2 C2 (Lz.selfV 1 (104::l.map Lz.letU) p0 [c])):
  Code.wp Tryz.prog selfT (bodyPost Tryz.prog Tryz.f6 (RBool true w)) ⟨(v::pv::a2::a3::.pointer (some ⟨w.heap.size,0,none⟩)::a5::.bool false::.string S::a8::.pointer (some ⟨B1,0,none⟩)::.int .i64 0::.pointer (some ⟨B2,0,none⟩)::.int .i64 0::a13::a14::a15::a16::a17::a18::a19::r).toArray,[]⟩ W2:=by
 obtain⟨f,rfl⟩:=list_lettersX 20 145 r hr;clear hr;simp only[List.range',List.map_cons,List.map_nil];have HE:=Ih hE;have w0w:IntKind.i64.wrap (p0:Int)=(p0:Int):=IntWalk.i64_in _ (by omega);have w1w:IntKind.i64.wrap (p1:Int)=(p1:Int):=IntWalk.i64_in _ (by omega);have kD:=Ih (fun V=>digits26_any p0 h0 V);have kDp:=Ih (fun V=>digits26_any p1 h1 V);have HD5:=Ih (Lz.dec_len5 p0 h0);have HD5p:=Ih (Lz.dec_len5 p1 h1);obtain⟨hst,hhst⟩:∃hst,hst=104::l.map Lz.letU:=⟨_,rfl⟩;have hSd2:S.data.toList=hst:=by rw[hhst];exact hSd
 have hW:Lz.HostW hst:=by rw[hhst];exact Lz.hostW_of l
 have hWz:Lz.HostW (122::hst):=by rw[hhst];exact Lz.hostW_z l
 have hhl:hst.length<=21:=by rw[<-hSd2,len_of_size];exact hsz
 have HO:Hid (Lz.selfM (Lz.selfV 1 (122::hst) p0 []) (Lz.selfV 1 hst p0 [])=false):=Ih (by rw[hhst];exact Lz.self_other p0 (l.map Lz.letU) []);have y1:=Lz.self_parse 1 p0 (by omega) h0 hW (by omega) (r:=[]) (Or.inl rfl);have y2:=Lz.self_parse 1 p0 (by omega) h0 hW (by omega) (r:=[c]) (Or.inr ⟨c,hcl,rfl⟩);have y3:=Lz.self_parse 1 p0 (by omega) h0 hWz (by rw[List.length_cons];omega) (r:=[]) (Or.inl rfl);have y4:=Lz.self_parse 1 p1 (by omega) h1 hW (by omega) (r:=[]) (Or.inl rfl);have y5:=Lz.self_parse 0 p0 (by omega) h0 hW (by omega) (r:=[]) (Or.inl rfl);have o1:=uok_of y1;have o2:=uok_of y2;have o3:=uok_of y3;have o4:=uok_of y4;have o5:=uok_of y5
 have kT3:Hid (∀V (D:ByteArray),Hid (D.data.toList=Lib.decDigits p0)->Below B0.heap.size B0 V->Calls Tryz.prog 15 #[.string (⟨#[104,116,116,112,115,58,47,47,122]⟩++S++⟨#[46,120,58]⟩++D++⟨#[47]⟩:ByteArray),.pointer none] V fun e w'=>∃C:Array Value,e=.returned (.tuple #[.agg C,.int .i64 0])/\Below V.heap.size V w'/\UrlOwn w' (.agg C) (Lz.selfV 1 (122::hst) p0 [])/\C.size=12/\C.all (·.oneCell')=true):=Ih (fun V D hD hV=>by
  refine parse_is _ _ ?_ V (HE.out.below hV).u;have e:=selfX_text ⟨#[104,116,116,112,115,58,47,47,122]⟩ 1 [122] rfl S D p0 hD.out (⟨#[47]⟩);rw[hSd2]at e;refine(congrArg (fun t=>Lz.parseU t none) (?_:_=Lz.selfX 1 (122::hst) p0 [])).trans y3;rw[e];unfold Lz.selfX;simp)
 have kT4:Hid (∀V (D:ByteArray),Hid (D.data.toList=Lib.decDigits p1)->Below B0.heap.size B0 V->Calls Tryz.prog 15 #[.string (⟨#[104,116,116,112,115,58,47,47]⟩++S++⟨#[46,120,58]⟩++D++⟨#[47]⟩:ByteArray),.pointer none] V fun e w'=>∃C:Array Value,e=.returned (.tuple #[.agg C,.int .i64 0])/\Below V.heap.size V w'/\UrlOwn w' (.agg C) (Lz.selfV 1 hst p1 [])/\C.size=12/\C.all (·.oneCell')=true):=Ih (fun V D hD hV=>by
  refine parse_is _ _ ?_ V (HE.out.below hV).u;have e:=selfX_text ⟨#[104,116,116,112,115,58,47,47]⟩ 1 [] rfl S D p1 hD.out (⟨#[47]⟩);rw[hSd2]at e;refine(congrArg (fun t=>Lz.parseU t none) (?_:_=Lz.selfX 1 hst p1 [])).trans y4;rw[e];unfold Lz.selfX;simp)
 have kT5:Hid (∀V (D:ByteArray),Hid (D.data.toList=Lib.decDigits p0)->Below B0.heap.size B0 V->Calls Tryz.prog 15 #[.string (⟨#[104,116,116,112,58,47,47]⟩++S++⟨#[46,120,58]⟩++D++⟨#[47]⟩:ByteArray),.pointer none] V fun e w'=>∃C:Array Value,e=.returned (.tuple #[.agg C,.int .i64 0])/\Below V.heap.size V w'/\UrlOwn w' (.agg C) (Lz.selfV 0 hst p0 [])/\C.size=12/\C.all (·.oneCell')=true):=Ih (fun V D hD hV=>by
  refine parse_is _ _ ?_ V (HE.out.below hV).u;have e:=selfX_text ⟨#[104,116,116,112,58,47,47]⟩ 0 [] rfl S D p0 hD.out (⟨#[47]⟩);rw[hSd2]at e;refine(congrArg (fun t=>Lz.parseU t none) (?_:_=Lz.selfX 0 hst p0 [])).trans y5;rw[e];unfold Lz.selfX;simp)
 rw[<-hhst]at hs1 hs2;clear y1 y2 y3 y4 y5 hSd hSd2 hhst hW hWz hhl hcl hE;unfold selfT
 conv=>(arg 2;whnf)
 go_upto_region 10 with fail
 go_cut [13,14] (fun p z wx=>∃(B:Nat) (C:Array Value),p=.pointer (some ⟨B,0,none⟩)/\z=.int .i64 0/\SelfQ wx B C (Lz.selfV 1 (122::hst) p0 [])/\Below W2.heap.size W2 wx)
 case first=>
  obtain⟨hp0,hp1⟩:=HPC.out W2 hbV
  go_wp2_with fail
  refine(kD.out _).mono ?_;rintro e v1 ⟨D,rfl,hD,hb1⟩;have hDz:D.size<=5:=by rw[<-len_of_size,hD.out];exact HD5.out
  clear hp0 hp1
  go_wp2_with fail
  refine(kT3.out _ D hD (below_call hbV hb1)).mono ?_;rintro e v2 ⟨C,rfl,hb2,hU,hCz,hC1⟩;have hal:Below v2.heap.size v2 (v2.alloc (.cells zeroC 29)):=(Below.refl _ v2).alloc (Nat.le_refl _) _;have hfin:SelfQ ((v2.alloc (.cells zeroC 29)).setRow v2.heap.size C) v2.heap.size C (Lz.selfV 1 (122::hst) p0 []):=SelfQ.mk hCz (setRow_heap _ _ _ _ _ _ (heap_new _ _)) ((hU.below hal).setRow (heap_new v2 (.cells zeroC 29)) C).val;have hbf:Below W2.heap.size W2 ((v2.alloc (.cells zeroC 29)).setRow v2.heap.size C):=below_setRow (below_call (below_call hb1 hb2) hal) (below_call hb1 hb2).size
  go_wp2_with (refine store_urlM rfl (.tmp 13) (.tmp 83) rfl v2.heap.size rfl C rfl zeroC (heap_new _ _) (by rw[hCz];rfl) (by rw[hCz];exact urlSize) hC1 ?_)
  go_meet;exact⟨v2.heap.size,C,rfl,rfl,hfin,hbf⟩
 case rest=>
 obtain⟨B3,C3,rfl,rfl,hs3,hbn⟩:=hcut;obtain⟨W3,hWn⟩:∃V,V=wc:=⟨_,rfl⟩;rw[<-hWn]at hs3 hbn⊢;clear hWn;have hbV':=below_call hbV hbn;clear hbV;have hbV:=hbV';clear hbV';have hs1':=hs1.below hbn;clear hs1;have hs1:=hs1';clear hs1';have hs2':=hs2.below hbn;clear hs2;have hs2:=hs2';clear hs2';clear hbn kT3
 go_upto_region 11 with fail
 go_cut [15,16] (fun p z wx=>∃(B:Nat) (C:Array Value),p=.pointer (some ⟨B,0,none⟩)/\z=.int .i64 0/\SelfQ wx B C (Lz.selfV 1 hst p1 [])/\Below W3.heap.size W3 wx)
 case first=>
  obtain⟨hp0,hp1⟩:=HPC.out W3 hbV
  go_wp2_with fail
  refine(kDp.out _).mono ?_;rintro e v1 ⟨D,rfl,hD,hb1⟩;have hDz:D.size<=5:=by rw[<-len_of_size,hD.out];exact HD5p.out
  clear hp0 hp1
  go_wp2_with fail
  refine(kT4.out _ D hD (below_call hbV hb1)).mono ?_;rintro e v2 ⟨C,rfl,hb2,hU,hCz,hC1⟩;have hal:Below v2.heap.size v2 (v2.alloc (.cells zeroC 29)):=(Below.refl _ v2).alloc (Nat.le_refl _) _;have hfin:SelfQ ((v2.alloc (.cells zeroC 29)).setRow v2.heap.size C) v2.heap.size C (Lz.selfV 1 hst p1 []):=SelfQ.mk hCz (setRow_heap _ _ _ _ _ _ (heap_new _ _)) ((hU.below hal).setRow (heap_new v2 (.cells zeroC 29)) C).val;have hbf:Below W3.heap.size W3 ((v2.alloc (.cells zeroC 29)).setRow v2.heap.size C):=below_setRow (below_call (below_call hb1 hb2) hal) (below_call hb1 hb2).size
  go_wp2_with (refine store_urlM rfl (.tmp 15) (.tmp 96) rfl v2.heap.size rfl C rfl zeroC (heap_new _ _) (by rw[hCz];rfl) (by rw[hCz];exact urlSize) hC1 ?_)
  go_meet;exact⟨v2.heap.size,C,rfl,rfl,hfin,hbf⟩
 case rest=>
 obtain⟨B4,C4,rfl,rfl,hs4,hbn⟩:=hcut;obtain⟨W4,hWn⟩:∃V,V=wc:=⟨_,rfl⟩;rw[<-hWn]at hs4 hbn⊢;clear hWn;have hbV':=below_call hbV hbn;clear hbV;have hbV:=hbV';clear hbV';have hs1':=hs1.below hbn;clear hs1;have hs1:=hs1';clear hs1';have hs2':=hs2.below hbn;clear hs2;have hs2:=hs2';clear hs2';have hs3':=hs3.below hbn;clear hs3;have hs3:=hs3';clear hs3';clear hbn kT4
 go_upto_region 12 with fail
 go_cut [17,18] (fun p z wx=>∃(B:Nat) (C:Array Value),p=.pointer (some ⟨B,0,none⟩)/\z=.int .i64 0/\SelfQ wx B C (Lz.selfV 0 hst p0 [])/\Below W4.heap.size W4 wx)
 case first=>
  obtain⟨hp0,hp1⟩:=HPC.out W4 hbV
  go_wp2_with fail
  refine(kD.out _).mono ?_;rintro e v1 ⟨D,rfl,hD,hb1⟩;have hDz:D.size<=5:=by rw[<-len_of_size,hD.out];exact HD5.out
  clear hp0 hp1
  go_wp2_with fail
  refine(kT5.out _ D hD (below_call hbV hb1)).mono ?_;rintro e v2 ⟨C,rfl,hb2,hU,hCz,hC1⟩;have hal:Below v2.heap.size v2 (v2.alloc (.cells zeroC 29)):=(Below.refl _ v2).alloc (Nat.le_refl _) _;have hfin:SelfQ ((v2.alloc (.cells zeroC 29)).setRow v2.heap.size C) v2.heap.size C (Lz.selfV 0 hst p0 []):=SelfQ.mk hCz (setRow_heap _ _ _ _ _ _ (heap_new _ _)) ((hU.below hal).setRow (heap_new v2 (.cells zeroC 29)) C).val;have hbf:Below W4.heap.size W4 ((v2.alloc (.cells zeroC 29)).setRow v2.heap.size C):=below_setRow (below_call (below_call hb1 hb2) hal) (below_call hb1 hb2).size
  go_wp2_with (refine store_urlM rfl (.tmp 17) (.tmp 109) rfl v2.heap.size rfl C rfl zeroC (heap_new _ _) (by rw[hCz];rfl) (by rw[hCz];exact urlSize) hC1 ?_)
  go_meet;exact⟨v2.heap.size,C,rfl,rfl,hfin,hbf⟩
 case rest=>
 obtain⟨B5,C5,rfl,rfl,hs5,hbn⟩:=hcut;obtain⟨W5,hWn⟩:∃V,V=wc:=⟨_,rfl⟩;rw[<-hWn]at hs5 hbn⊢;clear hWn;have hbV':=below_call hbV hbn;clear hbV;have hbV:=hbV';clear hbV';have hs1':=hs1.below hbn;clear hs1;have hs1:=hs1';clear hs1';have hs2':=hs2.below hbn;clear hs2;have hs2:=hs2';clear hs2';have hs3':=hs3.below hbn;clear hs3;have hs3:=hs3';clear hs3';have hs4':=hs4.below hbn;clear hs4;have hs4:=hs4';clear hs4';clear hbn kT5;have hbn:Below W5.heap.size W5 (W5.alloc (.cells #[.string ⟨#[39,115,101,108,102,39]⟩] 9)):=(Below.refl _ _).alloc (Nat.le_refl _) _;obtain⟨W6,hW6⟩:∃W6,W6=W5.alloc (.cells #[.string ⟨#[39,115,101,108,102,39]⟩] 9):=⟨_,rfl⟩;have hpa:PathAt W6 (.slice (some ⟨W5.heap.size,0,none⟩) 1 1) [Lz.selfVal]:=by rw[hW6];exact pathAt_one W5 ⟨#[39,115,101,108,102,39]⟩
 rw[<-hW6]at hbn;have hs1':=hs1.below hbn;have hs2':=hs2.below hbn;have hs3':=hs3.below hbn;have hs4':=hs4.below hbn;have hs5':=hs5.below hbn;have hb6:=below_call hbV hbn;have hE6:=HE.out.below hb6;have hwW6:=below_call hbB hb6
 have kG:∀(C:Array Value) (B:Nat) (u:Lz.UrlL) (b:Bool),SelfQ W6 B C u->UOk u->Lz.selfM u (Lz.selfV 1 hst p0 [])=b->Hid (∀V,Below W6.heap.size W6 V->Calls Tryz.prog 16 #[.agg C,.slice (some ⟨W5.heap.size,0,none⟩) 1 1,.agg C1,.bool false] V fun e w'=>e=.returned (.bool b)/\Below W6.heap.size W6 w'):=fun C B u b hq ho hb=>Ih (fun V hV=>by
  rw[<-hb,<-Lz.any_self u (Lz.selfV 1 hst p0 []) false];refine(AnyM_any _ u _ [Lz.selfVal] _ (Lz.selfV 1 hst p0 []) false V (hE6.below hV) (hq.2 V hV).2 ho (hs1'.2 V hV).2 o1 (hpa.below hV) (by simp) (fun x hx=>by rw[List.mem_singleton.1 hx];decide)).mono ?_;exact fun e w' ⟨h1,h2⟩=>⟨h1,below_call hV h2⟩)
 obtain⟨qp,hqp⟩:∃q,q=decide (p0=p1):=⟨_,rfl⟩;have kA2:=kG _ _ _ true hs2' o2 (Lz.self_own p0 hst [c]);have kA3:=kG _ _ _ false hs3' o3 (by have:=HO.out;exact this);have kA4:=kG _ _ _ qp hs4' o4 (by rw[hqp];exact Lz.self_port p0 p1 h0 h1 hst []);have kA5:=kG _ _ _ false hs5' o5 (Lz.self_plain p0 hst []);have HPC6:Hid (∀V,Below W6.heap.size W6 V->V.cell? ⟨w.heap.size,0,none⟩=some (.int .u16 p0)/\V.cell? ⟨w.heap.size,1,none⟩=some (.int .u16 p1)):=Ih (fun V hV=>HPC.out V (below_call hb6 hV));have kH:Hid (∀V,Below W6.heap.size W6 V->Calls Tryz.prog 8 #[] V fun e w'=>e=.returned (.bool true)/\Below W6.heap.size W6 w'):=Ih (fun V hV=>(holds26_any V (hE6.below hV)).mono fun e w' ⟨h1,h2⟩=>⟨h1,below_call hV h2⟩)
 have hpq:((p0:Int)==(p1:Int))=qp:=by
  rw[hqp];by_cases e:p0=p1
  ·rw[e];simp
  ·rw[decide_eq_false e,beq_eq_false_iff_ne];omega
 have hqq:(qp==qp)=true:=beq_self_eq_true _;clear HPC;have HPC:=HPC6;clear HPC6 hqp kG hs1 hs2 hs3 hs4 hs5 o1 o2 o3 o4 o5 hE6 hpa hbV hb6 hbn HO;have Hs1:=Ih hs1';have Hs2:=Ih hs2';have Hs3:=Ih hs3';have Hs4:=Ih hs4';have Hs5:=Ih hs5';clear hs1' hs2' hs3' hs4' hs5'
 go_upto_region 14 with fail
 rw[<-hW6];clear hW6;refine wp_region_held_drew (S:=fun V=>Below W6.heap.size W6 V) (by kernel_rfl) (Below.refl _ _).drew (fun hHeld=>?_);generalize W6.drew=W0 at hHeld⊢;refine TkD 0 (some 112) (v:=?_) rfl rfl ?_ ?_;rotate_left
 ·(intro W hSw;go_simp;try with_reducible rfl)
 (try simp only[Act.put]);(try simp only[List.setIfInBounds_toArray]);(try simp only[List.set_cons_zero,List.set_cons_succ])
 refine TkD 1 (some 113) (v:=?_) rfl rfl ?_ ?_;rotate_left
 ·(intro W hSw;go_simp;try with_reducible rfl)
 (try simp only[Act.put]);(try simp only[List.setIfInBounds_toArray]);(try simp only[List.set_cons_zero,List.set_cons_succ])
 refine TkD 2 (some 114) (v:=?_) rfl rfl ?_ ?_;rotate_left
 ·(intro W hSw;go_simp;try with_reducible rfl)
 (try simp only[Act.put]);(try simp only[List.setIfInBounds_toArray]);(try simp only[List.set_cons_zero,List.set_cons_succ])
 refine TkD 3 (some 115) (v:=?_) rfl rfl ?_ ?_;rotate_left
 ·(intro W hSw;go_simp;try with_reducible rfl)
 (try simp only[Act.put]);(try simp only[List.setIfInBounds_toArray]);(try simp only[List.set_cons_zero,List.set_cons_succ])
 refine TkD 4 (some 116) (v:=?_) rfl rfl ?_ ?_;rotate_left
 ·(intro W hSw;go_simp;try with_reducible rfl)
 (try simp only[Act.put]);(try simp only[List.setIfInBounds_toArray]);(try simp only[List.set_cons_zero,List.set_cons_succ])
 refine TkD 5 (some 117) (v:=?_) rfl rfl ?_ ?_;rotate_left
 ·(intro W hSw;go_simp;try with_reducible rfl)
 (try simp only[Act.put]);(try simp only[List.setIfInBounds_toArray]);(try simp only[List.set_cons_zero,List.set_cons_succ])
 refine TkD 6 (some 118) (v:=?_) rfl rfl ?_ ?_;rotate_left
 ·(intro W hSw;go_simp;try with_reducible rfl)
 (try simp only[Act.put]);(try simp only[List.setIfInBounds_toArray]);(try simp only[List.set_cons_zero,List.set_cons_succ])
 refine TkD 7 (some 119) (v:=?_) rfl rfl ?_ ?_;rotate_left
 ·(intro W hSw;go_simp;try with_reducible rfl)
 (try simp only[Act.put]);(try simp only[List.setIfInBounds_toArray]);(try simp only[List.set_cons_zero,List.set_cons_succ])
 refine TkD 8 (some 120) (v:=?_) rfl rfl ?_ ?_;rotate_left
 ·(intro W hSw;go_simp;try with_reducible rfl)
 (try simp only[Act.put]);(try simp only[List.setIfInBounds_toArray]);(try simp only[List.set_cons_zero,List.set_cons_succ])
 refine TkD 9 (some 121) (v:=?_) rfl rfl ?_ ?_;rotate_left
 ·(intro W hSw;go_simp;try with_reducible rfl)
 (try simp only[Act.put]);(try simp only[List.setIfInBounds_toArray]);(try simp only[List.set_cons_zero,List.set_cons_succ])
 refine TkD 10 (some 122) (v:=?_) rfl rfl ?_ ?_;rotate_left
 ·(intro W hSw;go_simp;try with_reducible rfl)
 (try simp only[Act.put]);(try simp only[List.setIfInBounds_toArray]);(try simp only[List.set_cons_zero,List.set_cons_succ])
 refine TkD 11 (some 123) (v:=?_) rfl rfl ?_ ?_;rotate_left
 ·(intro W hSw;go_simp;try with_reducible rfl)
 (try simp only[Act.put]);(try simp only[List.setIfInBounds_toArray]);(try simp only[List.set_cons_zero,List.set_cons_succ])
 refine TkD 12 (some 124) (v:=?_) rfl rfl ?_ ?_;rotate_left
 ·(intro W hSw;go_simp;try with_reducible rfl)
 (try simp only[Act.put]);(try simp only[List.setIfInBounds_toArray]);(try simp only[List.set_cons_zero,List.set_cons_succ])
 refine TkD 13 (some 125) (v:=?_) rfl rfl ?_ ?_;rotate_left
 ·(intro W hSw;go_simp;try with_reducible rfl)
 (try simp only[Act.put]);(try simp only[List.setIfInBounds_toArray]);(try simp only[List.set_cons_zero,List.set_cons_succ])
 refine TkD 14 (some 126) (v:=?_) rfl rfl ?_ ?_;rotate_left
 ·(intro W hSw;go_simp;try with_reducible rfl)
 (try simp only[Act.put]);(try simp only[List.setIfInBounds_toArray]);(try simp only[List.set_cons_zero,List.set_cons_succ])
 refine TkD 15 (some 127) (v:=?_) rfl rfl ?_ ?_;rotate_left
 ·(intro W hSw;go_simp;try with_reducible rfl)
 (try simp only[Act.put]);(try simp only[List.setIfInBounds_toArray]);(try simp only[List.set_cons_zero,List.set_cons_succ])
 refine TkD 16 (some 128) (v:=?_) rfl rfl ?_ ?_;rotate_left
 ·(intro W hSw;go_simp;try with_reducible rfl)
 (try simp only[Act.put]);(try simp only[List.setIfInBounds_toArray]);(try simp only[List.set_cons_zero,List.set_cons_succ])
 refine TkD 17 (some 129) (v:=?_) rfl rfl ?_ ?_;rotate_left
 ·(intro W hSw;go_simp;try with_reducible rfl)
 (try simp only[Act.put]);(try simp only[List.setIfInBounds_toArray]);(try simp only[List.set_cons_zero,List.set_cons_succ])
 refine TkD 18 (some 130) (v:=?_) rfl rfl ?_ ?_;rotate_left
 ·(intro W hSw;go_simp;try with_reducible rfl)
 (try simp only[Act.put]);(try simp only[List.setIfInBounds_toArray]);(try simp only[List.set_cons_zero,List.set_cons_succ])
 refine TkD 19 (some 131) rfl rfl (fun W hSw=>exec_load_url (.tmp 11) rfl _ rfl _ (0,0) (Hs2.out.2 W hSw).1 Hs2.out.1) ?_
 (try simp only[Act.put]);(try simp only[List.setIfInBounds_toArray]);(try simp only[List.set_cons_zero,List.set_cons_succ])
 refine TkD 20 (some 132) (v:=?_) rfl rfl ?_ ?_;rotate_left
 ·(intro W hSw;go_simp;try with_reducible rfl)
 (try simp only[Act.put]);(try simp only[List.setIfInBounds_toArray]);(try simp only[List.set_cons_zero,List.set_cons_succ])
 refine TkD 21 (some 133) rfl rfl (fun W hSw=>exec_load_url (.tmp 9) rfl _ rfl _ (0,0) (Hs1.out.2 W hSw).1 Hs1.out.1) ?_
 (try simp only[Act.put]);(try simp only[List.setIfInBounds_toArray]);(try simp only[List.set_cons_zero,List.set_cons_succ])
 refine wpAnyH_ready (rs:=[22]) (by kernel_rfl) (by simp) ?_;refine AllReadyH.cons rfl (fun K hK=>?_) AllReadyH.nil;go_simp
 go_at_call 16
 refine(kA2.out _ hHeld).mono ?_;rintro e w9 ⟨rfl,hK5⟩;clear hHeld;refine hK.out _ _ hK5 (fun hHeld=>?_);clear hK K
 (try simp only[Act.put]);(try simp only[List.setIfInBounds_toArray]);(try simp only[List.set_cons_zero,List.set_cons_succ])
 refine TkD 23 (some 135) (v:=?_) rfl rfl ?_ ?_;rotate_left
 ·(intro W hSw;go_simp;try with_reducible rfl)
 (try simp only[Act.put]);(try simp only[List.setIfInBounds_toArray]);(try simp only[List.set_cons_zero,List.set_cons_succ])
 refine TkD 24 (some 136) (v:=?_) rfl rfl ?_ ?_;rotate_left
 ·(intro W hSw;go_simp;try with_reducible rfl)
 (try simp only[Act.put]);(try simp only[List.setIfInBounds_toArray]);(try simp only[List.set_cons_zero,List.set_cons_succ])
 refine TkD 25 (some 137) rfl rfl (fun W hSw=>exec_load_url (.tmp 13) rfl _ rfl _ (0,0) (Hs3.out.2 W hSw).1 Hs3.out.1) ?_
 (try simp only[Act.put]);(try simp only[List.setIfInBounds_toArray]);(try simp only[List.set_cons_zero,List.set_cons_succ])
 refine TkD 26 (some 138) (v:=?_) rfl rfl ?_ ?_;rotate_left
 ·(intro W hSw;go_simp;try with_reducible rfl)
 (try simp only[Act.put]);(try simp only[List.setIfInBounds_toArray]);(try simp only[List.set_cons_zero,List.set_cons_succ])
 refine TkD 27 (some 139) rfl rfl (fun W hSw=>exec_load_url (.tmp 9) rfl _ rfl _ (0,0) (Hs1.out.2 W hSw).1 Hs1.out.1) ?_
 (try simp only[Act.put]);(try simp only[List.setIfInBounds_toArray]);(try simp only[List.set_cons_zero,List.set_cons_succ])
 refine wpAnyH_ready (rs:=[28]) (by kernel_rfl) (by simp) ?_;refine AllReadyH.cons rfl (fun K hK=>?_) AllReadyH.nil;go_simp
 go_at_call 16
 refine(kA3.out _ hHeld).mono ?_;rintro e w9 ⟨rfl,hK5⟩;clear hHeld;refine hK.out _ _ hK5 (fun hHeld=>?_);clear hK K
 (try simp only[Act.put]);(try simp only[List.setIfInBounds_toArray]);(try simp only[List.set_cons_zero,List.set_cons_succ])
 refine TkD 29 (some 141) (v:=?_) rfl rfl ?_ ?_;rotate_left
 ·(intro W hSw;go_simp;try with_reducible rfl)
 (try simp only[Act.put]);(try simp only[List.setIfInBounds_toArray]);(try simp only[List.set_cons_zero,List.set_cons_succ])
 refine TkD 30 (some 142) (v:=?_) rfl rfl ?_ ?_;rotate_left
 ·(intro W hSw;go_simp;try with_reducible rfl)
 (try simp only[Act.put]);(try simp only[List.setIfInBounds_toArray]);(try simp only[List.set_cons_zero,List.set_cons_succ])
 refine TkD 31 (some 143) (v:=?_) rfl rfl ?_ ?_;rotate_left
 ·(intro W hSw;go_simp;try with_reducible rfl)
 (try simp only[Act.put]);(try simp only[List.setIfInBounds_toArray]);(try simp only[List.set_cons_zero,List.set_cons_succ])
 refine TkD 32 (some 144) rfl rfl (fun W hSw=>exec_load_url (.tmp 15) rfl _ rfl _ (0,0) (Hs4.out.2 W hSw).1 Hs4.out.1) ?_
 (try simp only[Act.put]);(try simp only[List.setIfInBounds_toArray]);(try simp only[List.set_cons_zero,List.set_cons_succ])
 refine TkD 33 (some 145) (v:=?_) rfl rfl ?_ ?_;rotate_left
 ·(intro W hSw;go_simp;try with_reducible rfl)
 (try simp only[Act.put]);(try simp only[List.setIfInBounds_toArray]);(try simp only[List.set_cons_zero,List.set_cons_succ])
 refine TkD 34 (some 146) rfl rfl (fun W hSw=>exec_load_url (.tmp 9) rfl _ rfl _ (0,0) (Hs1.out.2 W hSw).1 Hs1.out.1) ?_
 (try simp only[Act.put]);(try simp only[List.setIfInBounds_toArray]);(try simp only[List.set_cons_zero,List.set_cons_succ])
 refine TkD 36 (some 148) (v:=?_) rfl rfl ?_ ?_;rotate_left
 ·(intro W hSw;go_simp;try with_reducible rfl)
 (try simp only[Act.put]);(try simp only[List.setIfInBounds_toArray]);(try simp only[List.set_cons_zero,List.set_cons_succ])
 refine TkD 37 (some 149) (v:=?_) rfl rfl ?_ ?_;rotate_left
 ·(intro W hSw;obtain⟨hp0,hp1⟩:=HPC.out _ hSw;go_simp;try with_reducible rfl)
 (try simp only[Act.put]);(try simp only[List.setIfInBounds_toArray]);(try simp only[List.set_cons_zero,List.set_cons_succ])
 refine TkD 38 (some 150) (v:=?_) rfl rfl ?_ ?_;rotate_left
 ·(intro W hSw;go_simp;try with_reducible rfl)
 (try simp only[Act.put]);(try simp only[List.setIfInBounds_toArray]);(try simp only[List.set_cons_zero,List.set_cons_succ])
 refine TkD 39 (some 151) (v:=?_) rfl rfl ?_ ?_;rotate_left
 ·(intro W hSw;obtain⟨hp0,hp1⟩:=HPC.out _ hSw;go_simp;try with_reducible rfl)
 (try simp only[Act.put]);(try simp only[List.setIfInBounds_toArray]);(try simp only[List.set_cons_zero,List.set_cons_succ])
 refine TkD 40 (some 152) (v:=?_) rfl rfl ?_ ?_;rotate_left
 ·(intro W hSw;go_simp;try with_reducible rfl)
 (try simp only[Act.put]);(try simp only[List.setIfInBounds_toArray]);(try simp only[List.set_cons_zero,List.set_cons_succ])
 refine wpAnyH_ready (rs:=[35]) (by kernel_rfl) (by simp) ?_;refine AllReadyH.cons rfl (fun K hK=>?_) AllReadyH.nil;go_simp
 go_at_call 16
 refine(kA4.out _ hHeld).mono ?_;rintro e w9 ⟨rfl,hK5⟩;clear hHeld;refine hK.out _ _ hK5 (fun hHeld=>?_);clear hK K
 (try simp only[Act.put]);(try simp only[List.setIfInBounds_toArray]);(try simp only[List.set_cons_zero,List.set_cons_succ])
 refine TkD 41 (some 153) (v:=?_) rfl rfl ?_ ?_;rotate_left
 ·(intro W hSw;go_simp;try with_reducible rfl)
 (try simp only[Act.put]);(try simp only[List.setIfInBounds_toArray]);(try simp only[List.set_cons_zero,List.set_cons_succ])
 refine TkD 42 (some 154) (v:=?_) rfl rfl ?_ ?_;rotate_left
 ·(intro W hSw;go_simp;try with_reducible rfl)
 (try simp only[Act.put]);(try simp only[List.setIfInBounds_toArray]);(try simp only[List.set_cons_zero,List.set_cons_succ])
 refine TkD 43 (some 155) (v:=?_) rfl rfl ?_ ?_;rotate_left
 ·(intro W hSw;go_simp;try with_reducible rfl)
 (try simp only[Act.put]);(try simp only[List.setIfInBounds_toArray]);(try simp only[List.set_cons_zero,List.set_cons_succ])
 refine TkD 44 (some 156) rfl rfl (fun W hSw=>exec_load_url (.tmp 17) rfl _ rfl _ (0,0) (Hs5.out.2 W hSw).1 Hs5.out.1) ?_
 (try simp only[Act.put]);(try simp only[List.setIfInBounds_toArray]);(try simp only[List.set_cons_zero,List.set_cons_succ])
 refine TkD 45 (some 157) (v:=?_) rfl rfl ?_ ?_;rotate_left
 ·(intro W hSw;go_simp;try with_reducible rfl)
 (try simp only[Act.put]);(try simp only[List.setIfInBounds_toArray]);(try simp only[List.set_cons_zero,List.set_cons_succ])
 refine TkD 46 (some 158) rfl rfl (fun W hSw=>exec_load_url (.tmp 9) rfl _ rfl _ (0,0) (Hs1.out.2 W hSw).1 Hs1.out.1) ?_
 (try simp only[Act.put]);(try simp only[List.setIfInBounds_toArray]);(try simp only[List.set_cons_zero,List.set_cons_succ])
 refine wpAnyH_ready (rs:=[47]) (by kernel_rfl) (by simp) ?_;refine AllReadyH.cons rfl (fun K hK=>?_) AllReadyH.nil;go_simp
 go_at_call 16
 refine(kA5.out _ hHeld).mono ?_;rintro e w9 ⟨rfl,hK5⟩;clear hHeld;refine hK.out _ _ hK5 (fun hHeld=>?_);clear hK K
 (try simp only[Act.put]);(try simp only[List.setIfInBounds_toArray]);(try simp only[List.set_cons_zero,List.set_cons_succ])
 refine TkD 48 (some 160) (v:=?_) rfl rfl ?_ ?_;rotate_left
 ·(intro W hSw;go_simp;try with_reducible rfl)
 (try simp only[Act.put]);(try simp only[List.setIfInBounds_toArray]);(try simp only[List.set_cons_zero,List.set_cons_succ])
 refine TkD 49 (some 161) (v:=?_) rfl rfl ?_ ?_;rotate_left
 ·(intro W hSw;go_simp;try with_reducible rfl)
 (try simp only[Act.put]);(try simp only[List.setIfInBounds_toArray]);(try simp only[List.set_cons_zero,List.set_cons_succ])
 refine TkD 50 (some 162) (v:=?_) rfl rfl ?_ ?_;rotate_left
 ·(intro W hSw;go_simp;try with_reducible rfl)
 (try simp only[Act.put]);(try simp only[List.setIfInBounds_toArray]);(try simp only[List.set_cons_zero,List.set_cons_succ])
 refine wpAnyH_ready (rs:=[51]) (by kernel_rfl) (by simp) ?_;refine AllReadyH.cons rfl (fun K hK=>?_) AllReadyH.nil;go_simp
 go_at_call 8
 refine(kH.out _ hHeld).mono ?_;rintro e w9 ⟨rfl,hK5⟩;clear hHeld;refine hK.out _ _ hK5 (fun hHeld=>?_);clear hK K
 (try simp only[Act.put]);(try simp only[List.setIfInBounds_toArray]);(try simp only[List.set_cons_zero,List.set_cons_succ])
 refine TkD 52 (some 164) (v:=?_) rfl rfl ?_ ?_;rotate_left
 ·(intro W hSw;go_simp;try with_reducible rfl)
 (try simp only[Act.put]);(try simp only[List.setIfInBounds_toArray]);(try simp only[List.set_cons_zero,List.set_cons_succ])
 refine TkD 53 (some 6) (v:=?_) rfl rfl ?_ ?_;rotate_left
 ·(intro W hSw;go_simp;try with_reducible rfl)
 (try simp only[Act.put]);(try simp only[List.setIfInBounds_toArray]);(try simp only[List.set_cons_zero,List.set_cons_succ])
 refine wpAnyH_done (by kernel_rfl) ?_ _
 go_wp2_with fail
 go_ret;exact⟨rfl,below_call hwW6 hHeld⟩
theorem matchSelf_any (v:Value) (l:List UInt8) (p0 p1 m:Nat) (w:World) (h:SlB w v l) (h0:p0<65536) (h1:p1<65536) (hm:m<256) (hE:EnvM w):Calls Tryz.prog 6 #[v,.agg #[.int .u16 p0,.int .u16 p1],.int .u8 m] w (RBool true w):=by
 obtain⟨a,c0,rfl,hl9,hcell⟩:=h;obtain⟨n,hn⟩:∃n,n=l.length:=⟨_,rfl⟩;rw[<-hn];have HN:=Ih hn;obtain⟨B0,hB0⟩:∃B0,B0=w.alloc (.cells #[.int .u16 p0,.int .u16 p1] 38):=⟨_,rfl⟩;have hbB:Below w.heap.size w B0:=by rw[hB0];exact(Below.refl _ w).alloc (Nat.le_refl _) _
 have hr0:B0.heap[w.heap.size]? =some (.cells #[.int .u16 p0,.int .u16 p1] 38 (0,0)):=by rw[hB0];exact heap_new _ _
 have hlt0:=row_lt hr0;have HBX:=Ih hB0;have HPC:Hid (∀V,Below B0.heap.size B0 V->V.cell? ⟨w.heap.size,0,none⟩=some (.int .u16 p0)/\V.cell? ⟨w.heap.size,1,none⟩=some (.int .u16 p1)):=Ih (fun V hV=>⟨by rw[hV.cell (p:=⟨w.heap.size,0,none⟩) hlt0];exact rowAt hr0 0 _ rfl,by rw[hV.cell (p:=⟨w.heap.size,1,none⟩) hlt0];exact rowAt hr0 1 _ rfl⟩)
 have HC:Hid (∀(j:Nat) (x:UInt8),l[j]? =some x->∃B off,a=some ⟨B,off,none⟩/\B<B0.heap.size/\B0.cell? ⟨B,off+j,none⟩=some (.int .u8 x.toNat)):=Ih (fun j x hj=>by
  obtain⟨B,off,e,hB,hc⟩:=hcell j x hj;exact⟨B,off,e,Nat.lt_of_lt_of_le hB hbB.size,by rw[hbB.cell (p:=⟨B,off+j,none⟩) hB];exact hc⟩)
 have kHo:Hid (∀V,Below B0.heap.size B0 V->Calls Tryz.prog 8 #[] V fun e w'=>e=.returned (.bool true)/\Below w.heap.size w w'):=Ih (fun V hV=>(holds26_any V ((hE.below hbB).below hV)).mono fun e w' ⟨h1,h2⟩=>⟨h1,below_call (below_call hbB hV) h2⟩);have HE:=Ih (hE.below hbB);have w0w:IntKind.i64.wrap (p0:Int)=(p0:Int):=IntWalk.i64_in _ (by omega);have w1w:IntKind.i64.wrap (p1:Int)=(p1:Int):=IntWalk.i64_in _ (by omega);have kD:=Ih (fun V=>digits26_any p0 h0 V);have kDp:=Ih (fun V=>digits26_any p1 h1 V);have HD5:=Ih (Lz.dec_len5 p0 h0);have HD5p:=Ih (Lz.dec_len5 p1 h1);have hb00:=Below.refl B0.heap.size B0;by_cases hbig:20<n
 ·have hbI:(20:Int)<(n:Int):=by omega
  clear hcell hE hn hB0;go_enter Tryz.func6,Tryz.ntmps6
  go_upto_region 1 with fail
  rw[<-HBX.out]
  go_wp2_with fail
  refine(kHo.out _ hb00).mono ?_;rintro e w1 ⟨rfl,hb1⟩
  go_wp2_with fail
  go_ret;exact⟨rfl,hb1⟩
 have hbI:¬(20:Int)<(n:Int):=by omega
 clear hcell hE hn hB0;go_enter Tryz.func6,Tryz.ntmps6
 go_upto_region 1 with fail
 rw[<-HBX.out]
 go_wp2_with fail
 go_loopw [7,8] (fun p k wr=>∃(S:ByteArray) (i:Nat),p=.string S/\k=.int .i64 i/\i<=n/\Hid (S.data.toList=104::(l.take i).map Lz.letU)/\S.size<=1+i/\Below B0.heap.size B0 wr) (fun _ k _=>n-(intOf k).toNat)
 case atStart=>exact⟨⟨#[104]⟩,0,rfl,rfl,Nat.zero_le _,Ih rfl,Nat.le_refl _,hb00⟩
 case round=>
 obtain⟨S,i,rfl,rfl,hi,HS,hSz,hbw⟩:=hrel;by_cases hlt:i<n
 ·have hltI:(i:Int)<(n:Int):=by omega
  have hi0:(0:Int)<=(i:Int):=by omega
  obtain⟨x,hx⟩:∃x,l[i]? =some x:=⟨_,List.getElem?_eq_getElem (by rw[<-HN.out];exact hlt)⟩;obtain⟨Bx,off,rfl,hBx,hc1⟩:=HC.out i x hx;have hcr:wr.cell? ⟨Bx,off+i,none⟩=some (.int .u8 x.toNat):=by rw[hbw.cell (p:=⟨Bx,off+i,none⟩) hBx];exact hc1
  obtain⟨r,hr⟩:∃r,r=x.toNat%26:=⟨_,rfl⟩;obtain⟨c,hc⟩:∃c:UInt8,c=Lz.letU x:=⟨_,rfl⟩;have hcn:c.toNat=97+r:=by rw[hc,hr,letU_nat]
  have rT:Int.tmod (x.toNat:Int) 26=(r:Int):=by rw[Int.tmod_eq_emod_of_nonneg (by omega)];omega
  have rS:(97:Int)+(r:Int)=(c.toNat:Int):=by omega
  have hc255:=c.toNat_lt;have hcw8:IntKind.u8.wrap (c.toNat:Int)=(c.toNat:Int):=IntWalk.u8_in _ (by omega);have hrw8:IntKind.u8.wrap (r:Int)=(r:Int):=IntWalk.u8_in _ (by omega);have hcv:=one_text c (wr.alloc (.cells #[.int .u8 c.toNat] 5)) wr.heap.size (rowAt (heap_new wr (.cells #[.int .u8 c.toNat] 5)) 0 _ rfl);have hbe:Below B0.heap.size B0 (wr.alloc (.cells #[.int .u8 c.toNat] 5)):=below_call hbw ((Below.refl _ wr).alloc (Nat.le_refl _) _)
  have HS2:Hid ((S++⟨#[c]⟩:ByteArray).data.toList=104::(l.take (i+1)).map Lz.letU):=by
   show _=_;rw[append_data',HS.out,List.take_add_one,hx,List.map_append,hc];rfl
  have hSz2:(S++⟨#[c]⟩:ByteArray).size<=1+(i+1):=by rw[ByteArray.size_append];show S.size+1<=_;omega
  clear hx hc1 hcn hr hc
  go_wp2_with fail
  go_roundw
  case rel=>exact⟨_,i+1,rfl,by go_num,by omega,HS2,hSz2,hbe⟩
  case measure=>simp[intOf];omega
 have hltI:¬(i:Int)<(n:Int):=by omega
 have hSd:S.data.toList=104::l.map Lz.letU:=by rw[HS.out,List.take_of_length_le (by have:=HN.out;omega)]
 have hsz:S.size<=21:=by omega
 obtain⟨hst,hhst⟩:∃hst,hst=104::l.map Lz.letU:=⟨_,rfl⟩;have hSd2:S.data.toList=hst:=by rw[hhst];exact hSd
 have hW:Lz.HostW hst:=by rw[hhst];exact Lz.hostW_of l
 have hWz:Lz.HostW (122::hst):=by rw[hhst];exact Lz.hostW_z l
 have hhl:hst.length<=21:=by rw[<-hSd2,len_of_size];exact hsz
 obtain⟨x,hx⟩:∃x:UInt8,x.toNat=m:=⟨UInt8.ofNat m,by rw[UInt8.toNat_ofNat'];omega⟩;obtain⟨r,hr⟩:∃r,r=m%26:=⟨_,rfl⟩;obtain⟨c,hc⟩:∃c:UInt8,c=Lz.letU x:=⟨_,rfl⟩;have hcn:c.toNat=97+r:=by rw[hc,hr,letU_nat,hx]
 have hcl:Lz.ltQ c=true:=by rw[hc];exact Lz.letU_lt x
 have rT:Int.tmod (m:Int) 26=(r:Int):=by rw[Int.tmod_eq_emod_of_nonneg (by omega)];omega
 have rS:(97:Int)+(r:Int)=(c.toNat:Int):=by omega
 have hc255:=c.toNat_lt;have hcw8:IntKind.u8.wrap (c.toNat:Int)=(c.toNat:Int):=IntWalk.u8_in _ (by omega);have hrw8:IntKind.u8.wrap (r:Int)=(r:Int):=IntWalk.u8_in _ (by omega);have hcv:Hid (∀(W:World) (G:Nat),W.cell? ⟨G,0,none⟩=some (.int .u8 c.toNat)->(convert 35 9 (.slice (some ⟨G,0,none⟩) 1 1)).run Tryz.prog W=.ok (.string ⟨#[c]⟩) W):=Ih (fun W G h=>one_text c W G h);have y1:=Lz.self_parse 1 p0 (by omega) h0 hW (by omega) (r:=[]) (Or.inl rfl);have y2:=Lz.self_parse 1 p0 (by omega) h0 hW (by omega) (r:=[c]) (Or.inr ⟨c,hcl,rfl⟩);have y3:=Lz.self_parse 1 p0 (by omega) h0 hWz (by rw[List.length_cons];omega) (r:=[]) (Or.inl rfl);have y4:=Lz.self_parse 1 p1 (by omega) h1 hW (by omega) (r:=[]) (Or.inl rfl);have y5:=Lz.self_parse 0 p0 (by omega) h0 hW (by omega) (r:=[]) (Or.inl rfl);have o1:=uok_of y1;have o2:=uok_of y2;have o3:=uok_of y3;have o4:=uok_of y4;have o5:=uok_of y5
 have kT1:Hid (∀V (D:ByteArray),Hid (D.data.toList=Lib.decDigits p0)->Below B0.heap.size B0 V->Calls Tryz.prog 15 #[.string (⟨#[104,116,116,112,115,58,47,47]⟩++S++⟨#[46,120,58]⟩++D++⟨#[47]⟩:ByteArray),.pointer none] V fun e w'=>∃C:Array Value,e=.returned (.tuple #[.agg C,.int .i64 0])/\Below V.heap.size V w'/\UrlOwn w' (.agg C) (Lz.selfV 1 hst p0 [])/\C.size=12/\C.all (·.oneCell')=true):=Ih (fun V D hD hV=>by
  refine parse_is _ _ ?_ V (HE.out.below hV).u;have e:=selfX_text ⟨#[104,116,116,112,115,58,47,47]⟩ 1 [] rfl S D p0 hD.out (⟨#[47]⟩);rw[hSd2]at e;refine(congrArg (fun t=>Lz.parseU t none) (?_:_=Lz.selfX 1 hst p0 [])).trans y1;rw[e];unfold Lz.selfX;simp)
 have kT2:Hid (∀V (D:ByteArray),Hid (D.data.toList=Lib.decDigits p0)->Below B0.heap.size B0 V->Calls Tryz.prog 15 #[.string (⟨#[104,116,116,112,115,58,47,47]⟩++S++⟨#[46,120,58]⟩++D++⟨#[47]⟩++⟨#[c]⟩:ByteArray),.pointer none] V fun e w'=>∃C:Array Value,e=.returned (.tuple #[.agg C,.int .i64 0])/\Below V.heap.size V w'/\UrlOwn w' (.agg C) (Lz.selfV 1 hst p0 [c])/\C.size=12/\C.all (·.oneCell')=true):=Ih (fun V D hD hV=>by
  refine parse_is _ _ ?_ V (HE.out.below hV).u;have e:=selfX_text ⟨#[104,116,116,112,115,58,47,47]⟩ 1 [] rfl S D p0 hD.out (⟨#[47,c]⟩);rw[hSd2]at e;rw[append_data',append_data'];rw[append_data']at e;refine(congrArg (fun t=>Lz.parseU t none) (?_:_=Lz.selfX 1 hst p0 [c])).trans y2;have e2:(⟨#[47]⟩:ByteArray).data.toList++(⟨#[c]⟩:ByteArray).data.toList=(⟨#[47,c]⟩:ByteArray).data.toList:=rfl;rw[List.append_assoc,e2,e];unfold Lz.selfX;simp)
 have hbV:=hbw;have HH:=Ih hhst;have HSd:=Ih hSd;have Hcl:=Ih hcl;clear y1 y2 y3 y4 y5 o1 o2 o3 o4 o5 HS hSd hSd2 hhst hW hWz hhl hx hr hc hcn hcl hSz HC hlt0 hr0 HBX
 go_upto_region 8 with fail
 go_cut [9,10] (fun p z wx=>∃(B:Nat) (C:Array Value),p=.pointer (some ⟨B,0,none⟩)/\z=.int .i64 0/\SelfQ wx B C (Lz.selfV 1 hst p0 [])/\Below wr.heap.size wr wx)
 case first=>
  obtain⟨hp0,hp1⟩:=HPC.out wr hbV
  go_wp2_with fail
  refine(kD.out _).mono ?_;rintro e v1 ⟨D,rfl,hD,hb1⟩;have hDz:D.size<=5:=by rw[<-len_of_size,hD.out];exact HD5.out
  clear hp0 hp1
  go_wp2_with fail
  refine(kT1.out _ D hD (below_call hbV hb1)).mono ?_;rintro e v2 ⟨C,rfl,hb2,hU,hCz,hC1⟩;have hal:Below v2.heap.size v2 (v2.alloc (.cells zeroC 29)):=(Below.refl _ v2).alloc (Nat.le_refl _) _;have hfin:SelfQ ((v2.alloc (.cells zeroC 29)).setRow v2.heap.size C) v2.heap.size C (Lz.selfV 1 hst p0 []):=SelfQ.mk hCz (setRow_heap _ _ _ _ _ _ (heap_new _ _)) ((hU.below hal).setRow (heap_new v2 (.cells zeroC 29)) C).val;have hbf:Below wr.heap.size wr ((v2.alloc (.cells zeroC 29)).setRow v2.heap.size C):=below_setRow (below_call (below_call hb1 hb2) hal) (below_call hb1 hb2).size
  go_wp2_with (refine store_urlM rfl (.tmp 9) (.tmp 51) rfl v2.heap.size rfl C rfl zeroC (heap_new _ _) (by rw[hCz];rfl) (by rw[hCz];exact urlSize) hC1 ?_)
  go_meet;exact⟨v2.heap.size,C,rfl,rfl,hfin,hbf⟩
 case rest=>
 obtain⟨B1,C1,rfl,rfl,hs1,hbn⟩:=hcut;obtain⟨W1,hWn⟩:∃V,V=wc:=⟨_,rfl⟩;rw[<-hWn]at hs1 hbn⊢;clear hWn;have hbV':=below_call hbV hbn;clear hbV;have hbV:=hbV';clear hbV';clear hbn kT1
 go_upto_region 9 with fail
 go_cut [11,12] (fun p z wx=>∃(B:Nat) (C:Array Value),p=.pointer (some ⟨B,0,none⟩)/\z=.int .i64 0/\SelfQ wx B C (Lz.selfV 1 hst p0 [c])/\Below W1.heap.size W1 wx)
 case first=>
  have hC:Hid (∀V,Below W1.heap.size W1 V->V.cell? ⟨w.heap.size,0,none⟩=some (.int .u16 p0)):=Ih (fun V hV=>(HPC.out V (below_call hbV hV)).1);have kP:Hid (∀V (D:ByteArray),Hid (D.data.toList=Lib.decDigits p0)->Below W1.heap.size W1 V->_):=Ih (fun V D hD hV=>kT2.out V D hD (below_call hbV hV));have n1:¬(9223372036854775807<8+S.size):=by omega
  have n2:¬(9223372036854775807<8+S.size+3):=by omega
  have n3:∀d:Nat,d<=5->¬(9223372036854775807<8+S.size+3+d):=fun d h=>by omega
  have N3:=Ih n3;clear n3;refine wp_region_held_drew (S:=fun V=>V.cell? ⟨w.heap.size,0,none⟩=some (.int .u16 p0)/\Below W1.heap.size W1 V) (by kernel_rfl) ⟨hC.out _ (Below.refl _ _).drew,(Below.refl _ _).drew⟩ (fun hHeld=>?_);generalize W1.drew=x0 at hHeld⊢;refine TkD 0 (some 54) (v:=?_) rfl rfl ?_ ?_;rotate_left
  ·(intro W hSw;(try dsimp only at hSw);go_simp;try with_reducible rfl)
  (try simp only[Act.put]);(try simp only[List.setIfInBounds_toArray]);(try simp only[List.set_cons_zero,List.set_cons_succ])
  refine TkD 1 (some 55) (v:=?_) rfl rfl ?_ ?_;rotate_left
  ·(intro W hSw;(try dsimp only at hSw);go_simp;try with_reducible rfl)
  (try simp only[Act.put]);(try simp only[List.setIfInBounds_toArray]);(try simp only[List.set_cons_zero,List.set_cons_succ])
  refine TkD 2 (some 56) (v:=?_) rfl rfl ?_ ?_;rotate_left
  ·(intro W hSw;(try dsimp only at hSw);go_simp;try with_reducible rfl)
  (try simp only[Act.put]);(try simp only[List.setIfInBounds_toArray]);(try simp only[List.set_cons_zero,List.set_cons_succ])
  refine TkD 3 (some 57) (v:=?_) rfl rfl ?_ ?_;rotate_left
  ·(intro W hSw;(try dsimp only at hSw);go_simp;try with_reducible rfl)
  (try simp only[Act.put]);(try simp only[List.setIfInBounds_toArray]);(try simp only[List.set_cons_zero,List.set_cons_succ])
  refine TkD 4 (some 58) (v:=?_) rfl rfl ?_ ?_;rotate_left
  ·(intro W hSw;(try dsimp only at hSw);go_simp;try with_reducible rfl)
  (try simp only[Act.put]);(try simp only[List.setIfInBounds_toArray]);(try simp only[List.set_cons_zero,List.set_cons_succ])
  refine TkD 5 (some 59) (v:=?_) rfl rfl ?_ ?_;rotate_left
  ·(intro W hSw;(try dsimp only at hSw);go_simp;try with_reducible rfl)
  (try simp only[Act.put]);(try simp only[List.setIfInBounds_toArray]);(try simp only[List.set_cons_zero,List.set_cons_succ])
  refine TkD 9 (some 63) (v:=?_) rfl rfl ?_ ?_;rotate_left
  ·(intro W hSw;(try dsimp only at hSw);go_simp;try with_reducible rfl)
  (try simp only[Act.put]);(try simp only[List.setIfInBounds_toArray]);(try simp only[List.set_cons_zero,List.set_cons_succ])
  refine TkD 10 (some 64) (v:=?_) rfl rfl ?_ ?_;rotate_left
  ·(intro W hSw;(try dsimp only at hSw);go_simp;try with_reducible rfl)
  (try simp only[Act.put]);(try simp only[List.setIfInBounds_toArray]);(try simp only[List.set_cons_zero,List.set_cons_succ])
  refine TkD 11 (some 65) (v:=?_) rfl rfl ?_ ?_;rotate_left
  ·(intro W hSw;(try dsimp only at hSw);go_simp;try with_reducible rfl)
  (try simp only[Act.put]);(try simp only[List.setIfInBounds_toArray]);(try simp only[List.set_cons_zero,List.set_cons_succ])
  refine wpAnyH_ready (rs:=[6,12,19]) (by kernel_rfl) (by simp) ?_;refine AllReadyH.cons rfl (fun K hK=>?_) (AllReadyH.cons rfl (fun K hK=>?_) (AllReadyH.cons rfl (fun K hK=>?_) AllReadyH.nil))
  ·skip
   go_simp
   go_at_call 17
   refine(kD.out _).mono ?_;rintro e x1 ⟨D,rfl,hD,hn_x1⟩;have hDz:D.size<=5:=by rw[<-len_of_size,hD.out];exact HD5.out
   have n4:=N3.out _ hDz;have n5:¬(9223372036854775807<8+S.size+3+D.size+1):=by omega
   have n6:¬(9223372036854775807<8+S.size+3+D.size+1+1):=by omega
   have hb_x1:Below W1.heap.size W1 x1:=hHeld.2.trans (hn_x1.mono hHeld.2.size);clear hHeld;refine hK.out _ _ ⟨hC.out _ hb_x1,hb_x1⟩ (fun hHeld=>?_);clear hK K
   (try simp only[Act.put]);(try simp only[List.setIfInBounds_toArray]);(try simp only[List.set_cons_zero,List.set_cons_succ])
   refine TkD 7 (some 61) (v:=?_) rfl rfl ?_ ?_;rotate_left
   ·(intro W hSw;(try dsimp only at hSw);go_simp;try with_reducible rfl)
   (try simp only[Act.put]);(try simp only[List.setIfInBounds_toArray]);(try simp only[List.set_cons_zero,List.set_cons_succ])
   refine TkD 8 (some 62) (v:=?_) rfl rfl ?_ ?_;rotate_left
   ·(intro W hSw;(try dsimp only at hSw);go_simp;try with_reducible rfl)
   (try simp only[Act.put]);(try simp only[List.setIfInBounds_toArray]);(try simp only[List.set_cons_zero,List.set_cons_succ])
   refine wpAnyH_ready (rs:=[12,19]) (by kernel_rfl) (by simp) ?_;refine AllReadyH.cons rfl (fun K hK=>?_) (AllReadyH.cons rfl (fun K hK=>?_) AllReadyH.nil)
   ·skip
    go_simp;obtain⟨x2,hx_x2⟩:∃V,V=x1.alloc (.cells #[.int .u8 c.toNat] 5):=⟨_,rfl⟩;have hn_x2:Below x1.heap.size x1 x2:=by rw[hx_x2];exact(Below.refl _ _).alloc (Nat.le_refl _) _
    have hG_x2:x2.cell? ⟨x1.heap.size,0,none⟩=some (.int .u8 c.toNat):=by rw[hx_x2];exact rowAt (heap_new _ (.cells #[.int .u8 c.toNat] 5)) 0 _ rfl
    have hGl_x2:=World.block_lt_of_cell? _ _ hG_x2;rw[<-hx_x2];clear hx_x2;obtain⟨G,hG⟩:∃G,G=x1.heap.size:=⟨_,rfl⟩;rw[<-hG]at hG_x2 hGl_x2⊢;clear hG;have hb_x2:Below W1.heap.size W1 x2:=hHeld.2.trans (hn_x2.mono hHeld.2.size);clear hHeld;refine hK.out _ _ ⟨hC.out _ hb_x2,hb_x2⟩ (fun hHeld=>?_);clear hK K
    (try simp only[Act.put]);(try simp only[List.setIfInBounds_toArray]);(try simp only[List.set_cons_zero,List.set_cons_succ])
    refine wpAnyH_weakenX (S':=fun V=>(V.cell? ⟨w.heap.size,0,none⟩=some (.int .u16 p0)/\Below W1.heap.size W1 V)/\V.cell? ⟨G,0,none⟩=some (.int .u8 c.toNat)) (fun _ h=>h.1) ?_;have hHeld2:=And.intro hHeld hG_x2;clear hHeld;have hHeld:=hHeld2;clear hHeld2;refine TkD 13 (some 67) (v:=?_) rfl rfl ?_ ?_;rotate_left
    ·(intro W hSw;(try dsimp only at hSw);have hcw:=hcv.out W G hSw.2;go_simp;try with_reducible rfl)
    (try simp only[Act.put]);(try simp only[List.setIfInBounds_toArray]);(try simp only[List.set_cons_zero,List.set_cons_succ])
    refine TkD 14 (some 68) (v:=?_) rfl rfl ?_ ?_;rotate_left
    ·(intro W hSw;(try dsimp only at hSw);go_simp;try with_reducible rfl)
    (try simp only[Act.put]);(try simp only[List.setIfInBounds_toArray]);(try simp only[List.set_cons_zero,List.set_cons_succ])
    refine wpAnyH_ready (rs:=[15,19]) (by kernel_rfl) (by simp) ?_;refine AllReadyH.cons rfl (fun K hK=>?_) (AllReadyH.cons rfl (fun K hK=>?_) AllReadyH.nil)
    ·skip
     go_simp
     go_at_call 15
     refine(kP.out _ D hD (hHeld.1.2)).mono ?_;rintro e x3 ⟨C,rfl,hn_x3,hUV_x3,hCz,hC1⟩;have hb_x3:Below W1.heap.size W1 x3:=hHeld.1.2.trans (hn_x3.mono hHeld.1.2.size);have hG_x3:x3.cell? ⟨G,0,none⟩=some (.int .u8 c.toNat):=(hn_x3.cell (World.block_lt_of_cell? _ _ hHeld.2)).trans hHeld.2;clear hHeld;refine hK.out _ _ ⟨⟨hC.out _ hb_x3,hb_x3⟩,hG_x3⟩ (fun hHeld=>?_);clear hK K
     (try simp only[Act.put]);(try simp only[List.setIfInBounds_toArray]);(try simp only[List.set_cons_zero,List.set_cons_succ])
     refine TkD 16 (some 53) (v:=?_) rfl rfl ?_ ?_;rotate_left
     ·(intro W hSw;(try dsimp only at hSw);go_simp;try with_reducible rfl)
     (try simp only[Act.put]);(try simp only[List.setIfInBounds_toArray]);(try simp only[List.set_cons_zero,List.set_cons_succ])
     refine TkD 17 (some 70) (v:=?_) rfl rfl ?_ ?_;rotate_left
     ·(intro W hSw;(try dsimp only at hSw);go_simp;try with_reducible rfl)
     (try simp only[Act.put]);(try simp only[List.setIfInBounds_toArray]);(try simp only[List.set_cons_zero,List.set_cons_succ])
     refine TkD 18 (some 71) (v:=?_) rfl rfl ?_ ?_;rotate_left
     ·(intro W hSw;(try dsimp only at hSw);go_simp;try with_reducible rfl)
     (try simp only[Act.put]);(try simp only[List.setIfInBounds_toArray]);(try simp only[List.set_cons_zero,List.set_cons_succ])
     refine wpAnyH_ready (rs:=[19]) (by kernel_rfl) (by simp) ?_;refine AllReadyH.cons rfl (fun K hK=>?_) AllReadyH.nil;go_simp;obtain⟨x4,hx_x4⟩:∃V,V=x3.alloc (.cells zeroC 29):=⟨_,rfl⟩;have hn_x4:Below x3.heap.size x3 x4:=by rw[hx_x4];exact(Below.refl _ _).alloc (Nat.le_refl _) _
     have hRB0:x4.heap[x3.heap.size]? =some (.cells zeroC 29 (0,0)):=by rw[hx_x4];exact heap_new _ _
     have hBge:W1.heap.size<=x3.heap.size:=hHeld.1.2.size;change K _ (x3.alloc (.cells zeroC 29));rw[<-hx_x4];clear hx_x4;obtain⟨B,hB⟩:∃B,B=x3.heap.size:=⟨_,rfl⟩;rw[<-hB]at hBge hRB0⊢;clear hB;have hRB_x4:=hRB0;clear hRB0;have hb_x4:Below W1.heap.size W1 x4:=hHeld.1.2.trans (hn_x4.mono hHeld.1.2.size);have hG_x4:x4.cell? ⟨G,0,none⟩=some (.int .u8 c.toNat):=(hn_x4.cell (World.block_lt_of_cell? _ _ hHeld.2)).trans hHeld.2;have hUV_x4:=hUV_x3.below hn_x4;clear hHeld;refine hK.out _ _ ⟨⟨hC.out _ hb_x4,hb_x4⟩,hG_x4⟩ (fun hHeld=>?_);clear hK K
     (try simp only[Act.put]);(try simp only[List.setIfInBounds_toArray]);(try simp only[List.set_cons_zero,List.set_cons_succ])
     refine wpAnyH_ready (rs:=[20]) (by kernel_rfl) (by simp) ?_;refine AllReadyH.cons rfl (fun K hK=>?_) AllReadyH.nil;rw[if_pos (by rfl)];refine store_urlX hRB_x4 rfl hCz hC1 (.tmp 11) (.tmp 70) rfl rfl rfl ?_;have hGf:(x4.setRow B C).cell? ⟨G,0,none⟩=some (.int .u8 c.toNat):=(cell_setRowX C (fun e=>by rw[e]at hHeld;exact no_u8 hRB_x4 hHeld.2)).trans hHeld.2;have hbf:Below W1.heap.size W1 (x4.setRow B C):=below_setRow hHeld.1.2 hBge;have hfin:SelfQ (x4.setRow B C) B C (Lz.selfV 1 hst p0 [c]):=SelfQ.mk hCz (setRow_heap _ _ _ _ _ _ hRB_x4) (hUV_x4.setRow hRB_x4 C).val;clear hHeld;refine hK.out _ _ ⟨⟨hC.out _ hbf,hbf⟩,hGf⟩ (fun hHeld=>?_);clear hK K
     (try simp only[Act.put]);(try simp only[List.setIfInBounds_toArray]);(try simp only[List.set_cons_zero,List.set_cons_succ])
     refine TkD 21 (some 12) (v:=?_) rfl rfl ?_ ?_;rotate_left
     ·(intro W hSw;(try dsimp only at hSw);go_simp;try with_reducible rfl)
     (try simp only[Act.put]);(try simp only[List.setIfInBounds_toArray]);(try simp only[List.set_cons_zero,List.set_cons_succ])
     refine wpAnyH_done (by kernel_rfl) ?_ _
     go_wp2_with fail
     go_meet;exact⟨B,C,rfl,rfl,hfin,hbf⟩
    ·skip
     go_simp;obtain⟨x6,hx_x6⟩:∃V,V=x2.alloc (.cells zeroC 29):=⟨_,rfl⟩;have hn_x6:Below x2.heap.size x2 x6:=by rw[hx_x6];exact(Below.refl _ _).alloc (Nat.le_refl _) _
     have hRB0:x6.heap[x2.heap.size]? =some (.cells zeroC 29 (0,0)):=by rw[hx_x6];exact heap_new _ _
     have hBge:W1.heap.size<=x2.heap.size:=hHeld.1.2.size;change K _ (x2.alloc (.cells zeroC 29));rw[<-hx_x6];clear hx_x6;obtain⟨B,hB⟩:∃B,B=x2.heap.size:=⟨_,rfl⟩;rw[<-hB]at hBge hRB0⊢;clear hB;have hRB_x6:=hRB0;clear hRB0;have hb_x6:Below W1.heap.size W1 x6:=hHeld.1.2.trans (hn_x6.mono hHeld.1.2.size);have hG_x6:x6.cell? ⟨G,0,none⟩=some (.int .u8 c.toNat):=(hn_x6.cell (World.block_lt_of_cell? _ _ hHeld.2)).trans hHeld.2;clear hHeld;refine hK.out _ _ ⟨⟨hC.out _ hb_x6,hb_x6⟩,hG_x6⟩ (fun hHeld=>?_);clear hK K
     (try simp only[Act.put]);(try simp only[List.setIfInBounds_toArray]);(try simp only[List.set_cons_zero,List.set_cons_succ])
     refine wpAnyH_ready (rs:=[15]) (by kernel_rfl) (by simp) ?_;refine AllReadyH.cons rfl (fun K hK=>?_) AllReadyH.nil;go_simp
     go_at_call 15
     refine(kP.out _ D hD (hHeld.1.2)).mono ?_;rintro e x7 ⟨C,rfl,hn_x7,hUV_x7,hCz,hC1⟩;have hb_x7:Below W1.heap.size W1 x7:=hHeld.1.2.trans (hn_x7.mono hHeld.1.2.size);have hG_x7:x7.cell? ⟨G,0,none⟩=some (.int .u8 c.toNat):=(hn_x7.cell (World.block_lt_of_cell? _ _ hHeld.2)).trans hHeld.2;have hRB_x7:x7.heap[B]? =some (.cells zeroC 29 (0,0)):=(hn_x7.block _ (row_lt hRB_x6)).trans hRB_x6;clear hHeld;refine hK.out _ _ ⟨⟨hC.out _ hb_x7,hb_x7⟩,hG_x7⟩ (fun hHeld=>?_);clear hK K
     (try simp only[Act.put]);(try simp only[List.setIfInBounds_toArray]);(try simp only[List.set_cons_zero,List.set_cons_succ])
     refine TkD 16 (some 53) (v:=?_) rfl rfl ?_ ?_;rotate_left
     ·(intro W hSw;(try dsimp only at hSw);go_simp;try with_reducible rfl)
     (try simp only[Act.put]);(try simp only[List.setIfInBounds_toArray]);(try simp only[List.set_cons_zero,List.set_cons_succ])
     refine TkD 17 (some 70) (v:=?_) rfl rfl ?_ ?_;rotate_left
     ·(intro W hSw;(try dsimp only at hSw);go_simp;try with_reducible rfl)
     (try simp only[Act.put]);(try simp only[List.setIfInBounds_toArray]);(try simp only[List.set_cons_zero,List.set_cons_succ])
     refine TkD 18 (some 71) (v:=?_) rfl rfl ?_ ?_;rotate_left
     ·(intro W hSw;(try dsimp only at hSw);go_simp;try with_reducible rfl)
     (try simp only[Act.put]);(try simp only[List.setIfInBounds_toArray]);(try simp only[List.set_cons_zero,List.set_cons_succ])
     refine wpAnyH_ready (rs:=[20]) (by kernel_rfl) (by simp) ?_;refine AllReadyH.cons rfl (fun K hK=>?_) AllReadyH.nil;rw[if_pos (by rfl)];refine store_urlX hRB_x7 rfl hCz hC1 (.tmp 11) (.tmp 70) rfl rfl rfl ?_;have hGf:(x7.setRow B C).cell? ⟨G,0,none⟩=some (.int .u8 c.toNat):=(cell_setRowX C (fun e=>by rw[e]at hHeld;exact no_u8 hRB_x7 hHeld.2)).trans hHeld.2;have hbf:Below W1.heap.size W1 (x7.setRow B C):=below_setRow hHeld.1.2 hBge;have hfin:SelfQ (x7.setRow B C) B C (Lz.selfV 1 hst p0 [c]):=SelfQ.mk hCz (setRow_heap _ _ _ _ _ _ hRB_x7) (hUV_x7.setRow hRB_x7 C).val;clear hHeld;refine hK.out _ _ ⟨⟨hC.out _ hbf,hbf⟩,hGf⟩ (fun hHeld=>?_);clear hK K
     (try simp only[Act.put]);(try simp only[List.setIfInBounds_toArray]);(try simp only[List.set_cons_zero,List.set_cons_succ])
     refine TkD 21 (some 12) (v:=?_) rfl rfl ?_ ?_;rotate_left
     ·(intro W hSw;(try dsimp only at hSw);go_simp;try with_reducible rfl)
     (try simp only[Act.put]);(try simp only[List.setIfInBounds_toArray]);(try simp only[List.set_cons_zero,List.set_cons_succ])
     refine wpAnyH_done (by kernel_rfl) ?_ _
     go_wp2_with fail
     go_meet;exact⟨B,C,rfl,rfl,hfin,hbf⟩
   ·skip
    go_simp;obtain⟨x9,hx_x9⟩:∃V,V=x1.alloc (.cells zeroC 29):=⟨_,rfl⟩;have hn_x9:Below x1.heap.size x1 x9:=by rw[hx_x9];exact(Below.refl _ _).alloc (Nat.le_refl _) _
    have hRB0:x9.heap[x1.heap.size]? =some (.cells zeroC 29 (0,0)):=by rw[hx_x9];exact heap_new _ _
    have hBge:W1.heap.size<=x1.heap.size:=hHeld.2.size;change K _ (x1.alloc (.cells zeroC 29));rw[<-hx_x9];clear hx_x9;obtain⟨B,hB⟩:∃B,B=x1.heap.size:=⟨_,rfl⟩;rw[<-hB]at hBge hRB0⊢;clear hB;have hRB_x9:=hRB0;clear hRB0;have hb_x9:Below W1.heap.size W1 x9:=hHeld.2.trans (hn_x9.mono hHeld.2.size);clear hHeld;refine hK.out _ _ ⟨hC.out _ hb_x9,hb_x9⟩ (fun hHeld=>?_);clear hK K
    (try simp only[Act.put]);(try simp only[List.setIfInBounds_toArray]);(try simp only[List.set_cons_zero,List.set_cons_succ])
    refine wpAnyH_ready (rs:=[12]) (by kernel_rfl) (by simp) ?_;refine AllReadyH.cons rfl (fun K hK=>?_) AllReadyH.nil;go_simp;obtain⟨x10,hx_x10⟩:∃V,V=x9.alloc (.cells #[.int .u8 c.toNat] 5):=⟨_,rfl⟩;have hn_x10:Below x9.heap.size x9 x10:=by rw[hx_x10];exact(Below.refl _ _).alloc (Nat.le_refl _) _
    have hG_x10:x10.cell? ⟨x9.heap.size,0,none⟩=some (.int .u8 c.toNat):=by rw[hx_x10];exact rowAt (heap_new _ (.cells #[.int .u8 c.toNat] 5)) 0 _ rfl
    have hGl_x10:=World.block_lt_of_cell? _ _ hG_x10;rw[<-hx_x10];clear hx_x10;obtain⟨G,hG⟩:∃G,G=x9.heap.size:=⟨_,rfl⟩;rw[<-hG]at hG_x10 hGl_x10⊢;clear hG;have hb_x10:Below W1.heap.size W1 x10:=hHeld.2.trans (hn_x10.mono hHeld.2.size);have hRB_x10:x10.heap[B]? =some (.cells zeroC 29 (0,0)):=(hn_x10.block _ (row_lt hRB_x9)).trans hRB_x9;clear hHeld;refine hK.out _ _ ⟨hC.out _ hb_x10,hb_x10⟩ (fun hHeld=>?_);clear hK K
    (try simp only[Act.put]);(try simp only[List.setIfInBounds_toArray]);(try simp only[List.set_cons_zero,List.set_cons_succ])
    refine wpAnyH_weakenX (S':=fun V=>(V.cell? ⟨w.heap.size,0,none⟩=some (.int .u16 p0)/\Below W1.heap.size W1 V)/\V.cell? ⟨G,0,none⟩=some (.int .u8 c.toNat)) (fun _ h=>h.1) ?_;have hHeld2:=And.intro hHeld hG_x10;clear hHeld;have hHeld:=hHeld2;clear hHeld2;refine TkD 13 (some 67) (v:=?_) rfl rfl ?_ ?_;rotate_left
    ·(intro W hSw;(try dsimp only at hSw);have hcw:=hcv.out W G hSw.2;go_simp;try with_reducible rfl)
    (try simp only[Act.put]);(try simp only[List.setIfInBounds_toArray]);(try simp only[List.set_cons_zero,List.set_cons_succ])
    refine TkD 14 (some 68) (v:=?_) rfl rfl ?_ ?_;rotate_left
    ·(intro W hSw;(try dsimp only at hSw);go_simp;try with_reducible rfl)
    (try simp only[Act.put]);(try simp only[List.setIfInBounds_toArray]);(try simp only[List.set_cons_zero,List.set_cons_succ])
    refine wpAnyH_ready (rs:=[15]) (by kernel_rfl) (by simp) ?_;refine AllReadyH.cons rfl (fun K hK=>?_) AllReadyH.nil;go_simp
    go_at_call 15
    refine(kP.out _ D hD (hHeld.1.2)).mono ?_;rintro e x11 ⟨C,rfl,hn_x11,hUV_x11,hCz,hC1⟩;have hb_x11:Below W1.heap.size W1 x11:=hHeld.1.2.trans (hn_x11.mono hHeld.1.2.size);have hG_x11:x11.cell? ⟨G,0,none⟩=some (.int .u8 c.toNat):=(hn_x11.cell (World.block_lt_of_cell? _ _ hHeld.2)).trans hHeld.2;have hRB_x11:x11.heap[B]? =some (.cells zeroC 29 (0,0)):=(hn_x11.block _ (row_lt hRB_x10)).trans hRB_x10;clear hHeld;refine hK.out _ _ ⟨⟨hC.out _ hb_x11,hb_x11⟩,hG_x11⟩ (fun hHeld=>?_);clear hK K
    (try simp only[Act.put]);(try simp only[List.setIfInBounds_toArray]);(try simp only[List.set_cons_zero,List.set_cons_succ])
    refine TkD 16 (some 53) (v:=?_) rfl rfl ?_ ?_;rotate_left
    ·(intro W hSw;(try dsimp only at hSw);go_simp;try with_reducible rfl)
    (try simp only[Act.put]);(try simp only[List.setIfInBounds_toArray]);(try simp only[List.set_cons_zero,List.set_cons_succ])
    refine TkD 17 (some 70) (v:=?_) rfl rfl ?_ ?_;rotate_left
    ·(intro W hSw;(try dsimp only at hSw);go_simp;try with_reducible rfl)
    (try simp only[Act.put]);(try simp only[List.setIfInBounds_toArray]);(try simp only[List.set_cons_zero,List.set_cons_succ])
    refine TkD 18 (some 71) (v:=?_) rfl rfl ?_ ?_;rotate_left
    ·(intro W hSw;(try dsimp only at hSw);go_simp;try with_reducible rfl)
    (try simp only[Act.put]);(try simp only[List.setIfInBounds_toArray]);(try simp only[List.set_cons_zero,List.set_cons_succ])
    refine wpAnyH_ready (rs:=[20]) (by kernel_rfl) (by simp) ?_;refine AllReadyH.cons rfl (fun K hK=>?_) AllReadyH.nil;rw[if_pos (by rfl)];refine store_urlX hRB_x11 rfl hCz hC1 (.tmp 11) (.tmp 70) rfl rfl rfl ?_;have hGf:(x11.setRow B C).cell? ⟨G,0,none⟩=some (.int .u8 c.toNat):=(cell_setRowX C (fun e=>by rw[e]at hHeld;exact no_u8 hRB_x11 hHeld.2)).trans hHeld.2;have hbf:Below W1.heap.size W1 (x11.setRow B C):=below_setRow hHeld.1.2 hBge;have hfin:SelfQ (x11.setRow B C) B C (Lz.selfV 1 hst p0 [c]):=SelfQ.mk hCz (setRow_heap _ _ _ _ _ _ hRB_x11) (hUV_x11.setRow hRB_x11 C).val;clear hHeld;refine hK.out _ _ ⟨⟨hC.out _ hbf,hbf⟩,hGf⟩ (fun hHeld=>?_);clear hK K
    (try simp only[Act.put]);(try simp only[List.setIfInBounds_toArray]);(try simp only[List.set_cons_zero,List.set_cons_succ])
    refine TkD 21 (some 12) (v:=?_) rfl rfl ?_ ?_;rotate_left
    ·(intro W hSw;(try dsimp only at hSw);go_simp;try with_reducible rfl)
    (try simp only[Act.put]);(try simp only[List.setIfInBounds_toArray]);(try simp only[List.set_cons_zero,List.set_cons_succ])
    refine wpAnyH_done (by kernel_rfl) ?_ _
    go_wp2_with fail
    go_meet;exact⟨B,C,rfl,rfl,hfin,hbf⟩
  ·skip
   go_simp;obtain⟨x13,hx_x13⟩:∃V,V=x0.alloc (.cells #[.int .u8 c.toNat] 5):=⟨_,rfl⟩;have hn_x13:Below x0.heap.size x0 x13:=by rw[hx_x13];exact(Below.refl _ _).alloc (Nat.le_refl _) _
   have hG_x13:x13.cell? ⟨x0.heap.size,0,none⟩=some (.int .u8 c.toNat):=by rw[hx_x13];exact rowAt (heap_new _ (.cells #[.int .u8 c.toNat] 5)) 0 _ rfl
   have hGl_x13:=World.block_lt_of_cell? _ _ hG_x13;rw[<-hx_x13];clear hx_x13;obtain⟨G,hG⟩:∃G,G=x0.heap.size:=⟨_,rfl⟩;rw[<-hG]at hG_x13 hGl_x13⊢;clear hG;have hb_x13:Below W1.heap.size W1 x13:=hHeld.2.trans (hn_x13.mono hHeld.2.size);clear hHeld;refine hK.out _ _ ⟨hC.out _ hb_x13,hb_x13⟩ (fun hHeld=>?_);clear hK K
   (try simp only[Act.put]);(try simp only[List.setIfInBounds_toArray]);(try simp only[List.set_cons_zero,List.set_cons_succ])
   refine wpAnyH_weakenX (S':=fun V=>(V.cell? ⟨w.heap.size,0,none⟩=some (.int .u16 p0)/\Below W1.heap.size W1 V)/\V.cell? ⟨G,0,none⟩=some (.int .u8 c.toNat)) (fun _ h=>h.1) ?_;have hHeld2:=And.intro hHeld hG_x13;clear hHeld;have hHeld:=hHeld2;clear hHeld2;refine TkD 13 (some 67) (v:=?_) rfl rfl ?_ ?_;rotate_left
   ·(intro W hSw;(try dsimp only at hSw);have hcw:=hcv.out W G hSw.2;go_simp;try with_reducible rfl)
   (try simp only[Act.put]);(try simp only[List.setIfInBounds_toArray]);(try simp only[List.set_cons_zero,List.set_cons_succ])
   refine wpAnyH_ready (rs:=[6,19]) (by kernel_rfl) (by simp) ?_;refine AllReadyH.cons rfl (fun K hK=>?_) (AllReadyH.cons rfl (fun K hK=>?_) AllReadyH.nil)
   ·skip
    go_simp
    go_at_call 17
    refine(kD.out _).mono ?_;rintro e x14 ⟨D,rfl,hD,hn_x14⟩;have hDz:D.size<=5:=by rw[<-len_of_size,hD.out];exact HD5.out
    have n4:=N3.out _ hDz;have n5:¬(9223372036854775807<8+S.size+3+D.size+1):=by omega
    have n6:¬(9223372036854775807<8+S.size+3+D.size+1+1):=by omega
    have hb_x14:Below W1.heap.size W1 x14:=hHeld.1.2.trans (hn_x14.mono hHeld.1.2.size);have hG_x14:x14.cell? ⟨G,0,none⟩=some (.int .u8 c.toNat):=(hn_x14.cell (World.block_lt_of_cell? _ _ hHeld.2)).trans hHeld.2;clear hHeld;refine hK.out _ _ ⟨⟨hC.out _ hb_x14,hb_x14⟩,hG_x14⟩ (fun hHeld=>?_);clear hK K
    (try simp only[Act.put]);(try simp only[List.setIfInBounds_toArray]);(try simp only[List.set_cons_zero,List.set_cons_succ])
    refine TkD 7 (some 61) (v:=?_) rfl rfl ?_ ?_;rotate_left
    ·(intro W hSw;(try dsimp only at hSw);go_simp;try with_reducible rfl)
    (try simp only[Act.put]);(try simp only[List.setIfInBounds_toArray]);(try simp only[List.set_cons_zero,List.set_cons_succ])
    refine TkD 8 (some 62) (v:=?_) rfl rfl ?_ ?_;rotate_left
    ·(intro W hSw;(try dsimp only at hSw);go_simp;try with_reducible rfl)
    (try simp only[Act.put]);(try simp only[List.setIfInBounds_toArray]);(try simp only[List.set_cons_zero,List.set_cons_succ])
    refine TkD 14 (some 68) (v:=?_) rfl rfl ?_ ?_;rotate_left
    ·(intro W hSw;(try dsimp only at hSw);go_simp;try with_reducible rfl)
    (try simp only[Act.put]);(try simp only[List.setIfInBounds_toArray]);(try simp only[List.set_cons_zero,List.set_cons_succ])
    refine wpAnyH_ready (rs:=[15,19]) (by kernel_rfl) (by simp) ?_;refine AllReadyH.cons rfl (fun K hK=>?_) (AllReadyH.cons rfl (fun K hK=>?_) AllReadyH.nil)
    ·skip
     go_simp
     go_at_call 15
     refine(kP.out _ D hD (hHeld.1.2)).mono ?_;rintro e x15 ⟨C,rfl,hn_x15,hUV_x15,hCz,hC1⟩;have hb_x15:Below W1.heap.size W1 x15:=hHeld.1.2.trans (hn_x15.mono hHeld.1.2.size);have hG_x15:x15.cell? ⟨G,0,none⟩=some (.int .u8 c.toNat):=(hn_x15.cell (World.block_lt_of_cell? _ _ hHeld.2)).trans hHeld.2;clear hHeld;refine hK.out _ _ ⟨⟨hC.out _ hb_x15,hb_x15⟩,hG_x15⟩ (fun hHeld=>?_);clear hK K
     (try simp only[Act.put]);(try simp only[List.setIfInBounds_toArray]);(try simp only[List.set_cons_zero,List.set_cons_succ])
     refine TkD 16 (some 53) (v:=?_) rfl rfl ?_ ?_;rotate_left
     ·(intro W hSw;(try dsimp only at hSw);go_simp;try with_reducible rfl)
     (try simp only[Act.put]);(try simp only[List.setIfInBounds_toArray]);(try simp only[List.set_cons_zero,List.set_cons_succ])
     refine TkD 17 (some 70) (v:=?_) rfl rfl ?_ ?_;rotate_left
     ·(intro W hSw;(try dsimp only at hSw);go_simp;try with_reducible rfl)
     (try simp only[Act.put]);(try simp only[List.setIfInBounds_toArray]);(try simp only[List.set_cons_zero,List.set_cons_succ])
     refine TkD 18 (some 71) (v:=?_) rfl rfl ?_ ?_;rotate_left
     ·(intro W hSw;(try dsimp only at hSw);go_simp;try with_reducible rfl)
     (try simp only[Act.put]);(try simp only[List.setIfInBounds_toArray]);(try simp only[List.set_cons_zero,List.set_cons_succ])
     refine wpAnyH_ready (rs:=[19]) (by kernel_rfl) (by simp) ?_;refine AllReadyH.cons rfl (fun K hK=>?_) AllReadyH.nil;go_simp;obtain⟨x16,hx_x16⟩:∃V,V=x15.alloc (.cells zeroC 29):=⟨_,rfl⟩;have hn_x16:Below x15.heap.size x15 x16:=by rw[hx_x16];exact(Below.refl _ _).alloc (Nat.le_refl _) _
     have hRB0:x16.heap[x15.heap.size]? =some (.cells zeroC 29 (0,0)):=by rw[hx_x16];exact heap_new _ _
     have hBge:W1.heap.size<=x15.heap.size:=hHeld.1.2.size;change K _ (x15.alloc (.cells zeroC 29));rw[<-hx_x16];clear hx_x16;obtain⟨B,hB⟩:∃B,B=x15.heap.size:=⟨_,rfl⟩;rw[<-hB]at hBge hRB0⊢;clear hB;have hRB_x16:=hRB0;clear hRB0;have hb_x16:Below W1.heap.size W1 x16:=hHeld.1.2.trans (hn_x16.mono hHeld.1.2.size);have hG_x16:x16.cell? ⟨G,0,none⟩=some (.int .u8 c.toNat):=(hn_x16.cell (World.block_lt_of_cell? _ _ hHeld.2)).trans hHeld.2;have hUV_x16:=hUV_x15.below hn_x16;clear hHeld;refine hK.out _ _ ⟨⟨hC.out _ hb_x16,hb_x16⟩,hG_x16⟩ (fun hHeld=>?_);clear hK K
     (try simp only[Act.put]);(try simp only[List.setIfInBounds_toArray]);(try simp only[List.set_cons_zero,List.set_cons_succ])
     refine wpAnyH_ready (rs:=[20]) (by kernel_rfl) (by simp) ?_;refine AllReadyH.cons rfl (fun K hK=>?_) AllReadyH.nil;rw[if_pos (by rfl)];refine store_urlX hRB_x16 rfl hCz hC1 (.tmp 11) (.tmp 70) rfl rfl rfl ?_;have hGf:(x16.setRow B C).cell? ⟨G,0,none⟩=some (.int .u8 c.toNat):=(cell_setRowX C (fun e=>by rw[e]at hHeld;exact no_u8 hRB_x16 hHeld.2)).trans hHeld.2;have hbf:Below W1.heap.size W1 (x16.setRow B C):=below_setRow hHeld.1.2 hBge;have hfin:SelfQ (x16.setRow B C) B C (Lz.selfV 1 hst p0 [c]):=SelfQ.mk hCz (setRow_heap _ _ _ _ _ _ hRB_x16) (hUV_x16.setRow hRB_x16 C).val;clear hHeld;refine hK.out _ _ ⟨⟨hC.out _ hbf,hbf⟩,hGf⟩ (fun hHeld=>?_);clear hK K
     (try simp only[Act.put]);(try simp only[List.setIfInBounds_toArray]);(try simp only[List.set_cons_zero,List.set_cons_succ])
     refine TkD 21 (some 12) (v:=?_) rfl rfl ?_ ?_;rotate_left
     ·(intro W hSw;(try dsimp only at hSw);go_simp;try with_reducible rfl)
     (try simp only[Act.put]);(try simp only[List.setIfInBounds_toArray]);(try simp only[List.set_cons_zero,List.set_cons_succ])
     refine wpAnyH_done (by kernel_rfl) ?_ _
     go_wp2_with fail
     go_meet;exact⟨B,C,rfl,rfl,hfin,hbf⟩
    ·skip
     go_simp;obtain⟨x18,hx_x18⟩:∃V,V=x14.alloc (.cells zeroC 29):=⟨_,rfl⟩;have hn_x18:Below x14.heap.size x14 x18:=by rw[hx_x18];exact(Below.refl _ _).alloc (Nat.le_refl _) _
     have hRB0:x18.heap[x14.heap.size]? =some (.cells zeroC 29 (0,0)):=by rw[hx_x18];exact heap_new _ _
     have hBge:W1.heap.size<=x14.heap.size:=hHeld.1.2.size;change K _ (x14.alloc (.cells zeroC 29));rw[<-hx_x18];clear hx_x18;obtain⟨B,hB⟩:∃B,B=x14.heap.size:=⟨_,rfl⟩;rw[<-hB]at hBge hRB0⊢;clear hB;have hRB_x18:=hRB0;clear hRB0;have hb_x18:Below W1.heap.size W1 x18:=hHeld.1.2.trans (hn_x18.mono hHeld.1.2.size);have hG_x18:x18.cell? ⟨G,0,none⟩=some (.int .u8 c.toNat):=(hn_x18.cell (World.block_lt_of_cell? _ _ hHeld.2)).trans hHeld.2;clear hHeld;refine hK.out _ _ ⟨⟨hC.out _ hb_x18,hb_x18⟩,hG_x18⟩ (fun hHeld=>?_);clear hK K
     (try simp only[Act.put]);(try simp only[List.setIfInBounds_toArray]);(try simp only[List.set_cons_zero,List.set_cons_succ])
     refine wpAnyH_ready (rs:=[15]) (by kernel_rfl) (by simp) ?_;refine AllReadyH.cons rfl (fun K hK=>?_) AllReadyH.nil;go_simp
     go_at_call 15
     refine(kP.out _ D hD (hHeld.1.2)).mono ?_;rintro e x19 ⟨C,rfl,hn_x19,hUV_x19,hCz,hC1⟩;have hb_x19:Below W1.heap.size W1 x19:=hHeld.1.2.trans (hn_x19.mono hHeld.1.2.size);have hG_x19:x19.cell? ⟨G,0,none⟩=some (.int .u8 c.toNat):=(hn_x19.cell (World.block_lt_of_cell? _ _ hHeld.2)).trans hHeld.2;have hRB_x19:x19.heap[B]? =some (.cells zeroC 29 (0,0)):=(hn_x19.block _ (row_lt hRB_x18)).trans hRB_x18;clear hHeld;refine hK.out _ _ ⟨⟨hC.out _ hb_x19,hb_x19⟩,hG_x19⟩ (fun hHeld=>?_);clear hK K
     (try simp only[Act.put]);(try simp only[List.setIfInBounds_toArray]);(try simp only[List.set_cons_zero,List.set_cons_succ])
     refine TkD 16 (some 53) (v:=?_) rfl rfl ?_ ?_;rotate_left
     ·(intro W hSw;(try dsimp only at hSw);go_simp;try with_reducible rfl)
     (try simp only[Act.put]);(try simp only[List.setIfInBounds_toArray]);(try simp only[List.set_cons_zero,List.set_cons_succ])
     refine TkD 17 (some 70) (v:=?_) rfl rfl ?_ ?_;rotate_left
     ·(intro W hSw;(try dsimp only at hSw);go_simp;try with_reducible rfl)
     (try simp only[Act.put]);(try simp only[List.setIfInBounds_toArray]);(try simp only[List.set_cons_zero,List.set_cons_succ])
     refine TkD 18 (some 71) (v:=?_) rfl rfl ?_ ?_;rotate_left
     ·(intro W hSw;(try dsimp only at hSw);go_simp;try with_reducible rfl)
     (try simp only[Act.put]);(try simp only[List.setIfInBounds_toArray]);(try simp only[List.set_cons_zero,List.set_cons_succ])
     refine wpAnyH_ready (rs:=[20]) (by kernel_rfl) (by simp) ?_;refine AllReadyH.cons rfl (fun K hK=>?_) AllReadyH.nil;rw[if_pos (by rfl)];refine store_urlX hRB_x19 rfl hCz hC1 (.tmp 11) (.tmp 70) rfl rfl rfl ?_;have hGf:(x19.setRow B C).cell? ⟨G,0,none⟩=some (.int .u8 c.toNat):=(cell_setRowX C (fun e=>by rw[e]at hHeld;exact no_u8 hRB_x19 hHeld.2)).trans hHeld.2;have hbf:Below W1.heap.size W1 (x19.setRow B C):=below_setRow hHeld.1.2 hBge;have hfin:SelfQ (x19.setRow B C) B C (Lz.selfV 1 hst p0 [c]):=SelfQ.mk hCz (setRow_heap _ _ _ _ _ _ hRB_x19) (hUV_x19.setRow hRB_x19 C).val;clear hHeld;refine hK.out _ _ ⟨⟨hC.out _ hbf,hbf⟩,hGf⟩ (fun hHeld=>?_);clear hK K
     (try simp only[Act.put]);(try simp only[List.setIfInBounds_toArray]);(try simp only[List.set_cons_zero,List.set_cons_succ])
     refine TkD 21 (some 12) (v:=?_) rfl rfl ?_ ?_;rotate_left
     ·(intro W hSw;(try dsimp only at hSw);go_simp;try with_reducible rfl)
     (try simp only[Act.put]);(try simp only[List.setIfInBounds_toArray]);(try simp only[List.set_cons_zero,List.set_cons_succ])
     refine wpAnyH_done (by kernel_rfl) ?_ _
     go_wp2_with fail
     go_meet;exact⟨B,C,rfl,rfl,hfin,hbf⟩
   ·skip
    go_simp;obtain⟨x21,hx_x21⟩:∃V,V=x13.alloc (.cells zeroC 29):=⟨_,rfl⟩;have hn_x21:Below x13.heap.size x13 x21:=by rw[hx_x21];exact(Below.refl _ _).alloc (Nat.le_refl _) _
    have hRB0:x21.heap[x13.heap.size]? =some (.cells zeroC 29 (0,0)):=by rw[hx_x21];exact heap_new _ _
    have hBge:W1.heap.size<=x13.heap.size:=hHeld.1.2.size;change K _ (x13.alloc (.cells zeroC 29));rw[<-hx_x21];clear hx_x21;obtain⟨B,hB⟩:∃B,B=x13.heap.size:=⟨_,rfl⟩;rw[<-hB]at hBge hRB0⊢;clear hB;have hRB_x21:=hRB0;clear hRB0;have hb_x21:Below W1.heap.size W1 x21:=hHeld.1.2.trans (hn_x21.mono hHeld.1.2.size);have hG_x21:x21.cell? ⟨G,0,none⟩=some (.int .u8 c.toNat):=(hn_x21.cell (World.block_lt_of_cell? _ _ hHeld.2)).trans hHeld.2;clear hHeld;refine hK.out _ _ ⟨⟨hC.out _ hb_x21,hb_x21⟩,hG_x21⟩ (fun hHeld=>?_);clear hK K
    (try simp only[Act.put]);(try simp only[List.setIfInBounds_toArray]);(try simp only[List.set_cons_zero,List.set_cons_succ])
    refine wpAnyH_ready (rs:=[6]) (by kernel_rfl) (by simp) ?_;refine AllReadyH.cons rfl (fun K hK=>?_) AllReadyH.nil;go_simp
    go_at_call 17
    refine(kD.out _).mono ?_;rintro e x22 ⟨D,rfl,hD,hn_x22⟩;have hDz:D.size<=5:=by rw[<-len_of_size,hD.out];exact HD5.out
    have n4:=N3.out _ hDz;have n5:¬(9223372036854775807<8+S.size+3+D.size+1):=by omega
    have n6:¬(9223372036854775807<8+S.size+3+D.size+1+1):=by omega
    have hb_x22:Below W1.heap.size W1 x22:=hHeld.1.2.trans (hn_x22.mono hHeld.1.2.size);have hG_x22:x22.cell? ⟨G,0,none⟩=some (.int .u8 c.toNat):=(hn_x22.cell (World.block_lt_of_cell? _ _ hHeld.2)).trans hHeld.2;have hRB_x22:x22.heap[B]? =some (.cells zeroC 29 (0,0)):=(hn_x22.block _ (row_lt hRB_x21)).trans hRB_x21;clear hHeld;refine hK.out _ _ ⟨⟨hC.out _ hb_x22,hb_x22⟩,hG_x22⟩ (fun hHeld=>?_);clear hK K
    (try simp only[Act.put]);(try simp only[List.setIfInBounds_toArray]);(try simp only[List.set_cons_zero,List.set_cons_succ])
    refine TkD 7 (some 61) (v:=?_) rfl rfl ?_ ?_;rotate_left
    ·(intro W hSw;(try dsimp only at hSw);go_simp;try with_reducible rfl)
    (try simp only[Act.put]);(try simp only[List.setIfInBounds_toArray]);(try simp only[List.set_cons_zero,List.set_cons_succ])
    refine TkD 8 (some 62) (v:=?_) rfl rfl ?_ ?_;rotate_left
    ·(intro W hSw;(try dsimp only at hSw);go_simp;try with_reducible rfl)
    (try simp only[Act.put]);(try simp only[List.setIfInBounds_toArray]);(try simp only[List.set_cons_zero,List.set_cons_succ])
    refine TkD 14 (some 68) (v:=?_) rfl rfl ?_ ?_;rotate_left
    ·(intro W hSw;(try dsimp only at hSw);go_simp;try with_reducible rfl)
    (try simp only[Act.put]);(try simp only[List.setIfInBounds_toArray]);(try simp only[List.set_cons_zero,List.set_cons_succ])
    refine wpAnyH_ready (rs:=[15]) (by kernel_rfl) (by simp) ?_;refine AllReadyH.cons rfl (fun K hK=>?_) AllReadyH.nil;go_simp
    go_at_call 15
    refine(kP.out _ D hD (hHeld.1.2)).mono ?_;rintro e x23 ⟨C,rfl,hn_x23,hUV_x23,hCz,hC1⟩;have hb_x23:Below W1.heap.size W1 x23:=hHeld.1.2.trans (hn_x23.mono hHeld.1.2.size);have hG_x23:x23.cell? ⟨G,0,none⟩=some (.int .u8 c.toNat):=(hn_x23.cell (World.block_lt_of_cell? _ _ hHeld.2)).trans hHeld.2;have hRB_x23:x23.heap[B]? =some (.cells zeroC 29 (0,0)):=(hn_x23.block _ (row_lt hRB_x22)).trans hRB_x22;clear hHeld;refine hK.out _ _ ⟨⟨hC.out _ hb_x23,hb_x23⟩,hG_x23⟩ (fun hHeld=>?_);clear hK K
    (try simp only[Act.put]);(try simp only[List.setIfInBounds_toArray]);(try simp only[List.set_cons_zero,List.set_cons_succ])
    refine TkD 16 (some 53) (v:=?_) rfl rfl ?_ ?_;rotate_left
    ·(intro W hSw;(try dsimp only at hSw);go_simp;try with_reducible rfl)
    (try simp only[Act.put]);(try simp only[List.setIfInBounds_toArray]);(try simp only[List.set_cons_zero,List.set_cons_succ])
    refine TkD 17 (some 70) (v:=?_) rfl rfl ?_ ?_;rotate_left
    ·(intro W hSw;(try dsimp only at hSw);go_simp;try with_reducible rfl)
    (try simp only[Act.put]);(try simp only[List.setIfInBounds_toArray]);(try simp only[List.set_cons_zero,List.set_cons_succ])
    refine TkD 18 (some 71) (v:=?_) rfl rfl ?_ ?_;rotate_left
    ·(intro W hSw;(try dsimp only at hSw);go_simp;try with_reducible rfl)
    (try simp only[Act.put]);(try simp only[List.setIfInBounds_toArray]);(try simp only[List.set_cons_zero,List.set_cons_succ])
    refine wpAnyH_ready (rs:=[20]) (by kernel_rfl) (by simp) ?_;refine AllReadyH.cons rfl (fun K hK=>?_) AllReadyH.nil;rw[if_pos (by rfl)];refine store_urlX hRB_x23 rfl hCz hC1 (.tmp 11) (.tmp 70) rfl rfl rfl ?_;have hGf:(x23.setRow B C).cell? ⟨G,0,none⟩=some (.int .u8 c.toNat):=(cell_setRowX C (fun e=>by rw[e]at hHeld;exact no_u8 hRB_x23 hHeld.2)).trans hHeld.2;have hbf:Below W1.heap.size W1 (x23.setRow B C):=below_setRow hHeld.1.2 hBge;have hfin:SelfQ (x23.setRow B C) B C (Lz.selfV 1 hst p0 [c]):=SelfQ.mk hCz (setRow_heap _ _ _ _ _ _ hRB_x23) (hUV_x23.setRow hRB_x23 C).val;clear hHeld;refine hK.out _ _ ⟨⟨hC.out _ hbf,hbf⟩,hGf⟩ (fun hHeld=>?_);clear hK K
    (try simp only[Act.put]);(try simp only[List.setIfInBounds_toArray]);(try simp only[List.set_cons_zero,List.set_cons_succ])
    refine TkD 21 (some 12) (v:=?_) rfl rfl ?_ ?_;rotate_left
    ·(intro W hSw;(try dsimp only at hSw);go_simp;try with_reducible rfl)
    (try simp only[Act.put]);(try simp only[List.setIfInBounds_toArray]);(try simp only[List.set_cons_zero,List.set_cons_succ])
    refine wpAnyH_done (by kernel_rfl) ?_ _
    go_wp2_with fail
    go_meet;exact⟨B,C,rfl,rfl,hfin,hbf⟩
  ·skip
   go_simp;obtain⟨x25,hx_x25⟩:∃V,V=x0.alloc (.cells zeroC 29):=⟨_,rfl⟩;have hn_x25:Below x0.heap.size x0 x25:=by rw[hx_x25];exact(Below.refl _ _).alloc (Nat.le_refl _) _
   have hRB0:x25.heap[x0.heap.size]? =some (.cells zeroC 29 (0,0)):=by rw[hx_x25];exact heap_new _ _
   have hBge:W1.heap.size<=x0.heap.size:=hHeld.2.size;change K _ (x0.alloc (.cells zeroC 29));rw[<-hx_x25];clear hx_x25;obtain⟨B,hB⟩:∃B,B=x0.heap.size:=⟨_,rfl⟩;rw[<-hB]at hBge hRB0⊢;clear hB;have hRB_x25:=hRB0;clear hRB0;have hb_x25:Below W1.heap.size W1 x25:=hHeld.2.trans (hn_x25.mono hHeld.2.size);clear hHeld;refine hK.out _ _ ⟨hC.out _ hb_x25,hb_x25⟩ (fun hHeld=>?_);clear hK K
   (try simp only[Act.put]);(try simp only[List.setIfInBounds_toArray]);(try simp only[List.set_cons_zero,List.set_cons_succ])
   refine wpAnyH_ready (rs:=[6,12]) (by kernel_rfl) (by simp) ?_;refine AllReadyH.cons rfl (fun K hK=>?_) (AllReadyH.cons rfl (fun K hK=>?_) AllReadyH.nil)
   ·skip
    go_simp
    go_at_call 17
    refine(kD.out _).mono ?_;rintro e x26 ⟨D,rfl,hD,hn_x26⟩;have hDz:D.size<=5:=by rw[<-len_of_size,hD.out];exact HD5.out
    have n4:=N3.out _ hDz;have n5:¬(9223372036854775807<8+S.size+3+D.size+1):=by omega
    have n6:¬(9223372036854775807<8+S.size+3+D.size+1+1):=by omega
    have hb_x26:Below W1.heap.size W1 x26:=hHeld.2.trans (hn_x26.mono hHeld.2.size);have hRB_x26:x26.heap[B]? =some (.cells zeroC 29 (0,0)):=(hn_x26.block _ (row_lt hRB_x25)).trans hRB_x25;clear hHeld;refine hK.out _ _ ⟨hC.out _ hb_x26,hb_x26⟩ (fun hHeld=>?_);clear hK K
    (try simp only[Act.put]);(try simp only[List.setIfInBounds_toArray]);(try simp only[List.set_cons_zero,List.set_cons_succ])
    refine TkD 7 (some 61) (v:=?_) rfl rfl ?_ ?_;rotate_left
    ·(intro W hSw;(try dsimp only at hSw);go_simp;try with_reducible rfl)
    (try simp only[Act.put]);(try simp only[List.setIfInBounds_toArray]);(try simp only[List.set_cons_zero,List.set_cons_succ])
    refine TkD 8 (some 62) (v:=?_) rfl rfl ?_ ?_;rotate_left
    ·(intro W hSw;(try dsimp only at hSw);go_simp;try with_reducible rfl)
    (try simp only[Act.put]);(try simp only[List.setIfInBounds_toArray]);(try simp only[List.set_cons_zero,List.set_cons_succ])
    refine wpAnyH_ready (rs:=[12]) (by kernel_rfl) (by simp) ?_;refine AllReadyH.cons rfl (fun K hK=>?_) AllReadyH.nil;go_simp;obtain⟨x27,hx_x27⟩:∃V,V=x26.alloc (.cells #[.int .u8 c.toNat] 5):=⟨_,rfl⟩;have hn_x27:Below x26.heap.size x26 x27:=by rw[hx_x27];exact(Below.refl _ _).alloc (Nat.le_refl _) _
    have hG_x27:x27.cell? ⟨x26.heap.size,0,none⟩=some (.int .u8 c.toNat):=by rw[hx_x27];exact rowAt (heap_new _ (.cells #[.int .u8 c.toNat] 5)) 0 _ rfl
    have hGl_x27:=World.block_lt_of_cell? _ _ hG_x27;rw[<-hx_x27];clear hx_x27;obtain⟨G,hG⟩:∃G,G=x26.heap.size:=⟨_,rfl⟩;rw[<-hG]at hG_x27 hGl_x27⊢;clear hG;have hb_x27:Below W1.heap.size W1 x27:=hHeld.2.trans (hn_x27.mono hHeld.2.size);have hRB_x27:x27.heap[B]? =some (.cells zeroC 29 (0,0)):=(hn_x27.block _ (row_lt hRB_x26)).trans hRB_x26;clear hHeld;refine hK.out _ _ ⟨hC.out _ hb_x27,hb_x27⟩ (fun hHeld=>?_);clear hK K
    (try simp only[Act.put]);(try simp only[List.setIfInBounds_toArray]);(try simp only[List.set_cons_zero,List.set_cons_succ])
    refine wpAnyH_weakenX (S':=fun V=>(V.cell? ⟨w.heap.size,0,none⟩=some (.int .u16 p0)/\Below W1.heap.size W1 V)/\V.cell? ⟨G,0,none⟩=some (.int .u8 c.toNat)) (fun _ h=>h.1) ?_;have hHeld2:=And.intro hHeld hG_x27;clear hHeld;have hHeld:=hHeld2;clear hHeld2;refine TkD 13 (some 67) (v:=?_) rfl rfl ?_ ?_;rotate_left
    ·(intro W hSw;(try dsimp only at hSw);have hcw:=hcv.out W G hSw.2;go_simp;try with_reducible rfl)
    (try simp only[Act.put]);(try simp only[List.setIfInBounds_toArray]);(try simp only[List.set_cons_zero,List.set_cons_succ])
    refine TkD 14 (some 68) (v:=?_) rfl rfl ?_ ?_;rotate_left
    ·(intro W hSw;(try dsimp only at hSw);go_simp;try with_reducible rfl)
    (try simp only[Act.put]);(try simp only[List.setIfInBounds_toArray]);(try simp only[List.set_cons_zero,List.set_cons_succ])
    refine wpAnyH_ready (rs:=[15]) (by kernel_rfl) (by simp) ?_;refine AllReadyH.cons rfl (fun K hK=>?_) AllReadyH.nil;go_simp
    go_at_call 15
    refine(kP.out _ D hD (hHeld.1.2)).mono ?_;rintro e x28 ⟨C,rfl,hn_x28,hUV_x28,hCz,hC1⟩;have hb_x28:Below W1.heap.size W1 x28:=hHeld.1.2.trans (hn_x28.mono hHeld.1.2.size);have hG_x28:x28.cell? ⟨G,0,none⟩=some (.int .u8 c.toNat):=(hn_x28.cell (World.block_lt_of_cell? _ _ hHeld.2)).trans hHeld.2;have hRB_x28:x28.heap[B]? =some (.cells zeroC 29 (0,0)):=(hn_x28.block _ (row_lt hRB_x27)).trans hRB_x27;clear hHeld;refine hK.out _ _ ⟨⟨hC.out _ hb_x28,hb_x28⟩,hG_x28⟩ (fun hHeld=>?_);clear hK K
    (try simp only[Act.put]);(try simp only[List.setIfInBounds_toArray]);(try simp only[List.set_cons_zero,List.set_cons_succ])
    refine TkD 16 (some 53) (v:=?_) rfl rfl ?_ ?_;rotate_left
    ·(intro W hSw;(try dsimp only at hSw);go_simp;try with_reducible rfl)
    (try simp only[Act.put]);(try simp only[List.setIfInBounds_toArray]);(try simp only[List.set_cons_zero,List.set_cons_succ])
    refine TkD 17 (some 70) (v:=?_) rfl rfl ?_ ?_;rotate_left
    ·(intro W hSw;(try dsimp only at hSw);go_simp;try with_reducible rfl)
    (try simp only[Act.put]);(try simp only[List.setIfInBounds_toArray]);(try simp only[List.set_cons_zero,List.set_cons_succ])
    refine TkD 18 (some 71) (v:=?_) rfl rfl ?_ ?_;rotate_left
    ·(intro W hSw;(try dsimp only at hSw);go_simp;try with_reducible rfl)
    (try simp only[Act.put]);(try simp only[List.setIfInBounds_toArray]);(try simp only[List.set_cons_zero,List.set_cons_succ])
    refine wpAnyH_ready (rs:=[20]) (by kernel_rfl) (by simp) ?_;refine AllReadyH.cons rfl (fun K hK=>?_) AllReadyH.nil;rw[if_pos (by rfl)];refine store_urlX hRB_x28 rfl hCz hC1 (.tmp 11) (.tmp 70) rfl rfl rfl ?_;have hGf:(x28.setRow B C).cell? ⟨G,0,none⟩=some (.int .u8 c.toNat):=(cell_setRowX C (fun e=>by rw[e]at hHeld;exact no_u8 hRB_x28 hHeld.2)).trans hHeld.2;have hbf:Below W1.heap.size W1 (x28.setRow B C):=below_setRow hHeld.1.2 hBge;have hfin:SelfQ (x28.setRow B C) B C (Lz.selfV 1 hst p0 [c]):=SelfQ.mk hCz (setRow_heap _ _ _ _ _ _ hRB_x28) (hUV_x28.setRow hRB_x28 C).val;clear hHeld;refine hK.out _ _ ⟨⟨hC.out _ hbf,hbf⟩,hGf⟩ (fun hHeld=>?_);clear hK K
    (try simp only[Act.put]);(try simp only[List.setIfInBounds_toArray]);(try simp only[List.set_cons_zero,List.set_cons_succ])
    refine TkD 21 (some 12) (v:=?_) rfl rfl ?_ ?_;rotate_left
    ·(intro W hSw;(try dsimp only at hSw);go_simp;try with_reducible rfl)
    (try simp only[Act.put]);(try simp only[List.setIfInBounds_toArray]);(try simp only[List.set_cons_zero,List.set_cons_succ])
    refine wpAnyH_done (by kernel_rfl) ?_ _
    go_wp2_with fail
    go_meet;exact⟨B,C,rfl,rfl,hfin,hbf⟩
   ·skip
    go_simp;obtain⟨x30,hx_x30⟩:∃V,V=x25.alloc (.cells #[.int .u8 c.toNat] 5):=⟨_,rfl⟩;have hn_x30:Below x25.heap.size x25 x30:=by rw[hx_x30];exact(Below.refl _ _).alloc (Nat.le_refl _) _
    have hG_x30:x30.cell? ⟨x25.heap.size,0,none⟩=some (.int .u8 c.toNat):=by rw[hx_x30];exact rowAt (heap_new _ (.cells #[.int .u8 c.toNat] 5)) 0 _ rfl
    have hGl_x30:=World.block_lt_of_cell? _ _ hG_x30;rw[<-hx_x30];clear hx_x30;obtain⟨G,hG⟩:∃G,G=x25.heap.size:=⟨_,rfl⟩;rw[<-hG]at hG_x30 hGl_x30⊢;clear hG;have hb_x30:Below W1.heap.size W1 x30:=hHeld.2.trans (hn_x30.mono hHeld.2.size);have hRB_x30:x30.heap[B]? =some (.cells zeroC 29 (0,0)):=(hn_x30.block _ (row_lt hRB_x25)).trans hRB_x25;clear hHeld;refine hK.out _ _ ⟨hC.out _ hb_x30,hb_x30⟩ (fun hHeld=>?_);clear hK K
    (try simp only[Act.put]);(try simp only[List.setIfInBounds_toArray]);(try simp only[List.set_cons_zero,List.set_cons_succ])
    refine wpAnyH_weakenX (S':=fun V=>(V.cell? ⟨w.heap.size,0,none⟩=some (.int .u16 p0)/\Below W1.heap.size W1 V)/\V.cell? ⟨G,0,none⟩=some (.int .u8 c.toNat)) (fun _ h=>h.1) ?_;have hHeld2:=And.intro hHeld hG_x30;clear hHeld;have hHeld:=hHeld2;clear hHeld2;refine TkD 13 (some 67) (v:=?_) rfl rfl ?_ ?_;rotate_left
    ·(intro W hSw;(try dsimp only at hSw);have hcw:=hcv.out W G hSw.2;go_simp;try with_reducible rfl)
    (try simp only[Act.put]);(try simp only[List.setIfInBounds_toArray]);(try simp only[List.set_cons_zero,List.set_cons_succ])
    refine wpAnyH_ready (rs:=[6]) (by kernel_rfl) (by simp) ?_;refine AllReadyH.cons rfl (fun K hK=>?_) AllReadyH.nil;go_simp
    go_at_call 17
    refine(kD.out _).mono ?_;rintro e x31 ⟨D,rfl,hD,hn_x31⟩;have hDz:D.size<=5:=by rw[<-len_of_size,hD.out];exact HD5.out
    have n4:=N3.out _ hDz;have n5:¬(9223372036854775807<8+S.size+3+D.size+1):=by omega
    have n6:¬(9223372036854775807<8+S.size+3+D.size+1+1):=by omega
    have hb_x31:Below W1.heap.size W1 x31:=hHeld.1.2.trans (hn_x31.mono hHeld.1.2.size);have hG_x31:x31.cell? ⟨G,0,none⟩=some (.int .u8 c.toNat):=(hn_x31.cell (World.block_lt_of_cell? _ _ hHeld.2)).trans hHeld.2;have hRB_x31:x31.heap[B]? =some (.cells zeroC 29 (0,0)):=(hn_x31.block _ (row_lt hRB_x30)).trans hRB_x30;clear hHeld;refine hK.out _ _ ⟨⟨hC.out _ hb_x31,hb_x31⟩,hG_x31⟩ (fun hHeld=>?_);clear hK K
    (try simp only[Act.put]);(try simp only[List.setIfInBounds_toArray]);(try simp only[List.set_cons_zero,List.set_cons_succ])
    refine TkD 7 (some 61) (v:=?_) rfl rfl ?_ ?_;rotate_left
    ·(intro W hSw;(try dsimp only at hSw);go_simp;try with_reducible rfl)
    (try simp only[Act.put]);(try simp only[List.setIfInBounds_toArray]);(try simp only[List.set_cons_zero,List.set_cons_succ])
    refine TkD 8 (some 62) (v:=?_) rfl rfl ?_ ?_;rotate_left
    ·(intro W hSw;(try dsimp only at hSw);go_simp;try with_reducible rfl)
    (try simp only[Act.put]);(try simp only[List.setIfInBounds_toArray]);(try simp only[List.set_cons_zero,List.set_cons_succ])
    refine TkD 14 (some 68) (v:=?_) rfl rfl ?_ ?_;rotate_left
    ·(intro W hSw;(try dsimp only at hSw);go_simp;try with_reducible rfl)
    (try simp only[Act.put]);(try simp only[List.setIfInBounds_toArray]);(try simp only[List.set_cons_zero,List.set_cons_succ])
    refine wpAnyH_ready (rs:=[15]) (by kernel_rfl) (by simp) ?_;refine AllReadyH.cons rfl (fun K hK=>?_) AllReadyH.nil;go_simp
    go_at_call 15
    refine(kP.out _ D hD (hHeld.1.2)).mono ?_;rintro e x32 ⟨C,rfl,hn_x32,hUV_x32,hCz,hC1⟩;have hb_x32:Below W1.heap.size W1 x32:=hHeld.1.2.trans (hn_x32.mono hHeld.1.2.size);have hG_x32:x32.cell? ⟨G,0,none⟩=some (.int .u8 c.toNat):=(hn_x32.cell (World.block_lt_of_cell? _ _ hHeld.2)).trans hHeld.2;have hRB_x32:x32.heap[B]? =some (.cells zeroC 29 (0,0)):=(hn_x32.block _ (row_lt hRB_x31)).trans hRB_x31;clear hHeld;refine hK.out _ _ ⟨⟨hC.out _ hb_x32,hb_x32⟩,hG_x32⟩ (fun hHeld=>?_);clear hK K
    (try simp only[Act.put]);(try simp only[List.setIfInBounds_toArray]);(try simp only[List.set_cons_zero,List.set_cons_succ])
    refine TkD 16 (some 53) (v:=?_) rfl rfl ?_ ?_;rotate_left
    ·(intro W hSw;(try dsimp only at hSw);go_simp;try with_reducible rfl)
    (try simp only[Act.put]);(try simp only[List.setIfInBounds_toArray]);(try simp only[List.set_cons_zero,List.set_cons_succ])
    refine TkD 17 (some 70) (v:=?_) rfl rfl ?_ ?_;rotate_left
    ·(intro W hSw;(try dsimp only at hSw);go_simp;try with_reducible rfl)
    (try simp only[Act.put]);(try simp only[List.setIfInBounds_toArray]);(try simp only[List.set_cons_zero,List.set_cons_succ])
    refine TkD 18 (some 71) (v:=?_) rfl rfl ?_ ?_;rotate_left
    ·(intro W hSw;(try dsimp only at hSw);go_simp;try with_reducible rfl)
    (try simp only[Act.put]);(try simp only[List.setIfInBounds_toArray]);(try simp only[List.set_cons_zero,List.set_cons_succ])
    refine wpAnyH_ready (rs:=[20]) (by kernel_rfl) (by simp) ?_;refine AllReadyH.cons rfl (fun K hK=>?_) AllReadyH.nil;rw[if_pos (by rfl)];refine store_urlX hRB_x32 rfl hCz hC1 (.tmp 11) (.tmp 70) rfl rfl rfl ?_;have hGf:(x32.setRow B C).cell? ⟨G,0,none⟩=some (.int .u8 c.toNat):=(cell_setRowX C (fun e=>by rw[e]at hHeld;exact no_u8 hRB_x32 hHeld.2)).trans hHeld.2;have hbf:Below W1.heap.size W1 (x32.setRow B C):=below_setRow hHeld.1.2 hBge;have hfin:SelfQ (x32.setRow B C) B C (Lz.selfV 1 hst p0 [c]):=SelfQ.mk hCz (setRow_heap _ _ _ _ _ _ hRB_x32) (hUV_x32.setRow hRB_x32 C).val;clear hHeld;refine hK.out _ _ ⟨⟨hC.out _ hbf,hbf⟩,hGf⟩ (fun hHeld=>?_);clear hK K
    (try simp only[Act.put]);(try simp only[List.setIfInBounds_toArray]);(try simp only[List.set_cons_zero,List.set_cons_succ])
    refine TkD 21 (some 12) (v:=?_) rfl rfl ?_ ?_;rotate_left
    ·(intro W hSw;(try dsimp only at hSw);go_simp;try with_reducible rfl)
    (try simp only[Act.put]);(try simp only[List.setIfInBounds_toArray]);(try simp only[List.set_cons_zero,List.set_cons_succ])
    refine wpAnyH_done (by kernel_rfl) ?_ _
    go_wp2_with fail
    go_meet;exact⟨B,C,rfl,rfl,hfin,hbf⟩
 case rest=>
 obtain⟨B2,C2,rfl,rfl,hs2,hbn⟩:=hcut;obtain⟨W2,hWn⟩:∃V,V=wc:=⟨_,rfl⟩;rw[<-hWn]at hs2 hbn⊢;clear hWn;have hbV':=below_call hbV hbn;clear hbV;have hbV:=hbV';clear hbV';have hs1':=hs1.below hbn;clear hs1;have hs1:=hs1';clear hs1';clear hbn kT2;rw[HH.out]at hs1 hs2;rename_i kont;refine kont _ _ ?_;exact self_tail _ _ S l c p0 p1 _ _ _ _ _ _ _ _ _ _ _ w B0 W2 B1 B2 C1 C2 _ rfl h0 h1 HSd.out hsz Hcl.out HPC HE.out hbB hbV hs1 hs2
end Go.Proofs.YtfepgodjaeddgaaGreatDoor
