/-
  lazaretlaw27: lets (the chapter's values).
-/
import Derived.Test.YtjhccadmmnjpeaaGreatDoorT46
import Derived.Test.YtjhccadmmnjpeaaGreatDoorT43
set_option maxHeartbeats 8000000
set_option maxRecDepth 100000
namespace Go.Proofs.YtjhccadmmnjpeaaGreatDoor
open Go.RowKit
attribute [local go_sem ↓] Go.wp_at_zero Go.wp_at_succ
theorem parse_isA (s:ByteArray) (y:Lz.UrlL) (h:Lz.parseU s.data.toList none=.ok y) (w:World) (hE:EnvU w):Calls Tryz.prog 20 #[.string s,.pointer none] w fun e w'=>∃v:Value,e=.returned (.tuple #[v,.int .i64 0])/\Below w.heap.size w w'/\UrlOwn w' v y:=by
 refine(ParseU_any none (.pointer none) s w hE rfl (fun y h=>by cases h)).mono ?_;rintro e w' ⟨v,n,he,hb,hres⟩;obtain⟨u,h1,h2⟩:=hres.cases;rcases h2 with⟨h3,rfl⟩|⟨k,h3,_,_⟩
 ·obtain rfl:y=u:=by rw[h]at h3;exact Lz.UR.ok.inj h3
  exact⟨v,he,hb,h1⟩
 ·rw[h]at h3;cases h3
theorem uokA {s:List UInt8} {y:Lz.UrlL} (h:Lz.parseU s none=.ok y):UOk y:=⟨Lz.parse_form h,by have:=Lz.parse_wq0 h;omega⟩
def urlT:List UInt8:=[104,116,116,112,115,58,47,47,120,47]
def okUA:Lz.UR->Bool
 | .ok _=>true
 | .er _=>false
theorem url_ok:∃y,Lz.parseU urlT none=.ok y:=by
 have h:okUA (Lz.parseU urlT none)=true:=by decide +kernel
 cases h2:Lz.parseU urlT none with
 | ok y=>exact⟨y,rfl⟩
 | er k=>rw[h2]at h;cases h
theorem vals_lit (w:World) (xs:List ByteArray) (hn:xs.length<=10000) (hz:∀x∈xs,x.size<=90000):ValsAt (w.alloc (.cells (xs.map Value.string).toArray 9)) (.slice (some ⟨w.heap.size,0,none⟩) xs.length xs.length) (xs.map (fun x:ByteArray=>x.data.toList)):=by
 refine⟨⟨some ⟨w.heap.size,0,none⟩,xs.length,xs,rfl,rfl,fun j y hj=>⟨w.heap.size,0,rfl,by simp,?_⟩⟩,by rw[List.length_map];exact hn,fun x hx=>?_⟩
 ·rw[Nat.zero_add];exact rowAt (heap_new w _) j (.string y) (by rw[List.getElem?_toArray,List.getElem?_map,hj];rfl)
 ·obtain⟨s,hs,rfl⟩:=List.mem_map.1 hx;rw[len_of_size];exact hz s hs
theorem vals_own {w:World} {B:Nat} {v:Value} {xs:List ByteArray} (h:w.ownsRow B 9 1 v xs.length (xs.map Value.string)) (hn:xs.length<=10000) (hz:∀x∈xs,x.size<=90000):ValsAt w v (xs.map (fun x:ByteArray=>x.data.toList)):=by
 obtain⟨a,c,hv,_,hcells⟩:=PathOwn.form (.inl h);refine⟨⟨a,c,xs,hv,rfl,hcells⟩,by rw[List.length_map];exact hn,fun x hx=>?_⟩;obtain⟨s,hs,rfl⟩:=List.mem_map.1 hx;rw[len_of_size];exact hz s hs
def inlineQ:ByteArray:=⟨#[39,117,110,115,97,102,101,45,105,110,108,105,110,101,39]⟩
def nonceQ:ByteArray:=⟨#[39,110,111,110,99,101,45,97,39]⟩
def strictQ:ByteArray:=⟨#[39,115,116,114,105,99,116,45,100,121,110,97,109,105,99,39]⟩
def hashesQ:ByteArray:=⟨#[39,117,110,115,97,102,101,45,104,97,115,104,101,115,39]⟩
def httpsQ:ByteArray:=⟨#[104,116,116,112,115,58]⟩
def alertQ:ByteArray:=⟨#[97,108,101,114,116,40,49,41]⟩
theorem hashV_len (tab:List UInt32) (tab2:List UInt64) (k:Nat) (t:List UInt8):(Lz.hashV (digA tab tab2) k t).length<=1000:=by
 unfold Lz.hashV Lz.sumD;have h1:=Lz.enc64_len (digA tab tab2 (Lz.shaBits k) t);have h2:=(digA_len tab tab2 (Lz.shaBits k) t).1
 have h3:(Lz.shaHead k).length=7:=by
  match k with
  | 0=>rfl
  | 1=>rfl
  | n+2=>rfl
 simp only[List.length_cons,List.length_append,List.length_nil,h3];omega
theorem lets27_any (tab:List UInt32) (tab2:List UInt64) (w:World) (hE:EnvA tab tab2 w):Calls Tryz.prog 9 #[] w (RBool true w):=by
 obtain⟨i0,hi,hz0,hz1,hz2⟩:=info_parts infoTxt;obtain⟨W1,hW1⟩:∃W,W=w.alloc (.cells #[.string inlineQ] 9):=⟨_,rfl⟩;obtain⟨W2,hW2⟩:∃W,W=W1.alloc (.cells #[.string inlineQ,.string nonceQ] 9):=⟨_,rfl⟩;obtain⟨W3,hW3⟩:∃W,W=W2.alloc (.cells #[.string inlineQ,.string strictQ] 9):=⟨_,rfl⟩;have hb1:Below w.heap.size w W1:=by rw[hW1];exact(Below.refl _ w).alloc (Nat.le_refl _) _
 have hb2:Below W1.heap.size W1 W2:=by rw[hW2];exact(Below.refl _ W1).alloc (Nat.le_refl _) _
 have hb3:Below W2.heap.size W2 W3:=by rw[hW3];exact(Below.refl _ W2).alloc (Nat.le_refl _) _
 have hv1:ValsAt W1 (.slice (some ⟨w.heap.size,0,none⟩) 1 1) [Lz.inlineV]:=by rw[hW1];exact vals_lit w [inlineQ] (by simp) (by intro x hx;simp at hx;rw[hx];decide)
 have hv2:ValsAt W2 (.slice (some ⟨W1.heap.size,0,none⟩) 2 2) [Lz.inlineV,Lz.nonceA]:=by rw[hW2];exact vals_lit W1 [inlineQ,nonceQ] (by simp) (by intro x hx;simp at hx;rcases hx with rfl|rfl<;>decide)
 have hv3:ValsAt W3 (.slice (some ⟨W2.heap.size,0,none⟩) 2 2) [Lz.inlineV,Lz.strictV]:=by rw[hW3];exact vals_lit W2 [inlineQ,strictQ] (by simp) (by intro x hx;simp at hx;rcases hx with rfl|rfl<;>decide)
 have hbw3:Below w.heap.size w W3:=below_call (below_call hb1 hb2) hb3;have HV1:=Ih ((hv1.below hb2).below hb3);have e1:W1.heap.size=w.heap.size+1:=by rw[hW1];simp
 have e2:W2.heap.size=w.heap.size+1+1:=by rw[hW2];simp[e1]
 have HV2:Hid (ValsAt W3 (.slice (some ⟨w.heap.size+1,0,none⟩) 2 2) [Lz.inlineV,Lz.nonceA]):=Ih (by rw[<-e1];exact hv2.below hb3);have HV3:Hid (ValsAt W3 (.slice (some ⟨w.heap.size+1+1,0,none⟩) 2 2) [Lz.inlineV,Lz.strictV]):=Ih (by rw[<-e2];exact hv3);have cH:Hid (Calls Tryz.prog 18 #[.string alertQ,.int .u8 0] W3 (RStr (Lz.hashV (digA tab tab2) 0 Lz.alertT) W3)):=Ih (hash27_any tab tab2 alertQ (by decide) 0 (by omega) W3 (hE.below hbw3));have HE:=Ih (fun V (hV:Below W3.heap.size W3 V)=>(hE.below hbw3).below hV);have HW:=Ih (And.intro hW1 (And.intro hW2 hW3));clear e1 e2 hW1 hW2 hW3 hb1 hb2 hb3 hv1 hv2 hv3 hE;go_enter Tryz.func9,Tryz.ntmps9
 go_wp2_with fail
 change Calls _ _ _ (((w.alloc (.cells #[.string inlineQ] 9)).alloc (.cells #[.string inlineQ,.string nonceQ] 9)).alloc (.cells #[.string inlineQ,.string strictQ] 9)) _;rw[<-HW.out.1,<-HW.out.2.1,<-HW.out.2.2];refine cH.out.mono ?_;rintro e w4 ⟨x,rfl,hx,hb4⟩;have hxz:x.size<=1000:=by rw[<-len_of_size,hx.out];exact hashV_len _ _ _ _
 obtain⟨W5,hW5⟩:∃W,W=w4.alloc (.cells #[.string x] 9):=⟨_,rfl⟩;have hb5:Below w4.heap.size w4 W5:=by rw[hW5];exact(Below.refl _ w4).alloc (Nat.le_refl _) _
 have hv5:ValsAt W5 (.slice (some ⟨w4.heap.size,0,none⟩) 1 1) [Lz.hashV (digA tab tab2) 0 Lz.alertT]:=by
  rw[hW5,<-hx.out];exact vals_lit w4 [x] (by simp) (by intro y hy;simp at hy;rw[hy];omega)
 have hc5:∀(j:Nat) (u:Value),([x].map Value.string)[j]? =some u->W5.cell? ((⟨w4.heap.size,0,none⟩:Addr).add j)=some u:=fun j u hu=>by rw[hW5];exact cell_one w4 (.string x) 9 j u hu
 have hbW5:Below W3.heap.size W3 W5:=below_call hb4 hb5;have HW5:=Ih hW5;clear hW5 cH
 go_upto_region 5 with fail
 rw[<-HW5.out]
 go_wp2_with (at_builtin;refine wpList_append_own _ rfl (.const (.slice none 0 0)) (.tmp 15) 22 rfl W5.heap.size 9 i0 (.string ⟨#[]⟩) 1 16 Tryz.underlying22 hi hz0 hz1 hz2 rfl (by decide) _ 0 [] rfl (World.ownsRow_nil _ _ _ _) ⟨w4.heap.size,0,none⟩ 1 1 ([x].map Value.string) rfl rfl hc5 (by simp[Value.oneCell']) (by unfold maxLen;omega) (by omega) (Nat.le_refl _) ?_)
 intro v6 w6 hown6 hg6 _;have hb6:Below W5.heap.size W5 w6:=(Below.refl _ W5).grown hg6 (Nat.le_refl _) (fun k hk=>by simp[Value.ownBlock]at hk);have Hown6:=Ih hown6;have hb6s:=hb6.size;clear hown6 hg6 hc5
 go_wp2_with (at_builtin;refine wpList_append_own _ rfl (.tmp 16) (.tmp 17) 22 rfl W5.heap.size 9 i0 (.string ⟨#[]⟩) 1 16 Tryz.underlying22 hi hz0 hz1 hz2 rfl (by decide) _ _ _ rfl (Hown6.out.alloc _) ⟨w6.heap.size,0,none⟩ 1 1 [.string hashesQ] rfl rfl (cell_one _ _ _) (by simp[Value.oneCell']) (by unfold maxLen;omega) (by omega) (by simp;omega) ?_)
 intro v7 w7 hown7 hg7 _;have hb7:Below W5.heap.size W5 w7:=Below.grown1 hb6 Hown6.out hg7 hb6s (Nat.le_refl _)
 have hv7:ValsAt w7 v7 [Lz.hashV (digA tab tab2) 0 Lz.alertT,Lz.hashesV]:=by
  rw[<-hx.out];exact vals_own (xs:=[x,hashesQ]) hown7 (by simp) (by intro y hy;simp at hy;rcases hy with rfl|rfl;omega;decide)
 have HV7:=Ih hv7;have HV5:=Ih (hv5.below hb7);have hbW7:Below W3.heap.size W3 w7:=below_call hbW5 hb7;clear hown7 hg7 hv7 hv5 Hown6 hb6 hb7 hbW5 hb4 hb5;obtain⟨y,hy⟩:=url_ok;have hUy:=uokA hy;have cU:=Ih (parse_isA ⟨urlT.toArray⟩ y hy w7 (HE.out w7 hbW7).m.u);clear hy
 go_wp2_with fail
 refine cU.out.mono ?_;rintro e w8 ⟨uv,rfl,hb8,hown8⟩;have hval8:=hown8.val;obtain⟨sc1,us1,pa1,hh1,hs1,pr1,op1,a1,n1,c1,hq1,hf1,qr1,fr1,rfl,_,_,_,_,_,hval8⟩:=hval8.letters;clear hown8 cU
 go_upto_region 7 with fail
 obtain⟨W9,hW9⟩:∃W,W=w8.alloc (.cells #[.string sc1,.string us1,.string pa1,.bool hh1,.string hs1,.int .i64 pr1,.bool op1,.slice a1 n1 c1,.bool hq1,.bool hf1,.string qr1,.string fr1] 36):=⟨_,rfl⟩;rw[<-hW9];have hb9:Below w8.heap.size w8 W9:=by rw[hW9];exact(Below.refl _ w8).alloc (Nat.le_refl _) _
 have hr9:W9.heap[w8.heap.size]? =some (.cells #[.string sc1,.string us1,.string pa1,.bool hh1,.string hs1,.int .i64 pr1,.bool op1,.slice a1 n1 c1,.bool hq1,.bool hf1,.string qr1,.string fr1] 36 (0,0)):=by rw[hW9];exact heap_new _ _
 have hu9:=hval8.below hb9;have hbW9:Below w7.heap.size w7 W9:=below_call hb8 hb9;have HE9:=Ih (fun V (hV:Below W9.heap.size W9 V)=>HE.out V (below_call hbW7 (below_call hbW9 hV)));have hbw9:Below w.heap.size w W9:=below_call (below_call hbw3 hbW7) hbW9;have HR12:Hid (∀V,Below W9.heap.size W9 V->V.heap[w8.heap.size]? =some (.cells #[.string sc1,.string us1,.string pa1,.bool hh1,.string hs1,.int .i64 pr1,.bool op1,.slice a1 n1 c1,.bool hq1,.bool hf1,.string qr1,.string fr1] 36 (0,0))):=Ih (fun V hV=>(hV.block _ (row_lt hr9)).trans hr9);have hx1:=(HV1.out.below hbW7).below hbW9;have hx2:=(HV2.out.below hbW7).below hbW9;have hx3:=(HV3.out.below hbW7).below hbW9;have hx5:=HV5.out.below hbW9;have hx7:=HV7.out.below hbW9;have hd:∀b t,digA tab tab2 b t≠[]:=fun b t=>(digA_len tab tab2 b t).2;have kI:=fun(kind:Int) (v:Value) (l:List (List UInt8)) (nn tx:ByteArray) (b:Bool) (ht:tx.size<=1000000) (hl:ValsAt W9 v l) (hb:Lz.inlineP (Lz.sumD (digA tab tab2)) kind l nn.data.toList tx.data.toList=b) (V:World) (hV:Below W9.heap.size W9 V)=>hb▸InlineA_any tab tab2 kind v l nn tx ht V (HE9.out V hV) (hl.below hV)
 have kU:=Ih (fun(kind:Int) (h1:1<=kind) (h5:kind<=5)=>kI kind _ _ ⟨#[]⟩ ⟨#[120]⟩ true (by decide) hx1 (Lz.lets_unsafe _ kind h1 h5));have k0:=Ih (kI 1 _ _ ⟨#[97]⟩ ⟨#[120]⟩ true (by decide) hx2 (Lz.lets0 _));have k1:=Ih (kI 1 _ _ ⟨#[98]⟩ ⟨#[120]⟩ false (by decide) hx2 (Lz.lets1 _));have k2:=Ih (kI 2 _ _ ⟨#[97]⟩ ⟨#[120]⟩ false (by decide) hx2 (Lz.lets2 _));have k3:=Ih (kI 1 _ _ ⟨#[]⟩ ⟨#[120]⟩ false (by decide) hx3 (Lz.lets3 _));have k4:=Ih (kI 4 _ _ ⟨#[]⟩ ⟨#[120]⟩ true (by decide) hx3 (Lz.lets4 _));have k5:=Ih (kI 1 _ _ ⟨#[]⟩ alertQ true (by decide) hx5 (Lz.lets5 hd));have k6:=Ih (kI 2 _ _ ⟨#[]⟩ alertQ false (by decide) hx5 (Lz.lets6 hd));have k7:=Ih (kI 2 _ _ ⟨#[]⟩ alertQ true (by decide) hx7 (Lz.lets7 hd))
 have kF:Hid (∀V,Below W9.heap.size W9 V->∀V2,Below (V.alloc (.cells #[.string strictQ,.string nonceQ,.string httpsQ] 9)).heap.size (V.alloc (.cells #[.string strictQ,.string nonceQ,.string httpsQ] 9)) V2->(Calls Tryz.prog 21 #[.slice (some ⟨V.heap.size,0,none⟩) 3 3,.agg #[.string sc1,.string us1,.string pa1,.bool hh1,.string hs1,.int .i64 pr1,.bool op1,.slice a1 n1 c1,.bool hq1,.bool hf1,.string qr1,.string fr1],.agg #[.string sc1,.string us1,.string pa1,.bool hh1,.string hs1,.int .i64 pr1,.bool op1,.slice a1 n1 c1,.bool hq1,.bool hf1,.string qr1,.string fr1],.string ⟨#[97]⟩,.string ⟨#[]⟩] V2 (RBool true V2)/\Calls Tryz.prog 21 #[.slice (some ⟨V.heap.size,0,none⟩) 3 3,.agg #[.string sc1,.string us1,.string pa1,.bool hh1,.string hs1,.int .i64 pr1,.bool op1,.slice a1 n1 c1,.bool hq1,.bool hf1,.string qr1,.string fr1],.agg #[.string sc1,.string us1,.string pa1,.bool hh1,.string hs1,.int .i64 pr1,.bool op1,.slice a1 n1 c1,.bool hq1,.bool hf1,.string qr1,.string fr1],.string ⟨#[]⟩,.string ⟨#[]⟩] V2 (RBool false V2))):=Ih (fun V hV V2 hV2=>by
  have hvd:=(vals_lit V [strictQ,nonceQ,httpsQ] (by simp) (by intro x hx;simp at hx;rcases hx with rfl|rfl|rfl<;>decide)).below hV2;have hVV2:Below W9.heap.size W9 V2:=below_call (below_call hV ((Below.refl _ V).alloc (Nat.le_refl _) _)) hV2;have h1:=FetchA_any (.slice (some ⟨V.heap.size,0,none⟩) 3 3) _ (.agg #[.string sc1,.string us1,.string pa1,.bool hh1,.string hs1,.int .i64 pr1,.bool op1,.slice a1 n1 c1,.bool hq1,.bool hf1,.string qr1,.string fr1]) y (.agg #[.string sc1,.string us1,.string pa1,.bool hh1,.string hs1,.int .i64 pr1,.bool op1,.slice a1 n1 c1,.bool hq1,.bool hf1,.string qr1,.string fr1]) y ⟨#[97]⟩ ⟨#[]⟩ (by decide) V2 (HE9.out V2 hVV2).m hvd (hu9.below hVV2) hUy (hu9.below hVV2) hUy;have h2:=FetchA_any (.slice (some ⟨V.heap.size,0,none⟩) 3 3) _ (.agg #[.string sc1,.string us1,.string pa1,.bool hh1,.string hs1,.int .i64 pr1,.bool op1,.slice a1 n1 c1,.bool hq1,.bool hf1,.string qr1,.string fr1]) y (.agg #[.string sc1,.string us1,.string pa1,.bool hh1,.string hs1,.int .i64 pr1,.bool op1,.slice a1 n1 c1,.bool hq1,.bool hf1,.string qr1,.string fr1]) y ⟨#[]⟩ ⟨#[]⟩ (by decide) V2 (HE9.out V2 hVV2).m hvd (hu9.below hVV2) hUy (hu9.below hVV2) hUy
  exact⟨Lz.lets8 Lz.fieldsP y▸h1,Lz.lets9 Lz.fieldsP Lz.fields_nil y▸h2⟩)
 clear hW9 hr9 hu9 hval8 hx1 hx2 hx3 hx5 hx7 kI hUy hd hb8 hb9 HV1 HV2 HV3 HV5 HV7 HE HE9
 go_wp2_with fail
 go_loopw [8] (fun k wr=>∃i:Nat,k=.int .i64 (i:Int)/\1<=i/\i<=6/\Below W9.heap.size W9 wr) (fun k _=>6-(intOf k).toNat)
 case atStart=>exact⟨1,rfl,by omega,by omega,Below.refl _ _⟩
 case round=>
  obtain⟨i,rfl,hi1,hi6,hbk⟩:=hrel;by_cases hlt:i<6
  ·have hltI:(i:Int)<=5:=by omega
   have cK:=Ih (kU.out (i:Int) (by omega) (by omega) wr hbk)
   go_wp2_with fail
   refine cK.out.mono ?_;rintro e v0 ⟨rfl,hbn⟩
   go_wp2_with fail
   go_roundw
   case rel=>exact⟨i+1,by go_num,by omega,by omega,below_call hbk hbn⟩
   case measure=>simp[intOf];omega
  ·have hltI:¬(i:Int)<=5:=by omega
   obtain⟨V,hV⟩:∃V,V=wr.alloc (.cells #[.string strictQ,.string nonceQ,.string httpsQ] 9):=⟨_,rfl⟩;have kG:=Ih (kF.out wr hbk);rw[<-hV]at kG;have hbV:Below W9.heap.size W9 V:=by rw[hV];exact hbk.alloc hbk.size _
   have HV:=Ih hV;clear hV hbk kF kU
   go_upto_region 13 with fail
   change Code.wp _ _ _ _ (wr.alloc (.cells #[.string strictQ,.string nonceQ,.string httpsQ] 9));rw[<-HV.out];clear HV;have hbk:=hbV;have hbg:Below V.heap.size V V:=Below.refl _ _;clear hbV
   go_wp2_with fail
   refine(k0.out _ hbk).mono ?_;rintro e v10 ⟨rfl,hbn⟩;replace hbk:=below_call hbk hbn;replace hbg:=below_call hbg hbn;clear hbn
   go_wp2_with fail
   refine(k1.out _ hbk).mono ?_;rintro e v11 ⟨rfl,hbn⟩;replace hbk:=below_call hbk hbn;replace hbg:=below_call hbg hbn;clear hbn
   go_wp2_with fail
   refine(k2.out _ hbk).mono ?_;rintro e v12 ⟨rfl,hbn⟩;replace hbk:=below_call hbk hbn;replace hbg:=below_call hbg hbn;clear hbn
   go_wp2_with fail
   refine(k3.out _ hbk).mono ?_;rintro e v13 ⟨rfl,hbn⟩;replace hbk:=below_call hbk hbn;replace hbg:=below_call hbg hbn;clear hbn
   go_wp2_with fail
   refine(k4.out _ hbk).mono ?_;rintro e v14 ⟨rfl,hbn⟩;replace hbk:=below_call hbk hbn;replace hbg:=below_call hbg hbn;clear hbn
   go_wp2_with fail
   refine(k5.out _ hbk).mono ?_;rintro e v15 ⟨rfl,hbn⟩;replace hbk:=below_call hbk hbn;replace hbg:=below_call hbg hbn;clear hbn
   go_wp2_with fail
   refine(k6.out _ hbk).mono ?_;rintro e v16 ⟨rfl,hbn⟩;replace hbk:=below_call hbk hbn;replace hbg:=below_call hbg hbn;clear hbn
   go_wp2_with fail
   refine(k7.out _ hbk).mono ?_;rintro e v17 ⟨rfl,hbn⟩;replace hbk:=below_call hbk hbn;replace hbg:=below_call hbg hbn;clear hbn;obtain⟨x0,x1,x2,x3,x4,x5,x6,x7,x8,x9,x10,x11⟩:=row12 (HR12.out _ hbk)
   go_wp2_with fail
   clear x0 x1 x2 x3 x4 x5 x6 x7 x8 x9 x10 x11;refine(kG.out _ hbg).1.mono ?_;rintro e v21 ⟨rfl,hbn⟩;replace hbk:=below_call hbk hbn;replace hbg:=below_call hbg hbn;clear hbn;obtain⟨x0,x1,x2,x3,x4,x5,x6,x7,x8,x9,x10,x11⟩:=row12 (HR12.out _ hbk)
   go_wp2_with fail
   clear x0 x1 x2 x3 x4 x5 x6 x7 x8 x9 x10 x11;refine(kG.out _ hbg).2.mono ?_;rintro e v22 ⟨rfl,hbn⟩;replace hbk:=below_call hbk hbn;replace hbg:=below_call hbg hbn;clear hbn
   go_wp2_with fail
   go_ret;exact⟨rfl,below_call hbw9 hbk⟩
end Go.Proofs.YtjhccadmmnjpeaaGreatDoor
