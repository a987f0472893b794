/-
  lazaretlaw26.digits.
-/
import Derived.Test.YtfepgodjaeddgaaGreatDoorR46
set_option maxHeartbeats 4000000
set_option maxRecDepth 100000
namespace Go.Proofs.YtfepgodjaeddgaaGreatDoor
open Go.RowKit
attribute [local go_sem ↓] Go.wp_at_zero Go.wp_at_succ
theorem store_urlM {ops:Array Oper} {rest:List Oper} {o:Oper} {a:Act} {w:World} {Q:Exit->Act->World->Prop} (hgd:o.guard=none) (x y:Operand) (ho:o.op=.store 29 x y)
  (g:Nat) (hx:a.eval x=.pointer (some ⟨g,0,none⟩)) (cs:Array Value) (hy:a.eval y=.agg cs)
  (old:Array Value) (hg:w.heap[g]? =some (.cells old 29 (0,0))) (hold:old.size=cs.size) (hs:(Tryz.prog.info? 29).map (·.size)=some cs.size) (h1:cs.all (·.oneCell')=true)
  (hk:wpList Tryz.prog ops Q rest (a.put o.dst undef) (w.setRow g cs)):wpList Tryz.prog ops Q (o::rest) a w:=
 wpList_store_row hgd 29 x y ho g cs hx hy 29 old hg hs hold h1 hk
theorem parse_open (s:ByteArray) (w:World) (hE:EnvU w):Calls Tryz.prog 15 #[.string s,.pointer none] w fun e w'=>∃(v:Value) (n:Int) (u:Lz.UrlL) (q:Bool),e=.returned (.tuple #[v,.int .i64 n])/\Below w.heap.size w w'/\UrlVal w' v u/\(n==0)=q/\Hid ((q=true->Lz.parseU s.data.toList none=.ok u/\UOk u)/\(q=false->∃k,Lz.parseU s.data.toList none=.er k)):=by
 refine(ParseU_any none (.pointer none) s w hE rfl (fun y h=>by cases h)).mono ?_;rintro e w' ⟨v,n,he,hb,hres⟩;obtain⟨u,h1,h2⟩:=hres.cases;rcases h2 with⟨h3,rfl⟩|⟨k,h3,rfl,rfl⟩
 ·exact⟨v,0,u,true,he,hb,h1.val,rfl,Ih ⟨fun _=>⟨h3,⟨Lz.parse_form h3,by have:=Lz.parse_wq0 h3;omega⟩⟩,nofun⟩⟩
 ·have hk:(k:Int)≠0:=by have:=Lz.parse_err h3;omega
  exact⟨v,(k:Int),zeroU,false,he,hb,h1.val,beq_eq_false_iff_ne.2 hk,Ih ⟨nofun,fun _=>⟨k,h3⟩⟩⟩
def askR (a b:Lz.UR) (v:List UInt8):Bool:=match a,b with
 | .ok own,.ok u=>Lz.anyM u [v] own false
 | _,_=>false
def ownL:List UInt8:=[104,116,116,112,115,58,47,47,97,46,98,47]
theorem askedM_eq (s v:List UInt8):Lz.askedM s v=askR (Lz.parseU ownL none) (Lz.parseU s none) v:=by
 unfold Lz.askedM askR ownL;generalize Lz.parseU [104,116,116,112,115,58,47,47,97,46,98,47] none=a;generalize Lz.parseU s none=b;cases a<;>cases b<;>rfl
theorem pathAt_one (w:World) (x:ByteArray):PathAt (w.alloc (.cells #[.string x] 9)) (.slice (some ⟨w.heap.size,0,none⟩) 1 1) [x.data.toList]:=
 ⟨some ⟨w.heap.size,0,none⟩,1,[x],rfl,rfl,fun j y hj=>⟨w.heap.size,0,rfl,by simp,by
  have hj0:j=0:=by have:=(List.getElem?_eq_some_iff.1 hj).1;simpa using this
  subst hj0;obtain rfl:x=y:=by simpa using hj
  exact rowAt (heap_new w (.cells #[.string x] 9)) 0 (.string x) rfl⟩⟩
theorem asked_any (s v:ByteArray) (hv:v.size<=90000) (w:World) (hE:EnvM w):Calls Tryz.prog 20 #[.string s,.string v] w (RBool (Lz.askedM s.data.toList v.data.toList) w):=by
 obtain⟨R,hR⟩:∃R,R=Lz.askedM s.data.toList v.data.toList:=⟨_,rfl⟩;rw[<-hR];rw[askedM_eq]at hR;obtain⟨y0,hy0⟩:∃r,r=Lz.parseU ownL none:=⟨_,rfl⟩;obtain⟨y1,hy1⟩:∃r,r=Lz.parseU s.data.toList none:=⟨_,rfl⟩;rw[<-hy0,<-hy1]at hR;have HR:=Ih hR;have kA0:=parse_open ⟨#[104,116,116,112,115,58,47,47,97,46,98,47]⟩ w hE.u;rw[show(⟨#[104,116,116,112,115,58,47,47,97,46,98,47]⟩:ByteArray).data.toList=ownL from rfl,<-hy0]at kA0;have kA:=Ih kA0;have kB0:=fun V (hV:Below w.heap.size w V)=>parse_open s V (hE.below hV).u;rw[<-hy1]at kB0;have kB:=Ih kB0;clear kA0 kB0 hy0 hy1;have HE:=Ih hE;clear hR hE;go_enter Tryz.func20,Tryz.ntmps20
 go_wp2_with fail
 refine kA.out.mono ?_;rintro e w1 ⟨v1,m1,u1,q1,rfl,hb1,hu1,hm1,hz1⟩;obtain⟨sc1,us1,pa1,hh1,hs1,pr1,op1,a1,n1,c1,hq1,hf1,qr1,fr1,rfl,_,_,_,_,_,hu1⟩:=hu1.letters
 go_upto_region 2 with fail
 obtain⟨W1,hW1⟩:∃W1,W1=w1.alloc (.cells #[.string sc1,.string us1,.string pa1,.bool hh1,.string hs1,.int .i64 pr1,.bool op1,.slice a1 n1 c1,.bool hq1,.bool hf1,.string qr1,.string fr1] 29):=⟨_,rfl⟩;have e1:Below w1.heap.size w1 W1:=by rw[hW1];exact(Below.refl _ w1).alloc (Nat.le_refl _) _
 have r1:W1.heap[w1.heap.size]? =some (.cells #[.string sc1,.string us1,.string pa1,.bool hh1,.string hs1,.int .i64 pr1,.bool op1,.slice a1 n1 c1,.bool hq1,.bool hf1,.string qr1,.string fr1] 29 (0,0)):=by rw[hW1];exact heap_new _ _
 have hu1':=hu1.below e1;have hbW1:Below w.heap.size w W1:=below_call hb1 e1;rw[<-hW1];have R1:=Ih r1;have HU0:=Ih hu1';have HBW1:=Ih hbW1;clear hW1 hu1 hb1 e1 kA r1 hu1' hbW1
 go_wp2_with fail
 refine(kB.out _ HBW1.out).mono ?_;rintro e w2 ⟨v2,m2,u2,q2,rfl,hb2,hu2,hm2,hz2⟩;obtain⟨sc2,us2,pa2,hh2,hs2,pr2,op2,a2,n2,c2,hq2,hf2,qr2,fr2,rfl,_,_,_,_,_,hu2⟩:=hu2.letters
 go_upto_region 3 with fail
 obtain⟨W2,hW2⟩:∃W2,W2=w2.alloc (.cells #[.string sc2,.string us2,.string pa2,.bool hh2,.string hs2,.int .i64 pr2,.bool op2,.slice a2 n2 c2,.bool hq2,.bool hf2,.string qr2,.string fr2] 29):=⟨_,rfl⟩;have e2:Below w2.heap.size w2 W2:=by rw[hW2];exact(Below.refl _ w2).alloc (Nat.le_refl _) _
 have r2:W2.heap[w2.heap.size]? =some (.cells #[.string sc2,.string us2,.string pa2,.bool hh2,.string hs2,.int .i64 pr2,.bool op2,.slice a2 n2 c2,.bool hq2,.bool hf2,.string qr2,.string fr2] 29 (0,0)):=by rw[hW2];exact heap_new _ _
 have e12:Below W1.heap.size W1 W2:=below_call hb2 e2;have r1':W2.heap[w1.heap.size]? =some (.cells #[.string sc1,.string us1,.string pa1,.bool hh1,.string hs1,.int .i64 pr1,.bool op1,.slice a1 n1 c1,.bool hq1,.bool hf1,.string qr1,.string fr1] 29 (0,0)):=(e12.block _ (row_lt R1.out)).trans R1.out;have hu1'':=HU0.out.below e12;have hu2':=hu2.below e2;have hbW2:Below w.heap.size w W2:=below_call HBW1.out e12;rw[<-hW2];clear hW2 hu2 hb2 e2 kB e12 R1 HU0;have HU1:=Ih hu1'';have HU2:=Ih hu2';clear hu1'' hu2';cases q1 with
 | false=>
   obtain⟨k,hk⟩:=hz1.out.2 rfl;have HV:Hid (R=false):=by show _=_;rw[HR.out,hk];rfl
   clear hk HR
   go_wp2_with fail
   go_ret;exact⟨by rw[HV.out];rfl,hbW2⟩
 | true=>
 cases q2 with
 | false=>
   obtain⟨k,hk⟩:=hz2.out.2 rfl;have hk1:=(hz1.out.1 rfl).1;have HV:Hid (R=false):=by show _=_;rw[HR.out,hk,hk1];rfl
   clear hk hk1 HR
   go_wp2_with fail
   go_ret;exact⟨by rw[HV.out];rfl,hbW2⟩
 | true=>
   obtain⟨hk1,ho1⟩:=hz1.out.1 rfl;obtain⟨hk2,ho2⟩:=hz2.out.1 rfl;have HV:Hid (R=Lz.anyM u2 [v.data.toList] u1 false):=by show _=_;rw[HR.out,hk2,hk1];rfl
   have ea:Below W2.heap.size W2 (W2.alloc (.cells #[.string v] 9)):=(Below.refl _ _).alloc (Nat.le_refl _) _
   have cA:=Ih (AnyM_any _ u2 _ [v.data.toList] _ u1 false (W2.alloc (.cells #[.string v] 9)) ((HE.out.below hbW2).below ea) (HU2.out.below ea) ho2 (HU1.out.below ea) ho1 (pathAt_one W2 v) (by simp) (fun x hx=>by
    obtain rfl:x=v.data.toList:=by simpa using hx
    rw[len_of_size];exact hv))
   obtain⟨x0,x1,x2,x3,x4,x5,x6,x7,x8,x9,x10,x11⟩:=row12 r2;obtain⟨y0,y1,y2,y3,y4,y5,y6,y7,y8,y9,y10,y11⟩:=row12 ((ea.block _ (row_lt r1')).trans r1');clear hk1 hk2 HR ho1 ho2 hz1 hz2
   go_wp2_with fail
   refine cA.out.mono ?_;rintro e w7 ⟨rfl,hb7⟩
   go_wp2_with fail
   go_ret;exact⟨by rw[HV.out];rfl,below_call (below_call hbW2 ea) hb7⟩
attribute [local go_sem ↓] Go.wp_at_zero Go.wp_at_succ
theorem asked_is (s v:ByteArray) (b:Bool) (h:Lz.askedM s.data.toList v.data.toList=b) (hv:v.size<=90000) (w:World) (hE:EnvM w):Calls Tryz.prog 20 #[.string s,.string v] w (RBool b w):=h▸asked_any s v hv w hE
theorem holds26_any (w:World) (hE:EnvM w):Calls Tryz.prog 8 #[] w (RBool true w):=by
 have HE:=Ih hE;have hb0:Below w.heap.size w w:=Below.refl _ _;have k0:Hid (∀V,Below w.heap.size w V->Calls Tryz.prog 20 #[.string ⟨#[104,116,116,112,115,58,47,47,97,46,98,47,120]⟩,.string ⟨#[39,115,101,108,102,39]⟩] V fun e w'=>e=.returned (.bool true)/\Below w.heap.size w w'):=Ih (fun V hV=>(asked_is ⟨#[104,116,116,112,115,58,47,47,97,46,98,47,120]⟩ ⟨#[39,115,101,108,102,39]⟩ true Lz.asked0 (by decide) V (HE.out.below hV)).mono fun e w' ⟨h1,h2⟩=>⟨h1,below_call hV h2⟩);have k1:Hid (∀V,Below w.heap.size w V->Calls Tryz.prog 20 #[.string ⟨#[104,116,116,112,58,47,47,97,46,98,47,120]⟩,.string ⟨#[39,115,101,108,102,39]⟩] V fun e w'=>e=.returned (.bool false)/\Below w.heap.size w w'):=Ih (fun V hV=>(asked_is ⟨#[104,116,116,112,58,47,47,97,46,98,47,120]⟩ ⟨#[39,115,101,108,102,39]⟩ false Lz.asked1 (by decide) V (HE.out.below hV)).mono fun e w' ⟨h1,h2⟩=>⟨h1,below_call hV h2⟩)
 have k2:Hid (∀V,Below w.heap.size w V->Calls Tryz.prog 20 #[.string ⟨#[104,116,116,112,115,58,47,47,97,46,98,58,52,52,52,47]⟩,.string ⟨#[39,115,101,108,102,39]⟩] V fun e w'=>e=.returned (.bool false)/\Below w.heap.size w w'):=Ih (fun V hV=>(asked_is ⟨#[104,116,116,112,115,58,47,47,97,46,98,58,52,52,52,47]⟩ ⟨#[39,115,101,108,102,39]⟩ false Lz.asked2 (by decide) V (HE.out.below hV)).mono fun e w' ⟨h1,h2⟩=>⟨h1,below_call hV h2⟩);have k3:Hid (∀V,Below w.heap.size w V->Calls Tryz.prog 20 #[.string ⟨#[104,116,116,112,115,58,47,47,99,46,97,46,98,47]⟩,.string ⟨#[42,46,97,46,98]⟩] V fun e w'=>e=.returned (.bool true)/\Below w.heap.size w w'):=Ih (fun V hV=>(asked_is ⟨#[104,116,116,112,115,58,47,47,99,46,97,46,98,47]⟩ ⟨#[42,46,97,46,98]⟩ true Lz.asked3 (by decide) V (HE.out.below hV)).mono fun e w' ⟨h1,h2⟩=>⟨h1,below_call hV h2⟩)
 have k4:Hid (∀V,Below w.heap.size w V->Calls Tryz.prog 20 #[.string ⟨#[104,116,116,112,115,58,47,47,97,46,98,47]⟩,.string ⟨#[42,46,97,46,98]⟩] V fun e w'=>e=.returned (.bool false)/\Below w.heap.size w w'):=Ih (fun V hV=>(asked_is ⟨#[104,116,116,112,115,58,47,47,97,46,98,47]⟩ ⟨#[42,46,97,46,98]⟩ false Lz.asked4 (by decide) V (HE.out.below hV)).mono fun e w' ⟨h1,h2⟩=>⟨h1,below_call hV h2⟩);have k5:Hid (∀V,Below w.heap.size w V->Calls Tryz.prog 20 #[.string ⟨#[104,116,116,112,58,47,47,120,47]⟩,.string ⟨#[42]⟩] V fun e w'=>e=.returned (.bool true)/\Below w.heap.size w w'):=Ih (fun V hV=>(asked_is ⟨#[104,116,116,112,58,47,47,120,47]⟩ ⟨#[42]⟩ true Lz.asked5 (by decide) V (HE.out.below hV)).mono fun e w' ⟨h1,h2⟩=>⟨h1,below_call hV h2⟩);have k6:Hid (∀V,Below w.heap.size w V->Calls Tryz.prog 20 #[.string ⟨#[100,97,116,97,58,49]⟩,.string ⟨#[42]⟩] V fun e w'=>e=.returned (.bool false)/\Below w.heap.size w w'):=Ih (fun V hV=>(asked_is ⟨#[100,97,116,97,58,49]⟩ ⟨#[42]⟩ false Lz.asked6 (by decide) V (HE.out.below hV)).mono fun e w' ⟨h1,h2⟩=>⟨h1,below_call hV h2⟩)
 have k7:Hid (∀V,Below w.heap.size w V->Calls Tryz.prog 20 #[.string ⟨#[104,116,116,112,115,58,47,47,120,47,112,47,113]⟩,.string ⟨#[120,47,112,47]⟩] V fun e w'=>e=.returned (.bool true)/\Below w.heap.size w w'):=Ih (fun V hV=>(asked_is ⟨#[104,116,116,112,115,58,47,47,120,47,112,47,113]⟩ ⟨#[120,47,112,47]⟩ true Lz.asked7 (by decide) V (HE.out.below hV)).mono fun e w' ⟨h1,h2⟩=>⟨h1,below_call hV h2⟩);have k8:Hid (∀V,Below w.heap.size w V->Calls Tryz.prog 20 #[.string ⟨#[104,116,116,112,115,58,47,47,120,47,112]⟩,.string ⟨#[120,47,112,47]⟩] V fun e w'=>e=.returned (.bool false)/\Below w.heap.size w w'):=Ih (fun V hV=>(asked_is ⟨#[104,116,116,112,115,58,47,47,120,47,112]⟩ ⟨#[120,47,112,47]⟩ false Lz.asked8 (by decide) V (HE.out.below hV)).mono fun e w' ⟨h1,h2⟩=>⟨h1,below_call hV h2⟩)
 have k9:Hid (∀V,Below w.heap.size w V->Calls Tryz.prog 20 #[.string ⟨#[104,116,116,112,115,58,47,47,49,50,55,46,48,46,48,46,49,47]⟩,.string ⟨#[49,50,55,46,48,46,48,46,49]⟩] V fun e w'=>e=.returned (.bool true)/\Below w.heap.size w w'):=Ih (fun V hV=>(asked_is ⟨#[104,116,116,112,115,58,47,47,49,50,55,46,48,46,48,46,49,47]⟩ ⟨#[49,50,55,46,48,46,48,46,49]⟩ true Lz.asked9 (by decide) V (HE.out.below hV)).mono fun e w' ⟨h1,h2⟩=>⟨h1,below_call hV h2⟩);have k10:Hid (∀V,Below w.heap.size w V->Calls Tryz.prog 20 #[.string ⟨#[104,116,116,112,115,58,47,47,49,50,55,46,48,46,48,46,50,47]⟩,.string ⟨#[49,50,55,46,48,46,48,46,50]⟩] V fun e w'=>e=.returned (.bool false)/\Below w.heap.size w w'):=Ih (fun V hV=>(asked_is ⟨#[104,116,116,112,115,58,47,47,49,50,55,46,48,46,48,46,50,47]⟩ ⟨#[49,50,55,46,48,46,48,46,50]⟩ false Lz.asked10 (by decide) V (HE.out.below hV)).mono fun e w' ⟨h1,h2⟩=>⟨h1,below_call hV h2⟩);clear hE;go_enter Tryz.func8,Tryz.ntmps8
 go_wp2_with fail
 refine(k0.out _ hb0).mono ?_;rintro e w1 ⟨rfl,hb1⟩
 go_wp2_with fail
 refine(k1.out _ hb1).mono ?_;rintro e w2 ⟨rfl,hb2⟩
 go_wp2_with fail
 refine(k2.out _ hb2).mono ?_;rintro e w3 ⟨rfl,hb3⟩
 go_wp2_with fail
 refine(k3.out _ hb3).mono ?_;rintro e w4 ⟨rfl,hb4⟩
 go_wp2_with fail
 refine(k4.out _ hb4).mono ?_;rintro e w5 ⟨rfl,hb5⟩
 go_wp2_with fail
 refine(k5.out _ hb5).mono ?_;rintro e w6 ⟨rfl,hb6⟩
 go_wp2_with fail
 refine(k6.out _ hb6).mono ?_;rintro e w7 ⟨rfl,hb7⟩
 go_wp2_with fail
 refine(k7.out _ hb7).mono ?_;rintro e w8 ⟨rfl,hb8⟩
 go_wp2_with fail
 refine(k8.out _ hb8).mono ?_;rintro e w9 ⟨rfl,hb9⟩
 go_wp2_with fail
 refine(k9.out _ hb9).mono ?_;rintro e w10 ⟨rfl,hb10⟩
 go_wp2_with fail
 refine(k10.out _ hb10).mono ?_;rintro e w11 ⟨rfl,hb11⟩
 go_wp2_with fail
 go_ret;exact⟨rfl,hb11⟩
attribute [local go_sem ↓] Go.wp_at_zero Go.wp_at_succ
theorem nat_of_wf' {k:IntKind} {n:Int} (h:(Lit.int k n).wf=true) (hm:k.min=0):∃m:Nat,n=(m:Int)/\(m:Int)<=k.max:=by
 simp only[Lit.wf,Bool.and_eq_true,decide_eq_true_eq]at h;rw[hm]at h;exact⟨n.toNat,by omega,by omega⟩
theorem nat8_of_wf' {n:Int} (h:(Lit.int .u8 n).wf=true):∃m:Nat,n=(m:Int)/\m<256:=by
 obtain⟨m,rfl,h1⟩:=nat_of_wf' h (by decide);rw[show IntKind.u8.max=255 by decide]at h1;exact⟨m,rfl,by omega⟩
theorem letU_nat (b:UInt8):(Lz.letU b).toNat=97+b.toNat%26:=by revert b;exact Lz.byte_all (by decide +kernel)
theorem one_text (c:UInt8) (W:World) (B:Nat) (h:W.cell? ⟨B,0,none⟩=some (.int .u8 c.toNat)):(convert 35 9 (.slice (some ⟨B,0,none⟩) 1 1)).run Tryz.prog W=.ok (.string ⟨#[c]⟩) W:=
 run_convert_bytes_back (P:=Tryz.prog) W 35 9 5 ⟨B,0,none⟩ 1 [c] Tryz.underlying35 Tryz.underlying5 Tryz.underlying9 (by
  intro j hj;have:j=0:=by simpa using hj
  subst this;rw[addr_add];exact h)
end Go.Proofs.YtfepgodjaeddgaaGreatDoor
namespace Lz
open Go
theorem dec_step (k:Nat):Lib.decDigits k=(if k / 10=0 then[]else Lib.decDigits (k / 10))++[UInt8.ofNat (48+k%10)]:=by
 by_cases h:k<10
 ·rw[if_pos (by omega),Lib.decDigits,dif_pos h,Nat.mod_eq_of_lt h];rfl
 ·rw[if_neg (by omega)]
  conv=>lhs;rw[Lib.decDigits]
  rw[dif_neg h]
end Lz
namespace Go.Proofs.YtfepgodjaeddgaaGreatDoor
open Go.RowKit
attribute [local go_sem ↓] Go.wp_at_zero Go.wp_at_succ
theorem digits26_any (N:Nat) (hN:N<65536) (w:World):Calls Tryz.prog 17 #[.int .i64 N] w (RStr (Lib.decDigits N) w):=by
 obtain⟨G,hG⟩:∃G,G=Lib.decDigits N:=⟨_,rfl⟩;rw[<-hG];have HG:=Ih hG;clear hG;go_enter Tryz.func17,Tryz.ntmps17
 go_wp2_with fail
 go_loopw [0,3,4] (fun a s f wr=>∃(k:Nat) (t:ByteArray) (q:Bool),a=.int .i64 k/\s=.string t/\f=.bool q/\k<65536/\t.size+k+q.toNat<=65537/\Hid (G=(if q=false/\k=0 then[]else Lib.decDigits k)++t.data.toList)/\Below w.heap.size w wr) (fun a _ f _=>2*(intOf a).toNat+(match f with| .bool true=>1|_=>0))
 case atStart=>exact⟨N,⟨#[]⟩,true,rfl,rfl,rfl,hN,(by show(0:Nat)+N+1<=65537;omega),by show _=_;rw[HG.out,if_neg (by simp)];simp,Below.refl _ _⟩
 case round=>
  obtain⟨k,t,q,rfl,rfl,rfl,hk,hts,hT,hbw⟩:=hrel;obtain⟨m,hm⟩:∃m,m=k%10:=⟨_,rfl⟩;obtain⟨d,hd⟩:∃d,d=k / 10:=⟨_,rfl⟩;obtain⟨c,hc⟩:∃c:UInt8,c=UInt8.ofNat (48+m):=⟨_,rfl⟩;have hcn:(c.toNat:Int)=48+(m:Int):=by rw[hc,UInt8.toNat_ofNat'];omega
  cases q with
  | true=>
    have hnz:¬(true=false/\k=0):=by simp
    have hqn:true.toNat=1:=rfl;have mT:Int.tmod (k:Int) 10=(m:Int):=by rw[Int.tmod_eq_emod_of_nonneg (by omega)];omega
    have dT:Int.tdiv (k:Int) 10=(d:Int):=by rw[Int.tdiv_eq_ediv_of_nonneg (by omega)];omega
    have hc8:IntKind.u8.wrap (48+(m:Int))=(c.toNat:Int):=by rw[hcn];exact IntWalk.u8_in _ (by omega)
    have hw1:IntKind.i64.wrap (48+(m:Int))=48+(m:Int):=IntWalk.i64_in _ (by omega);have hcv:=one_text c (wr.alloc (.cells #[.int .u8 c.toNat] 5)) wr.heap.size (rowAt (heap_new wr (.cells #[.int .u8 c.toNat] 5)) 0 _ rfl);have hbe:Below w.heap.size w (wr.alloc (.cells #[.int .u8 c.toNat] 5)):=below_call hbw ((Below.refl _ wr).alloc (Nat.le_refl _) _);have hts2:t.size<=65537:=by omega
    have n1:¬(9223372036854775807<1+t.size):=by omega
    have HT:Hid (G=(if false=false/\d=0 then[]else Lib.decDigits d)++(⟨#[c]⟩++t:ByteArray).data.toList):=by
     show _=_;rw[hT.out,if_neg hnz,Lz.dec_step k,append_data',<-hd,List.append_assoc,hc,<-hm];congr 1;by_cases h:d=0
     ·rw[if_pos h,if_pos ⟨rfl,h⟩]
     ·rw[if_neg h,if_neg (fun x=>h x.2)]
    have hsz:(⟨#[c]⟩++t:ByteArray).size=1+t.size:=by rw[ByteArray.size_append];rfl
    rw[hqn]at hts;clear hcn hc hm hnz;by_cases hk0:0<k
    ·have hkI:(0:Int)<(k:Int):=by omega
     go_wp2_with fail
     go_roundw
     case rel=>exact⟨d,_,false,(by rw[hd];rfl),rfl,rfl,by omega,(by rw[hsz];show 1+t.size+d+0<=_;omega),HT,hbe⟩
     case measure=>simp[intOf];omega
    ·have hkI:¬(0:Int)<(k:Int):=by omega
     go_wp2_with fail
     go_roundw
     case rel=>exact⟨d,_,false,(by rw[hd];rfl),rfl,rfl,by omega,(by rw[hsz];show 1+t.size+d+0<=_;omega),HT,hbe⟩
     case measure=>simp[intOf];omega
  | false=>
    by_cases hk0:0<k
    ·have hkI:(0:Int)<(k:Int):=by omega
     have hnz:¬(false=false/\k=0):=by simp;omega
     have hqn:false.toNat=0:=rfl;have mT:Int.tmod (k:Int) 10=(m:Int):=by rw[Int.tmod_eq_emod_of_nonneg (by omega)];omega
     have dT:Int.tdiv (k:Int) 10=(d:Int):=by rw[Int.tdiv_eq_ediv_of_nonneg (by omega)];omega
     have hc8:IntKind.u8.wrap (48+(m:Int))=(c.toNat:Int):=by rw[hcn];exact IntWalk.u8_in _ (by omega)
     have hw1:IntKind.i64.wrap (48+(m:Int))=48+(m:Int):=IntWalk.i64_in _ (by omega);have hcv:=one_text c (wr.alloc (.cells #[.int .u8 c.toNat] 5)) wr.heap.size (rowAt (heap_new wr (.cells #[.int .u8 c.toNat] 5)) 0 _ rfl);have hbe:Below w.heap.size w (wr.alloc (.cells #[.int .u8 c.toNat] 5)):=below_call hbw ((Below.refl _ wr).alloc (Nat.le_refl _) _);have hts2:t.size<=65537:=by omega
     have n1:¬(9223372036854775807<1+t.size):=by omega
     have HT:Hid (G=(if false=false/\d=0 then[]else Lib.decDigits d)++(⟨#[c]⟩++t:ByteArray).data.toList):=by
      show _=_;rw[hT.out,if_neg hnz,Lz.dec_step k,append_data',<-hd,List.append_assoc,hc,<-hm];congr 1;by_cases h:d=0
      ·rw[if_pos h,if_pos ⟨rfl,h⟩]
      ·rw[if_neg h,if_neg (fun x=>h x.2)]
     have hsz:(⟨#[c]⟩++t:ByteArray).size=1+t.size:=by rw[ByteArray.size_append];rfl
     rw[hqn]at hts;clear hcn hc hm hnz
     go_wp2_with fail
     go_roundw
     case rel=>exact⟨d,_,false,(by rw[hd];rfl),rfl,rfl,by omega,(by rw[hsz];show 1+t.size+d+0<=_;omega),HT,hbe⟩
     case measure=>simp[intOf];omega
    ·have hkI:¬(0:Int)<(k:Int):=by omega
     have HV:Hid (t.data.toList=G):=by show _=_;rw[hT.out,if_pos ⟨rfl,by omega⟩];rfl
     clear hT hcn hc hm
     go_wp2_with fail
     go_ret;exact⟨t,rfl,HV,hbw⟩
end Go.Proofs.YtfepgodjaeddgaaGreatDoor
