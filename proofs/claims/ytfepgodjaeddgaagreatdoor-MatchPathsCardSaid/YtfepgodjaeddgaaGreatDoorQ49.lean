/-
  lazaretlaw26.MatchPaths.
-/
import Derived.Test.YtfepgodjaeddgaaGreatDoorQ48
set_option maxHeartbeats 8000000
set_option maxRecDepth 100000
namespace Go.Proofs.YtfepgodjaeddgaaGreatDoor
open Go.RowKit
attribute [local go_sem ↓] Go.wp_at_zero Go.wp_at_succ
theorem nat_of_wf' {k:IntKind} {n:Int} (h:(Lit.int k n).wf=true) (hm:k.min=0):∃m:Nat,n=(m:Int)/\(m:Int)<=k.max:=by
 simp only[Lit.wf,Bool.and_eq_true,decide_eq_true_eq]at h;rw[hm]at h;exact⟨n.toNat,by omega,by omega⟩
theorem nat8_of_wf' {n:Int} (h:(Lit.int .u8 n).wf=true):∃m:Nat,n=(m:Int)/\m<256:=by
 obtain⟨m,rfl,h1⟩:=nat_of_wf' h (by decide);rw[show IntKind.u8.max=255 by decide]at h1;exact⟨m,rfl,by omega⟩
theorem hex_at (h:Nat) (hh:h<16):((⟨#[48,49,50,51,52,53,54,55,56,57,97,98,99,100,101,102]⟩:ByteArray).extract h (h+1)).data.toList=[Lz.hexLow h]:=by
 have:=(by decide +kernel:∀k:Fin 16,((⟨#[48,49,50,51,52,53,54,55,56,57,97,98,99,100,101,102]⟩:ByteArray).extract k.val (k.val+1)).data.toList=[Lz.hexLow k.val]);exact this ⟨h,hh⟩
theorem letU_nat (b:UInt8):(Lz.letU b).toNat=97+b.toNat%26:=by revert b;exact Lz.byte_all (by decide +kernel)
theorem one_text (c:UInt8) (W:World) (B:Nat) (h:W.cell? ⟨B,0,none⟩=some (.int .u8 c.toNat)):(convert 35 9 (.slice (some ⟨B,0,none⟩) 1 1)).run Tryz.prog W=.ok (.string ⟨#[c]⟩) W:=
 run_convert_bytes_back (P:=Tryz.prog) W 35 9 5 ⟨B,0,none⟩ 1 [c] Tryz.underlying35 Tryz.underlying5 Tryz.underlying9 (by
  intro j hj;have:j=0:=by simpa using hj
  subst this;rw[addr_add];exact h)
theorem path_is (p u:ByteArray) (b:Bool) (h:Lz.pathM p.data.toList u.data.toList=b) (hp:p.size<=1000000) (hu:u.size<=1000000) (w:World) (hE:EnvM w):Calls Tryz.prog 11 #[.string p,.string u] w (RBool b w):=h▸PathM_any p u w hE.u.h hp hu
structure PthR (l:List UInt8) (w:World) (S T:ByteArray) (i:Nat) (wr:World):Prop where
 s:S.data.toList=Lz.slashed (Lz.sMP (l.take i))
 t:T.data.toList=Lz.slashed (Lz.cMP (l.take i))
 ss:S.size<=2*i
 ts:T.size<=4*i
 below:Below w.heap.size w wr
theorem matchPaths_any (v:Value) (l:List UInt8) (m:Nat) (w:World) (h:SlB w v l) (hm:m<256) (hE:EnvM w):Calls Tryz.prog 5 #[v,.int .u8 m] w (RBool true w):=by
 obtain⟨a,c0,rfl,hl9,hcell⟩:=h;obtain⟨n,hn⟩:∃n,n=l.length:=⟨_,rfl⟩;rw[<-hn];have HN:=Ih hn;have HE:=Ih hE;have hb00:Below w.heap.size w w:=Below.refl _ _;by_cases hbig:10<n
 ·have hbI:(10:Int)<(n:Int):=by omega
  have cH:=Ih (holds26_any w hE);clear hcell hE hn;go_enter Tryz.func5,Tryz.ntmps5
  go_wp2_with fail
  refine cH.out.mono ?_;rintro e w1 ⟨rfl,hb1⟩
  go_wp2_with fail
  go_ret;exact⟨rfl,hb1⟩
 ·have hbI:¬(10:Int)<(n:Int):=by omega
  have HC:=Ih hcell;clear hcell hE hn;go_enter Tryz.func5,Tryz.ntmps5
  go_wp2_with fail
  go_loopw [5,6,8] (fun p q k wr=>∃(S T:ByteArray) (i:Nat),p=.string S/\q=.string T/\k=.int .i64 i/\i<=n/\Hid (PthR l w S T i wr)) (fun _ _ k _=>n-(intOf k).toNat)
  case atStart=>exact⟨⟨#[]⟩,⟨#[]⟩,0,rfl,rfl,rfl,Nat.zero_le _,Ih ⟨rfl,rfl,Nat.le_refl _,Nat.le_refl _,hb00⟩⟩
  case round=>
   obtain⟨S,T,i,rfl,rfl,rfl,hi,HR⟩:=hrel;by_cases hlt:i<n
   ·have hltI:(i:Int)<(n:Int):=by omega
    have hi0:(0:Int)<=(i:Int):=by omega
    obtain⟨x,hx⟩:∃x,l[i]? =some x:=⟨_,List.getElem?_eq_getElem (by rw[<-HN.out];exact hlt)⟩;obtain⟨Bx,off,rfl,hBx,hc1⟩:=HC.out i x hx;have hcr:wr.cell? ⟨Bx,off+i,none⟩=some (.int .u8 x.toNat):=by rw[HR.out.below.cell (p:=⟨Bx,off+i,none⟩) hBx];exact hc1
    obtain⟨r,hr⟩:∃r,r=x.toNat%26:=⟨_,rfl⟩;obtain⟨c,hc⟩:∃c:UInt8,c=Lz.letU x:=⟨_,rfl⟩;have hcn:c.toNat=97+r:=by rw[hc,hr,letU_nat]
    have rT:Int.tmod (x.toNat:Int) 26=(r:Int):=by rw[Int.tmod_eq_emod_of_nonneg (by omega)];omega
    have rS:(97:Int)+(r:Int)=(c.toNat:Int):=by omega
    have hc255:=c.toNat_lt;have hx255:=x.toNat_lt;have hcw8:IntKind.u8.wrap (c.toNat:Int)=(c.toNat:Int):=IntWalk.u8_in _ (by omega);have hrw8:IntKind.u8.wrap (r:Int)=(r:Int):=IntWalk.u8_in _ (by omega);obtain⟨d,hd⟩:∃d,d=c.toNat / 16:=⟨_,rfl⟩;obtain⟨f,hf⟩:∃f,f=c.toNat%16:=⟨_,rfl⟩;have dT:Int.tdiv (c.toNat:Int) 16=(d:Int):=by rw[Int.tdiv_eq_ediv_of_nonneg (by omega)];omega
    have fT:Int.tmod (c.toNat:Int) 16=(f:Int):=by rw[Int.tmod_eq_emod_of_nonneg (by omega)];omega
    have hd16:d<16:=by omega
    have hf16:f<16:=by omega
    have hdw:IntKind.u8.wrap (d:Int)=(d:Int):=IntWalk.u8_in _ (by omega);have hfw:IntKind.u8.wrap (f:Int)=(f:Int):=IntWalk.u8_in _ (by omega);have hdw1:IntKind.u8.wrap ((d:Int)+1)=(d:Int)+1:=IntWalk.u8_in _ (by omega);have hfw1:IntKind.u8.wrap ((f:Int)+1)=(f:Int)+1:=IntWalk.u8_in _ (by omega);have d0:(0:Int)<=(d:Int):=by omega
    have f0:(0:Int)<=(f:Int):=by omega
    have d1:(d:Int)<=(d:Int)+1:=by omega
    have f1:(f:Int)<=(f:Int)+1:=by omega
    have d2:(d:Int)+1<=16:=by omega
    have f2:(f:Int)+1<=16:=by omega
    have hss:=HR.out.ss;have hts:=HR.out.ts;have hcv:=one_text c (wr.alloc (.cells #[.int .u8 c.toNat] 5)) wr.heap.size (rowAt (heap_new wr (.cells #[.int .u8 c.toNat] 5)) 0 _ rfl);have htk:l.take (i+1)=l.take i++[x]:=by rw[List.take_add_one,hx];rfl
    have hS2:Lz.slashed (Lz.sMP (l.take (i+1)))=Lz.slashed (Lz.sMP (l.take i))++[47,c]:=by
     rw[htk,Lz.sMP,List.map_append,Lz.slashed_app,hc];rfl
    have hT2:Lz.slashed (Lz.cMP (l.take (i+1)))=Lz.slashed (Lz.cMP (l.take i))++[47,37,Lz.hexLow d,Lz.hexLow f]:=by
     rw[htk,Lz.cMP,List.map_append,Lz.slashed_app,hd,hf,hc];rfl
    have HS2:=Ih hS2;have HT2:=Ih hT2;have hxd:=Ih (hex_at d hd16);have hxf:=Ih (hex_at f hf16);clear hx hc1 hcn hr hc hd hf htk hS2 hT2;have hbe:Below w.heap.size w (wr.alloc (.cells #[.int .u8 c.toNat] 5)):=below_call HR.out.below ((Below.refl _ wr).alloc (Nat.le_refl _) _)
    go_upto_region 10 with fail
    generalize wr.alloc (.cells #[.int .u8 c.toNat] 5)=wa at hbe⊢
    go_quiet (fail)
    have hbq:=below_drewN hbe nq;generalize wa.drewN nq=wq at hbq⊢
    have HR2:Hid (PthR l w (S++⟨#[47]⟩++⟨#[c]⟩) (T++⟨#[47,37]⟩++(⟨#[48,49,50,51,52,53,54,55,56,57,97,98,99,100,101,102]⟩:ByteArray).extract d (d+1)++(⟨#[48,49,50,51,52,53,54,55,56,57,97,98,99,100,101,102]⟩:ByteArray).extract f (f+1)) (i+1) wq):=by
     have e1:=HR.out.s;have e2:=HR.out.t;have hS3:(S++⟨#[47]⟩++⟨#[c]⟩:ByteArray).data.toList=S.data.toList++[47,c]:=by rw[append_data',append_data',List.append_assoc];rfl
     have hT3:(T++⟨#[47,37]⟩++(⟨#[48,49,50,51,52,53,54,55,56,57,97,98,99,100,101,102]⟩:ByteArray).extract d (d+1)++(⟨#[48,49,50,51,52,53,54,55,56,57,97,98,99,100,101,102]⟩:ByteArray).extract f (f+1):ByteArray).data.toList=T.data.toList++[47,37,Lz.hexLow d,Lz.hexLow f]:=by
      rw[append_data',append_data',append_data',hxd.out,hxf.out,List.append_assoc,List.append_assoc];rfl
     refine⟨by rw[hS3,HS2.out,e1],by rw[hT3,HT2.out,e2],?_,?_,hbq⟩
     ·rw[<-len_of_size,hS3,List.length_append,len_of_size];simp;omega
     ·rw[<-len_of_size,hT3,List.length_append,len_of_size];simp;omega
    go_wp2_with fail
    go_roundw
    case rel=>exact⟨_,_,i+1,rfl,rfl,by go_num,by omega,HR2⟩
    case measure=>simp[intOf];omega
   ·have hltI:¬(i:Int)<(n:Int):=by omega
    have hin:i=n:=by omega
    have hs:S.data.toList=Lz.slashed (Lz.sMP l):=by rw[HR.out.s,List.take_of_length_le (by rw[<-HN.out];omega)]
    have ht:T.data.toList=Lz.slashed (Lz.cMP l):=by rw[HR.out.t,List.take_of_length_le (by rw[<-HN.out];omega)]
    have hss:S.size<=20:=by have:=HR.out.ss;omega
    have hts:T.size<=40:=by have:=HR.out.ts;omega
    obtain⟨x,hx⟩:∃x:UInt8,x.toNat=m:=⟨UInt8.ofNat m,by rw[UInt8.toNat_ofNat'];omega⟩;obtain⟨r,hr⟩:∃r,r=m%26:=⟨_,rfl⟩;obtain⟨c,hc⟩:∃c:UInt8,c=Lz.letU x:=⟨_,rfl⟩;have hcn:c.toNat=97+r:=by rw[hc,hr,letU_nat,hx]
    have rT:Int.tmod (m:Int) 26=(r:Int):=by rw[Int.tmod_eq_emod_of_nonneg (by omega)];omega
    have rS:(97:Int)+(r:Int)=(c.toNat:Int):=by omega
    have hc255:=c.toNat_lt;have hcw8:IntKind.u8.wrap (c.toNat:Int)=(c.toNat:Int):=IntWalk.u8_in _ (by omega);have hrw8:IntKind.u8.wrap (r:Int)=(r:Int):=IntWalk.u8_in _ (by omega);have hcv:=one_text c (wr.alloc (.cells #[.int .u8 c.toNat] 5)) wr.heap.size (rowAt (heap_new wr (.cells #[.int .u8 c.toNat] 5)) 0 _ rfl);have hbe:Below w.heap.size w (wr.alloc (.cells #[.int .u8 c.toNat] 5)):=below_call HR.out.below ((Below.refl _ wr).alloc (Nat.le_refl _) _);have hTL:∃TL:ByteArray,TL=⟨#[47,120]⟩++⟨#[c]⟩:=⟨_,rfl⟩;obtain⟨TL,hTL⟩:=hTL;have htl:TL.data.toList=[47,120,Lz.letU x]:=by rw[hTL,append_data',hc];rfl
    have htz:TL.size=3:=by rw[<-len_of_size,htl];rfl
    have HP:=Ih (Lz.paths_say l x);have dA:((S++⟨#[47]⟩)).data.toList=Lz.slashed (Lz.sMP l)++[47]:=by rw[append_data',hs]
    have zA:((S++⟨#[47]⟩)).size<=1000000:=by rw[ByteArray.size_append];show S.size+1<=_;omega
    have dB:((S++TL)).data.toList=Lz.slashed (Lz.sMP l)++[47,120,Lz.letU x]:=by rw[append_data',hs,htl]
    have zB:((S++TL)).size<=1000000:=by rw[ByteArray.size_append,htz];omega
    have dC:((T++⟨#[47]⟩)).data.toList=Lz.slashed (Lz.cMP l)++[47]:=by rw[append_data',ht]
    have zC:((T++⟨#[47]⟩)).size<=1000000:=by rw[ByteArray.size_append];show T.size+1<=_;omega
    have dD:((T++TL)).data.toList=Lz.slashed (Lz.cMP l)++[47,120,Lz.letU x]:=by rw[append_data',ht,htl]
    have zD:((T++TL)).size<=1000000:=by rw[ByteArray.size_append,htz];omega
    have dE:((S++TL++⟨#[121]⟩)).data.toList=Lz.slashed (Lz.sMP l)++[47,120,Lz.letU x]++[121]:=by rw[append_data',dB]
    have zE:((S++TL++⟨#[121]⟩)).size<=1000000:=by rw[ByteArray.size_append];show(S++TL).size+1<=_;rw[ByteArray.size_append,htz];omega
    have dF:((S++TL++⟨#[47,121]⟩)).data.toList=Lz.slashed (Lz.sMP l)++[47,120,Lz.letU x]++[47,121]:=by rw[append_data',dB]
    have zF:((S++TL++⟨#[47,121]⟩)).size<=1000000:=by rw[ByteArray.size_append];show(S++TL).size+2<=_;rw[ByteArray.size_append,htz];omega
    have dG:((S++TL++⟨#[47]⟩)).data.toList=Lz.slashed (Lz.sMP l)++[47,120,Lz.letU x]++[47]:=by rw[append_data',dB]
    have zG:((S++TL++⟨#[47]⟩)).size<=1000000:=by rw[ByteArray.size_append];show(S++TL).size+1<=_;rw[ByteArray.size_append,htz];omega
    have dH:((⟨#[]⟩:ByteArray)).data.toList=([]:List UInt8):=by rfl
    have zH:((⟨#[]⟩:ByteArray)).size<=1000000:=by decide
    have dI:(S).data.toList=Lz.slashed (Lz.sMP l):=by exact hs
    have zI:(S).size<=1000000:=by omega
    have p0:Lz.pathM ((S++⟨#[47]⟩):ByteArray).data.toList ((S++TL):ByteArray).data.toList=true:=by rw[dA,dB];exact HP.out.1
    have k0:Hid (∀V,Below w.heap.size w V->Calls Tryz.prog 11 #[.string (S++⟨#[47]⟩),.string (S++TL)] V fun e w'=>e=.returned (.bool true)/\Below w.heap.size w w'):=Ih (fun V hV=>(path_is _ _ true p0 zA zB V (HE.out.below hV)).mono fun e w' ⟨h1,h2⟩=>⟨h1,below_call hV h2⟩);have p1:Lz.pathM ((T++⟨#[47]⟩):ByteArray).data.toList ((S++TL):ByteArray).data.toList=true:=by rw[dC,dB];exact HP.out.2.1
    have k1:Hid (∀V,Below w.heap.size w V->Calls Tryz.prog 11 #[.string (T++⟨#[47]⟩),.string (S++TL)] V fun e w'=>e=.returned (.bool true)/\Below w.heap.size w w'):=Ih (fun V hV=>(path_is _ _ true p1 zC zB V (HE.out.below hV)).mono fun e w' ⟨h1,h2⟩=>⟨h1,below_call hV h2⟩);have p2:Lz.pathM ((S++TL):ByteArray).data.toList ((T++TL):ByteArray).data.toList=true:=by rw[dB,dD];exact HP.out.2.2.1
    have k2:Hid (∀V,Below w.heap.size w V->Calls Tryz.prog 11 #[.string (S++TL),.string (T++TL)] V fun e w'=>e=.returned (.bool true)/\Below w.heap.size w w'):=Ih (fun V hV=>(path_is _ _ true p2 zB zD V (HE.out.below hV)).mono fun e w' ⟨h1,h2⟩=>⟨h1,below_call hV h2⟩);have p3:Lz.pathM ((S++TL):ByteArray).data.toList ((S++TL++⟨#[121]⟩):ByteArray).data.toList=false:=by rw[dB,dE];exact HP.out.2.2.2.1
    have k3:Hid (∀V,Below w.heap.size w V->Calls Tryz.prog 11 #[.string (S++TL),.string (S++TL++⟨#[121]⟩)] V fun e w'=>e=.returned (.bool false)/\Below w.heap.size w w'):=Ih (fun V hV=>(path_is _ _ false p3 zB zE V (HE.out.below hV)).mono fun e w' ⟨h1,h2⟩=>⟨h1,below_call hV h2⟩);have p4:Lz.pathM ((S++TL):ByteArray).data.toList ((S++TL++⟨#[47,121]⟩):ByteArray).data.toList=false:=by rw[dB,dF];exact HP.out.2.2.2.2.1
    have k4:Hid (∀V,Below w.heap.size w V->Calls Tryz.prog 11 #[.string (S++TL),.string (S++TL++⟨#[47,121]⟩)] V fun e w'=>e=.returned (.bool false)/\Below w.heap.size w w'):=Ih (fun V hV=>(path_is _ _ false p4 zB zF V (HE.out.below hV)).mono fun e w' ⟨h1,h2⟩=>⟨h1,below_call hV h2⟩);have p5:Lz.pathM ((S++TL++⟨#[47]⟩):ByteArray).data.toList ((S++TL):ByteArray).data.toList=false:=by rw[dG,dB];exact HP.out.2.2.2.2.2.1
    have k5:Hid (∀V,Below w.heap.size w V->Calls Tryz.prog 11 #[.string (S++TL++⟨#[47]⟩),.string (S++TL)] V fun e w'=>e=.returned (.bool false)/\Below w.heap.size w w'):=Ih (fun V hV=>(path_is _ _ false p5 zG zB V (HE.out.below hV)).mono fun e w' ⟨h1,h2⟩=>⟨h1,below_call hV h2⟩);have p6:Lz.pathM (⟨#[]⟩:ByteArray).data.toList (S:ByteArray).data.toList=true:=by rw[dH,dI];exact HP.out.2.2.2.2.2.2
    have k6:Hid (∀V,Below w.heap.size w V->Calls Tryz.prog 11 #[.string ⟨#[]⟩,.string S] V fun e w'=>e=.returned (.bool true)/\Below w.heap.size w w'):=Ih (fun V hV=>(path_is _ _ true p6 zH zI V (HE.out.below hV)).mono fun e w' ⟨h1,h2⟩=>⟨h1,below_call hV h2⟩);have k7:Hid (∀V,Below w.heap.size w V->Calls Tryz.prog 8 #[] V fun e w'=>e=.returned (.bool true)/\Below w.heap.size w w'):=Ih (fun V hV=>(holds26_any V (HE.out.below hV)).mono fun e w' ⟨h1,h2⟩=>⟨h1,below_call hV h2⟩);have HTL:=Ih hTL;clear hTL htl hs ht hx hr hc hcn HP hin dA zA dB zB dC zC dD zD dE zE dF zF dG zG dH zH dI zI p0 p1 p2 p3 p4 p5 p6
    go_upto_region 12 with fail
    rw[<-HTL.out];generalize wr.alloc (.cells #[.int .u8 c.toNat] 5)=wa at hbe⊢;have hq0:=hbe
    go_wp2_with fail
    refine(k0.out _ hq0).mono ?_;rintro e v0 ⟨rfl,hq1⟩
    go_wp2_with fail
    refine(k1.out _ hq1).mono ?_;rintro e v1 ⟨rfl,hq2⟩
    go_wp2_with fail
    refine(k2.out _ hq2).mono ?_;rintro e v2 ⟨rfl,hq3⟩
    go_wp2_with fail
    refine(k3.out _ hq3).mono ?_;rintro e v3 ⟨rfl,hq4⟩
    go_wp2_with fail
    refine(k4.out _ hq4).mono ?_;rintro e v4 ⟨rfl,hq5⟩
    go_wp2_with fail
    refine(k5.out _ hq5).mono ?_;rintro e v5 ⟨rfl,hq6⟩
    go_wp2_with fail
    refine(k6.out _ hq6).mono ?_;rintro e v6 ⟨rfl,hq7⟩
    go_wp2_with fail
    refine(k7.out _ hq7).mono ?_;rintro e v7 ⟨rfl,hq8⟩
    go_wp2_with fail
    go_ret;exact⟨rfl,hq8⟩
end Go.Proofs.YtfepgodjaeddgaaGreatDoor
