/-
  lazaretref05.sum: the sum's bytes (loops 5 and 6), over a frame that is a letter.
-/
import Derived.Test.YtibcmemcfjhgmaaGreatDoorV23
import Derived.Test.YtibcmemcfjhgmaaGreatDoorV24
import Derived.Test.YtibcmemcfjhgmaaGreatDoorV15
set_option maxHeartbeats 8000000
set_option maxRecDepth 100000
namespace Go.Proofs.YtibcmemcfjhgmaaGreatDoor
open Go.RowKit
attribute [local go_sem ↓] Go.wp_at_zero Go.wp_at_succ
theorem QE (k:Nat) (h:k<((⟨#[65,66,67,68,69,70,71,72,73,74,75,76,77,78,79,80,81,82,83,84,85,86,87,88,89,90,97,98,99,100,101,102,103,104,105,106,107,108,109,110,111,112,113,114,115,116,117,118,119,120,121,122,48,49,50,51,52,53,54,55,56,57,43,47]⟩:ByteArray)).size):((((⟨#[65,66,67,68,69,70,71,72,73,74,75,76,77,78,79,80,81,82,83,84,85,86,87,88,89,90,97,98,99,100,101,102,103,104,105,106,107,108,109,110,111,112,113,114,115,116,117,118,119,120,121,122,48,49,50,51,52,53,54,55,56,57,43,47]⟩:ByteArray))[k]).toNat:Int)=((Lz.b64.getD k 0).toNat:Int):=by
 have hk:k<64:=h;have:∀j:Fin 64,((((⟨#[65,66,67,68,69,70,71,72,73,74,75,76,77,78,79,80,81,82,83,84,85,86,87,88,89,90,97,98,99,100,101,102,103,104,105,106,107,108,109,110,111,112,113,114,115,116,117,118,119,120,121,122,48,49,50,51,52,53,54,55,56,57,43,47]⟩:ByteArray))[j.val]'(j.isLt)).toNat:Int)=((Lz.b64.getD j.val 0).toNat:Int):=by decide +kernel
 exact this ⟨k,hk⟩
theorem Aa (n:Nat) (hn:n<=1000000000) (w:World):Calls Tryz.prog 109 #[.int .i64 (n:Int)] w fun e w'=>e=.returned (.int .u8 ((Lz.bA n).toNat:Int))/\w=w':=by
 obtain⟨k,hk⟩:∃k,k=n%64:=⟨_,rfl⟩;have ab8:k<64:=by omega
 have f1:Int.tmod (n:Int) 64=(k:Int):=by rw[Int.tmod_eq_emod_of_nonneg (by omega)];omega
 have f1':(n:Int)%64=(k:Int):=by omega
 have f2:IntKind.i64.wrap (k:Int)=(k:Int):=IntWalk.i64_in _ (by omega);have q0:(0:Int)<=(k:Int)/\(k:Int)<64:=by omega
 have fu:k<((⟨#[65,66,67,68,69,70,71,72,73,74,75,76,77,78,79,80,81,82,83,84,85,86,87,88,89,90,97,98,99,100,101,102,103,104,105,106,107,108,109,110,111,112,113,114,115,116,117,118,119,120,121,122,48,49,50,51,52,53,54,55,56,57,43,47]⟩:ByteArray)).size:=ab8;have r0:=QE k fu;have HV:Hid (((Lz.bA n).toNat:Int)=((Lz.b64.getD k 0).toNat:Int)):=by show _=_;unfold Lz.bA;rw[hk]
 generalize ((Lz.b64.getD k 0).toNat:Int)=x at r0 HV;clear hk;go_enter Tryz.func109,Tryz.ntmps109
 go_wp2_with fail
 go_ret;exact⟨by rw[HV.out];rfl,rfl⟩
theorem Cn (s:ByteArray) (hs:s.size<=1000000) (w:World):Calls Tryz.prog 39 #[.string s] w (dX (Lz.bd s.data.toList) w):=by
 obtain⟨i0,j6,eZ,d9,eo⟩:=info_parts Tryz.infoU8;obtain⟨l,hl⟩:∃l,l=s.data.toList:=⟨_,rfl⟩;have jf:l.length=s.size:=by rw[hl];exact ac s
 rw[<-hl];have HL:=Ih hl;obtain⟨n,hn⟩:∃n,n=s.size:=⟨_,rfl⟩;rw[<-hn]at hs jf;have HN:=Ih hn;have h0:w.ownsRow w.heap.size 5 1 (.slice none 0 0) 0 (u8s (Lz.bd (l.take 0))):=World.ownsRow_nil w _ _ _;have Uh:=Ih jf;clear hl hn jf;go_enter Tryz.func39,Tryz.ntmps39
 go_wp2_with fail
 go_loopw [3,4,20,25] (fun v k _ _ wr=>∃i:Nat,k=.int .i64 (i:Int)/\i<=n/\wr.ownsRow w.heap.size 5 1 v i (u8s (Lz.bd (l.take i)))/\Below w.heap.size w wr) (fun _ k _ _ _=>n-(intOf k).toNat)
 case atStart=>exact⟨0,rfl,Nat.zero_le _,h0,Below.refl _ _⟩
 case round=>
  clear h0;obtain⟨i,rfl,hi,ai,aC⟩:=hrel;by_cases aL:i<n
  ·have DU:i<s.size:=by rw[<-HN.out];exact aL
   have aK:(i:Int)<(s.size:Int):=by omega
   have Lo:(0:Int)<=(i:Int):=by omega
   have hli:l[i]? =some s[i]:=by rw[HL.out];exact aB DU
   have jE:Lz.bd (l.take (i+1))=Lz.bd (l.take i)++[Lz.gI s[i]]:=by
    rw[List.take_add_one,hli];unfold Lz.bd;rw[List.map_append];rfl
   obtain⟨c,hc⟩:∃c,c=s[i]:=⟨_,rfl⟩;have r0:(s[i].toNat:Int)=(c.toNat:Int):=by rw[hc]
   rw[<-hc]at jE;have fu:=aC.size;have bi:=Ih ai;have II:=Ih jE;clear hli jE hc ai;by_cases TN:c=45
   ·subst TN;have HU:Hid (Lz.gI 45=43):=Ih (by decide);have rr:(s[i].toNat:Int)=45:=r0;clear r0
    go_wp2_with (at_builtin;refine wpList_append_own _ rfl (.tmp 22) (.tmp 23) 93 rfl w.heap.size 5 i0 (.int .u8 0) 1 1 Tryz.underlying93 j6 eZ d9 eo rfl (by decide) _ _ _ rfl (bi.out.alloc _) ⟨wr.heap.size,0,none⟩ 1 1 [.int .u8 43] rfl rfl (aJ _ _ _) (by simp[Value.oneCell']) (by unfold maxLen;omega) (by omega) (by simp;omega) ?_)
    intro v3 w3 ba oI _;have bj:=Below.grown1 aC bi.out oI fu (Nat.le_refl _)
    have wI:w3.ownsRow w.heap.size 5 1 v3 (i+1) (u8s (Lz.bd (l.take (i+1)))):=by
     rw[II.out,HU.out];unfold u8s at ba⊢;rw[List.map_append];exact ba
    have O8:=Ih wI;clear ba oI wI
    go_wp2_with fail
    go_roundw
    case rel=>exact⟨i+1,by go_num,by omega,O8.out,bj⟩
    case measure=>simp[intOf];omega
   ·by_cases Sx:c=95
    ·subst Sx;have HU:Hid (Lz.gI 95=47):=Ih (by decide);have rr:(s[i].toNat:Int)=95:=r0;clear r0 TN
     go_wp2_with (at_builtin;refine wpList_append_own _ rfl (.tmp 27) (.tmp 28) 93 rfl w.heap.size 5 i0 (.int .u8 0) 1 1 Tryz.underlying93 j6 eZ d9 eo rfl (by decide) _ _ _ rfl (bi.out.alloc _) ⟨wr.heap.size,0,none⟩ 1 1 [.int .u8 47] rfl rfl (aJ _ _ _) (by simp[Value.oneCell']) (by unfold maxLen;omega) (by omega) (by simp;omega) ?_)
     intro v3 w3 ba oI _;have bj:=Below.grown1 aC bi.out oI fu (Nat.le_refl _)
     have wI:w3.ownsRow w.heap.size 5 1 v3 (i+1) (u8s (Lz.bd (l.take (i+1)))):=by
      rw[II.out,HU.out];unfold u8s at ba⊢;rw[List.map_append];exact ba
     have O8:=Ih wI;clear ba oI wI
     go_wp2_with fail
     go_roundw
     case rel=>exact⟨i+1,by go_num,by omega,O8.out,bj⟩
     case measure=>simp[intOf];omega
    ·have HU:Hid (Lz.gI c=c):=Ih (by unfold Lz.gI;rw[if_neg TN,if_neg Sx]);have e1:((c.toNat:Int)==45)=false:=by rw[beq_eq_false_iff_ne];intro e;exact TN (UInt8.toNat_inj.1 (by simpa using(by omega:c.toNat=45)))
     have e2:((c.toNat:Int)==95)=false:=by rw[beq_eq_false_iff_ne];intro e;exact Sx (UInt8.toNat_inj.1 (by simpa using(by omega:c.toNat=95)))
     clear TN Sx
     go_wp2_with (at_builtin;refine wpList_append_own _ rfl (.tmp 14) (.tmp 18) 93 rfl w.heap.size 5 i0 (.int .u8 0) 1 1 Tryz.underlying93 j6 eZ d9 eo rfl (by decide) _ _ _ rfl (bi.out.alloc _) ⟨wr.heap.size,0,none⟩ 1 1 [.int .u8 (c.toNat:Int)] rfl rfl (aJ _ _ _) (by simp[Value.oneCell']) (by unfold maxLen;omega) (by omega) (by simp;omega) ?_)
     intro v3 w3 ba oI _;have bj:=Below.grown1 aC bi.out oI fu (Nat.le_refl _)
     have wI:w3.ownsRow w.heap.size 5 1 v3 (i+1) (u8s (Lz.bd (l.take (i+1)))):=by
      rw[II.out,HU.out];unfold u8s at ba⊢;rw[List.map_append];exact ba
     have O8:=Ih wI;clear ba oI wI
     go_wp2_with fail
     go_roundw
     case rel=>exact⟨i+1,by go_num,by omega,O8.out,bj⟩
     case measure=>simp[intOf];omega
  ·have DU:¬(i:Int)<(s.size:Int):=by rw[<-HN.out];omega
   have AA:i=n:=by omega
   have gu:l.take i=l:=List.take_of_length_le (by rw[Uh.out];omega);rw[gu]at ai;have kL:=kW ai;clear ai AA gu
   go_wp2_with fail
   go_ret;exact⟨⟨(Lz.bd l).toArray⟩,rfl,Ih rfl,aC⟩
theorem abn (x:Nat) (h:x<256):bits .and .u8 (x:Int) 1=((x%2:Nat):Int):=by
 have:∀j:Fin 256,bits .and .u8 (j.val:Int) 1=((j.val%2:Nat):Int):=by decide +kernel
 exact this ⟨x,h⟩
theorem sM (c:UInt8) (W:World) (B:Nat) (h:W.cell? ⟨B,0,none⟩=some (.int .u8 c.toNat)):(convert 93 9 (.slice (some ⟨B,0,none⟩) 1 1)).run Tryz.prog W=.ok (.string ⟨#[c]⟩) W:=
 run_convert_bytes_back (P:=Tryz.prog) W 93 9 5 ⟨B,0,none⟩ 1 [c] Tryz.underlying93 Tryz.underlying5 Tryz.underlying9 (by
  intro j hj;have:j=0:=by simpa using hj
  subst this;rw[bD];exact h)
theorem zK (s:List UInt8) (m:Nat):Lz.bY s (m+1)=Lz.bY s m++[Lz.bA (Lz.six s (6*m))]:=by
 unfold Lz.bY;rw[List.range_succ,List.map_append];rfl
theorem m8 (s:List UInt8) (m:Nat):(Lz.bY s m).length=m:=by unfold Lz.bY;rw[List.length_map,List.length_range]
theorem vi (s:List UInt8) (a:Nat):∀k,Lz.fg s a k<2^k
 | 0=>by simp[Lz.fg]
 | k+1=>by
   have:=vi s a k;have h1:Lz.kf s (a+k)<=1:=by unfold Lz.kf;split<;>omega
   rw[Lz.fg,Nat.pow_succ];omega
theorem Ai (s:ByteArray) (hs:s.size<=1000000) (w:World):Calls Tryz.prog 66 #[.string s] w (dX (Lz.bR s.data.toList) w):=by
 rw[<-Lz.G5];obtain⟨l,hl⟩:∃l,l=s.data.toList:=⟨_,rfl⟩;have jf:l.length=s.size:=by rw[hl];exact ac s
 rw[<-hl];have HL:=Ih hl;obtain⟨n,hn⟩:∃n,n=s.size:=⟨_,rfl⟩;obtain⟨n8,TX⟩:∃n8,n8=8*n:=⟨_,rfl⟩;obtain⟨M,hM⟩:∃M,M=(8*l.length+5) / 6:=⟨_,rfl⟩;have f8:IntKind.i64.wrap (8*(s.size:Int))=(n8:Int):=by rw[IntWalk.i64_in _ (by omega)];omega
 have hM6:∀m,6*m<n8↔m<M:=by intro m;omega
 have hMb:M<=2000000:=by omega
 obtain⟨R,hR⟩:∃R,R=Lz.zD l:=⟨_,rfl⟩;rw[<-hR];have HR:Hid (R=Lz.bY l M++List.replicate ((4-M%4)%4) 61):=by show _=_;rw[hR];unfold Lz.zD Lz.rP;rw[<-hM,m8]
 have HM6:=Ih hM6;have Hl:=Ih jf;have acY:n8<=8000000:=by omega
 have HN8:Hid (n8=8*s.size):=by show _=_;rw[TX,hn]
 clear hl jf hn TX hM hM6 hR;go_enter Tryz.func66,Tryz.ntmps66
 go_wp2_with fail
 go_loopw [3,4,5,6] (fun o a _ _ wr=>∃(m x:Nat) (S:ByteArray),o=.string S/\a=.int .i64 (x:Int)/\Hid (x=6*m)/\m<=M/\Hid (S.data.toList=Lz.bY l m)/\S.size<=2000000/\Below w.heap.size w wr) (fun _ a _ _ _=>n8+6-(intOf a).toNat)
 case atStart=>exact⟨0,0,⟨#[]⟩,rfl,rfl,Ih rfl,Nat.zero_le _,Ih rfl,by decide,Below.refl _ _⟩
 case round=>
  obtain⟨m,x,S,rfl,rfl,hx,hm,hS,hSz,aC⟩:=hrel;have ZU:=hx.out;have VW:=HM6.out m;by_cases aL:m<M
  ·have aK:(x:Int)<(n8:Int):=by omega
   obtain⟨x6,ZI⟩:∃y,y=x+6:=⟨_,rfl⟩;have f6:IntKind.i64.wrap ((x:Int)+6)=(x6:Int):=by rw[IntWalk.i64_in _ (by omega)];omega
   have hxb:x<=8000000:=by omega
   have HX6:=Ih ZI;clear ZU VW ZI
   go_wp2_with fail
   go_loopw [5,6] (fun nn k wq=>∃(t v y:Nat),nn=.int .i64 (v:Int)/\k=.int .i64 (y:Int)/\Hid (y=x+t)/\t<=6/\Hid (v=Lz.fg l x t)/\wr=wq) (fun _ k _=>x+6-(intOf k).toNat)
   case atStart=>exact⟨0,0,x,rfl,rfl,Ih rfl,Nat.zero_le _,Ih rfl,rfl⟩
   case round=>
    obtain⟨t,v,y,rfl,rfl,hy,ht,hv,rfl⟩:=hrel;have hyx:=hy.out;have h66:=HX6.out;by_cases kK:t<6
    ·have htI:(y:Int)<(x6:Int):=by omega
     have hvb:v<2^6:=by rw[hv.out];exact Nat.lt_of_lt_of_le (vi l x t) (Nat.pow_le_pow_right (by omega) ht)
     have fv:IntKind.i64.wrap (2*(v:Int))=((2*v:Nat):Int):=by rw[IntWalk.i64_in _ (by omega)];omega
     obtain⟨v2,pE⟩:∃v2,v2=2*v:=⟨_,rfl⟩;rw[<-pE]at fv;have pF:Lz.fg l x (t+1)=v2+Lz.kf l y:=by rw[Lz.fg,<-hv.out,<-hyx,pE]
     have fv1:IntKind.i64.wrap ((v2:Int)+1)=((v2+1:Nat):Int):=by rw[IntWalk.i64_in _ (by omega)];omega
     have fy:IntKind.i64.wrap ((y:Int)+1)=((y+1:Nat):Int):=by rw[IntWalk.i64_in _ (by omega)];omega
     by_cases AA:y<n8
     ·have abL:(y:Int)<(n8:Int):=by omega
      obtain⟨k,hk⟩:∃k,k=y / 8:=⟨_,rfl⟩;obtain⟨r,hr⟩:∃r,r=y%8:=⟨_,rfl⟩;obtain⟨d,hd⟩:∃d,d=7-r:=⟨_,rfl⟩;have g1:Int.tdiv (y:Int) 8=(k:Int):=by rw[Int.tdiv_eq_ediv_of_nonneg (by omega)];omega
      have g1':(y:Int) / 8=(k:Int):=by omega
      have g2:Int.tmod (y:Int) 8=(r:Int):=by rw[Int.tmod_eq_emod_of_nonneg (by omega)];omega
      have g2':(y:Int)%8=(r:Int):=by omega
      have g3:IntKind.i64.wrap (k:Int)=(k:Int):=IntWalk.i64_in _ (by omega);have g4:IntKind.i64.wrap (r:Int)=(r:Int):=IntWalk.i64_in _ (by omega);have g5:IntKind.i64.wrap (7-(r:Int))=(d:Int):=by rw[IntWalk.i64_in _ (by omega)];omega
      have Lf:k<s.size:=by have:=HN8.out;omega
      have q0:(0:Int)<=(k:Int)/\(k:Int)<(s.size:Int):=by omega
      have hd0:(0:Int)<=(d:Int)/\(d:Int)<=8:=by omega
      obtain⟨c,hc⟩:∃c,c=s[k]:=⟨_,rfl⟩;have r0:(s[k].toNat:Int)=(c.toNat:Int):=by rw[hc]
      obtain⟨z,hz⟩:∃z,z=c.toNat / 2^d:=⟨_,rfl⟩;have g6:(c.toNat:Int) / 2^d=(z:Int):=by rw[hz];simp
      have hzb:z<256:=by rw[hz];exact Nat.lt_of_le_of_lt (Nat.div_le_self _ _) c.toNat_lt
      have g7:=abn z hzb
      have av:Lz.kf l y=z%2:=by
       rw[Lz.lF l y c (by rw[<-hk,HL.out,hc];exact aB Lf),<-hr,<-hd,hz]
      obtain⟨b,hb⟩:∃b,b=z%2:=⟨_,rfl⟩;rw[<-hb]at g7 av;rw[av]at pF;have aE:b=0\/b=1:=by omega
      have Hbs:=Ih pF;clear hk hr hd hc hz av hb pF pE hyx h66;rcases aE with pD|pD
      ·have e1:((b:Int)==1)=false:=by rw[pD];rfl
       have y5:Hid (v2=Lz.fg l x (t+1)):=by show _=_;rw[Hbs.out,pD];rfl
       clear pD
       go_wp2_with fail
       go_roundw
       case rel=>exact⟨t+1,v2,y+1,rfl,by go_num,Ih (by rw[hy.out];omega),by omega,y5,by first |rfl|trivial⟩
       case measure=>have:=hy.out;simp[intOf];omega
      ·have e1:((b:Int)==1)=true:=by rw[pD];rfl
       have y5:Hid (v2+1=Lz.fg l x (t+1)):=by show _=_;rw[Hbs.out,pD]
       clear pD
       go_wp2_with fail
       go_roundw
       case rel=>exact⟨t+1,v2+1,y+1,by go_num,by go_num,Ih (by rw[hy.out];omega),by omega,y5,by first |rfl|trivial⟩
       case measure=>have:=hy.out;simp[intOf];omega
     ·have abL:¬(y:Int)<(n8:Int):=by omega
      have av:Lz.kf l y=0:=by unfold Lz.kf;rw[if_neg (by have:=HN8.out;have:=Hl.out;omega)]
      have y5:Hid (v2=Lz.fg l x (t+1)):=by show _=_;rw[pF,av];rfl
      clear pF av pE hyx h66
      go_wp2_with fail
      go_roundw
      case rel=>exact⟨t+1,v2,y+1,rfl,by go_num,Ih (by rw[hy.out];omega),by omega,y5,by first |rfl|trivial⟩
      case measure=>have:=hy.out;simp[intOf];omega
    ·have htI:¬(y:Int)<(x6:Int):=by omega
     have ht6:t=6:=by omega
     have ZF:v=Lz.six l x:=by rw[hv.out,ht6];rfl
     have hvb:v<2^6:=by rw[hv.out,ht6];exact vi l x 6
     have cL:=Ih (Aa v (by omega) wr);have jE:=zK l m;rw[<-hx.out,<-ZF]at jE;generalize Lz.bA v=u at cL jE;have kL:=sM u (wr.alloc (.cells #[.int .u8 (u.toNat:Int)] 5)) wr.heap.size (rowAt (an _ _) 0 _ rfl);have Xi:¬(9223372036854775807<S.size+1):=by omega
     have II:=Ih jE;clear jE ZF ht6 hyx h66
     go_wp2_with fail
     refine cL.out.mono ?_;rintro e w5 ⟨rfl,rfl⟩
     go_wp2_with fail
     go_roundw
     case rel=>exact⟨m+1,x6,_,rfl,by go_num,Ih (by rw[HX6.out,hx.out];omega),by omega,Ih (by rw[II.out,<-hS.out];simp),by rw[ByteArray.size_append];show S.size+1<=_;have h9:S.size=m:=(ac S).symm.trans (by rw[hS.out,m8]);omega,aC.alloc aC.size _⟩
     case measure=>have:=HX6.out;simp[intOf];omega
  ·have aK:¬(x:Int)<(n8:Int):=by omega
   have hmM:m=M:=by omega
   have HS0:Hid (S.data.toList=Lz.bY l M):=by show _=_;rw[hS.out,hmM]
   have hSM:S.size=M:=by rw[<-ac,HS0.out,m8]
   obtain⟨Z,hZ⟩:∃Z,Z=(4-M%4)%4:=⟨_,rfl⟩;have wM:Hid (R=Lz.bY l M++List.replicate Z 61):=by show _=_;rw[HR.out,hZ]
   have HZ:Hid (∀z,z<=Z->((M+z)%4=0↔z=Z)):=Ih (by intro z hz;omega);have hZ4:Z<4:=by omega
   clear ZU VW hmM hZ hS
   go_wp2_with fail
   go_loopw [3] (fun o wq=>∃(z:Nat) (T:ByteArray),o=.string T/\z<=Z/\Hid (T.data.toList=Lz.bY l M++List.replicate z 61)/\T.size=M+z/\wr=wq) (fun o _=>M+Z-(match o with| .string T=>T.size|_=>0))
   case atStart=>exact⟨0,S,rfl,Nat.zero_le _,Ih (by rw[HS0.out];simp),by omega,rfl⟩
   case round=>
    obtain⟨z,T,rfl,hz,hT,hTz,rfl⟩:=hrel;obtain⟨r,hr⟩:∃r,r=T.size%4:=⟨_,rfl⟩;have g2:Int.tmod (T.size:Int) 4=(r:Int):=by rw[Int.tmod_eq_emod_of_nonneg (by omega)];omega
    have g2':(T.size:Int)%4=(r:Int):=by omega
    have g4:IntKind.i64.wrap (r:Int)=(r:Int):=IntWalk.i64_in _ (by omega);have xF:=HZ.out z hz;rw[<-hTz,<-hr]at xF;have HTz:=Ih hTz;by_cases TA:z=Z
    ·have e1:((r:Int)==0)=true:=by rw[xF.2 TA];rfl
     have HRT:Hid (T.data.toList=R):=by show _=_;rw[hT.out,wM.out,TA]
     clear xF hr hTz TA
     go_wp2_with fail
     go_ret;exact⟨T,rfl,HRT,aC⟩
    ·have e1:((r:Int)==0)=false:=by rw[beq_eq_false_iff_ne];have:=fun e=>TA (xF.1 e);omega
     have hzl:z<Z:=by omega
     have Xi:¬(9223372036854775807<T.size+1):=by omega
     clear xF hr hTz
     go_wp2_with fail
     go_roundw
     case rel=>exact⟨z+1,_,rfl,by omega,Ih (by rw[List.replicate_succ',<-List.append_assoc,<-hT.out];simp),by rw[ByteArray.size_append];show T.size+1=_;have h9:T.size=M+z:=HTz.out;omega,by first |rfl|trivial⟩
     case measure=>
      have h9:T.size=M+z:=HTz.out;show M+Z-(T++⟨#[61]⟩).size<M+Z-T.size;rw[ByteArray.size_append];show M+Z-(T.size+1)<_;omega
attribute [local go_sem ↓] Go.wp_at_zero Go.wp_at_succ
def Ev (b:Option Code):Code:=dnl (dnb (dn2 (dn1 (dn2 (dn2 (dn2 (dno b)))))))
def uk (b:Option Code):Code:=dnb (dn1 (dn2 (Ev b)))
def uE (b:Option Code):Code:=dnl (dnb (dn2 (dn1 (dn2 (uk b)))))
def oD (b:Option Code):Code:=dnb (dn1 (dn2 (uE b)))
def dnc:Code->Code| .cond _ x _=>x|c=>c
def KK (b:Option Code):Code:=dnc (dn2 (dn1 (oD b)))
def Eo (b:Option Code):Code:=dnl (dnb (dn2 (dn1 (dn2 (KK b)))))
def SO (b:Option Code):Code:=dnb (dn1 (dn2 (Eo b)))
theorem sK {w:World} {o:Oper} {a:Act} {K:Act->World->Prop} {Q:Exit->Act->World->Prop} (s x:Operand)
  (ho:o.op=.call {callee:=.builtin .append,args:= #[s,x],argTypes:= #[167,167]}) (Oj:o.type=167) (dst:Option Nat) (hd:o.dst=dst) (base:Nat) (v:Value) (xs:List UInt64) (hs:a.eval s=v) (ai:dt w base v xs) (Bm:Nat) (c:Nat) (y:UInt64) (hx:a.eval x=.slice (some ⟨Bm,0,none⟩) 1 c) (hp:w.cell? ⟨Bm,0,none⟩=some (.int .u64 (N64 y)))
  (hL:xs.length<=1000000) (fk:base<=w.heap.size)
  (h:∀v' w',dt w' base v' (xs++[y])->w.grownBy w' v.ownBlock->K (a.put dst v') w'):Oper.wp Tryz.prog o a w K Q:=by
 obtain⟨i0,hi,eZ,d9,eo⟩:=info_parts DY
 obtain⟨v',w',hr,h2,h3,h4,h5⟩:=run_append_own_at (P:=Tryz.prog) w base 167 167 131 i0 (.int .u64 0) 1 8 Tryz.underlying167 hi eZ d9 eo rfl (by decide) v xs.length _ ai ⟨Bm,0,none⟩ 1 c [.int .u64 (N64 y)] rfl (fun j u hj=>by
  match j,hj with
  | 0,hj=>
    obtain rfl:=Option.some.inj hj;rw[bD];exact hp) (fun u hu=>by rw[List.mem_singleton.1 hu];rfl) (by unfold maxLen;omega) (by omega) fk
 have e1:dG xs++[Value.int .u64 (N64 y)]=dG (xs++[y]):=by unfold dG;simp
 have e2:xs.length+1=(xs++[y]).length:=by simp
 rw[e1,e2]at h2;subst hd;unfold Oper.wp execOp;simp only[ho,Oj,resolve,invoke,builtin,Sem.run_bind,Sem.run_pure,Result.andThen_ok,List.map_toArray,List.map_cons,List.map_nil,hs,hx,hr];exact h _ _ h2 h3
def kE (A A':Act):Prop:=∀k,(k<8\/(14<=k/\k<37)\/121<=k)->A'.tmps[k]? =A.tmps[k]?
theorem N8 (k:Nat) (hk:k<8\/(14<=k/\k<37)\/121<=k) (d:Nat) (hd:(8<=d/\d<=13)\/(37<=d/\d<=120)):d≠k:=by omega
def wj (A A':Act):Prop:=∀k,(k<10\/(11<k/\k<43)\/58<k)->A'.tmps[k]? =A.tmps[k]?
theorem wj.trans {A B C:Act} (h:wj A B) (k:wj B C):wj A C:=fun i hi=>(k i hi).trans (h i hi)
theorem YI (A:Act) (w:World) (Q:Exit->Act->World->Prop) (m:ByteArray) (bb:List UInt8) (a0 i j:Nat) (x:UInt64) (Lb:a0<=1073742000) (tN:i<16) (hj:j<8) (sN:Hid (∀x,x<128->∃h:a0+x<m.size,bb.getD x 0=m[a0+x]))
  (hs:A.tmps.size=272) (t6:A.tmps[6]? =some (.string m)) (t7:A.tmps[7]? =some (.int .i64 (a0:Int))) (t9:A.tmps[9]? =some (.int .i64 (i:Int))) (t10:A.tmps[10]? =some (.int .u64 (N64 x))) (t11:A.tmps[11]? =some (.int .i64 (j:Int)))
  (hQ:∀A',A'.tmps.size=272->A'.defers=A.defers->eI 10 47 58 A A'->A'.tmps[10]? =some (.int .u64 (N64 (x*256+(bb.getD (8*i+j) 0).toUInt64)))->Q .normal A' w):
  Code.wp Tryz.prog (SO Tryz.f114.body) Q A w:=by
 obtain⟨b6,e6⟩:=ag t6;obtain⟨b7,e7⟩:=ag t7;obtain⟨b9,e9⟩:=ag t9;obtain⟨Lr,e10⟩:=ag t10;obtain⟨IS,e11⟩:=ag t11;obtain⟨p8,hp8⟩:∃x,x=8*i:=⟨_,rfl⟩;obtain⟨q8,hq8⟩:∃x,x=a0+p8:=⟨_,rfl⟩;obtain⟨j0,tI⟩:∃x,x=q8+j:=⟨_,rfl⟩;have f8:IntKind.i64.wrap (8*(i:Int))=(p8:Int):=by rw[IntWalk.i64_in _ (by omega)];omega
 have fq:IntKind.i64.wrap ((a0:Int)+(p8:Int))=(q8:Int):=by rw[IntWalk.i64_in _ (by omega)];omega
 have fj:IntKind.i64.wrap ((q8:Int)+(j:Int))=(j0:Int):=by rw[IntWalk.i64_in _ (by omega)];omega
 obtain⟨l0,lW⟩:=sN.out (8*i+j) (by omega);simp only[show a0+(8*i+j)=j0 by omega]at l0 lW;have r0:(m[j0].toNat:Int)=((bb.getD (8*i+j) 0).toNat:Int):=by rw[lW]
 have q0:(0:Int)<=(j0:Int)/\(j0:Int)<(m.size:Int):=by omega
 generalize bb.getD (8*i+j) 0=c0 at r0 hQ;have v0:=abo c0;have s0:=abe x;have o1:=kg (x*256) c0.toUInt64;have HQ:=Ih hQ;clear lW tI hp8 hq8 hQ t6 t7 t9 t10 t11
 conv=>arg 2;whnf
 go_wp2_with fail
 refine HQ.out _ ?_ ?_ ?_ ?_
 ·simp only[Array.size_setIfInBounds];exact hs
 ·rfl
 ·intro k hk cf
  simp(disch:=exact bf k hk cf _ (by decide)) only[Array.getElem?_setIfInBounds_ne]
 ·rw[Array.getElem?_setIfInBounds_self_of_lt (by simp only[Array.size_setIfInBounds];rw[hs];decide)]
theorem Vw:Eo Tryz.f114.body=.seq (dn1 (Eo Tryz.f114.body)) (.seq (.block 5 (SO Tryz.f114.body)) (dn2 (dn2 (Eo Tryz.f114.body)))):=by kernel_rfl
def FD (A:Act):Nat:=(intOf ((A.tmps[11]?).getD (.bool false))).toNat
theorem Im {A:Act} {i:Nat} (h:A.tmps[11]? =some (.int .i64 (i:Int))):FD A=i:=by unfold FD;rw[h];rfl
def WI (A0:Act) (w0:World) (bb:List UInt8) (i:Nat) (A:Act) (w:World):Prop:=∃j:Nat,j<=8/\w=w0/\A.tmps.size=272/\A.defers=A0.defers/\wj A0 A/\A.tmps[11]? =some (.int .i64 (j:Int))/\A.tmps[10]? =some (.int .u64 (N64 (Lz.iY bb i j)))
theorem YC (A:Act) (w:World) (Q:Exit->Act->World->Prop) (i:Nat) (hi:i<8) (hs:A.tmps.size=272) (t11:A.tmps[11]? =some (.int .i64 (i:Int)))
  (hQ:∀A',A'.tmps.size=272->A'.defers=A.defers->eI 11 45 46 A A'->A'.tmps[11]? =some (.int .i64 ((i+1:Nat):Int))->Q .normal A' w):
  Code.wp Tryz.prog (dn2 (dn2 (Eo Tryz.f114.body))) Q A w:=by
 obtain⟨IS,e11⟩:=ag t11;have f1:IntKind.i64.wrap ((i:Int)+1)=((i+1:Nat):Int):=by rw[IntWalk.i64_in _ (by omega)];omega
 have HQ:=Ih hQ;clear hQ f1
 conv=>arg 2;whnf
 go_wp2_with fail
 refine HQ.out _ ?_ ?_ ?_ ?_
 ·simp only[Array.size_setIfInBounds];exact hs
 ·rfl
 ·intro k hk cf
  simp(disch:=exact bf k hk cf _ (by decide)) only[Array.getElem?_setIfInBounds_ne]
 ·rw[Array.getElem?_setIfInBounds_self_of_lt (by simp only[Array.size_setIfInBounds];rw[hs];decide)];rw[show((i+1:Nat):Int)=(i:Int)+1 by omega]
theorem Vn (A0:Act) (w0:World) (Q:Exit->Act->World->Prop) (m:ByteArray) (bb:List UInt8) (a0 i:Nat) (Lb:a0<=1073742000) (tN:i<16) (sN:Hid (∀x,x<128->∃h:a0+x<m.size,bb.getD x 0=m[a0+x]))
  (hs:A0.tmps.size=272) (t6:A0.tmps[6]? =some (.string m)) (t7:A0.tmps[7]? =some (.int .i64 (a0:Int))) (t9:A0.tmps[9]? =some (.int .i64 (i:Int))) (t10:A0.tmps[10]? =some (.int .u64 (N64 0))) (t11:A0.tmps[11]? =some (.int .i64 0))
  (hQ:∀A',A'.tmps.size=272->A'.defers=A0.defers->wj A0 A'->A'.tmps[10]? =some (.int .u64 (N64 (Lz.iY bb i 8)))->Q .normal A' w0):
  Code.wp Tryz.prog (.block 4 (.loop (Eo Tryz.f114.body))) Q A0 w0:=by
 refine wp_block (wp_loop (WI A0 w0 bb i) (fun a _=>8-FD a) ⟨0,by decide,rfl,hs,rfl,fun _ _=>rfl,t11,t10⟩ ?_);rintro A w ⟨j,hj,rfl,hs,hd,hk,t11,t10⟩;have t6:=(hk 6 (by decide)).trans t6;have t7:=(hk 7 (by decide)).trans t7;have t9:=(hk 9 (by decide)).trans t9;obtain⟨IS,e11⟩:=ag t11;have HI:Hid (∀A' w',WI A0 w bb i A' w'->8-FD A'<8-FD A->Exit.then (fun a' w'=>WI A0 w bb i a' w'/\8-FD a'<8-FD A) (Exit.inBlock 4 Q) .normal A' w'):=Ih (fun A' w' h1 h2=>⟨h1,h2⟩);have HQ:=Ih hQ;have M:=Im t11;clear hQ;rw[Vw];refine wp_seq ?_
 conv=>arg 2;whnf
 go_wp2_with fail
 by_cases aL:j<8
 ·have aK:(j:Int)<8:=by omega
  refine wp_cond_true (by simp[Act.eval,hs,aK]) ?_;refine aw (fun A1 bc=>?_);have g0:A1.tmps.size=272:=by rw[bc];simp only[Array.size_setIfInBounds];exact hs
  have K1:∀k,k≠43->k≠44->A1.tmps[k]? =A.tmps[k]? :=fun k hk cf=>by
   rw[bc];simp(disch:=first |exact hk.symm|exact cf.symm) only[Array.getElem?_setIfInBounds_ne]
  have D1:A1.defers=A0.defers:=by rw[bc];try exact hd
  clear bc e11 aK;have g6:=(K1 6 (by decide) (by decide)).trans t6;have g7:=(K1 7 (by decide) (by decide)).trans t7;have g9:=(K1 9 (by decide) (by decide)).trans t9;have om:=(K1 10 (by decide) (by decide)).trans t10;have tp:=(K1 11 (by decide) (by decide)).trans t11;have HK:wj A0 A1:=hk.trans (fun k hk=>K1 k (by omega) (by omega));clear K1 hk t6 t7 t9 t10 t11
  go_wp2_with fail
  refine YI A1 w _ m bb a0 i j (Lz.iY bb i j) Lb tN aL sN g0 g6 g7 g9 om tp (fun A2 z2 d2 k2 r2=>?_)
  go_wp2_with fail
  refine YC A2 w _ j aL z2 ((k2 11 (by decide) (by decide)).trans tp) (fun A3 z3 d3 k3 r3=>?_);exact HI.out A3 w ⟨j+1,by omega,rfl,z3,d3.trans (d2.trans D1),HK.trans (fun k hk=>(k3 k (by omega) (by omega)).trans (k2 k (by omega) (by omega))),r3,(k3 10 (by decide) (by decide)).trans r2⟩ (by rw[Im r3,M];omega)
 ·have aK:¬((j:Int)<8):=by omega
  obtain rfl:j=8:=by omega
  refine wp_cond_false (by simp[Act.eval,hs]) ?_;refine aw (fun A1 bc=>?_);have g0:A1.tmps.size=272:=by rw[bc];simp only[Array.size_setIfInBounds];exact hs
  have K1:∀k,k≠43->k≠44->A1.tmps[k]? =A.tmps[k]? :=fun k hk cf=>by
   rw[bc];simp(disch:=first |exact hk.symm|exact cf.symm) only[Array.getElem?_setIfInBounds_ne]
  have D1:A1.defers=A0.defers:=by rw[bc];try exact hd
  have om:=(K1 10 (by decide) (by decide)).trans t10;clear bc e11 aK
  go_wp2_with fail
  exact HQ.out A1 g0 D1 (hk.trans (fun k hk=>K1 k (by omega) (by omega))) om
def Zf (b:Option Code):Code:=.block 4 (.loop (Eo b))
theorem UD:oD Tryz.f114.body=.seq (.seq (dn1 (dn1 (oD Tryz.f114.body))) (.cond (.tmp 42) (KK Tryz.f114.body) .skip)) (dn2 (oD Tryz.f114.body)):=by kernel_rfl
theorem PA:KK Tryz.f114.body=.seq (dn1 (KK Tryz.f114.body)) (.seq (.seq (dn1 (dn1 (dn2 (KK Tryz.f114.body)))) (Zf Tryz.f114.body)) (dn2 (dn2 (KK Tryz.f114.body)))):=by kernel_rfl
theorem RH (A:Act) (w0 w:World) (Q:Exit->Act->World->Prop) (m:ByteArray) (bb:List UInt8) (a0 i:Nat) (v:Value) (Lb:a0<=1073742000) (tN:i<16) (sN:Hid (∀x,x<128->∃h:a0+x<m.size,bb.getD x 0=m[a0+x]))
  (hs:A.tmps.size=272) (t6:A.tmps[6]? =some (.string m)) (t7:A.tmps[7]? =some (.int .i64 (a0:Int))) (t8:A.tmps[8]? =some v) (t9:A.tmps[9]? =some (.int .i64 (i:Int)))
  (ai:dt w w0.heap.size v (Lz.az bb i)) (aO:(Lz.az bb i).length=i) (aC:Below w0.heap.size w0 w)
  (ak:∀c a a' w,Q (.panic c) a w->Q (.panic c) a' w)
  (hQ:∀A' w' v',A'.tmps.size=272->A'.defers=A.defers->kE A A'->A'.tmps[9]? =A.tmps[9]? ->A'.tmps[8]? =some v'->dt w' w0.heap.size v' (Lz.az bb (i+1))->Below w0.heap.size w0 w'->Q (.exit 3) A' w'):
  Code.wp Tryz.prog (oD Tryz.f114.body) Q A w:=by
 obtain⟨i0,hi,eZ,d9,eo⟩:=info_parts DY;obtain⟨b9,e9⟩:=ag t9;have DL:(i:Int)<16:=by omega
 have HQ:=Ih hQ;have bi:=Ih ai;have qH:=Ih ak;have HS:Hid (Lz.az bb (i+1)=Lz.az bb i++[Lz.iY bb i 8]):=Ih (by rw[Lz.az,if_pos tN]);clear hQ ai ak;rw[UD];refine wp_seq ?_;refine wp_seq ?_
 conv=>arg 2;whnf
 go_wp2_with fail
 refine wp_cond_true (by simp[Act.eval,hs]) ?_;refine aw (fun A1 bc=>?_);have g0:A1.tmps.size=272:=by rw[bc];simp only[Array.size_setIfInBounds];exact hs
 have K1:∀k,k≠41->k≠42->A1.tmps[k]? =A.tmps[k]? :=fun k hk cf=>by
  rw[bc];simp(disch:=first |exact hk.symm|exact cf.symm) only[Array.getElem?_setIfInBounds_ne]
 have D1:A1.defers=A.defers:=by rw[bc]
 clear bc e9 DL;rw[PA];refine wp_seq ?_
 conv=>arg 2;whnf
 go_wp2_with fail
 conv=>arg 2;whnf
 go_wp2_with fail
 refine aw (fun A2 AL=>?_);have z2:A2.tmps.size=272:=by rw[AL];simp only[Array.size_setIfInBounds];exact g0
 have K2:∀k,k≠10->k≠11->A2.tmps[k]? =A1.tmps[k]? :=fun k hk cf=>by
  rw[AL];simp(disch:=first |exact hk.symm|exact cf.symm) only[Array.getElem?_setIfInBounds_ne]
 have om:A2.tmps[10]? =some (.int .u64 (N64 0)):=by rw[AL];simp only[Array.getElem?_setIfInBounds,Array.size_setIfInBounds,g0];rfl
 have tp:A2.tmps[11]? =some (.int .i64 0):=by rw[AL];simp only[Array.getElem?_setIfInBounds,Array.size_setIfInBounds,g0];rfl
 have D2:A2.defers=A.defers:=by rw[AL];try exact D1
 clear AL;refine Vn A2 w _ m bb a0 i Lb tN sN z2 ((K2 6 (by decide) (by decide)).trans ((K1 6 (by decide) (by decide)).trans t6)) ((K2 7 (by decide) (by decide)).trans ((K1 7 (by decide) (by decide)).trans t7)) ((K2 9 (by decide) (by decide)).trans ((K1 9 (by decide) (by decide)).trans t9)) om tp (fun A3 z3 d3 k3 r3=>?_);have g8:A3.tmps[8]? =some v:=(k3 8 (by decide)).trans ((K2 8 (by decide) (by decide)).trans ((K1 8 (by decide) (by decide)).trans t8));have g9:A3.tmps[9]? =A.tmps[9]? :=(k3 9 (by decide)).trans ((K2 9 (by decide) (by decide)).trans (K1 9 (by decide) (by decide)));have K3:∀k,(k<8\/(14<=k/\k<37)\/121<=k)->A3.tmps[k]? =A.tmps[k]? :=fun k hk=>(k3 k (by omega)).trans ((K2 k (by omega) (by omega)).trans (K1 k (by omega) (by omega)));obtain⟨b8,e8⟩:=ag g8;obtain⟨Lr,e10⟩:=ag r3;have D3:=d3.trans D2;generalize Lz.iY bb i 8=y at HS r3 e10;generalize hL:Lz.az bb i=xs at bi HS aO;have eu:=Ih aO;have fu:=aC.size;clear K1 K2 k3 g8 r3 aO hL t6 t7 t8 t9 om tp d3 D1 D2
 go_wp2_with fail
 conv=>arg 2;whnf
 have bF:=bi;unfold dt at bF
 go_wp2_with (at_builtin;refine wpList_append_own _ rfl (.tmp 59) (.tmp 61) 167 rfl w0.heap.size 131 i0 (.int .u64 0) 1 8 Tryz.underlying167 hi eZ d9 eo rfl (by decide) v xs.length (dG xs) (by simp[Act.eval,z3]) (bF.out.alloc _) ⟨w.heap.size,0,none⟩ 1 1 [.int .u64 (N64 y)] (by simp[Act.eval,z3]) rfl (aJ _ _ _) (by simp[Value.oneCell']) (by rw[eu.out];unfold maxLen;omega) (by rw[eu.out];omega) (by simp;omega) ?_)
 intro v4 w4 mg Ov _;have eB:=Below.grown1 aC bF.out Ov fu (Nat.le_refl _)
 have hO4:dt w4 w0.heap.size v4 (Lz.az bb (i+1)):=by
  unfold dt;rw[HS.out,List.length_append];unfold dG at mg⊢;rw[List.map_append];exact mg
 have HO4:=Ih hO4;clear mg Ov hO4 bF
 go_wp2_with fail
 refine HQ.out _ w4 v4 ?_ ?_ ?_ ?_ ?_ HO4.out eB
 ·simp only[Array.size_setIfInBounds];exact z3
 ·first |rfl|exact D3
 ·intro k hk
  simp(disch:=exact N8 k hk _ (by decide)) only[Array.getElem?_setIfInBounds_ne]
  exact K3 k hk
 ·simp(disch:=decide) only[Array.getElem?_setIfInBounds_ne]
  exact g9
 ·rw[Array.getElem?_setIfInBounds_self_of_lt (by simp only[Array.size_setIfInBounds];rw[z3];decide)]
attribute [local go_sem ↓] Go.wp_at_zero Go.wp_at_succ
theorem Qu (A:Act) (w:World) (Q:Exit->Act->World->Prop) (x:UInt64) (g L c i mm:Nat)
  (hs:A.tmps.size=272) (t10:A.tmps[8]? =some (.slice (some ⟨g,0,none⟩) L c)) (t11:A.tmps[9]? =some (.int .i64 (i:Int)))
  (f0:IntKind.i64.wrap ((i:Int)-15)=(mm:Int)) (q0:(0:Int)<=(mm:Int)/\(mm:Int)<(L:Int))
  (hc:w.cell? ⟨g,mm,none⟩=some (.int .u64 (N64 x)))
  (ak:∀c a a' w,Q (.panic c) a w->Q (.panic c) a' w)
  (hQ:∀A' w',A'.tmps.size=272->A'.defers=A.defers->eI 12 63 82 A A'->A'.tmps[12]? =some (.int .u64 (N64 ((Lz.aU x 1 ^^^ Lz.aU x 8) ^^^ (x>>>7))))->Below w.heap.size w w'->Q .normal A' w'):
  Code.wp Tryz.prog (dn1 (dn2 (oD Tryz.f114.body))) Q A w:=by
 obtain⟨Lr,e10⟩:=ag t10;obtain⟨IS,e11⟩:=ag t11;have o1:=qO (Lz.aU x 1) (Lz.aU x 8);have o2:=qO (Lz.aU x 1 ^^^ Lz.aU x 8) (x>>>7);have s1:N64 x / (128:Int)=N64 (x>>>7):=Ed x 7 (by omega);have k1:=Ih (fun w=>dL x 1 (by decide) (by decide) w);have k2:=Ih (fun w=>dL x 8 (by decide) (by decide) w);have HQ:=Ih hQ;clear t10 t11 hQ
 conv=>arg 2;whnf
 refine wp_region_held_drew (S:=fun V=>V.cell? ⟨g,mm,none⟩=some (.int .u64 (N64 x))/\Below w.heap.size w V) (by kernel_rfl) ⟨hc,(Below.refl _ w).drew⟩ (fun af=>?_);generalize w.drew=W0 at af⊢;apply TkE ak 0 63;apply TkE ak 1 64;apply TkE ak 2 65;apply TkE ak 3 66;apply TkE ak 4 67;apply TkE ak 6 69;apply TkE ak 7 70;apply TkE ak 8 71
 iterate 8 (rotate_right 2;(·(intro W ar;(try dsimp only at ar);(try simp only[Act.put]);go_simp;try with_reducible rfl)))
 (try simp only[Act.put])
 apply TkE ak 9 72;apply TkE ak 10 73;apply TkE ak 13 76;apply TkE ak 14 77;apply TkE ak 15 78;apply TkE ak 16 79;apply TkE ak 17 80;apply TkE ak 18 81
 iterate 8 (rotate_right 2;(·(intro W ar;(try dsimp only at ar);(try simp only[Act.put]);go_simp;try with_reducible rfl)))
 (try simp only[Act.put])
 refine wpAnyH_ready (rs:=[5]) (by kernel_rfl) (by simp) ?_;refine AllReadyH.cons rfl (fun K hK=>?_) AllReadyH.nil;go_simp
 go_at_call 167
 refine((k1.out _).mono ?_);rintro e w5 ⟨rfl,bv⟩;refine hK.out _ _ ⟨(bv.cell (World.block_lt_of_cell? _ _ af.1)).trans af.1,af.2.trans (bv.mono af.2.size)⟩ (fun af=>?_);clear hK K
 (try simp only[Act.put])
 refine wpAnyH_ready (rs:=[11]) (by kernel_rfl) (by simp) ?_;refine AllReadyH.cons rfl (fun K hK=>?_) AllReadyH.nil;go_simp
 go_at_call 167
 refine((k2.out _).mono ?_);rintro e w5 ⟨rfl,bv⟩;refine hK.out _ _ ⟨(bv.cell (World.block_lt_of_cell? _ _ af.1)).trans af.1,af.2.trans (bv.mono af.2.size)⟩ (fun af=>?_);clear hK K
 (try simp only[Act.put])
 apply TkE ak 12 75;apply TkE ak 19 82;apply TkE ak 20 12
 iterate 3 (rotate_right 2;(·(intro W ar;(try dsimp only at ar);(try simp only[Act.put]);go_simp;try with_reducible rfl)))
 (try simp only[Act.put])
 refine wpAnyH_done (by kernel_rfl) ?_ _
 go_wp2_with fail
 refine HQ.out _ _ ?_ ?_ ?_ ?_ af.2
 ·simp only[Array.size_setIfInBounds];exact hs
 ·rfl
 ·intro k hk cf
  simp(disch:=exact bf k hk cf _ (by decide)) only[Array.getElem?_setIfInBounds_ne]
 ·rw[Array.getElem?_setIfInBounds_self_of_lt (by simp only[Array.size_setIfInBounds];rw[hs];decide)]
theorem QO (A:Act) (w:World) (Q:Exit->Act->World->Prop) (x:UInt64) (g L c i mm:Nat)
  (hs:A.tmps.size=272) (t10:A.tmps[8]? =some (.slice (some ⟨g,0,none⟩) L c)) (t11:A.tmps[9]? =some (.int .i64 (i:Int)))
  (f0:IntKind.i64.wrap ((i:Int)-2)=(mm:Int)) (q0:(0:Int)<=(mm:Int)/\(mm:Int)<(L:Int))
  (hc:w.cell? ⟨g,mm,none⟩=some (.int .u64 (N64 x)))
  (ak:∀c a a' w,Q (.panic c) a w->Q (.panic c) a' w)
  (hQ:∀A' w',A'.tmps.size=272->A'.defers=A.defers->eI 13 83 102 A A'->A'.tmps[13]? =some (.int .u64 (N64 ((Lz.aU x 19 ^^^ Lz.aU x 61) ^^^ (x>>>6))))->Below w.heap.size w w'->Q .normal A' w'):
  Code.wp Tryz.prog (dn1 (dn2 (dn2 (oD Tryz.f114.body)))) Q A w:=by
 obtain⟨Lr,e10⟩:=ag t10;obtain⟨IS,e11⟩:=ag t11;have o1:=qO (Lz.aU x 19) (Lz.aU x 61);have o2:=qO (Lz.aU x 19 ^^^ Lz.aU x 61) (x>>>6);have s1:N64 x / (64:Int)=N64 (x>>>6):=Ed x 6 (by omega);have k1:=Ih (fun w=>dL x 19 (by decide) (by decide) w);have k2:=Ih (fun w=>dL x 61 (by decide) (by decide) w);have HQ:=Ih hQ;clear t10 t11 hQ
 conv=>arg 2;whnf
 refine wp_region_held_drew (S:=fun V=>V.cell? ⟨g,mm,none⟩=some (.int .u64 (N64 x))/\Below w.heap.size w V) (by kernel_rfl) ⟨hc,(Below.refl _ w).drew⟩ (fun af=>?_);generalize w.drew=W0 at af⊢;apply TkE ak 0 83;apply TkE ak 1 84;apply TkE ak 2 85;apply TkE ak 3 86;apply TkE ak 4 87;apply TkE ak 6 89;apply TkE ak 7 90;apply TkE ak 8 91
 iterate 8 (rotate_right 2;(·(intro W ar;(try dsimp only at ar);(try simp only[Act.put]);go_simp;try with_reducible rfl)))
 (try simp only[Act.put])
 apply TkE ak 9 92;apply TkE ak 10 93;apply TkE ak 13 96;apply TkE ak 14 97;apply TkE ak 15 98;apply TkE ak 16 99;apply TkE ak 17 100;apply TkE ak 18 101
 iterate 8 (rotate_right 2;(·(intro W ar;(try dsimp only at ar);(try simp only[Act.put]);go_simp;try with_reducible rfl)))
 (try simp only[Act.put])
 refine wpAnyH_ready (rs:=[5]) (by kernel_rfl) (by simp) ?_;refine AllReadyH.cons rfl (fun K hK=>?_) AllReadyH.nil;go_simp
 go_at_call 167
 refine((k1.out _).mono ?_);rintro e w5 ⟨rfl,bv⟩;refine hK.out _ _ ⟨(bv.cell (World.block_lt_of_cell? _ _ af.1)).trans af.1,af.2.trans (bv.mono af.2.size)⟩ (fun af=>?_);clear hK K
 (try simp only[Act.put])
 refine wpAnyH_ready (rs:=[11]) (by kernel_rfl) (by simp) ?_;refine AllReadyH.cons rfl (fun K hK=>?_) AllReadyH.nil;go_simp
 go_at_call 167
 refine((k2.out _).mono ?_);rintro e w5 ⟨rfl,bv⟩;refine hK.out _ _ ⟨(bv.cell (World.block_lt_of_cell? _ _ af.1)).trans af.1,af.2.trans (bv.mono af.2.size)⟩ (fun af=>?_);clear hK K
 (try simp only[Act.put])
 apply TkE ak 12 95;apply TkE ak 19 102;apply TkE ak 20 13
 iterate 3 (rotate_right 2;(·(intro W ar;(try dsimp only at ar);(try simp only[Act.put]);go_simp;try with_reducible rfl)))
 (try simp only[Act.put])
 refine wpAnyH_done (by kernel_rfl) ?_ _
 go_wp2_with fail
 refine HQ.out _ _ ?_ ?_ ?_ ?_ af.2
 ·simp only[Array.size_setIfInBounds];exact hs
 ·rfl
 ·intro k hk cf
  simp(disch:=exact bf k hk cf _ (by decide)) only[Array.getElem?_setIfInBounds_ne]
 ·rw[Array.getElem?_setIfInBounds_self_of_lt (by simp only[Array.size_setIfInBounds];rw[hs];decide)]
attribute [local go_sem ↓] Go.wp_at_zero Go.wp_at_succ
theorem Rg (A:Act) (w0 w:World) (Q:Exit->Act->World->Prop) (nZ x7 s0 s1:UInt64) (xs:List UInt64) (g L c i y9 m7:Nat)
  (hs:A.tmps.size=272) (t10:A.tmps[8]? =some (.slice (some ⟨g,0,none⟩) L c)) (t11:A.tmps[9]? =some (.int .i64 (i:Int))) (t13:A.tmps[12]? =some (.int .u64 (N64 s0))) (t14:A.tmps[13]? =some (.int .u64 (N64 s1)))
  (f16:IntKind.i64.wrap ((i:Int)-16)=(y9:Int)) (q16:(0:Int)<=(y9:Int)/\(y9:Int)<(L:Int)) (f7:IntKind.i64.wrap ((i:Int)-7)=(m7:Int)) (q7:(0:Int)<=(m7:Int)/\(m7:Int)<(L:Int))
  (Gk:w.cell? ⟨g,y9,none⟩=some (.int .u64 (N64 nZ))) (WE:w.cell? ⟨g,m7,none⟩=some (.int .u64 (N64 x7)))
  (ai:dt w w0.heap.size (.slice (some ⟨g,0,none⟩) L c) xs) (aO:xs.length<=1000000) (aC:Below w0.heap.size w0 w)
  (ak:∀c a a' w,Q (.panic c) a w->Q (.panic c) a' w)
  (hQ:∀A' w' v',A'.tmps.size=272->A'.defers=A.defers->eI 8 103 120 A A'->A'.tmps[8]? =some v'->dt w' w0.heap.size v' (xs++[((nZ+s0)+x7)+s1])->Below w0.heap.size w0 w'->Q .normal A' w'):
  Code.wp Tryz.prog (dn2 (dn2 (dn2 (oD Tryz.f114.body)))) Q A w:=by
 obtain⟨Lr,e10⟩:=ag t10;obtain⟨IS,e11⟩:=ag t11;obtain⟨Xb,e13⟩:=ag t13;obtain⟨b14,e14⟩:=ag t14;have o1:=kg nZ s0;have o2:=kg (nZ+s0) x7;have o3:=kg ((nZ+s0)+x7) s1;have HQ:=Ih hQ;clear t10 t11 t13 t14 hQ
 conv=>arg 2;whnf
 refine wp_region_held_drew (S:=fun V=>Below w0.heap.size w0 V) (by kernel_rfl) aC.drew (fun af=>?_);have nv:dt w.drew w0.heap.size (.slice (some ⟨g,0,none⟩) L c) xs:=ai;have c16:w.drew.cell? ⟨g,y9,none⟩=some (.int .u64 (N64 nZ)):=Gk;have c7:w.drew.cell? ⟨g,m7,none⟩=some (.int .u64 (N64 x7)):=WE;clear ai Gk WE;generalize w.drew=W0 at af nv c16 c7⊢;apply TkE ak 0 103;apply TkE ak 1 104;apply TkE ak 2 105;apply TkE ak 3 106;apply TkE ak 4 107;apply TkE ak 6 109
 iterate 6 (rotate_right 2;(·(intro W ar;(try dsimp only at ar);(try simp only[Act.put]);go_simp;try with_reducible rfl)))
 (try simp only[Act.put])
 apply TkE ak 8 111;apply TkE ak 9 112;apply TkE ak 10 113;apply TkE ak 11 114;apply TkE ak 14 117
 iterate 5 (rotate_right 2;(·(intro W ar;(try dsimp only at ar);(try simp only[Act.put]);go_simp;try with_reducible rfl)))
 (try simp only[Act.put])
 refine wpAnyH_ready (rs:=[5,12]) (by kernel_rfl) (by simp) ?_;refine AllReadyH.cons rfl (fun K hK=>?_) (AllReadyH.cons rfl (fun K hK=>?_) AllReadyH.nil)
 ·go_simp;refine hK.out _ _ af (fun af=>?_);clear hK K
  (try simp only[Act.put])
  apply TkE ak 7 110
  iterate 1 (rotate_right 2;(·(intro W ar;(try dsimp only at ar);(try simp only[Act.put]);go_simp;try with_reducible rfl)))
  (try simp only[Act.put])
  refine wpAnyH_ready (rs:=[12]) (by kernel_rfl) (by simp) ?_;refine AllReadyH.cons rfl (fun K hK=>?_) AllReadyH.nil;go_simp;refine hK.out _ _ af (fun af=>?_);clear hK K
  (try simp only[Act.put])
  apply TkE ak 13 116;apply TkE ak 15 118
  iterate 2 (rotate_right 2;(·(intro W ar;(try dsimp only at ar);(try simp only[Act.put]);go_simp;try with_reducible rfl)))
  (try simp only[Act.put])
  refine wpAnyH_ready (rs:=[16]) (by kernel_rfl) (by simp) ?_;refine AllReadyH.cons rfl (fun K hK=>?_) AllReadyH.nil;have gr:=nv.below ((Below.refl W0.heap.size W0).alloc (Nat.le_refl _) (.cells #[.int .u64 (N64 (((nZ+s0)+x7)+s1))] 131));have iw:(W0.alloc (.cells #[.int .u64 (N64 (((nZ+s0)+x7)+s1))] 131)).cell? ⟨W0.heap.size,0,none⟩=some (.int .u64 (N64 (((nZ+s0)+x7)+s1))):=rowAt (an W0 _) 0 _ rfl;go_simp;refine hK.out _ _ (af.alloc af.size _) (fun af=>?_);clear hK K
  (try simp only[Act.put])
  refine wpAnyH_ready (rs:=[17]) (by kernel_rfl) (by simp) ?_;refine AllReadyH.cons rfl (fun K hK=>?_) AllReadyH.nil;rw[if_pos (by rfl)];refine sK (.tmp 103) (.tmp 119) rfl rfl (some 120) rfl w0.heap.size (.slice (some ⟨g,0,none⟩) L c) xs ?_ gr W0.heap.size 1 (((nZ+s0)+x7)+s1) ?_ iw aO af.size ?_
  ·simp[Act.eval,hs]
  ·simp[Act.eval,hs]
  intro v' w' de iy;have aE:Below w0.heap.size w0 w':=af.grown iy af.size (fun k hk=>(World.ownsRow.lt gr k hk).1);clear af;refine hK.out _ _ aE (fun af=>?_);clear hK K gr iw iy
  (try simp only[Act.put])
  refine TkD 18 (some 8) (v:=v') rfl rfl ?_ ?_ (hQ:=fun _ _ _ h=>ak _ _ _ _ h)
  ·intro W ar;simp[Act.eval,hs,execOp]
  (try simp only[Act.put])
  refine wpAnyH_done (by kernel_rfl) ?_ _
  go_wp2_with fail
  refine HQ.out _ _ v' ?_ ?_ ?_ ?_ de af
  ·simp only[Array.size_setIfInBounds];exact hs
  ·rfl
  ·intro k hk cf
   simp(disch:=exact bf k hk cf _ (by decide)) only[Array.getElem?_setIfInBounds_ne]
  ·rw[Array.getElem?_setIfInBounds_self_of_lt (by simp only[Array.size_setIfInBounds];rw[hs];decide)]
 ·go_simp;refine hK.out _ _ af (fun af=>?_);clear hK K
  (try simp only[Act.put])
  refine wpAnyH_ready (rs:=[5]) (by kernel_rfl) (by simp) ?_;refine AllReadyH.cons rfl (fun K hK=>?_) AllReadyH.nil;go_simp;refine hK.out _ _ af (fun af=>?_);clear hK K
  (try simp only[Act.put])
  apply TkE ak 7 110;apply TkE ak 13 116;apply TkE ak 15 118
  iterate 3 (rotate_right 2;(·(intro W ar;(try dsimp only at ar);(try simp only[Act.put]);go_simp;try with_reducible rfl)))
  (try simp only[Act.put])
  refine wpAnyH_ready (rs:=[16]) (by kernel_rfl) (by simp) ?_;refine AllReadyH.cons rfl (fun K hK=>?_) AllReadyH.nil;have gr:=nv.below ((Below.refl W0.heap.size W0).alloc (Nat.le_refl _) (.cells #[.int .u64 (N64 (((nZ+s0)+x7)+s1))] 131));have iw:(W0.alloc (.cells #[.int .u64 (N64 (((nZ+s0)+x7)+s1))] 131)).cell? ⟨W0.heap.size,0,none⟩=some (.int .u64 (N64 (((nZ+s0)+x7)+s1))):=rowAt (an W0 _) 0 _ rfl;go_simp;refine hK.out _ _ (af.alloc af.size _) (fun af=>?_);clear hK K
  (try simp only[Act.put])
  refine wpAnyH_ready (rs:=[17]) (by kernel_rfl) (by simp) ?_;refine AllReadyH.cons rfl (fun K hK=>?_) AllReadyH.nil;rw[if_pos (by rfl)];refine sK (.tmp 103) (.tmp 119) rfl rfl (some 120) rfl w0.heap.size (.slice (some ⟨g,0,none⟩) L c) xs ?_ gr W0.heap.size 1 (((nZ+s0)+x7)+s1) ?_ iw aO af.size ?_
  ·simp[Act.eval,hs]
  ·simp[Act.eval,hs]
  intro v' w' de iy;have aE:Below w0.heap.size w0 w':=af.grown iy af.size (fun k hk=>(World.ownsRow.lt gr k hk).1);clear af;refine hK.out _ _ aE (fun af=>?_);clear hK K gr iw iy
  (try simp only[Act.put])
  refine TkD 18 (some 8) (v:=v') rfl rfl ?_ ?_ (hQ:=fun _ _ _ h=>ak _ _ _ _ h)
  ·intro W ar;simp[Act.eval,hs,execOp]
  (try simp only[Act.put])
  refine wpAnyH_done (by kernel_rfl) ?_ _
  go_wp2_with fail
  refine HQ.out _ _ v' ?_ ?_ ?_ ?_ de af
  ·simp only[Array.size_setIfInBounds];exact hs
  ·rfl
  ·intro k hk cf
   simp(disch:=exact bf k hk cf _ (by decide)) only[Array.getElem?_setIfInBounds_ne]
  ·rw[Array.getElem?_setIfInBounds_self_of_lt (by simp only[Array.size_setIfInBounds];rw[hs];decide)]
attribute [local go_sem ↓] Go.wp_at_zero Go.wp_at_succ
theorem Mw (A:Act) (w0 w:World) (Q:Exit->Act->World->Prop) (bb:List UInt8) (i:Nat) (v:Value) (tN:16<=i) (WZ:i<80)
  (hs:A.tmps.size=272) (t10:A.tmps[8]? =some v) (t11:A.tmps[9]? =some (.int .i64 (i:Int)))
  (ai:dt w w0.heap.size v (Lz.az bb i)) (aO:(Lz.az bb i).length=i) (aC:Below w0.heap.size w0 w)
  (ak:∀c a a' w,Q (.panic c) a w->Q (.panic c) a' w)
  (hQ:∀A' w' v',A'.tmps.size=272->A'.defers=A.defers->kE A A'->A'.tmps[9]? =A.tmps[9]? ->A'.tmps[8]? =some v'->dt w' w0.heap.size v' (Lz.az bb (i+1))->Below w0.heap.size w0 w'->Q .normal A' w'):
  Code.wp Tryz.prog (oD Tryz.f114.body) Q A w:=by
 have hst:Lz.az bb (i+1)=Lz.az bb i++[(((Lz.az bb i).getD (i-16) 0+((Lz.aU ((Lz.az bb i).getD (i-15) 0) 1 ^^^ Lz.aU ((Lz.az bb i).getD (i-15) 0) 8) ^^^ ((Lz.az bb i).getD (i-15) 0>>>7)))+(Lz.az bb i).getD (i-7) 0)+((Lz.aU ((Lz.az bb i).getD (i-2) 0) 19 ^^^ Lz.aU ((Lz.az bb i).getD (i-2) 0) 61) ^^^ ((Lz.az bb i).getD (i-2) 0>>>6))]:=by
  rw[Lz.az,if_neg (by omega)]
 generalize Lz.az bb i=xs at ai aO hst;obtain⟨g,c,rfl,wJ⟩:=dt.form ai (by omega);obtain⟨IS,e11⟩:=ag t11;have DL:¬((i:Int)<16):=by omega
 have dd:∀n:Nat,n<=i->0<n->IntKind.i64.wrap ((i:Int)-(n:Int))=((i-n:Nat):Int):=fun n hn h0=>by rw[IntWalk.i64_in _ (by omega)];omega
 have qq:∀n:Nat,n<=i->0<n->(0:Int)<=((i-n:Nat):Int)/\((i-n:Nat):Int)<(xs.length:Int):=fun n hn h0=>by omega
 have O4:xs.length<=1000000:=by omega
 have F15:=Ih (dd 15 (by omega) (by decide));have F2:=Ih (dd 2 (by omega) (by decide));have F16:=Ih (dd 16 (by omega) (by decide));have F7:=Ih (dd 7 (by omega) (by decide));have Q15:=Ih (qq 15 (by omega) (by decide));have Q2:=Ih (qq 2 (by omega) (by decide));have Q16:=Ih (qq 16 (by omega) (by decide));have Q7:=Ih (qq 7 (by omega) (by decide));have L15:i-15<xs.length:=by omega
 have L2:i-2<xs.length:=by omega
 have L16:i-16<xs.length:=by omega
 have L7:i-7<xs.length:=by omega
 have iA:=Ih hst;have HQ:=Ih hQ;have R6:=Ih wJ;have bi:=Ih ai;have eu:=Ih aO;clear dd qq hst hQ wJ ai aO
 conv=>arg 2;whnf
 go_wp2_with fail
 refine wp_cond_false (by simp[Act.eval,hs]) ?_
 go_wp2_with fail
 refine aw (fun A1 bc=>?_);have g0:A1.tmps.size=272:=by rw[bc];simp only[Array.size_setIfInBounds];exact hs
 have K1:∀k,k≠41->k≠42->A1.tmps[k]? =A.tmps[k]? :=fun k hk cf=>by
  rw[bc];simp(disch:=first |exact hk.symm|exact cf.symm) only[Array.getElem?_setIfInBounds_ne]
 have D1:A1.defers=A.defers:=by rw[bc]
 clear bc e11;have om:=(K1 8 (by decide) (by decide)).trans t10;have tp:=(K1 9 (by decide) (by decide)).trans t11;refine Qu A1 w _ (xs.getD (i-15) 0) g xs.length c i (i-15) g0 om tp F15.out Q15.out (R6.out _ L15) (fun c a a' w h=>ak c a a' w h) (fun A2 w2 z2 D2 K2 r2 b2=>?_);have p10:=(K2 8 (by decide) (by decide)).trans om;have p11:=(K2 9 (by decide) (by decide)).trans tp;have OW:=Ih (R6.out.below b2);have bF:=Ih (bi.out.below b2);have eC:=aC.trans (b2.mono aC.size)
 go_wp2_with fail
 refine QO A2 w2 _ (xs.getD (i-2) 0) g xs.length c i (i-2) z2 p10 p11 F2.out Q2.out (OW.out _ L2) (fun c a a' w h=>ak c a a' w h) (fun A3 w3 z3 D3 K3 r3 b3=>?_);have u10:=(K3 8 (by decide) (by decide)).trans p10;have u11:=(K3 9 (by decide) (by decide)).trans p11;have u13:=(K3 12 (by decide) (by decide)).trans r2;have O5:=OW.out.below b3;have dZ:=bF.out.below b3;have gw:=eC.trans (b3.mono eC.size)
 go_wp2_with fail
 refine Rg A3 w0 w3 _ (xs.getD (i-16) 0) (xs.getD (i-7) 0) _ _ xs g xs.length c i (i-16) (i-7) z3 u10 u11 u13 r3 F16.out Q16.out F7.out Q7.out (O5 _ L16) (O5 _ L7) dZ O4 gw (fun c a a' w h=>ak c a a' w h) (fun A4 w4 v4 z4 D4 K4 r4 own4 b4=>?_);refine HQ.out A4 w4 v4 z4 (D4.trans (D3.trans (D2.trans D1))) ?_ ?_ r4 (by rw[iA.out];exact own4) b4
 ·intro k hk;rw[K4 k (by omega) (by omega),K3 k (by omega) (by omega),K2 k (by omega) (by omega),K1 k (by omega) (by omega)]
 ·rw[K4 9 (by decide) (by decide),K3 9 (by decide) (by decide),K2 9 (by decide) (by decide),K1 9 (by decide) (by decide)]
attribute [local go_sem ↓] Go.wp_at_zero Go.wp_at_succ
theorem Zd (a:UInt64):bits .xor .u64 18446744073709551615 (N64 a)=N64 (~~~a):=by
 have h:=qO (0xFFFFFFFFFFFFFFFF:UInt64) a;have e:N64 (0xFFFFFFFFFFFFFFFF:UInt64)=18446744073709551615:=rfl;rw[e]at h;rw[h]
 have:(0xFFFFFFFFFFFFFFFF:UInt64) ^^^ a= ~~~a:=by
  apply UInt64.toBitVec_inj.1
  show BitVec.allOnes 64 ^^^ a.toBitVec= ~~~a.toBitVec;rw[BitVec.allOnes_xor]
 rw[this]
def S8L (A:Act) (s:Lz.St8 UInt64):Prop:=A.tmps[14]? =some (.int .u64 (N64 s.a))/\A.tmps[15]? =some (.int .u64 (N64 s.b))/\A.tmps[16]? =some (.int .u64 (N64 s.c))/\A.tmps[17]? =some (.int .u64 (N64 s.d))/\A.tmps[18]? =some (.int .u64 (N64 s.e))/\A.tmps[19]? =some (.int .u64 (N64 s.f))/\A.tmps[20]? =some (.int .u64 (N64 s.g))/\A.tmps[21]? =some (.int .u64 (N64 s.z))
def C8L (w:World) (g:Nat) (s:Lz.St8 UInt64):Prop:=w.cell? ⟨g,0,none⟩=some (.int .u64 (N64 s.a))/\w.cell? ⟨g,1,none⟩=some (.int .u64 (N64 s.b))/\w.cell? ⟨g,2,none⟩=some (.int .u64 (N64 s.c))/\w.cell? ⟨g,3,none⟩=some (.int .u64 (N64 s.d))/\w.cell? ⟨g,4,none⟩=some (.int .u64 (N64 s.e))/\w.cell? ⟨g,5,none⟩=some (.int .u64 (N64 s.f))/\w.cell? ⟨g,6,none⟩=some (.int .u64 (N64 s.g))/\w.cell? ⟨g,7,none⟩=some (.int .u64 (N64 s.z))
def ML (b:Option Code):Code:=dn1 (dn2 (dn2 (uk b)))
def Vu (b:Option Code):Code:=dn1 (dn2 (dn2 (dn2 (uk b))))
def uR (b:Option Code):Code:=dnl (dnb (dn2 (Vu b)))
def GO (b:Option Code):Code:=dnb (dn1 (dn2 (uR b)))
theorem Rc (A:Act) (w:World) (Q:Exit->Act->World->Prop) (s:Lz.St8 UInt64) (g c:Nat)
  (hs:A.tmps.size=272) (t6:A.tmps[0]? =some (.slice (some ⟨g,0,none⟩) 8 c)) (hc:C8L w g s)
  (ak:∀c a a' w,Q (.panic c) a w->Q (.panic c) a' w)
  (hQ:∀A' w',A'.tmps.size=272->A'.defers=A.defers->Tf 14 21 121 144 A A'->S8L A' s->Below w.heap.size w w'->Q .normal A' w'):
  Code.wp Tryz.prog (ML Tryz.f114.body) Q A w:=by
 obtain⟨b6,e6⟩:=ag t6;obtain⟨c0,c1,c2,c3,c4,c5,c6,c7⟩:=hc;have HQ:=Ih hQ;clear t6 hQ
 conv=>arg 2;whnf
 refine wp_region_held_drew (S:=fun V=>Below w.heap.size w V) (by kernel_rfl) (Below.refl _ w).drew (fun af=>?_);generalize w.drew=W0 at af⊢;apply TkE ak 0 121;apply TkE ak 1 122;apply TkE ak 2 123;apply TkE ak 3 124;apply TkE ak 4 125;apply TkE ak 5 126;apply TkE ak 6 127;apply TkE ak 7 128
 iterate 8 (rotate_right 2;(·(intro W ar;(try dsimp only at ar);have d0:=(ar.cell (World.block_lt_of_cell? _ _ c0)).trans c0;have d1:=(ar.cell (World.block_lt_of_cell? _ _ c1)).trans c1;have d2:=(ar.cell (World.block_lt_of_cell? _ _ c2)).trans c2;have d3:=(ar.cell (World.block_lt_of_cell? _ _ c3)).trans c3;have d4:=(ar.cell (World.block_lt_of_cell? _ _ c4)).trans c4;have d5:=(ar.cell (World.block_lt_of_cell? _ _ c5)).trans c5;have d6:=(ar.cell (World.block_lt_of_cell? _ _ c6)).trans c6;have d7:=(ar.cell (World.block_lt_of_cell? _ _ c7)).trans c7;(try simp only[Act.put]);go_simp;try with_reducible rfl)))
 (try simp only[Act.put])
 apply TkE ak 8 129;apply TkE ak 9 130;apply TkE ak 10 131;apply TkE ak 11 132;apply TkE ak 12 133;apply TkE ak 13 134;apply TkE ak 14 135;apply TkE ak 15 136
 iterate 8 (rotate_right 2;(·(intro W ar;(try dsimp only at ar);have d0:=(ar.cell (World.block_lt_of_cell? _ _ c0)).trans c0;have d1:=(ar.cell (World.block_lt_of_cell? _ _ c1)).trans c1;have d2:=(ar.cell (World.block_lt_of_cell? _ _ c2)).trans c2;have d3:=(ar.cell (World.block_lt_of_cell? _ _ c3)).trans c3;have d4:=(ar.cell (World.block_lt_of_cell? _ _ c4)).trans c4;have d5:=(ar.cell (World.block_lt_of_cell? _ _ c5)).trans c5;have d6:=(ar.cell (World.block_lt_of_cell? _ _ c6)).trans c6;have d7:=(ar.cell (World.block_lt_of_cell? _ _ c7)).trans c7;(try simp only[Act.put]);go_simp;try with_reducible rfl)))
 (try simp only[Act.put])
 apply TkE ak 16 137;apply TkE ak 17 138;apply TkE ak 18 139;apply TkE ak 19 140;apply TkE ak 20 141;apply TkE ak 21 142;apply TkE ak 22 143;apply TkE ak 23 144
 iterate 8 (rotate_right 2;(·(intro W ar;(try dsimp only at ar);have d0:=(ar.cell (World.block_lt_of_cell? _ _ c0)).trans c0;have d1:=(ar.cell (World.block_lt_of_cell? _ _ c1)).trans c1;have d2:=(ar.cell (World.block_lt_of_cell? _ _ c2)).trans c2;have d3:=(ar.cell (World.block_lt_of_cell? _ _ c3)).trans c3;have d4:=(ar.cell (World.block_lt_of_cell? _ _ c4)).trans c4;have d5:=(ar.cell (World.block_lt_of_cell? _ _ c5)).trans c5;have d6:=(ar.cell (World.block_lt_of_cell? _ _ c6)).trans c6;have d7:=(ar.cell (World.block_lt_of_cell? _ _ c7)).trans c7;(try simp only[Act.put]);go_simp;try with_reducible rfl)))
 (try simp only[Act.put])
 apply TkE ak 24 14;apply TkE ak 25 15;apply TkE ak 26 16;apply TkE ak 27 17;apply TkE ak 28 18;apply TkE ak 29 19;apply TkE ak 30 20;apply TkE ak 31 21
 iterate 8 (rotate_right 2;(·(intro W ar;(try dsimp only at ar);(try simp only[Act.put]);go_simp;try with_reducible rfl)))
 (try simp only[Act.put])
 refine wpAnyH_done (by kernel_rfl) ?_ _
 go_wp2_with fail
 refine HQ.out _ _ ?_ ?_ ?_ ?_ af
 ·simp only[Array.size_setIfInBounds];exact hs
 ·rfl
 ·intro k hk cf
  simp(disch:=exact Cv k hk cf _ (by decide)) only[Array.getElem?_setIfInBounds_ne]
 ·refine⟨?_,?_,?_,?_,?_,?_,?_,?_⟩<;>(simp(disch:=decide) only[Array.getElem?_setIfInBounds_ne];rw[Array.getElem?_setIfInBounds_self_of_lt (by simp only[Array.size_setIfInBounds];rw[hs];decide)])
theorem RL (A:Act) (w:World) (Q:Exit->Act->World->Prop) (s:Lz.St8 UInt64) (kk x:UInt64) (g4 L4 c4 g L c i:Nat)
  (hs:A.tmps.size=272) (t4:A.tmps[5]? =some (.slice (some ⟨g4,0,none⟩) L4 c4)) (t10:A.tmps[8]? =some (.slice (some ⟨g,0,none⟩) L c)) (t23:A.tmps[22]? =some (.int .i64 (i:Int))) (h8:S8L A s)
  (q4:(0:Int)<=(i:Int)/\(i:Int)<(L4:Int)) (q10:(0:Int)<=(i:Int)/\(i:Int)<(L:Int)) (sR:w.cell? ⟨g4,i,none⟩=some (.int .u64 (N64 kk))) (hc:w.cell? ⟨g,i,none⟩=some (.int .u64 (N64 x)))
  (ak:∀c a a' w,Q (.panic c) a w->Q (.panic c) a' w)
  (hQ:∀A' w',A'.tmps.size=272->A'.defers=A.defers->eI 23 149 177 A A'->A'.tmps[23]? =some (.int .u64 (N64 (Lz.Jm s kk x)))->Below w.heap.size w w'->Q .normal A' w'):
  Code.wp Tryz.prog (dn1 (GO Tryz.f114.body)) Q A w:=by
 obtain⟨b4,e4⟩:=ag t4;obtain⟨Lr,e10⟩:=ag t10;obtain⟨b23,e23⟩:=ag t23;obtain⟨_,_,_,_,t19,t20,t21,t22⟩:=h8;obtain⟨b19,e19⟩:=ag t19;obtain⟨b20,e20⟩:=ag t20;obtain⟨ZO,e21⟩:=ag t21;obtain⟨ZX,e22⟩:=ag t22;unfold Lz.Jm at hQ;clear t4 t10 t23 t19 t20 t21 t22;obtain⟨_,_,_,_,e,f,gg,z⟩:=s
 dsimp only at e19 e20 e21 e22 hQ
 have o1:=qO (Lz.aU e 14) (Lz.aU e 18);have o2:=qO (Lz.aU e 14 ^^^ Lz.aU e 18) (Lz.aU e 41);have o3:=kg z ((Lz.aU e 14 ^^^ Lz.aU e 18) ^^^ Lz.aU e 41);have o4:=Kp e f;have o5:=Zd e;have o5m:bits .xor .u64 IntKind.u64.max (N64 e)=N64 (~~~e):=Zd e;have sg:IntKind.u64.signed=false:=rfl;have o6:=Kp (~~~e) gg;have o7:=qO (e&&& f) ((~~~e)&&& gg);have o8:=kg (z+((Lz.aU e 14 ^^^ Lz.aU e 18) ^^^ Lz.aU e 41)) ((e&&& f) ^^^ ((~~~e)&&& gg));have o9:=kg ((z+((Lz.aU e 14 ^^^ Lz.aU e 18) ^^^ Lz.aU e 41))+((e&&& f) ^^^ ((~~~e)&&& gg))) kk;have Wf:=kg (((z+((Lz.aU e 14 ^^^ Lz.aU e 18) ^^^ Lz.aU e 41))+((e&&& f) ^^^ ((~~~e)&&& gg)))+kk) x;have k1:=Ih (fun w=>dL e 14 (by decide) (by decide) w);have k2:=Ih (fun w=>dL e 18 (by decide) (by decide) w);have k3:=Ih (fun w=>dL e 41 (by decide) (by decide) w);have HQ:=Ih hQ;clear hQ
 conv=>arg 2;whnf
 refine wp_region_held_drew (S:=fun V=>Below w.heap.size w V) (by kernel_rfl) (Below.refl _ w).drew (fun af=>?_);generalize w.drew=W0 at af⊢;apply TkE ak 0 149;apply TkE ak 1 150;apply TkE ak 3 152;apply TkE ak 6 155;apply TkE ak 10 159;apply TkE ak 11 160;apply TkE ak 12 161
 iterate 7 (rotate_right 2;(·(intro W ar;(try dsimp only at ar);(try simp only[Act.put]);go_simp;try with_reducible rfl)))
 (try simp only[Act.put])
 apply TkE ak 13 162;apply TkE ak 14 163;apply TkE ak 15 164;apply TkE ak 16 165;apply TkE ak 17 166
 iterate 5 (rotate_right 2;(·(intro W ar;(try dsimp only at ar);(try simp only[Act.put]);go_simp;try with_reducible rfl)))
 (try simp only[Act.put])
 apply TkE ak 19 168;apply TkE ak 20 169;apply TkE ak 21 170;apply TkE ak 22 171;apply TkE ak 24 173;apply TkE ak 25 174;apply TkE ak 26 175;apply TkE ak 27 176
 iterate 8 (rotate_right 2;(·(intro W ar;(try dsimp only at ar);have d4:=(ar.cell (World.block_lt_of_cell? _ _ sR)).trans sR;have ZE:=(ar.cell (World.block_lt_of_cell? _ _ hc)).trans hc;(try simp only[Act.put]);go_simp;try with_reducible rfl)))
 (try simp only[Act.put])
 refine wpAnyH_ready (rs:=[2]) (by kernel_rfl) (by simp) ?_;refine AllReadyH.cons rfl (fun K hK=>?_) AllReadyH.nil;go_simp
 go_at_call 167
 refine((k1.out _).mono ?_);rintro e w5 ⟨rfl,bv⟩;refine hK.out _ _ (af.trans (bv.mono af.size)) (fun af=>?_);clear hK K
 (try simp only[Act.put])
 refine wpAnyH_ready (rs:=[4]) (by kernel_rfl) (by simp) ?_;refine AllReadyH.cons rfl (fun K hK=>?_) AllReadyH.nil;go_simp
 go_at_call 167
 refine((k2.out _).mono ?_);rintro e w5 ⟨rfl,bv⟩;refine hK.out _ _ (af.trans (bv.mono af.size)) (fun af=>?_);clear hK K
 (try simp only[Act.put])
 apply TkE ak 5 154
 iterate 1 (rotate_right 2;(·(intro W ar;(try dsimp only at ar);(try simp only[Act.put]);go_simp;try with_reducible rfl)))
 (try simp only[Act.put])
 refine wpAnyH_ready (rs:=[7]) (by kernel_rfl) (by simp) ?_;refine AllReadyH.cons rfl (fun K hK=>?_) AllReadyH.nil;go_simp
 go_at_call 167
 refine((k3.out _).mono ?_);rintro e w5 ⟨rfl,bv⟩;refine hK.out _ _ (af.trans (bv.mono af.size)) (fun af=>?_);clear hK K
 (try simp only[Act.put])
 apply TkE ak 8 157;apply TkE ak 9 158;apply TkE ak 18 167;apply TkE ak 23 172;apply TkE ak 28 177;apply TkE ak 29 23
 iterate 6 (rotate_right 2;(·(intro W ar;(try dsimp only at ar);(try simp only[Act.put]);go_simp;try with_reducible rfl)))
 (try simp only[Act.put])
 refine wpAnyH_done (by kernel_rfl) ?_ _
 go_wp2_with fail
 refine HQ.out _ _ ?_ ?_ ?_ ?_ af
 ·simp only[Array.size_setIfInBounds];exact hs
 ·rfl
 ·intro k hk cf
  simp(disch:=exact bf k hk cf _ (by decide)) only[Array.getElem?_setIfInBounds_ne]
 ·rw[Array.getElem?_setIfInBounds_self_of_lt (by simp only[Array.size_setIfInBounds];rw[hs];decide)]
attribute [local go_sem ↓] Go.wp_at_zero Go.wp_at_succ
def PQ (A A':Act):Prop:=∀k,(k<14\/k=22\/k=23\/(24<k/\k<178)\/209<k)->A'.tmps[k]? =A.tmps[k]?
theorem Es (k:Nat) (hk:k<14\/k=22\/k=23\/(24<k/\k<178)\/209<k) (s:Nat) (hs:(14<=s/\s<=21)\/s=24\/(178<=s/\s<=209)):s≠k:=by omega
theorem QI (A:Act) (w:World) (Q:Exit->Act->World->Prop) (s:Lz.St8 UInt64) (t:UInt64)
  (hs:A.tmps.size=272) (h8:S8L A s) (t24:A.tmps[23]? =some (.int .u64 (N64 t)))
  (hQ:∀A' w',A'.tmps.size=272->A'.defers=A.defers->PQ A A'->S8L A' ⟨t+Lz.N6 s,s.a,s.b,s.c,s.d+t,s.e,s.f,s.g⟩->Below w.heap.size w w'->Q .normal A' w'):
  Code.wp Tryz.prog (dn2 (GO Tryz.f114.body)) Q A w:=by
 obtain⟨t15,t16,t17,t18,t19,t20,t21,t22⟩:=h8;obtain⟨b15,e15⟩:=ag t15;obtain⟨b16,e16⟩:=ag t16;obtain⟨b17,e17⟩:=ag t17;obtain⟨b18,e18⟩:=ag t18;obtain⟨b19,e19⟩:=ag t19;obtain⟨b20,e20⟩:=ag t20;obtain⟨ZO,e21⟩:=ag t21;obtain⟨ZX,e22⟩:=ag t22;obtain⟨b24,e24⟩:=ag t24;unfold Lz.N6 at hQ;clear t15 t16 t17 t18 t19 t20 t21 t22 t24;obtain⟨a,b,c,d,e,f,gg,z⟩:=s
 dsimp only at e15 e16 e17 e18 e19 e20 e21 e22 hQ
 have o1:=qO (Lz.aU a 28) (Lz.aU a 34);have o2:=qO (Lz.aU a 28 ^^^ Lz.aU a 34) (Lz.aU a 39);have o3:=Kp a b;have o4:=Kp a c;have o5:=Kp b c;have o6:=qO (a&&& b) (a&&& c);have o7:=qO ((a&&& b) ^^^ (a&&& c)) (b&&& c);have o8:=kg ((Lz.aU a 28 ^^^ Lz.aU a 34) ^^^ Lz.aU a 39) (((a&&& b) ^^^ (a&&& c)) ^^^ (b&&& c));have o9:=kg t (((Lz.aU a 28 ^^^ Lz.aU a 34) ^^^ Lz.aU a 39)+(((a&&& b) ^^^ (a&&& c)) ^^^ (b&&& c)));have Wf:=kg d t;have k1:=Ih (fun w=>dL a 28 (by decide) (by decide) w);have k2:=Ih (fun w=>dL a 34 (by decide) (by decide) w);have k3:=Ih (fun w=>dL a 39 (by decide) (by decide) w);have HQ:=Ih hQ;clear hQ
 conv=>arg 2;whnf
 go_wp2_with fail
 go_at_call 167
 refine((k1.out _).mono ?_);rintro r1 w1 ⟨rfl,av⟩
 go_wp2_with fail
 go_at_call 167
 refine((k2.out _).mono ?_);rintro r2 w2 ⟨rfl,aE⟩
 go_wp2_with fail
 go_at_call 167
 refine((k3.out _).mono ?_);rintro r3 w3 ⟨rfl,bj⟩
 go_wp2_with fail
 refine HQ.out _ _ ?_ ?_ ?_ ?_ ((av.trans (aE.mono av.size)).trans (bj.mono (Nat.le_trans av.size aE.size)))
 ·simp only[Array.size_setIfInBounds];exact hs
 ·rfl
 ·intro k hk
  simp(disch:=exact Es k hk _ (by decide)) only[Array.getElem?_setIfInBounds_ne]
 ·refine⟨?_,?_,?_,?_,?_,?_,?_,?_⟩<;>(simp(disch:=decide) only[Array.getElem?_setIfInBounds_ne];rw[Array.getElem?_setIfInBounds_self_of_lt (by simp only[Array.size_setIfInBounds];rw[hs];decide)])
attribute [local go_sem ↓] Go.wp_at_zero Go.wp_at_succ
theorem RP:uR Tryz.f114.body=.seq (dn1 (uR Tryz.f114.body)) (.seq (.block 7 (.seq (dn1 (GO Tryz.f114.body)) (dn2 (GO Tryz.f114.body)))) (dn2 (dn2 (uR Tryz.f114.body)))):=by kernel_rfl
def nf (A A':Act):Prop:=∀k,(k<14\/(24<k/\k<145)\/209<k)->A'.tmps[k]? =A.tmps[k]?
theorem nf.trans {A B C:Act} (h:nf A B) (k:nf B C):nf A C:=fun i hi=>(k i hi).trans (h i hi)
def Fe (A:Act):Nat:=(intOf ((A.tmps[22]?).getD (.bool false))).toNat
theorem IC {A:Act} {i:Nat} (h:A.tmps[22]? =some (.int .i64 (i:Int))):Fe A=i:=by unfold Fe;rw[h];rfl
def M5I (A0:Act) (w0:World) (aP:List UInt64) (bb:List UInt8) (h:Lz.St8 UInt64) (A:Act) (w:World):Prop:=∃i:Nat,i<=80/\A.tmps.size=272/\A.defers=A0.defers/\nf A0 A/\A.tmps[22]? =some (.int .i64 (i:Int))/\S8L A (Lz.eD aP bb h i)/\Below w0.heap.size w0 w
theorem S8L.kept {A B:Act} {s:Lz.St8 UInt64} (h:S8L A s) (k:∀j,14<=j->j<=21->B.tmps[j]? =A.tmps[j]?):S8L B s:=by
 obtain⟨a,b,c,d,e,f,g,z⟩:=h;exact⟨(k 14 (by decide) (by decide)).trans a,(k 15 (by decide) (by decide)).trans b,(k 16 (by decide) (by decide)).trans c,(k 17 (by decide) (by decide)).trans d,(k 18 (by decide) (by decide)).trans e,(k 19 (by decide) (by decide)).trans f,(k 20 (by decide) (by decide)).trans g,(k 21 (by decide) (by decide)).trans z⟩
theorem VL (A:Act) (w:World) (Q:Exit->Act->World->Prop) (i:Nat) (hi:i<80) (hs:A.tmps.size=272) (t23:A.tmps[22]? =some (.int .i64 (i:Int)))
  (hQ:∀A',A'.tmps.size=272->A'.defers=A.defers->eI 22 147 148 A A'->A'.tmps[22]? =some (.int .i64 ((i+1:Nat):Int))->Q .normal A' w):
  Code.wp Tryz.prog (dn2 (dn2 (uR Tryz.f114.body))) Q A w:=by
 obtain⟨b23,e23⟩:=ag t23;have f1:IntKind.i64.wrap ((i:Int)+1)=((i+1:Nat):Int):=by rw[IntWalk.i64_in _ (by omega)];omega
 have HQ:=Ih hQ;clear hQ f1
 conv=>arg 2;whnf
 go_wp2_with fail
 refine HQ.out _ ?_ ?_ ?_ ?_
 ·simp only[Array.size_setIfInBounds];exact hs
 ·rfl
 ·intro k hk cf
  simp(disch:=exact bf k hk cf _ (by decide)) only[Array.getElem?_setIfInBounds_ne]
 ·rw[Array.getElem?_setIfInBounds_self_of_lt (by simp only[Array.size_setIfInBounds];rw[hs];decide)];rw[show((i+1:Nat):Int)=(i:Int)+1 by omega]
theorem PM (A0:Act) (w0:World) (Q:Exit->Act->World->Prop) (aP:List UInt64) (bb:List UInt8) (h:Lz.St8 UInt64) (g4 c4 g c:Nat)
  (hs:A0.tmps.size=272) (t4:A0.tmps[5]? =some (.slice (some ⟨g4,0,none⟩) 80 c4)) (t10:A0.tmps[8]? =some (.slice (some ⟨g,0,none⟩) 80 c)) (t23:A0.tmps[22]? =some (.int .i64 0)) (h8:S8L A0 h)
  (sR:∀i,i<80->w0.cell? ⟨g4,i,none⟩=some (.int .u64 (N64 (aP.getD i 0)))) (hc:∀i,i<80->w0.cell? ⟨g,i,none⟩=some (.int .u64 (N64 ((Lz.az bb 80).getD i 0))))
  (ak:∀c a a' w,Q (.panic c) a w->Q (.panic c) a' w)
  (hQ:∀A' w',A'.tmps.size=272->A'.defers=A0.defers->nf A0 A'->S8L A' (Lz.eD aP bb h 80)->Below w0.heap.size w0 w'->Q .normal A' w'):
  Code.wp Tryz.prog (.block 6 (.loop (uR Tryz.f114.body))) Q A0 w0:=by
 refine wp_block (wp_loop (M5I A0 w0 aP bb h) (fun a _=>80-Fe a) ⟨0,by decide,hs,rfl,fun _ _=>rfl,t23,h8,Below.refl _ _⟩ ?_);rintro A w ⟨i,hi,hs,hd,hk,t23,h8,aC⟩;have t4:=(hk 5 (by decide)).trans t4;have t10:=(hk 8 (by decide)).trans t10;obtain⟨b23,e23⟩:=ag t23;have HI:Hid (∀A' w',M5I A0 w0 aP bb h A' w'->80-Fe A'<80-Fe A->Exit.then (fun a' w'=>M5I A0 w0 aP bb h a' w'/\80-Fe a'<80-Fe A) (Exit.inBlock 6 Q) .normal A' w'):=Ih (fun A' w' h1 h2=>⟨h1,h2⟩);have qH:=Ih ak;have HQ:=Ih hQ;have M:=IC t23;have yZ:=Ih sR;have HC:=Ih hc;clear sR hc hQ ak;rw[RP];refine wp_seq ?_
 conv=>arg 2;whnf
 go_wp2_with fail
 by_cases aL:i<80
 ·have aK:(i:Int)<80:=by omega
  refine wp_cond_true (by simp[Act.eval,hs,aK]) ?_;refine aw (fun A1 bc=>?_);have g0:A1.tmps.size=272:=by rw[bc];simp only[Array.size_setIfInBounds];exact hs
  have K1:∀k,k≠145->k≠146->A1.tmps[k]? =A.tmps[k]? :=fun k hk cf=>by
   rw[bc];simp(disch:=first |exact hk.symm|exact cf.symm) only[Array.getElem?_setIfInBounds_ne]
  have D1:A1.defers=A0.defers:=by rw[bc]
  clear bc e23 aK;have g4':=(K1 5 (by decide) (by decide)).trans t4;have om:=(K1 8 (by decide) (by decide)).trans t10;have R7:=(K1 22 (by decide) (by decide)).trans t23;have g8:=h8.kept (fun j h1 h2=>K1 j (by omega) (by omega));have HK:nf A0 A1:=hk.trans (fun k hk=>K1 k (by omega) (by omega));have kO:∀p:Addr,p.block<w0.heap.size->w.cell? p=w0.cell? p:=fun p hp=>aC.cell hp;have d4:=(kO ⟨g4,i,none⟩ (World.block_lt_of_cell? _ _ (yZ.out i aL))).trans (yZ.out i aL);have ZE:=(kO ⟨g,i,none⟩ (World.block_lt_of_cell? _ _ (HC.out i aL))).trans (HC.out i aL);clear K1 hk t4 t10 t23 h8 kO
  go_wp2_with fail
  refine RL A1 w _ _ (aP.getD i 0) ((Lz.az bb 80).getD i 0) g4 80 c4 g 80 c i g0 g4' om R7 g8 (by omega) (by omega) d4 ZE (fun c a a' w h=>qH.out c a a' w h) (fun A2 w2 z2 d2 k2 r2 b2=>?_)
  go_wp2_with fail
  refine QI A2 w2 _ _ _ z2 (g8.kept (fun j h1 h2=>k2 j (by omega) (by omega))) r2 (fun A3 w3 z3 d3 k3 r3 b3=>?_)
  go_wp2_with fail
  refine VL A3 w3 _ i aL z3 ((k3 22 (by decide)).trans ((k2 22 (by decide) (by decide)).trans R7)) (fun A4 z4 d4 k4 r4=>?_);exact HI.out A4 w3 ⟨i+1,by omega,z4,d4.trans (d3.trans (d2.trans D1)),HK.trans (fun k hk=>(k4 k (by omega) (by omega)).trans ((k3 k (by omega)).trans (k2 k (by omega) (by omega)))),r4,r3.kept (fun j h1 h2=>k4 j (by omega) (by omega)),(aC.trans (b2.mono aC.size)).trans (b3.mono (Nat.le_trans aC.size b2.size))⟩ (by rw[IC r4,M];omega)
 ·have aK:¬((i:Int)<80):=by omega
  obtain rfl:i=80:=by omega
  refine wp_cond_false (by simp[Act.eval,hs]) ?_;refine aw (fun A1 bc=>?_);have g0:A1.tmps.size=272:=by rw[bc];simp only[Array.size_setIfInBounds];exact hs
  have K1:∀k,k≠145->k≠146->A1.tmps[k]? =A.tmps[k]? :=fun k hk cf=>by
   rw[bc];simp(disch:=first |exact hk.symm|exact cf.symm) only[Array.getElem?_setIfInBounds_ne]
  have D1:A1.defers=A0.defers:=by rw[bc]
  clear bc e23 aK;have HK:nf A0 A1:=hk.trans (fun k hk=>K1 k (by omega) (by omega));have g8:=h8.kept (fun j h1 h2=>K1 j (by omega) (by omega))
  go_wp2_with fail
  exact HQ.out A1 w g0 D1 HK g8 aC
attribute [local go_sem ↓] Go.wp_at_zero Go.wp_at_succ
theorem Rx (w:World) (s:Lz.St8 UInt64):C8L (w.alloc (.cells #[.int .u64 (N64 s.a),.int .u64 (N64 s.b),.int .u64 (N64 s.c),.int .u64 (N64 s.d),.int .u64 (N64 s.e),.int .u64 (N64 s.f),.int .u64 (N64 s.g),.int .u64 (N64 s.z)] 131)) w.heap.size s:=
 ⟨rowAt (an w _) 0 _ rfl,rowAt (an w _) 1 _ rfl,rowAt (an w _) 2 _ rfl,rowAt (an w _) 3 _ rfl,rowAt (an w _) 4 _ rfl,rowAt (an w _) 5 _ rfl,rowAt (an w _) 6 _ rfl,rowAt (an w _) 7 _ rfl⟩
theorem QR (A:Act) (w:World) (Q:Exit->Act->World->Prop) (p q:Lz.St8 UInt64) (g c:Nat)
  (hs:A.tmps.size=272) (t6:A.tmps[0]? =some (.slice (some ⟨g,0,none⟩) 8 c)) (hc:C8L w g p) (h8:S8L A q)
  (ak:∀c a a' w,Q (.panic c) a w->Q (.panic c) a' w)
  (hQ:∀A' w' G,A'.tmps.size=272->A'.defers=A.defers->eI 0 210 250 A A'->A'.tmps[0]? =some (.slice (some ⟨G,0,none⟩) 8 8)->C8L w' G (Lz.xc p q)->Below w.heap.size w w'->Q .normal A' w'):
  Code.wp Tryz.prog (dn2 (dn2 (dn2 (dn2 (uk Tryz.f114.body))))) Q A w:=by
 obtain⟨b6,e6⟩:=ag t6;obtain⟨c0,c1,c2,c3,c4,c5,c6,c7⟩:=hc;obtain⟨t15,t16,t17,t18,t19,t20,t21,t22⟩:=h8;obtain⟨b15,e15⟩:=ag t15;obtain⟨b16,e16⟩:=ag t16;obtain⟨b17,e17⟩:=ag t17;obtain⟨b18,e18⟩:=ag t18;obtain⟨b19,e19⟩:=ag t19;obtain⟨b20,e20⟩:=ag t20;obtain⟨ZO,e21⟩:=ag t21;obtain⟨ZX,e22⟩:=ag t22;have oa:=kg p.a q.a;have ob:=kg p.b q.b;have oc:=kg p.c q.c;have od:=kg p.d q.d;have oe:=kg p.e q.e;have of:=kg p.f q.f;have og:=kg p.g q.g;have oz:=kg p.z q.z;have HQ:=Ih hQ;clear t6 hQ t15 t16 t17 t18 t19 t20 t21 t22
 conv=>arg 2;whnf
 refine wp_region_held_drew (S:=fun V=>Below w.heap.size w V) (by kernel_rfl) (Below.refl _ w).drew (fun af=>?_);generalize w.drew=W0 at af⊢;apply TkE ak 0 210;apply TkE ak 1 211;apply TkE ak 2 212;apply TkE ak 3 213;apply TkE ak 4 214;apply TkE ak 5 215;apply TkE ak 6 216;apply TkE ak 7 217
 iterate 8 (rotate_right 2;(·(intro W ar;(try dsimp only at ar);have d0:=(ar.cell (World.block_lt_of_cell? _ _ c0)).trans c0;have d1:=(ar.cell (World.block_lt_of_cell? _ _ c1)).trans c1;have d2:=(ar.cell (World.block_lt_of_cell? _ _ c2)).trans c2;have d3:=(ar.cell (World.block_lt_of_cell? _ _ c3)).trans c3;have d4:=(ar.cell (World.block_lt_of_cell? _ _ c4)).trans c4;have d5:=(ar.cell (World.block_lt_of_cell? _ _ c5)).trans c5;have d6:=(ar.cell (World.block_lt_of_cell? _ _ c6)).trans c6;have d7:=(ar.cell (World.block_lt_of_cell? _ _ c7)).trans c7;(try simp only[Act.put]);go_simp;try with_reducible rfl)))
 (try simp only[Act.put])
 apply TkE ak 8 218;apply TkE ak 9 219;apply TkE ak 10 220;apply TkE ak 11 221;apply TkE ak 12 222;apply TkE ak 13 223;apply TkE ak 14 224;apply TkE ak 15 225
 iterate 8 (rotate_right 2;(·(intro W ar;(try dsimp only at ar);have d0:=(ar.cell (World.block_lt_of_cell? _ _ c0)).trans c0;have d1:=(ar.cell (World.block_lt_of_cell? _ _ c1)).trans c1;have d2:=(ar.cell (World.block_lt_of_cell? _ _ c2)).trans c2;have d3:=(ar.cell (World.block_lt_of_cell? _ _ c3)).trans c3;have d4:=(ar.cell (World.block_lt_of_cell? _ _ c4)).trans c4;have d5:=(ar.cell (World.block_lt_of_cell? _ _ c5)).trans c5;have d6:=(ar.cell (World.block_lt_of_cell? _ _ c6)).trans c6;have d7:=(ar.cell (World.block_lt_of_cell? _ _ c7)).trans c7;(try simp only[Act.put]);go_simp;try with_reducible rfl)))
 (try simp only[Act.put])
 apply TkE ak 16 226;apply TkE ak 17 227;apply TkE ak 18 228;apply TkE ak 19 229;apply TkE ak 20 230;apply TkE ak 21 231;apply TkE ak 22 232;apply TkE ak 23 233
 iterate 8 (rotate_right 2;(·(intro W ar;(try dsimp only at ar);have d0:=(ar.cell (World.block_lt_of_cell? _ _ c0)).trans c0;have d1:=(ar.cell (World.block_lt_of_cell? _ _ c1)).trans c1;have d2:=(ar.cell (World.block_lt_of_cell? _ _ c2)).trans c2;have d3:=(ar.cell (World.block_lt_of_cell? _ _ c3)).trans c3;have d4:=(ar.cell (World.block_lt_of_cell? _ _ c4)).trans c4;have d5:=(ar.cell (World.block_lt_of_cell? _ _ c5)).trans c5;have d6:=(ar.cell (World.block_lt_of_cell? _ _ c6)).trans c6;have d7:=(ar.cell (World.block_lt_of_cell? _ _ c7)).trans c7;(try simp only[Act.put]);go_simp;try with_reducible rfl)))
 (try simp only[Act.put])
 apply TkE ak 24 234;apply TkE ak 25 235;apply TkE ak 26 236;apply TkE ak 27 237;apply TkE ak 28 238;apply TkE ak 29 239;apply TkE ak 30 240;apply TkE ak 31 241
 iterate 8 (rotate_right 2;(·(intro W ar;(try dsimp only at ar);have d0:=(ar.cell (World.block_lt_of_cell? _ _ c0)).trans c0;have d1:=(ar.cell (World.block_lt_of_cell? _ _ c1)).trans c1;have d2:=(ar.cell (World.block_lt_of_cell? _ _ c2)).trans c2;have d3:=(ar.cell (World.block_lt_of_cell? _ _ c3)).trans c3;have d4:=(ar.cell (World.block_lt_of_cell? _ _ c4)).trans c4;have d5:=(ar.cell (World.block_lt_of_cell? _ _ c5)).trans c5;have d6:=(ar.cell (World.block_lt_of_cell? _ _ c6)).trans c6;have d7:=(ar.cell (World.block_lt_of_cell? _ _ c7)).trans c7;(try simp only[Act.put]);go_simp;try with_reducible rfl)))
 (try simp only[Act.put])
 apply TkE ak 32 242;apply TkE ak 33 243;apply TkE ak 34 244;apply TkE ak 35 245;apply TkE ak 36 246;apply TkE ak 37 247;apply TkE ak 38 248;apply TkE ak 39 249
 iterate 8 (rotate_right 2;(·(intro W ar;(try dsimp only at ar);have d0:=(ar.cell (World.block_lt_of_cell? _ _ c0)).trans c0;have d1:=(ar.cell (World.block_lt_of_cell? _ _ c1)).trans c1;have d2:=(ar.cell (World.block_lt_of_cell? _ _ c2)).trans c2;have d3:=(ar.cell (World.block_lt_of_cell? _ _ c3)).trans c3;have d4:=(ar.cell (World.block_lt_of_cell? _ _ c4)).trans c4;have d5:=(ar.cell (World.block_lt_of_cell? _ _ c5)).trans c5;have d6:=(ar.cell (World.block_lt_of_cell? _ _ c6)).trans c6;have d7:=(ar.cell (World.block_lt_of_cell? _ _ c7)).trans c7;(try simp only[Act.put]);go_simp;try with_reducible rfl)))
 (try simp only[Act.put])
 refine wpAnyH_ready (rs:=[40]) (by kernel_rfl) (by simp) ?_;refine AllReadyH.cons rfl (fun K hK=>?_) AllReadyH.nil;go_simp;refine hK.out _ _ (af.alloc af.size _) (fun af=>?_);clear hK K
 (try simp only[Act.put])
 apply TkE ak 41 0
 iterate 1 (rotate_right 2;(·(intro W ar;(try dsimp only at ar);(try simp only[Act.put]);go_simp;try with_reducible rfl)))
 (try simp only[Act.put])
 refine wpAnyH_done (by kernel_rfl) ?_ _
 go_wp2_with fail
 refine HQ.out _ _ W0.heap.size ?_ ?_ ?_ ?_ (Rx W0 (Lz.xc p q)) af
 ·simp only[Array.size_setIfInBounds];exact hs
 ·rfl
 ·intro k hk cf
  simp(disch:=exact bf k hk cf _ (by decide)) only[Array.getElem?_setIfInBounds_ne]
 ·rw[Array.getElem?_setIfInBounds_self_of_lt (by simp only[Array.size_setIfInBounds];rw[hs];decide)]
attribute [local go_sem ↓] Go.wp_at_zero Go.wp_at_succ
def EI (b:Option Code):Code:=dnl (dnb (dn2 (dn1 (dn2 (dn2 (dn2 (dn2 (dn2 (dno b)))))))))
def Td (b:Option Code):Code:=dnb (dn1 (dn2 (EI b)))
def EG (b:Option Code):Code:=dnl (dnb (dn2 (Td b)))
def Mz (b:Option Code):Code:=dnb (dn1 (dn2 (EG b)))
theorem US:EG Tryz.f114.body=.seq (dn1 (EG Tryz.f114.body)) (.seq (.block 11 (Mz Tryz.f114.body)) (dn2 (dn2 (EG Tryz.f114.body)))):=by kernel_rfl
theorem aba (y:UInt64):IntKind.u8.wrap (N64 y)=(y.toUInt8.toNat:Int):=by
 show N64 y%256=_;unfold N64;rw[UInt64.toNat_toUInt8];omega
def pp (x:UInt64) (q:Nat):List UInt8:=(List.range q).map fun i=>(x>>>(UInt64.ofNat (56-8*i))).toUInt8
theorem Dg (x:UInt64) (q:Nat):pp x (q+1)=pp x q++[(x>>>(UInt64.ofNat (56-8*q))).toUInt8]:=by
 unfold pp;rw[List.range_succ,List.map_append];rfl
theorem FP (x:UInt64) (q:Nat):(pp x q).length=q:=by unfold pp;rw[List.length_map,List.length_range]
theorem YK (A:Act) (w:World) (Q:Exit->Act->World->Prop) (x:UInt64) (r:ByteArray) (g L c i j:Nat) (hj:j<=7) (hr:r.size<=1000)
  (hs:A.tmps.size=272) (t0:A.tmps[0]? =some (.slice (some ⟨g,0,none⟩) L c)) (t25:A.tmps[25]? =some (.string r)) (t26:A.tmps[26]? =some (.int .i64 (i:Int))) (t27:A.tmps[27]? =some (.int .i64 (j:Int)))
  (q:(0:Int)<=(i:Int)/\(i:Int)<(L:Int)) (hc:w.cell? ⟨g,i,none⟩=some (.int .u64 (N64 x)))
  (hQ:∀A' w',A'.tmps.size=272->A'.defers=A.defers->eI 25 259 270 A A'->A'.tmps[25]? =some (.string (r++⟨#[(x>>>(UInt64.ofNat (8*j))).toUInt8]⟩))->Below w.heap.size w w'->Q .normal A' w'):
  Code.wp Tryz.prog (Mz Tryz.f114.body) Q A w:=by
 obtain⟨b0,e0⟩:=ag t0;obtain⟨b25,e25⟩:=ag t25;obtain⟨b26,e26⟩:=ag t26;obtain⟨b27,e27⟩:=ag t27;obtain⟨k8,Sq⟩:∃k8,k8=8*j:=⟨_,rfl⟩;have f8:IntKind.i64.wrap (8*(j:Int))=(k8:Int):=by rw[IntWalk.i64_in _ (by omega)];omega
 have AI:(0:Int)<=(k8:Int):=by omega
 have tM:(k8:Int)<=64:=by omega
 have s1:=Ed x k8 (by omega);have l1:=aba (x>>>UInt64.ofNat k8);rw[<-Sq]at hQ;generalize x>>>UInt64.ofNat k8=y at s1 l1 hQ;generalize y.toUInt8=u at l1 hQ;have Xi:¬(9223372036854775807<r.size+1):=by omega
 have kL:=sM u (w.alloc (.cells #[.int .u8 (u.toNat:Int)] 5)) w.heap.size (rowAt (an _ _) 0 _ rfl);have hbA:=(Below.refl w.heap.size w).alloc (Nat.le_refl _) (.cells #[.int .u8 (u.toNat:Int)] 5);have HQ:=Ih hQ;have HB:=Ih hbA;clear hQ Sq t0 t25 t26 t27 hbA
 conv=>arg 2;whnf
 go_wp2_with fail
 refine HQ.out _ _ ?_ ?_ ?_ ?_ HB.out
 ·simp only[Array.size_setIfInBounds];exact hs
 ·rfl
 ·intro k hk cf
  simp(disch:=exact bf k hk cf _ (by decide)) only[Array.getElem?_setIfInBounds_ne]
 ·rw[Array.getElem?_setIfInBounds_self_of_lt (by simp only[Array.size_setIfInBounds];rw[hs];decide)]
theorem Y4 (A:Act) (w:World) (Q:Exit->Act->World->Prop) (q:Nat) (hq:q<=7) (hs:A.tmps.size=272) (t27:A.tmps[27]? =some (.int .i64 (7-(q:Int))))
  (hQ:∀A',A'.tmps.size=272->A'.defers=A.defers->eI 27 257 258 A A'->A'.tmps[27]? =some (.int .i64 (7-((q+1:Nat):Int)))->Q .normal A' w):
  Code.wp Tryz.prog (dn2 (dn2 (EG Tryz.f114.body))) Q A w:=by
 obtain⟨z,hz⟩:∃z:Int,z=7-(q:Int):=⟨_,rfl⟩;rw[<-hz]at t27;obtain⟨b27,e27⟩:=ag t27;obtain⟨y,hy⟩:∃y:Int,y=7-((q+1:Nat):Int):=⟨_,rfl⟩;have f1:IntKind.i64.wrap (z-1)=y:=by rw[IntWalk.i64_in _ (by omega)];omega
 rw[<-hy]at hQ;have HQ:=Ih hQ;clear hQ hz hy
 conv=>arg 2;whnf
 go_wp2_with fail
 refine HQ.out _ ?_ ?_ ?_ ?_
 ·simp only[Array.size_setIfInBounds];exact hs
 ·rfl
 ·intro k hk cf
  simp(disch:=exact bf k hk cf _ (by decide)) only[Array.getElem?_setIfInBounds_ne]
 ·rw[Array.getElem?_setIfInBounds_self_of_lt (by simp only[Array.size_setIfInBounds];rw[hs];decide)]
def u7 (A A':Act):Prop:=∀k,(k<25\/k=26\/(27<k/\k<255)\/270<k)->A'.tmps[k]? =A.tmps[k]?
theorem u7.trans {A B C:Act} (h:u7 A B) (k:u7 B C):u7 A C:=fun i hi=>(k i hi).trans (h i hi)
def FH (A:Act):Nat:=(intOf ((A.tmps[27]?).getD (.bool false))+1).toNat
theorem Ip {A:Act} {q:Nat} (h:A.tmps[27]? =some (.int .i64 (7-(q:Int)))):FH A=8-q:=by unfold FH;rw[h];show((7-(q:Int))+1).toNat=_;omega
def NI (A0:Act) (w0:World) (x:UInt64) (l:List UInt8) (A:Act) (w:World):Prop:=∃(q:Nat) (r:ByteArray),q<=8/\A.tmps.size=272/\A.defers=A0.defers/\u7 A0 A/\A.tmps[27]? =some (.int .i64 (7-(q:Int)))/\A.tmps[25]? =some (.string r)/\r.data.toList=l++pp x q/\Below w0.heap.size w0 w
theorem Un (A0:Act) (w0:World) (Q:Exit->Act->World->Prop) (x:UInt64) (r0:ByteArray) (g L c i:Nat) (pA:r0.size<=900)
  (hs:A0.tmps.size=272) (t0:A0.tmps[0]? =some (.slice (some ⟨g,0,none⟩) L c)) (t25:A0.tmps[25]? =some (.string r0)) (t26:A0.tmps[26]? =some (.int .i64 (i:Int))) (t27:A0.tmps[27]? =some (.int .i64 7))
  (hi:(0:Int)<=(i:Int)/\(i:Int)<(L:Int)) (hc:w0.cell? ⟨g,i,none⟩=some (.int .u64 (N64 x)))
  (hQ:∀A' w' r,A'.tmps.size=272->A'.defers=A0.defers->u7 A0 A'->A'.tmps[25]? =some (.string r)->r.data.toList=r0.data.toList++Lz.iZ x->Below w0.heap.size w0 w'->Q .normal A' w'):
  Code.wp Tryz.prog (.block 10 (.loop (EG Tryz.f114.body))) Q A0 w0:=by
 refine wp_block (wp_loop (NI A0 w0 x r0.data.toList) (fun a _=>FH a) ⟨0,r0,by decide,hs,rfl,fun _ _=>rfl,t27,t25,by simp[pp],Below.refl _ _⟩ ?_);rintro A w ⟨q,r,hq,hs,hd,hk,t27,t25,hr,aC⟩;have t0:=(hk 0 (by decide)).trans t0;have t26:=(hk 26 (by decide)).trans t26
 have AC:r.size<=1000:=by
  have h1:r.size=r0.size+q:=by rw[<-ac,hr,List.length_append,FP,ac]
  omega
 have M:=Ip t27;obtain⟨z,hz⟩:∃z:Int,z=7-(q:Int):=⟨_,rfl⟩;have Xl:=t27;rw[<-hz]at Xl;obtain⟨b27,e27⟩:=ag Xl;have HI:Hid (∀A' w',NI A0 w0 x r0.data.toList A' w'->FH A'<FH A->Exit.then (fun a' w'=>NI A0 w0 x r0.data.toList a' w'/\FH a'<FH A) (Exit.inBlock 10 Q) .normal A' w'):=Ih (fun A' w' h1 h2=>⟨h1,h2⟩);have HQ:=Ih hQ;have HR:=Ih hr;have HC:=Ih ((aC.cell (World.block_lt_of_cell? _ _ hc)).trans hc);have HT:=Ih t27;have HZ:=Ih hz;have HM:=Ih M;clear hc hQ hr t27 hz M Xl;rw[US];refine wp_seq ?_
 conv=>arg 2;whnf
 go_wp2_with fail
 by_cases aL:q<8
 ·have aK:(0:Int)<=z:=by have:=HZ.out;omega
  refine wp_cond_true (by simp[Act.eval,hs,aK]) ?_;refine aw (fun A1 bc=>?_);have g0:A1.tmps.size=272:=by rw[bc];simp only[Array.size_setIfInBounds];exact hs
  have K1:∀k,k≠255->k≠256->A1.tmps[k]? =A.tmps[k]? :=fun k hk cf=>by
   rw[bc];simp(disch:=first |exact hk.symm|exact cf.symm) only[Array.getElem?_setIfInBounds_ne]
  have D1:A1.defers=A0.defers:=by rw[bc];try exact hd
  clear bc e27 aK;have u0:=(K1 0 (by decide) (by decide)).trans t0;have u25:=(K1 25 (by decide) (by decide)).trans t25;have u26:=(K1 26 (by decide) (by decide)).trans t26;have u27:=(K1 27 (by decide) (by decide)).trans HT.out;have HK:u7 A0 A1:=hk.trans (fun k hk=>K1 k (by omega) (by omega));clear K1 hk t0 t25 t26;obtain⟨j,hj⟩:∃j,j=7-q:=⟨_,rfl⟩;have ej:(7:Int)-(q:Int)=(j:Int):=by omega
  have e8:56-8*q=8*j:=by omega
  go_wp2_with fail
  refine YK A1 w _ x r g L c i j (by omega) AC g0 u0 u25 u26 (by rw[<-ej];exact u27) hi HC.out (fun A2 w2 z2 d2 k2 r2 b2=>?_)
  go_wp2_with fail
  refine Y4 A2 w2 _ q (by omega) z2 ((k2 27 (by decide) (by decide)).trans u27) (fun A3 z3 d3 k3 r3=>?_);exact HI.out A3 w2 ⟨q+1,_,by omega,z3,d3.trans (d2.trans D1),HK.trans (fun k hk=>(k3 k (by omega) (by omega)).trans (k2 k (by omega) (by omega))),r3,(k3 25 (by decide) (by decide)).trans r2,by rw[Dg,e8,<-List.append_assoc,<-HR.out,ByteArray.data_append,Array.toList_append],aC.trans (b2.mono aC.size)⟩ (by rw[Ip r3,HM.out];omega)
 ·have aK:¬((0:Int)<=z):=by have:=HZ.out;omega
  have hq8:q=8:=by omega
  refine wp_cond_false (by simp[Act.eval,hs,aK];try omega) ?_;refine aw (fun A1 bc=>?_);have g0:A1.tmps.size=272:=by rw[bc];simp only[Array.size_setIfInBounds];exact hs
  have K1:∀k,k≠255->k≠256->A1.tmps[k]? =A.tmps[k]? :=fun k hk cf=>by
   rw[bc];simp(disch:=first |exact hk.symm|exact cf.symm) only[Array.getElem?_setIfInBounds_ne]
  have D1:A1.defers=A0.defers:=by rw[bc];try exact hd
  have u25:=(K1 25 (by decide) (by decide)).trans t25;clear bc e27 aK
  go_wp2_with fail
  exact HQ.out A1 w r g0 D1 (hk.trans (fun k hk=>K1 k (by omega) (by omega))) u25 (by rw[HR.out,hq8];rfl) aC
def UE (b:Option Code):Code:=.block 10 (.loop (EG b))
theorem U6:EI Tryz.f114.body=.seq (dn1 (EI Tryz.f114.body)) (.seq (.block 9 (.seq (dn1 (Td Tryz.f114.body)) (UE Tryz.f114.body))) (dn2 (dn2 (EI Tryz.f114.body)))):=by kernel_rfl
def yN (A A':Act):Prop:=∀k,(k<25\/(27<k/\k<251)\/270<k)->A'.tmps[k]? =A.tmps[k]?
theorem yN.trans {A B C:Act} (h:yN A B) (k:yN B C):yN A C:=fun i hi=>(k i hi).trans (h i hi)
def EN (A:Act):Nat:=(intOf ((A.tmps[26]?).getD (.bool false))).toNat
theorem GN {A:Act} {i:Nat} (h:A.tmps[26]? =some (.int .i64 (i:Int))):EN A=i:=by unfold EN;rw[h];rfl
def Kh (h:Lz.St8 UInt64) (i:Nat):List UInt8:=(h.list.take i).flatMap Lz.iZ
theorem Ky (h:Lz.St8 UInt64) (i:Nat) (hi:i<8):Kh h (i+1)=Kh h i++Lz.iZ (h.list.getD i 0):=by
 have hl:i<h.list.length:=hi;unfold Kh;rw[List.take_add_one,List.flatMap_append,List.getElem?_eq_getElem hl,List.getD_eq_getElem?_getD,List.getElem?_eq_getElem hl]
 simp
theorem Oc (h:Lz.St8 UInt64) (i:Nat):(Kh h i).length<=64:=by
 have h1:∀l:List UInt64,(l.flatMap Lz.iZ).length=8*l.length:=by
  intro l
  induction l with
  | nil=>rfl
  | cons a r ih=>rw[List.flatMap_cons,List.length_append,ih,List.length_cons];show 8+_=_;omega
 unfold Kh;rw[h1,List.length_take];have:h.list.length=8:=rfl;omega
theorem C8L.at {w:World} {g:Nat} {s:Lz.St8 UInt64} (h:C8L w g s) (i:Nat) (hi:i<8):w.cell? ⟨g,i,none⟩=some (.int .u64 (N64 (s.list.getD i 0))):=by
 obtain⟨c0,c1,c2,c3,c4,c5,c6,c7⟩:=h
 match i,hi with
 | 0,_=>exact c0
 | 1,_=>exact c1
 | 2,_=>exact c2
 | 3,_=>exact c3
 | 4,_=>exact c4
 | 5,_=>exact c5
 | 6,_=>exact c6
 | 7,_=>exact c7
def M6I (A0:Act) (w0:World) (h:Lz.St8 UInt64) (A:Act) (w:World):Prop:=∃(i:Nat) (r:ByteArray),i<=8/\A.tmps.size=272/\A.defers=A0.defers/\yN A0 A/\A.tmps[26]? =some (.int .i64 (i:Int))/\A.tmps[25]? =some (.string r)/\r.data.toList=Kh h i/\Below w0.heap.size w0 w
theorem Yc (A:Act) (w:World) (Q:Exit->Act->World->Prop) (i:Nat) (hi:i<8) (hs:A.tmps.size=272) (t26:A.tmps[26]? =some (.int .i64 (i:Int)))
  (hQ:∀A',A'.tmps.size=272->A'.defers=A.defers->eI 26 253 254 A A'->A'.tmps[26]? =some (.int .i64 ((i+1:Nat):Int))->Q .normal A' w):
  Code.wp Tryz.prog (dn2 (dn2 (EI Tryz.f114.body))) Q A w:=by
 obtain⟨b26,e26⟩:=ag t26;have f1:IntKind.i64.wrap ((i:Int)+1)=((i+1:Nat):Int):=by rw[IntWalk.i64_in _ (by omega)];omega
 have HQ:=Ih hQ;clear hQ f1
 conv=>arg 2;whnf
 go_wp2_with fail
 refine HQ.out _ ?_ ?_ ?_ ?_
 ·simp only[Array.size_setIfInBounds];exact hs
 ·rfl
 ·intro k hk cf
  simp(disch:=exact bf k hk cf _ (by decide)) only[Array.getElem?_setIfInBounds_ne]
 ·rw[Array.getElem?_setIfInBounds_self_of_lt (by simp only[Array.size_setIfInBounds];rw[hs];decide)];rw[show((i+1:Nat):Int)=(i:Int)+1 by omega]
theorem Qt (A0:Act) (w0:World) (Q:Exit->Act->World->Prop) (h:Lz.St8 UInt64) (g c:Nat)
  (hs:A0.tmps.size=272) (t0:A0.tmps[0]? =some (.slice (some ⟨g,0,none⟩) 8 c)) (t25:A0.tmps[25]? =some (.string ⟨#[]⟩)) (t26:A0.tmps[26]? =some (.int .i64 0)) (lW:C8L w0 g h)
  (hQ:∀A' w' r,A'.tmps.size=272->A'.defers=A0.defers->A'.tmps[25]? =some (.string r)->r.data.toList=Lz.BA h->Below w0.heap.size w0 w'->Q .normal A' w'):
  Code.wp Tryz.prog (.block 8 (.loop (EI Tryz.f114.body))) Q A0 w0:=by
 refine wp_block (wp_loop (M6I A0 w0 h) (fun a _=>8-EN a) ⟨0,⟨#[]⟩,by decide,hs,rfl,fun _ _=>rfl,t26,t25,rfl,Below.refl _ _⟩ ?_);rintro A w ⟨i,r,hi,hs,hd,hk,t26,t25,hr,aC⟩;have t0:=(hk 0 (by decide)).trans t0;have AC:r.size<=900:=by have h1:=Oc h i;rw[<-hr,ac]at h1;omega
 obtain⟨b26,e26⟩:=ag t26;have HI:Hid (∀A' w',M6I A0 w0 h A' w'->8-EN A'<8-EN A->Exit.then (fun a' w'=>M6I A0 w0 h a' w'/\8-EN a'<8-EN A) (Exit.inBlock 8 Q) .normal A' w'):=Ih (fun A' w' h1 h2=>⟨h1,h2⟩);have HQ:=Ih hQ;have M:=Ih (GN t26);have HC0:=Ih lW;have HR:=Ih hr;clear lW hQ hr;rw[U6];refine wp_seq ?_
 conv=>arg 2;whnf
 go_wp2_with fail
 by_cases aL:i<8
 ·have aK:(i:Int)<8:=by omega
  refine wp_cond_true (by simp[Act.eval,hs,aK]) ?_;refine aw (fun A1 bc=>?_);have g0:A1.tmps.size=272:=by rw[bc];simp only[Array.size_setIfInBounds];exact hs
  have K1:∀k,k≠251->k≠252->A1.tmps[k]? =A.tmps[k]? :=fun k hk cf=>by
   rw[bc];simp(disch:=first |exact hk.symm|exact cf.symm) only[Array.getElem?_setIfInBounds_ne]
  have D1:A1.defers=A0.defers:=by rw[bc];try exact hd
  clear bc e26 aK;have u0:=(K1 0 (by decide) (by decide)).trans t0;have u25:=(K1 25 (by decide) (by decide)).trans t25;have u26:=(K1 26 (by decide) (by decide)).trans t26;have HK:yN A0 A1:=hk.trans (fun k hk=>K1 k (by omega) (by omega));have d0:=(aC.cell (World.block_lt_of_cell? _ _ (HC0.out.at i aL))).trans (HC0.out.at i aL);clear K1 hk t0 t25 t26
  go_wp2_with fail
  conv=>arg 2;whnf
  go_wp2_with fail
  refine aw (fun A2 AL=>?_);have z2:A2.tmps.size=272:=by rw[AL];simp only[Array.size_setIfInBounds];exact g0
  have K2:∀k,k≠27->A2.tmps[k]? =A1.tmps[k]? :=fun k hk=>by
   rw[AL];simp(disch:=exact hk.symm) only[Array.getElem?_setIfInBounds_ne]
  have XX:A2.tmps[27]? =some (.int .i64 7):=by rw[AL];simp only[Array.getElem?_setIfInBounds,g0];rfl
  have D2:A2.defers=A0.defers:=by rw[AL];try exact D1
  clear AL;refine Un A2 w _ (h.list.getD i 0) r g 8 c i AC z2 ((K2 0 (by decide)).trans u0) ((K2 25 (by decide)).trans u25) ((K2 26 (by decide)).trans u26) XX (by omega) d0 (fun A3 w3 r3 z3 d3 k3 p3 pB b3=>?_)
  go_wp2_with fail
  refine Yc A3 w3 _ i aL z3 ((k3 26 (by decide)).trans ((K2 26 (by decide)).trans u26)) (fun A4 z4 d4 k4 p4=>?_);exact HI.out A4 w3 ⟨i+1,r3,by omega,z4,d4.trans (d3.trans D2),HK.trans (fun k hk=>(k4 k (by omega) (by omega)).trans ((k3 k (by omega)).trans (K2 k (by omega)))),p4,(k4 25 (by decide) (by decide)).trans p3,by rw[Ky h i aL,<-HR.out];exact pB,aC.trans (b3.mono aC.size)⟩ (by rw[GN p4,M.out];omega)
 ·have aK:¬((i:Int)<8):=by omega
  obtain rfl:i=8:=by omega
  refine wp_cond_false (by simp[Act.eval,hs]) ?_;refine aw (fun A1 bc=>?_);have g0:A1.tmps.size=272:=by rw[bc];simp only[Array.size_setIfInBounds];exact hs
  have K1:∀k,k≠251->k≠252->A1.tmps[k]? =A.tmps[k]? :=fun k hk cf=>by
   rw[bc];simp(disch:=first |exact hk.symm|exact cf.symm) only[Array.getElem?_setIfInBounds_ne]
  have D1:A1.defers=A0.defers:=by rw[bc];try exact hd
  have u25:=(K1 25 (by decide) (by decide)).trans t25;clear bc e26 aK
  go_wp2_with fail
  exact HQ.out A1 w r g0 D1 u25 (by rw[HR.out];rfl) aC
end Go.Proofs.YtibcmemcfjhgmaaGreatDoor
