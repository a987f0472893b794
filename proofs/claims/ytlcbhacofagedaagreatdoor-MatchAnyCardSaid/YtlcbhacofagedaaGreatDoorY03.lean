/-
  The walks of package ascii and of the predicates on bytes in package sources: each returns what its plain function says, and leaves the world as it was, or lays
-/
import Derived.Test.YtlcbhacofagedaaGreatDoorY01
import Derived.Test.YtlcbhacofagedaaGreatDoorY02
import Derived.Test.YtlcbhacofagedaaGreatDoorProg
set_option maxRecDepth 100000
namespace Go.Proofs.YtlcbhacofagedaaGreatDoor
open Go.RowKit
theorem d9 (c:UInt8):(c.toNat:Int)<256:=by have:=c.toNat_lt;omega
theorem Us (c:UInt8):(decide (97<=bits BinOp.or IntKind.u8 (c.toNat:Int) 32)&&decide (bits BinOp.or IntKind.u8 (c.toNat:Int) 32<=122))=Lz.aW c:=by
 revert c
 exact Lz.au (by decide +kernel)
theorem Vr (c:UInt8):decide (((c.toNat:Int)-48)%256<10)=Lz.aA c:=by
 revert c
 exact Lz.au (by decide +kernel)
theorem XX (c:UInt8):((Lz.low1 c).toNat:Int)=if 65<=(c.toNat:Int)/\(c.toNat:Int)<=90 then(c.toNat:Int)+97-65 else c.toNat:=by
 revert c
 exact Lz.au (by decide +kernel)
theorem kz (c:UInt8) (w:World):Calls Tryz.prog 146 #[.int .u8 c.toNat] w fun e w'=>e=.returned (.bool (Lz.aW c))/\w=w':=by
 have hc:=d9 c;rw[<-Us];go_enter Tryz.func146,Tryz.ntmps146
 go_wp2
 ·go_ret;rename_i h;exact⟨by rw[decide_eq_true h];rfl,rfl⟩
 ·go_ret;rename_i h;exact⟨by rw[decide_eq_false (by omega)];rfl,rfl⟩
theorem kK (c:UInt8) (w:World):Calls Tryz.prog 169 #[.int .u8 c.toNat] w fun e w'=>e=.returned (.bool (Lz.aA c))/\w=w':=by
 have hc:=d9 c;rw[<-Vr];go_enter Tryz.func169,Tryz.ntmps169
 go_wp2
 go_ret;exact⟨rfl,rfl⟩
theorem rq (c:UInt8) (w:World):Calls Tryz.prog 63 #[.int .u8 c.toNat] w fun e w'=>e=.returned (.int .u8 (Lz.low1 c).toNat)/\w=w':=by
 have hc:=d9 c;have H:=Ih (XX c);go_enter Tryz.func63,Tryz.ntmps63
 go_wp2
 all_goals go_ret
 ·rename_i h1 h2;exact⟨by rw[H.out,if_pos ⟨h1,h2⟩];rfl,rfl⟩
 ·rename_i h1 h2;exact⟨by rw[H.out,if_neg (by omega)];rfl,rfl⟩
 ·rename_i h1;exact⟨by rw[H.out,if_neg (by omega)];rfl,rfl⟩
theorem IQ (s:ByteArray) (hs:s.size<=1073741824) (w:World):Calls Tryz.prog 99 #[.string s] w fun e w'=>e=.returned (.string ⟨(Lz.low s.data.toList).toArray⟩)/\Below w.heap.size w w':=by
 have kb:=run_bytes_of_string (P:=Tryz.prog) w 9 63 5 s Tryz.underlying9 Tryz.underlying63 Tryz.underlying5;obtain⟨cap,nk⟩:∃cap,cap=grownCap w s.size 0 5:=⟨_,rfl⟩;rw[<-nk]at kb;clear nk;obtain⟨l,hl⟩:∃l,l=s.data.toList:=⟨_,rfl⟩;have bv:l.length=s.size:=by rw[hl];exact aa s
 have vJ:=yZ w s cap 5;rw[<-hl]at vJ;rw[<-hl];have kS:=Ih bv;have Ts:=Ih vJ;clear bv hl vJ;go_enter Tryz.func99,Tryz.ntmps99
 go_wp2
 go_loopw [10] (fun i wr=>∃k:Nat,k<=s.size/\i=.int .i64 k/\jY wr w.heap.size (Lz.low (l.take k)++l.drop k)/\Below w.heap.size w wr) (fun i _=>s.size-(intOf i).toNat)
 case atStart=>exact⟨0,Nat.zero_le _,rfl,Ts.out,((Below.refl _ w).alloc (Nat.le_refl _) _).drew⟩
 case round=>
  obtain⟨k,hk,rfl,bN,hb⟩:=hrel;clear kb Ts;by_cases aN:k<s.size
  ·obtain⟨c,sV⟩:∃c,l[k]? =some c:=⟨_,List.getElem?_eq_getElem (by rw[kS.out];omega)⟩;have hlk:(Lz.low (l.take k)).length=k:=by simp only[Lz.low,List.length_map,List.length_take,kS.out];omega
   obtain⟨h1,h2⟩:=bN k c (by rw[List.getElem?_append_right (by omega),hlk];simpa using sV);have qF:=bN.set k (Lz.low1 c)
   rw[show(Lz.low (l.take k)++l.drop k).set k (Lz.low1 c)=Lz.low (l.take (k+1))++l.drop (k+1) by
    rw[List.set_append_right _ _ (by omega),hlk,Nat.sub_self];have sW:k<l.length:=by rw[kS.out];exact aN
    rw[List.drop_eq_getElem_cons sW,List.set_cons_zero];have WY:l[k]=c:=by rw[List.getElem?_eq_getElem sW]at sV;exact Option.some.inj sV
    rw[List.take_succ_eq_append_getElem sW,WY]
    simp[Lz.low]]at qF
   have HR:=Ih qF;clear bN qF sV hlk kS
   go_wp2_with (go_at_call 63;refine(rq _ _).mono ?_;rintro e w' ⟨rfl,rfl⟩)
   go_roundw
   case rel=>exact⟨k+1,by omega,by go_num,HR.out,hb.setCell (Nat.le_refl _) _⟩
   case measure=>simp[intOf];omega
  ·have Pm:k=s.size:=by omega
   have Pe:=run_convert_bytes_back (P:=Tryz.prog) wr 63 9 5 ⟨w.heap.size,0,none⟩ cap (Lz.low l) Tryz.underlying63 Tryz.underlying5 Tryz.underlying9 (by
    intro j hj;have h:=bN j (Lz.low l)[j] (by rw[Pm,<-kS.out,List.take_length,List.drop_length,List.append_nil];exact List.getElem?_eq_getElem hj);have ha:(⟨w.heap.size,0,none⟩:Addr).add j=⟨w.heap.size,j,none⟩:=fa _ j;rw[ha];exact h.1)
   rw[show(Lz.low l).length=s.size by rw[<-kS.out];simp[Lz.low]]at Pe;clear bN kS Pm
   go_wp2
   go_ret;exact⟨rfl,hb⟩
end Go.Proofs.YtlcbhacofagedaaGreatDoor
