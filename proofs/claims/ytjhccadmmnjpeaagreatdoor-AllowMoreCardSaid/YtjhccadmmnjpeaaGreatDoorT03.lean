/-
  The walks of package ascii and of the predicates on bytes in package sources: each returns what its plain function says, and leaves the world as it was, or lays
-/
import Derived.Test.YtjhccadmmnjpeaaGreatDoorT01
import Derived.Test.YtjhccadmmnjpeaaGreatDoorT02
import Derived.Test.YtjhccadmmnjpeaaGreatDoorProg
set_option maxRecDepth 100000
namespace Go.Proofs.YtjhccadmmnjpeaaGreatDoor
open Go.RowKit
theorem byte_lt (c:UInt8):(c.toNat:Int)<256:=by have:=c.toNat_lt;omega
theorem alphaI (c:UInt8):(decide (97<=bits BinOp.or IntKind.u8 (c.toNat:Int) 32)&&decide (bits BinOp.or IntKind.u8 (c.toNat:Int) 32<=122))=Lz.isAlpha c:=by
 revert c
 exact Lz.byte_all (by decide +kernel)
theorem digitI (c:UInt8):decide (((c.toNat:Int)-48)%256<10)=Lz.isDigit c:=by
 revert c
 exact Lz.byte_all (by decide +kernel)
theorem low1I (c:UInt8):((Lz.low1 c).toNat:Int)=if 65<=(c.toNat:Int)/\(c.toNat:Int)<=90 then(c.toNat:Int)+97-65 else c.toNat:=by
 revert c
 exact Lz.byte_all (by decide +kernel)
theorem Alpha_any (c:UInt8) (w:World):Calls Tryz.prog 152 #[.int .u8 c.toNat] w fun e w'=>e=.returned (.bool (Lz.isAlpha c))/\w=w':=by
 have hc:=byte_lt c;rw[<-alphaI];go_enter Tryz.func152,Tryz.ntmps152
 go_wp2
 ·go_ret;rename_i h;exact⟨by rw[decide_eq_true h];rfl,rfl⟩
 ·go_ret;rename_i h;exact⟨by rw[decide_eq_false (by omega)];rfl,rfl⟩
theorem Digit_any (c:UInt8) (w:World):Calls Tryz.prog 153 #[.int .u8 c.toNat] w fun e w'=>e=.returned (.bool (Lz.isDigit c))/\w=w':=by
 have hc:=byte_lt c;rw[<-digitI];go_enter Tryz.func153,Tryz.ntmps153
 go_wp2
 go_ret;exact⟨rfl,rfl⟩
theorem lower_any (c:UInt8) (w:World):Calls Tryz.prog 77 #[.int .u8 c.toNat] w fun e w'=>e=.returned (.int .u8 (Lz.low1 c).toNat)/\w=w':=by
 have hc:=byte_lt c;have H:=Ih (low1I c);go_enter Tryz.func77,Tryz.ntmps77
 go_wp2
 all_goals go_ret
 ·rename_i h1 h2;exact⟨by rw[H.out,if_pos ⟨h1,h2⟩];rfl,rfl⟩
 ·rename_i h1 h2;exact⟨by rw[H.out,if_neg (by omega)];rfl,rfl⟩
 ·rename_i h1;exact⟨by rw[H.out,if_neg (by omega)];rfl,rfl⟩
theorem Lower_any (s:ByteArray) (hs:s.size<=1073741824) (w:World):Calls Tryz.prog 123 #[.string s] w fun e w'=>e=.returned (.string ⟨(Lz.low s.data.toList).toArray⟩)/\Below w.heap.size w w':=by
 have kb:=run_bytes_of_string (P:=Tryz.prog) w 9 30 5 s Tryz.underlying9 Tryz.underlying30 Tryz.underlying5;obtain⟨cap,hcap⟩:∃cap,cap=grownCap w s.size 0 5:=⟨_,rfl⟩;rw[<-hcap]at kb;clear hcap;obtain⟨l,hl⟩:∃l,l=s.data.toList:=⟨_,rfl⟩;have hlen:l.length=s.size:=by rw[hl];exact len_of_size s
 have hmade:=byteRow_made w s cap 5;rw[<-hl]at hmade;rw[<-hl];have Hlen:=Ih hlen;have Hmade:=Ih hmade;clear hlen hl hmade;go_enter Tryz.func123,Tryz.ntmps123
 go_wp2
 go_loopw [10] (fun i wr=>∃k:Nat,k<=s.size/\i=.int .i64 k/\ByteRow wr w.heap.size (Lz.low (l.take k)++l.drop k)/\Below w.heap.size w wr) (fun i _=>s.size-(intOf i).toNat)
 case atStart=>exact⟨0,Nat.zero_le _,rfl,Hmade.out,((Below.refl _ w).alloc (Nat.le_refl _) _).drew⟩
 case round=>
  obtain⟨k,hk,rfl,hrow,hb⟩:=hrel;clear kb Hmade;by_cases hlt:k<s.size
  ·obtain⟨c,hcv⟩:∃c,l[k]? =some c:=⟨_,List.getElem?_eq_getElem (by rw[Hlen.out];omega)⟩;have hlk:(Lz.low (l.take k)).length=k:=by simp only[Lz.low,List.length_map,List.length_take,Hlen.out];omega
   obtain⟨h1,h2⟩:=hrow k c (by rw[List.getElem?_append_right (by omega),hlk];simpa using hcv);have hrow':=hrow.set k (Lz.low1 c)
   rw[show(Lz.low (l.take k)++l.drop k).set k (Lz.low1 c)=Lz.low (l.take (k+1))++l.drop (k+1) by
    rw[List.set_append_right _ _ (by omega),hlk,Nat.sub_self];have hlt':k<l.length:=by rw[Hlen.out];exact hlt
    rw[List.drop_eq_getElem_cons hlt',List.set_cons_zero];have hck:l[k]=c:=by rw[List.getElem?_eq_getElem hlt']at hcv;exact Option.some.inj hcv
    rw[List.take_succ_eq_append_getElem hlt',hck]
    simp[Lz.low]]at hrow'
   have HR:=Ih hrow';clear hrow hrow' hcv hlk Hlen
   go_wp2_with (go_at_call 77;refine(lower_any _ _).mono ?_;rintro e w' ⟨rfl,rfl⟩)
   go_roundw
   case rel=>exact⟨k+1,by omega,by go_num,HR.out,hb.setCell (Nat.le_refl _) _⟩
   case measure=>simp[intOf];omega
  ·have hks:k=s.size:=by omega
   have hcb:=run_convert_bytes_back (P:=Tryz.prog) wr 30 9 5 ⟨w.heap.size,0,none⟩ cap (Lz.low l) Tryz.underlying30 Tryz.underlying5 Tryz.underlying9 (by
    intro j hj;have h:=hrow j (Lz.low l)[j] (by rw[hks,<-Hlen.out,List.take_length,List.drop_length,List.append_nil];exact List.getElem?_eq_getElem hj);have ha:(⟨w.heap.size,0,none⟩:Addr).add j=⟨w.heap.size,j,none⟩:=addr_add _ j;rw[ha];exact h.1)
   rw[show(Lz.low l).length=s.size by rw[<-Hlen.out];simp[Lz.low]]at hcb;clear hrow Hlen hks
   go_wp2
   go_ret;exact⟨rfl,hb⟩
end Go.Proofs.YtjhccadmmnjpeaaGreatDoor
