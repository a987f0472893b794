/-
  The walks of package ascii and of the predicates on bytes in package sources: each returns what its plain function says, and leaves the world as it was, or lays
-/
import Derived.Test.YtecoeebjaleeiaaGreatDoorJ01
import Derived.Test.YtecoeebjaleeiaaGreatDoorJ02
import Derived.Test.YtecoeebjaleeiaaGreatDoorProg
set_option maxRecDepth 100000
namespace Go.Proofs.YtecoeebjaleeiaaGreatDoor
open Go.RowKit
theorem jz (c:UInt8):(c.toNat:Int)<256:=by have:=c.toNat_lt;omega
theorem UO (c:UInt8):(decide (97<=bits BinOp.or IntKind.u8 (c.toNat:Int) 32)&&decide (bits BinOp.or IntKind.u8 (c.toNat:Int) 32<=122))=Lz.bG c:=by
 revert c
 exact Lz.aJ (by decide +kernel)
theorem UG (c:UInt8):decide (((c.toNat:Int)-48)%256<10)=Lz.bj c:=by
 revert c
 exact Lz.aJ (by decide +kernel)
theorem Y4 (c:UInt8):((Lz.low1 c).toNat:Int)=if 65<=(c.toNat:Int)/\(c.toNat:Int)<=90 then(c.toNat:Int)+97-65 else c.toNat:=by
 revert c
 exact Lz.aJ (by decide +kernel)
theorem lY (c:UInt8) (w:World):Calls Tryz.prog 89 #[.int .u8 c.toNat] w fun e w'=>e=.returned (.bool (Lz.bG c))/\w=w':=by
 have hc:=jz c;rw[<-UO];go_enter Tryz.func89,Tryz.ntmps89
 go_wp2
 ·go_ret;rename_i h;exact⟨by rw[decide_eq_true h];rfl,rfl⟩
 ·go_ret;rename_i h;exact⟨by rw[decide_eq_false (by omega)];rfl,rfl⟩
theorem mb (c:UInt8) (w:World):Calls Tryz.prog 90 #[.int .u8 c.toNat] w fun e w'=>e=.returned (.bool (Lz.bj c))/\w=w':=by
 have hc:=jz c;rw[<-UG];go_enter Tryz.func90,Tryz.ntmps90
 go_wp2
 go_ret;exact⟨rfl,rfl⟩
theorem sS (c:UInt8) (w:World):Calls Tryz.prog 46 #[.int .u8 c.toNat] w fun e w'=>e=.returned (.int .u8 (Lz.low1 c).toNat)/\w=w':=by
 have hc:=jz c;have H:=Ih (Y4 c);go_enter Tryz.func46,Tryz.ntmps46
 go_wp2
 all_goals go_ret
 ·rename_i h1 h2;exact⟨by rw[H.out,if_pos ⟨h1,h2⟩];rfl,rfl⟩
 ·rename_i h1 h2;exact⟨by rw[H.out,if_neg (by omega)];rfl,rfl⟩
 ·rename_i h1;exact⟨by rw[H.out,if_neg (by omega)];rfl,rfl⟩
theorem Km (s:ByteArray) (hs:s.size<=1073741824) (w:World):Calls Tryz.prog 22 #[.string s] w fun e w'=>e=.returned (.string ⟨(Lz.low s.data.toList).toArray⟩)/\Below w.heap.size w w':=by
 have kb:=run_bytes_of_string (P:=Tryz.prog) w 9 75 5 s Tryz.underlying9 Tryz.underlying75 Tryz.underlying5;obtain⟨cap,iW⟩:∃cap,cap=grownCap w s.size 0 5:=⟨_,rfl⟩;rw[<-iW]at kb;clear iW;obtain⟨l,hl⟩:∃l,l=s.data.toList:=⟨_,rfl⟩;have ba:l.length=s.size:=by rw[hl];exact aa s
 have ln:=rz w s cap 5;rw[<-hl]at ln;rw[<-hl];have nU:=Ih ba;have TQ:=Ih ln;clear ba hl ln;go_enter Tryz.func22,Tryz.ntmps22
 go_wp2
 go_loopw [10] (fun i wr=>∃k:Nat,k<=s.size/\i=.int .i64 k/\jA wr w.heap.size (Lz.low (l.take k)++l.drop k)/\Below w.heap.size w wr) (fun i _=>s.size-(intOf i).toNat)
 case atStart=>exact⟨0,Nat.zero_le _,rfl,TQ.out,((Below.refl _ w).alloc (Nat.le_refl _) _).drew⟩
 case round=>
  obtain⟨k,hk,rfl,aZ,hb⟩:=hrel;clear kb TQ;by_cases aV:k<s.size
  ·obtain⟨c,pJ⟩:∃c,l[k]? =some c:=⟨_,List.getElem?_eq_getElem (by rw[nU.out];omega)⟩;have hlk:(Lz.low (l.take k)).length=k:=by simp only[Lz.low,List.length_map,List.length_take,nU.out];omega
   obtain⟨h1,h2⟩:=aZ k c (by rw[List.getElem?_append_right (by omega),hlk];simpa using pJ);have PB:=aZ.set k (Lz.low1 c)
   rw[show(Lz.low (l.take k)++l.drop k).set k (Lz.low1 c)=Lz.low (l.take (k+1))++l.drop (k+1) by
    rw[List.set_append_right _ _ (by omega),hlk,Nat.sub_self];have EZ:k<l.length:=by rw[nU.out];exact aV
    rw[List.drop_eq_getElem_cons EZ,List.set_cons_zero];have hck:l[k]=c:=by rw[List.getElem?_eq_getElem EZ]at pJ;exact Option.some.inj pJ
    rw[List.take_succ_eq_append_getElem EZ,hck]
    simp[Lz.low]]at PB
   have HR:=Ih PB;clear aZ PB pJ hlk nU
   go_wp2_with (go_at_call 46;refine(sS _ _).mono ?_;rintro e w' ⟨rfl,rfl⟩)
   go_roundw
   case rel=>exact⟨k+1,by omega,by go_num,HR.out,hb.setCell (Nat.le_refl _) _⟩
   case measure=>simp[intOf];omega
  ·have WU:k=s.size:=by omega
   have WT:=run_convert_bytes_back (P:=Tryz.prog) wr 75 9 5 ⟨w.heap.size,0,none⟩ cap (Lz.low l) Tryz.underlying75 Tryz.underlying5 Tryz.underlying9 (by
    intro j hj;have h:=aZ j (Lz.low l)[j] (by rw[WU,<-nU.out,List.take_length,List.drop_length,List.append_nil];exact List.getElem?_eq_getElem hj);have ha:(⟨w.heap.size,0,none⟩:Addr).add j=⟨w.heap.size,j,none⟩:=bV _ j;rw[ha];exact h.1)
   rw[show(Lz.low l).length=s.size by rw[<-nU.out];simp[Lz.low]]at WT;clear aZ nU WU
   go_wp2
   go_ret;exact⟨rfl,hb⟩
end Go.Proofs.YtecoeebjaleeiaaGreatDoor
