/-
  The walks of package ascii and of the predicates on bytes in package sources: each returns what its plain function says, and leaves the world as it was, or lays
-/
import Derived.Test.YtibcmemcfjhgmaaGreatDoorV01
import Derived.Test.YtibcmemcfjhgmaaGreatDoorV02
import Derived.Test.YtibcmemcfjhgmaaGreatDoorProg
set_option maxRecDepth 100000
namespace Go.Proofs.YtibcmemcfjhgmaaGreatDoor
open Go.RowKit
theorem ff (c:UInt8):(c.toNat:Int)<256:=by have:=c.toNat_lt;omega
theorem UI (c:UInt8):(decide (97<=bits BinOp.or IntKind.u8 (c.toNat:Int) 32)&&decide (bits BinOp.or IntKind.u8 (c.toNat:Int) 32<=122))=Lz.bn c:=by
 revert c
 exact Lz.aA (by decide +kernel)
theorem Vi (c:UInt8):decide (((c.toNat:Int)-48)%256<10)=Lz.aQ c:=by
 revert c
 exact Lz.aA (by decide +kernel)
theorem YW (c:UInt8):((Lz.low1 c).toNat:Int)=if 65<=(c.toNat:Int)/\(c.toNat:Int)<=90 then(c.toNat:Int)+97-65 else c.toNat:=by
 revert c
 exact Lz.aA (by decide +kernel)
theorem li (c:UInt8) (w:World):Calls Tryz.prog 173 #[.int .u8 c.toNat] w fun e w'=>e=.returned (.bool (Lz.bn c))/\w=w':=by
 have hc:=ff c;rw[<-UI];go_enter Tryz.func173,Tryz.ntmps173
 go_wp2
 ·go_ret;rename_i h;exact⟨by rw[decide_eq_true h];rfl,rfl⟩
 ·go_ret;rename_i h;exact⟨by rw[decide_eq_false (by omega)];rfl,rfl⟩
theorem kX (c:UInt8) (w:World):Calls Tryz.prog 174 #[.int .u8 c.toNat] w fun e w'=>e=.returned (.bool (Lz.aQ c))/\w=w':=by
 have hc:=ff c;rw[<-Vi];go_enter Tryz.func174,Tryz.ntmps174
 go_wp2
 go_ret;exact⟨rfl,rfl⟩
theorem rA (c:UInt8) (w:World):Calls Tryz.prog 90 #[.int .u8 c.toNat] w fun e w'=>e=.returned (.int .u8 (Lz.low1 c).toNat)/\w=w':=by
 have hc:=ff c;have H:=Ih (YW c);go_enter Tryz.func90,Tryz.ntmps90
 go_wp2
 all_goals go_ret
 ·rename_i h1 h2;exact⟨by rw[H.out,if_pos ⟨h1,h2⟩];rfl,rfl⟩
 ·rename_i h1 h2;exact⟨by rw[H.out,if_neg (by omega)];rfl,rfl⟩
 ·rename_i h1;exact⟨by rw[H.out,if_neg (by omega)];rfl,rfl⟩
theorem Jo (s:ByteArray) (hs:s.size<=1073741824) (w:World):Calls Tryz.prog 50 #[.string s] w fun e w'=>e=.returned (.string ⟨(Lz.low s.data.toList).toArray⟩)/\Below w.heap.size w w':=by
 have kb:=run_bytes_of_string (P:=Tryz.prog) w 9 93 5 s Tryz.underlying9 Tryz.underlying93 Tryz.underlying5;obtain⟨cap,jD⟩:∃cap,cap=grownCap w s.size 0 5:=⟨_,rfl⟩;rw[<-jD]at kb;clear jD;obtain⟨l,hl⟩:∃l,l=s.data.toList:=⟨_,rfl⟩;have aO:l.length=s.size:=by rw[hl];exact ac s
 have j7:=qA w s cap 5;rw[<-hl]at j7;rw[<-hl];have eu:=Ih aO;have T5:=Ih j7;clear aO hl j7;go_enter Tryz.func50,Tryz.ntmps50
 go_wp2
 go_loopw [10] (fun i wr=>∃k:Nat,k<=s.size/\i=.int .i64 k/\iV wr w.heap.size (Lz.low (l.take k)++l.drop k)/\Below w.heap.size w wr) (fun i _=>s.size-(intOf i).toNat)
 case atStart=>exact⟨0,Nat.zero_le _,rfl,T5.out,((Below.refl _ w).alloc (Nat.le_refl _) _).drew⟩
 case round=>
  obtain⟨k,hk,rfl,bz,hb⟩:=hrel;clear kb T5;by_cases aL:k<s.size
  ·obtain⟨c,kL⟩:∃c,l[k]? =some c:=⟨_,List.getElem?_eq_getElem (by rw[eu.out];omega)⟩;have hlk:(Lz.low (l.take k)).length=k:=by simp only[Lz.low,List.length_map,List.length_take,eu.out];omega
   obtain⟨h1,h2⟩:=bz k c (by rw[List.getElem?_append_right (by omega),hlk];simpa using kL);have Pd:=bz.set k (Lz.low1 c)
   rw[show(Lz.low (l.take k)++l.drop k).set k (Lz.low1 c)=Lz.low (l.take (k+1))++l.drop (k+1) by
    rw[List.set_append_right _ _ (by omega),hlk,Nat.sub_self];have O6:k<l.length:=by rw[eu.out];exact aL
    rw[List.drop_eq_getElem_cons O6,List.set_cons_zero];have hck:l[k]=c:=by rw[List.getElem?_eq_getElem O6]at kL;exact Option.some.inj kL
    rw[List.take_succ_eq_append_getElem O6,hck]
    simp[Lz.low]]at Pd
   have HR:=Ih Pd;clear bz Pd kL hlk eu
   go_wp2_with (go_at_call 90;refine(rA _ _).mono ?_;rintro e w' ⟨rfl,rfl⟩)
   go_roundw
   case rel=>exact⟨k+1,by omega,by go_num,HR.out,hb.setCell (Nat.le_refl _) _⟩
   case measure=>simp[intOf];omega
  ·have Lf:k=s.size:=by omega
   have OL:=run_convert_bytes_back (P:=Tryz.prog) wr 93 9 5 ⟨w.heap.size,0,none⟩ cap (Lz.low l) Tryz.underlying93 Tryz.underlying5 Tryz.underlying9 (by
    intro j hj;have h:=bz j (Lz.low l)[j] (by rw[Lf,<-eu.out,List.take_length,List.drop_length,List.append_nil];exact List.getElem?_eq_getElem hj);have ha:(⟨w.heap.size,0,none⟩:Addr).add j=⟨w.heap.size,j,none⟩:=bD _ j;rw[ha];exact h.1)
   rw[show(Lz.low l).length=s.size by rw[<-eu.out];simp[Lz.low]]at OL;clear bz eu Lf
   go_wp2
   go_ret;exact⟨rfl,hb⟩
end Go.Proofs.YtibcmemcfjhgmaaGreatDoor
