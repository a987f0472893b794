/-
  lazaretref08.run: its frame as a letter.
-/
import Derived.Test.YtlcbhacofagedaaGreatDoorY29
set_option maxRecDepth 100000
namespace Go.Proofs.YtlcbhacofagedaaGreatDoor
open Go.RowKit
theorem qZ {P:Program} {c:Code} {Q:Exit->Act->World->Prop} {a:Act} {w:World} (h:∀A:Act,A=a->c.wp P Q A w):c.wp P Q a w:=h a rfl
theorem Yt (a0 a1 a2 a3 a4 a5 a6 a7 a8 a9 RO RZ RP RN Sk R4 RS R0 Sx Sv:Value) (l:List Value) (h:l.length=761):∃f,(⟨(a0::a1::a2::a3::a4::a5::a6::a7::a8::a9::RO::RZ::RP::RN::Sk::R4::RS::R0::Sx::Sv::l).toArray,[]⟩:Act)=FR a0 a1 a2 a3 a4 a5 a6 a7 a8 a9 RO RZ RP RN Sk R4 RS R0 Sx Sv f/\∀k v,l[k]? =some v->f (20+k)=v:=by
 obtain⟨f,hf⟩:∃f:Nat->Value,l=(List.range' 20 761).map f:=pC 20 761 l h;refine⟨f,?_,?_⟩
 ·rw[hf];unfold FR;simp only[List.range',List.map_cons,List.map_nil]
 ·intro k v hk;rw[hf,List.getElem?_map,Option.map_eq_some_iff]at hk;obtain⟨m,hm,rfl⟩:=hk;have:=(List.getElem?_eq_some_iff.1 hm).2;rw[List.getElem_range']at this;rw[<-this,Nat.one_mul]
def stL (X:RX) (st buf:ByteArray) (a p n:Bool) (j:Int) (e:Bool) (c nx:UInt8) (sp sl ov:Bool) (l:List Value):Act:=
 ⟨(Value.string X.s::.pointer none::undef::undef::.pointer (some ⟨X.B,0,none⟩)::.int .i64 0::.pointer (some ⟨X.M,0,none⟩)::.pointer (some ⟨X.N,0,none⟩)::.string st::.string buf::.bool a::.bool p::.bool n::.int .i64 j::.bool e::.int .u8 c.toNat::.int .u8 nx.toNat::.bool sp::.bool sl::.bool ov::l).toArray,[]⟩
theorem pR {P:Program} {x y:Code} {Q:Exit->Act->World->Prop} {a:Act} {w:World} (I:Act->World->Prop) (h1:x.wp P (fun e a' w'=>e=.normal/\I a' w') a w) (h2:∀a' w',I a' w'->y.wp P Q a' w'):(Code.seq x y).wp P Q a w:=
 wp_seq (wp_mono h1 (by rintro e a' w' ⟨rfl,h⟩;exact h2 _ _ h))
theorem di {P:Program} {k:Code} {Q:Exit->Act->World->Prop} {w:World} (X:RX) (st buf:ByteArray) (a p n:Bool) (j:Int) (e:Bool) (c nx:UInt8) (sp sl ov:Bool) (l:List Value) (hl:l.length=761)
  (h:∀f:Nat->Value,(∀k v,l[k]? =some v->f (20+k)=v)->k.wp P Q (FR (.string X.s) (.pointer none) undef undef (.pointer (some ⟨X.B,0,none⟩)) (.int .i64 0) (.pointer (some ⟨X.M,0,none⟩)) (.pointer (some ⟨X.N,0,none⟩)) (.string st) (.string buf) (.bool a) (.bool p) (.bool n) (.int .i64 j) (.bool e) (.int .u8 c.toNat) (.int .u8 nx.toNat) (.bool sp) (.bool sl) (.bool ov) f) w):k.wp P Q (stL X st buf a p n j e c nx sp sl ov l) w:=by
 obtain⟨f,hf,hv⟩:=Yt (.string X.s) (.pointer none) undef undef (.pointer (some ⟨X.B,0,none⟩)) (.int .i64 0) (.pointer (some ⟨X.M,0,none⟩)) (.pointer (some ⟨X.N,0,none⟩)) (.string st) (.string buf) (.bool a) (.bool p) (.bool n) (.int .i64 j) (.bool e) (.int .u8 c.toNat) (.int .u8 nx.toNat) (.bool sp) (.bool sl) (.bool ov) l hl;unfold stL;rw[hf];exact h f hv
theorem fm (X:RX) (st buf:ByteArray) (a p n:Bool) (j:Int) (e:Bool) (c nx:UInt8) (sp sl ov:Bool) (l:List Value) (d:Nat) (v:Value) (hd:20<=d):(stL X st buf a p n j e c nx sp sl ov l).tmps.setIfInBounds d v=(stL X st buf a p n j e c nx sp sl ov (l.set (d-20) v)).tmps:=by
 obtain⟨k,rfl⟩:∃k,d=k+20:=⟨d-20,by omega⟩
 simp[stL]
theorem vD (X:RX) (st buf:ByteArray) (a p n:Bool) (j:Int) (e:Bool) (c nx:UInt8) (sp sl ov:Bool) (l:List Value) (hl:l.length=761):(stL X st buf a p n j e c nx sp sl ov l).tmps.size=781:=by simp[stL,hl]
theorem vn {P:Program} {k:Code} {Q:Exit->Act->World->Prop} {w:World} (X:RX) (st buf:ByteArray) (a p n:Bool) (j:Int) (e:Bool) (c nx:UInt8) (sp sl ov:Bool) (l:List Value) (hl:l.length=761)
 (h:∀(A:Act) (l:List Value),l.length=761->A=stL X st buf a p n j e c nx sp sl ov l->k.wp P Q A w):k.wp P Q (stL X st buf a p n j e c nx sp sl ov l) w:=h _ l hl rfl
end Go.Proofs.YtlcbhacofagedaaGreatDoor
