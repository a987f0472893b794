/-
  The contracts of the library that the walks of this seat lean on, at this dump: each one application of a summary that the kit proves.
-/
import Derived.Test.YtipndhbgehdeoaaGreatDoorQ01
import Derived.Shelf.Strings.OnBuilder
import Derived.Shelf.Strings.Trim
import Derived.Shelf.Strings.BuilderK
import Derived.Shelf.Utf8.RuneCount
import Derived.Shelf.Strconv.Itoa4
import Derived.Shelf.Strconv.ToError
import Derived.Shelf.Strconv.ParseUint10Any
import Derived.Shelf.Strconv.ToErrorRange
import Derived.Shelf.Pu.ErrVarParseUint
import Derived.Shelf.Strings.Shaped
import Derived.Shelf.GgClosure.StringsRunes
import Derived.Shelf.Strings.Prefix
import Derived.Shelf.Strings.SplitShaped
import Derived.Shelf.Strings.IndexAnyAll
import Derived.Shelf.Strings.Explode
import Derived.Shelf.Strings.FuncGrows
import Derived.Shelf.Slices.Clone
import Derived.Shelf.SlicesE.Clone
import Derived.Test.YtipndhbgehdeoaaGreatDoorProg
set_option maxRecDepth 100000
namespace Go.Proofs
open Go.Shelf
def Tryz.lays169_ren:Go.Shelf.Ren:=⟨fun|169=>24|n=>n,fun|70=>43|9=>9|0=>0|72=>46|37=>44|127=>66|3=>3|5=>5|n=>n,fun|n=>n⟩
theorem Tryz.lays169:Go.Proofs.Lays.n169 Tryz.prog Tryz.lays169_ren:=by repeat' first |kernel_rfl|(intro w;rfl)|(intro w;kernel_rfl)|decide|constructor
theorem Tryz.Builder_Extra_169:Builder.Extra Tryz.prog Tryz.lays169_ren:=by repeat' first |kernel_rfl|(intro w;rfl)|(intro w;kernel_rfl)|decide|constructor
open Go.RowKit in
theorem Tryz.Builder_String_any (B b:Nat) (l:List UInt8) (w:World) (h:Lib.IsBuilder 46 5 B b (Lib.byteCells l) w) (hBw:B<=w.heap.size):
 Calls Tryz.prog 24 #[.pointer (some ⟨b,0,none⟩)] w fun e w'=>e=.returned (.string ⟨l.toArray⟩)/\Below B w w':=Any.Builder_String_any Tryz.lays169 Tryz.Builder_Extra_169 B b l w h hBw
def Tryz.lays161_ren:Go.Shelf.Ren:=⟨fun|161=>59|231=>96|227=>97|233=>98|235=>99|228=>125|197=>113|151=>84|260=>135|152=>118|137=>62|119=>142|224=>110|225=>109|217=>101|266=>127|n=>n,fun|9=>9|4=>4|3=>3|5=>5|117=>118|116=>117|0=>0|124=>121|105=>144|21=>21|119=>168|46=>81|139=>185|138=>184|n=>n,fun|3=>2|4=>3|n=>n⟩
theorem Tryz.lays161:Go.Proofs.Lays.n161 Tryz.prog Tryz.lays161_ren:=by repeat' first |kernel_rfl|(intro w;rfl)|(intro w;kernel_rfl)|decide|constructor
def Tryz.lays137_ren:Go.Shelf.Ren:=⟨fun|137=>62|217=>101|266=>127|n=>n,fun|9=>9|5=>5|3=>3|n=>n,fun|n=>n⟩
theorem Tryz.lays137:Go.Proofs.Lays.n137 Tryz.prog Tryz.lays137_ren:=by repeat' first |kernel_rfl|(intro w;rfl)|(intro w;kernel_rfl)|decide|constructor
open Go.RowKit in
theorem Tryz.strings_IndexByte (s:ByteArray) (c:Int) (w:World):
 Calls Tryz.prog 62 #[.string s,.int .u8 c] w fun e w'=>e=.returned (.int .i64 (Lib.indexByte s.data.toList c.toNat.toUInt8))/\w'=w:=Any.strings_IndexByte Tryz.lays137 s c w
def Tryz.laysM171_ren:Go.Shelf.Ren:=⟨fun|171=>46|243=>74|246=>108|283=>129|284=>130|285=>131|286=>132|129=>149|317=>148|318=>150|319=>151|320=>152|337=>168|338=>169|n=>n,fun|3=>3|9=>9|2=>2|4=>4|171=>152|0=>0|53=>153|37=>44|5=>5|173=>156|212=>180|51=>96|20=>20|213=>181|46=>81|232=>238|233=>239|n=>n,fun|17=>1|18=>5|19=>6|n=>n⟩
theorem Tryz.laysM171:Go.Proofs.LaysM.n171 Tryz.prog Tryz.laysM171_ren:=by repeat' first |kernel_rfl|(intro w;rfl)|(intro w;kernel_rfl)|decide|constructor
open Go.RowKit Go.Sort Go.Lib in
theorem Tryz.strconv_Itoa (n:Int) (h0: -9223372036854775808<=n) (h1:n<=9223372036854775807) (w:World) (htab:Lib.TabIs Tryz.prog w "internal/strconv.uint64pow10" .u64 Lib.pow10Tab):
 Calls Tryz.prog 46 #[.int .i64 n] w fun e w'=>e=.returned (.string ⟨(Lib.itoa n).toArray⟩)/\∃k os,w'=grow (w.drewN k) os:=Any.strconv_Itoa Tryz.laysM171 n h0 h1 w htab
def Tryz.lays145_ren:Go.Shelf.Ren:=⟨fun|145=>27|220=>47|219=>75|217=>101|225=>109|224=>110|267=>111|266=>127|314=>133|n=>n,fun|9=>9|4=>4|59=>53|3=>3|5=>5|46=>81|146=>158|51=>96|n=>n,fun|1=>0|n=>n⟩
theorem Tryz.lays145:Go.Proofs.Lays.n145 Tryz.prog Tryz.lays145_ren:=by repeat' first |kernel_rfl|(intro w;rfl)|(intro w;kernel_rfl)|decide|constructor
open Go.RowKit Go.Lib in
theorem Tryz.strings_Cut (s sep:ByteArray) (m:Int) (w:World) (hs:s.size<4294967281) (hm:w.cell? ⟨0,0,none⟩=some (.int .i64 m)):
 Calls Tryz.prog 27 #[.string s,.string sep] w fun e w'=>e=.returned (.tuple #[.string ⟨(Lib.cut s.data.toList sep.data.toList).1.toArray⟩,.string ⟨(Lib.cut s.data.toList sep.data.toList).2.1.toArray⟩,.bool (Lib.cut s.data.toList sep.data.toList).2.2])/\∃n,w'=w.drewN n:=Any.strings_Cut Tryz.lays145 s sep m w hs hm
def Tryz.lays237_ren:Go.Shelf.Ren:=⟨fun|237=>48|272=>77|238=>76|315=>114|273=>112|197=>113|271=>134|260=>135|120=>153|n=>n,fun|9=>9|40=>68|4=>4|3=>3|105=>144|21=>21|0=>0|5=>5|119=>168|46=>81|139=>185|138=>184|n=>n,fun|3=>2|4=>3|n=>n⟩
theorem Tryz.lays237:Go.Proofs.Lays.n237 Tryz.prog Tryz.lays237_ren:=by repeat' first |kernel_rfl|(intro w;rfl)|(intro w;kernel_rfl)|decide|constructor
def Tryz.laysGw15_ren:Go.Shelf.Ren:=⟨fun|15=>80|20=>114|n=>n,fun|9=>9|23=>68|3=>3|4=>4|0=>0|21=>21|n=>n,fun|n=>n⟩
theorem Tryz.laysGw15:Go.Proofs.LaysGw.n15 Tryz.prog Tryz.laysGw15_ren:=by repeat' first |kernel_rfl|(intro w;rfl)|(intro w;kernel_rfl)|decide|constructor
def Tryz.lays99_ren:Go.Shelf.Ren:=⟨fun|99=>57|206=>94|n=>n,fun|9=>9|4=>4|3=>3|n=>n,fun|n=>n⟩
theorem Tryz.lays99:Go.Proofs.Lays.n99 Tryz.prog Tryz.lays99_ren:=by repeat' first |kernel_rfl|(intro w;rfl)|(intro w;kernel_rfl)|decide|constructor
open Go.RowKit Go.Lib in
theorem Tryz.strings_HasPrefix (s p:ByteArray) (w:World):
 Calls Tryz.prog 57 #[.string s,.string p] w fun e w'=>e=.returned (.bool (Lib.hasPrefix s.data.toList p.data.toList))/\w'=w:=Any.strings_HasPrefix Tryz.lays99 s p w
def Tryz.lays146_ren:Go.Shelf.Ren:=⟨fun|146=>201|221=>214|268=>220|138=>165|143=>167|195=>191|197=>113|218=>192|219=>75|260=>135|217=>101|225=>109|224=>110|267=>111|266=>127|314=>133|n=>n,fun|9=>9|31=>23|3=>3|4=>4|0=>0|105=>144|21=>21|5=>5|46=>81|119=>168|139=>185|138=>184|146=>158|51=>96|n=>n,fun|1=>0|3=>2|4=>3|n=>n⟩
theorem Tryz.lays146:Go.Proofs.Lays.n146 Tryz.prog Tryz.lays146_ren:=by repeat' first |kernel_rfl|(intro w;rfl)|(intro w;kernel_rfl)|decide|constructor
open Go.RowKit Go.Lib in
theorem Tryz.strings_Split (s sep:ByteArray) (m:Int) (w:World) (hs:s.size<4294967281) (hm:w.cell? ⟨0,0,none⟩=some (.int .i64 m)) (h1:1<=sep.size):
 Calls Tryz.prog 201 #[.string s,.string sep] w fun e w'=>
  e=.returned (.slice (some ⟨w.heap.size,0,none⟩) (Lib.countB s sep+1) (Lib.countB s sep+1))/\w'=w.alloc (.cells ((Lib.splitB sep 0 (Lib.countB s sep) s).map Value.string).toArray 9):=Any.strings_Split Tryz.lays146 (by kernel_rfl) s sep m w hs hm h1
def Tryz.lays155_ren:Go.Shelf.Ren:=⟨fun|155=>126|154=>147|138=>165|165=>166|143=>167|166=>22|197=>113|169=>24|195=>191|218=>192|240=>45|241=>193|219=>75|260=>135|276=>73|277=>213|217=>101|225=>109|224=>110|267=>111|266=>127|314=>133|n=>n,fun|9=>9|3=>3|4=>4|72=>46|0=>0|76=>47|105=>144|21=>21|5=>5|70=>43|20=>20|37=>44|75=>38|127=>66|164=>91|46=>81|119=>168|139=>185|138=>184|146=>158|51=>96|80=>49|n=>n,fun|1=>0|3=>2|4=>3|n=>n⟩
theorem Tryz.lays155:Go.Proofs.Lays.n155 Tryz.prog Tryz.lays155_ren:=by repeat' first |kernel_rfl|(intro w;rfl)|(intro w;kernel_rfl)|decide|constructor
theorem Tryz.Builder_Extra_155:Builder.Extra Tryz.prog Tryz.lays155_ren:=by repeat' first |kernel_rfl|(intro w;rfl)|(intro w;kernel_rfl)|decide|constructor
open Go.RowKit Go.Lib in
theorem Tryz.strings_ReplaceAll (s old new:ByteArray) (m:Int) (w:World) (hs:s.size<4294967281) (hm:w.cell? ⟨0,0,none⟩=some (.int .i64 m)) (h1:1<=old.size) (hlen:s.size+Lib.countB s old*new.size<=140737488355328):
 Calls Tryz.prog 126 #[.string s,.string old,.string new] w fun e w'=>
  e=.returned (.string ⟨(Lib.replaceAll s.data.toList old.data.toList new.data.toList).toArray⟩)/\Below w.heap.size w w':=Any.strings_ReplaceAll Tryz.lays155 Tryz.Builder_Extra_155 s old new m w hs hm h1 hlen
def Tryz.lays152_ren:Go.Shelf.Ren:=⟨fun|152=>118|137=>62|119=>142|224=>110|225=>109|217=>101|266=>127|n=>n,fun|9=>9|21=>21|3=>3|4=>4|5=>5|0=>0|46=>81|n=>n,fun|n=>n⟩
theorem Tryz.lays152:Go.Proofs.Lays.n152 Tryz.prog Tryz.lays152_ren:=by repeat' first |kernel_rfl|(intro w;rfl)|(intro w;kernel_rfl)|decide|constructor
open Go.RowKit Go.Lib in
theorem Tryz.strings_IndexRune_ascii (s:ByteArray) (r:Int) (w:World) (h0:0<=r) (h1:r<128):
 Calls Tryz.prog 118 #[.string s,.int .i32 r] w fun e w'=>e=.returned (.int .i64 (Lib.indexByte s.data.toList r.toNat.toUInt8))/\w'=w:=Any.strings_IndexRune_ascii Tryz.lays152 s r w h0 h1
def Tryz.lays151_ren:Go.Shelf.Ren:=⟨fun|151=>84|152=>118|137=>62|119=>142|224=>110|225=>109|217=>101|266=>127|n=>n,fun|9=>9|21=>21|4=>4|3=>3|5=>5|0=>0|46=>81|n=>n,fun|n=>n⟩
theorem Tryz.lays151:Go.Proofs.Lays.n151 Tryz.prog Tryz.lays151_ren:=by repeat' first |kernel_rfl|(intro w;rfl)|(intro w;kernel_rfl)|decide|constructor
open Go.RowKit Go.Lib in
theorem Tryz.strings_ContainsRune_ascii (s:ByteArray) (r:Int) (w:World) (h0:0<=r) (h1:r<128):
 Calls Tryz.prog 84 #[.string s,.int .i32 r] w fun e w'=>e=.returned (.bool (decide (0<=Lib.indexByte s.data.toList r.toNat.toUInt8)))/\w'=w:=Any.strings_ContainsRune_ascii Tryz.lays151 s r w h0 h1
def Tryz.lays226_ren:Go.Shelf.Ren:=⟨fun|226=>143|n=>n,fun|3=>3|4=>4|n=>n,fun|n=>n⟩
theorem Tryz.lays226:Go.Proofs.Lays.n226 Tryz.prog Tryz.lays226_ren:=by repeat' first |kernel_rfl|(intro w;rfl)|(intro w;kernel_rfl)|decide|constructor
open Go.RowKit Go.Lib in
theorem Tryz.strings_shouldUseASCIISet (n:Int) (w:World):
 Calls Tryz.prog 143 #[.int .i64 n] w fun e w'=>e=.returned (.bool (decide (8<n)))/\w'=w:=Any.strings_shouldUseASCIISet Tryz.lays226 n w
def Tryz.lays153_ren:Go.Shelf.Ren:=⟨fun|153=>120|152=>118|226=>143|227=>97|228=>125|137=>62|119=>142|224=>110|225=>109|217=>101|266=>127|n=>n,fun|9=>9|3=>3|4=>4|5=>5|21=>21|117=>118|116=>117|0=>0|46=>81|124=>121|n=>n,fun|n=>n⟩
theorem Tryz.lays153:Go.Proofs.Lays.n153 Tryz.prog Tryz.lays153_ren:=by repeat' first |kernel_rfl|(intro w;rfl)|(intro w;kernel_rfl)|decide|constructor
open Go.RowKit Go.Lib in
theorem Tryz.strings_IndexAny_long (hv116:∀w,(zeroValue 117).run Tryz.prog w=.ok (.agg (Array.replicate 256 (.bool false))) w) (s chars:ByteArray) (w:World) (h2:2<=chars.size) (h8:8<s.size) (hs:s.size<4294967281) (hcs:chars.size<4294967281) (hascii:∀(j:Nat) b,chars.data.toList[j]? =some b->b.toNat<128):
 Calls Tryz.prog 120 #[.string s,.string chars] w fun e w'=>e=.returned (.int .i64 (Lib.indexAny s.data.toList chars.data.toList))/\w'=((w.alloc (.cells (Lib.setCells chars.data.toList) 117)).alloc (.cells (Lib.setCells chars.data.toList) 117)):=Any.strings_IndexAny_long Tryz.lays153 hv116 (by kernel_rfl) s chars w h2 h8 hs hcs hascii
open Go.RowKit Go.Lib in
theorem Tryz.strings_TrimFunc_grows (g:Nat) (lb:Array Value) (eg:∀args w,(callFunc g args).run Tryz.prog w=.ok (.enter g args) w) (p:Nat->Bool) (s:ByteArray) (w:World) (hs:s.size<=9223372036854775807) (hT:Lib.Utf8Tabs 2 3 w) (hp:PredGrows Tryz.prog g lb p w):
 Calls Tryz.prog 48 #[.string s,.func (.func g) #[] lb] w fun e w'=>e=.returned (.string (Lib.trimF p s))/\Below w.heap.size w w':=Any.strings_TrimFunc_grows Tryz.lays237 g lb eg p s w hs hT hp
open Go.RowKit Go.Lib in
theorem Tryz.strings_IndexFunc_grows (g:Nat) (lb:Array Value) (eg:∀args w,(callFunc g args).run Tryz.prog w=.ok (.enter g args) w) (p:Nat->Bool) (s:ByteArray) (w:World) (hp:PredGrows Tryz.prog g lb p w):
 Calls Tryz.prog 80 #[.string s,.func (.func g) #[] lb] w fun e w'=>e=.returned (.int .i64 (Lib.idxFunc p true s))/\Below w.heap.size w w':=Any.strings_IndexFunc_grows Tryz.laysGw15 g lb eg p s w hp
end Go.Proofs
