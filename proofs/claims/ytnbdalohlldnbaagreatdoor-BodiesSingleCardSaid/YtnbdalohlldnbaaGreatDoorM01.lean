/-
  The contracts of the library that the walks of this seat lean on, at this dump: each one application of a summary that the kit proves.
  Small laws on worlds and on rows of bytes that the walks of this seat lean on. No condition.
  Hand moves through a region that draws its order.
  Blocks that are somebody's, by labels; slices of one's own whose block may be longer than they can grow. No condition.
  What the tree builder computes, on lists: packages arena, stack, formats, kinds, builder, adopt and bodies (those rules that the statements of layer 20 ask for), with no program in sight. No condition.
  Small words that the walks of layer 20 share. No condition.
-/
import Derived.Shelf.Strings.Search1
import Derived.Shelf.Strings.Search2
import Derived.Shelf.Strings.Search3
import Derived.Shelf.LaysM
import Derived.Shelf.Strings.Shaped
import Derived.Shelf.Strings.Fields
import Derived.Shelf.Strings.SplitShaped
import Derived.Shelf.Unicode.Latin
import Derived.Shelf.Unicode.Is16White
import Derived.Shelf.Unicode.IsSpaceAny
import Derived.Shelf.Unicode.Is16Any
import Derived.Shelf.Unicode.Is32Any
import Derived.Shelf.Unicode.ExclAny
import Derived.Shelf.Slices.Turned
import Derived.Shelf.Slices.Reverse
import Derived.Ground.Names2Prog
import Derived.Shelf.Slices.Delete
import Derived.Shelf.Slices.Cells
import Derived.Test.YtnbdalohlldnbaaGreatDoorProg
import Derived.WalkKit
import Derived.WalkSpells
import Derived.WalkLawsBesides
import Derived.Laws.IdiomStrings
import Derived.Lib.Hide
import Derived.Laws.Tables
import Derived.Laws.CopyOwn
import Derived.Deep.RegionHeld3
import Derived.Maps.AppendAt
import Derived.Below
import Derived.Lib.Split
import Derived.BigRegion
import Derived.Deep.DeepCutAuto
import Derived.BigQuiet
import Derived.Deep.QuietTactic
import Derived.IntWalk
import Derived.OwnWalk
import Derived.StillTailTactics
import Derived.Laws.Pointers
import Derived.Deep.DrawnRows
import Derived.Lib.SlicesS
import Derived.LaidEql
import Derived.Stop.Asserts
import Derived.RowKitTokens
namespace Go.Proofs
open Go.Shelf
def Tryz.lays144_ren : Go.Shelf.Ren := ⟨fun | 144 => 194 | 143 => 213 | 219 => 231 | 217 => 235 | 225 => 236 | 224 => 237 | 267 => 238 | 266 => 241 | 314 => 242 | n => n, fun | 9 => 9 | 4 => 4 | 3 => 3 | 5 => 5 | 46 => 197 | 146 => 202 | 51 => 165 | n => n, fun | 1 => 5 | n => n⟩
theorem Tryz.lays144 : Go.Proofs.Lays.n144 Tryz.prog Tryz.lays144_ren := {
  mixed := by kernel_rfl
  f143 := Tryz.func213.trans (congrArg some (by kernel_rfl))
  f144 := Tryz.func194.trans (congrArg some (by kernel_rfl))
  f217 := Tryz.func235.trans (congrArg some (by kernel_rfl))
  f219 := Tryz.func231.trans (congrArg some (by kernel_rfl))
  f224 := Tryz.func237.trans (congrArg some (by kernel_rfl))
  f225 := Tryz.func236.trans (congrArg some (by kernel_rfl))
  f266 := Tryz.func241.trans (congrArg some (by kernel_rfl))
  f267 := Tryz.func238.trans (congrArg some (by kernel_rfl))
  f314 := Tryz.func242.trans (congrArg some (by kernel_rfl))
  t3 := Tryz.underlying3
  a3 := Tryz.isAgg3
  z3 := Tryz.sizeOf3
  v3 := Tryz.zeroValue3
  t4 := Tryz.underlying4
  a4 := Tryz.isAgg4
  z4 := Tryz.sizeOf4
  v4 := Tryz.zeroValue4
  t5 := Tryz.underlying5
  a5 := Tryz.isAgg5
  z5 := Tryz.sizeOf5
  v5 := Tryz.zeroValue5
  t9 := Tryz.underlying9
  a9 := Tryz.isAgg9
  z9 := Tryz.sizeOf9
  v9 := Tryz.zeroValue9
  t46 := Tryz.underlying197
  a46 := Tryz.isAgg197
  z46 := Tryz.sizeOf197
  v46 := Tryz.zeroValue197
  t51 := Tryz.underlying165
  a51 := Tryz.isAgg165
  z51 := Tryz.sizeOf165
  v51 := Tryz.zeroValue165
  t146 := Tryz.underlying202
  a146 := Tryz.isAgg202
  z146 := Tryz.sizeOf202
  v146 := Tryz.zeroValue202
  g1 := by kernel_rfl }
open Go.RowKit Go.Lib in
theorem Tryz.strings_Contains (s sub : ByteArray) (m : Int) (w : World) (hs : s.size < 4294967281) (hm : w.cell? ⟨5, 0, none⟩ = some (.int .i64 m)) :
    Calls Tryz.prog 194 #[.string s, .string sub] w fun e w' => e = .returned (.bool (Lib.contains s.data.toList sub.data.toList)) ∧ w' = w := Any.strings_Contains Tryz.lays144 s sub m w hs hm
def Tryz.laysM157_ren : Go.Shelf.Ren := ⟨fun | 157 => 136 | 229 => 175 | 199 => 176 | 261 => 202 | 311 => 220 | 312 => 221 | n => n, fun | 9 => 9 | 31 => 40 | 3 => 3 | 5 => 5 | 4 => 4 | 119 => 140 | 0 => 0 | 40 => 142 | 152 => 162 | 21 => 21 | 154 => 164 | 51 => 165 | 141 => 167 | 196 => 184 | 193 => 181 | 198 => 187 | 49 => 185 | 194 => 182 | 201 => 190 | 226 => 196 | 46 => 197 | 227 => 198 | n => n, fun | 0 => 1 | 6 => 3 | n => n⟩
theorem Tryz.laysM157 : Go.Proofs.LaysM.n157 Tryz.prog Tryz.laysM157_ren := {
  mixed := by kernel_rfl
  f157 := Tryz.func136.trans (congrArg some (by kernel_rfl))
  f199 := Tryz.func176.trans (congrArg some (by kernel_rfl))
  f229 := Tryz.func175.trans (congrArg some (by kernel_rfl))
  f261 := Tryz.func202.trans (congrArg some (by kernel_rfl))
  f311 := Tryz.func220.trans (congrArg some (by kernel_rfl))
  f312 := Tryz.func221.trans (congrArg some (by kernel_rfl))
  t0 := Tryz.underlying0
  a0 := Tryz.isAgg0
  z0 := Tryz.sizeOf0
  v0 := Tryz.zeroValue0
  t3 := Tryz.underlying3
  a3 := Tryz.isAgg3
  z3 := Tryz.sizeOf3
  v3 := Tryz.zeroValue3
  t4 := Tryz.underlying4
  a4 := Tryz.isAgg4
  z4 := Tryz.sizeOf4
  v4 := Tryz.zeroValue4
  t5 := Tryz.underlying5
  a5 := Tryz.isAgg5
  z5 := Tryz.sizeOf5
  v5 := Tryz.zeroValue5
  t9 := Tryz.underlying9
  a9 := Tryz.isAgg9
  z9 := Tryz.sizeOf9
  v9 := Tryz.zeroValue9
  t21 := Tryz.underlying21
  a21 := Tryz.isAgg21
  z21 := Tryz.sizeOf21
  v21 := Tryz.zeroValue21
  t31 := Tryz.underlying40
  a31 := Tryz.isAgg40
  z31 := Tryz.sizeOf40
  v31 := Tryz.zeroValue40
  t40 := Tryz.underlying142
  a40 := Tryz.isAgg142
  z40 := Tryz.sizeOf142
  v40 := Tryz.zeroValue142
  t46 := Tryz.underlying197
  a46 := Tryz.isAgg197
  z46 := Tryz.sizeOf197
  v46 := Tryz.zeroValue197
  t49 := Tryz.underlying185
  a49 := Tryz.isAgg185
  z49 := Tryz.sizeOf185
  v49 := Tryz.zeroValue185
  t51 := Tryz.underlying165
  a51 := Tryz.isAgg165
  z51 := Tryz.sizeOf165
  v51 := Tryz.zeroValue165
  t119 := Tryz.underlying140
  a119 := Tryz.isAgg140
  z119 := Tryz.sizeOf140
  t141 := Tryz.underlying167
  a141 := Tryz.isAgg167
  z141 := Tryz.sizeOf167
  v141 := Tryz.zeroValue167
  t152 := Tryz.underlying162
  a152 := Tryz.isAgg162
  z152 := Tryz.sizeOf162
  v152 := Tryz.zeroValue162
  t154 := Tryz.underlying164
  a154 := Tryz.isAgg164
  z154 := Tryz.sizeOf164
  v154 := Tryz.zeroValue164
  t193 := Tryz.underlying181
  a193 := Tryz.isAgg181
  z193 := Tryz.sizeOf181
  v193 := Tryz.zeroValue181
  t194 := Tryz.underlying182
  a194 := Tryz.isAgg182
  z194 := Tryz.sizeOf182
  v194 := Tryz.zeroValue182
  t196 := Tryz.underlying184
  a196 := Tryz.isAgg184
  z196 := Tryz.sizeOf184
  v196 := Tryz.zeroValue184
  t198 := Tryz.underlying187
  a198 := Tryz.isAgg187
  z198 := Tryz.sizeOf187
  v198 := Tryz.zeroValue187
  t201 := Tryz.underlying190
  a201 := Tryz.isAgg190
  z201 := Tryz.sizeOf190
  v201 := Tryz.zeroValue190
  t226 := Tryz.underlying196
  a226 := Tryz.isAgg196
  z226 := Tryz.sizeOf196
  v226 := Tryz.zeroValue196
  t227 := Tryz.underlying198
  a227 := Tryz.isAgg198
  z227 := Tryz.sizeOf198
  v227 := Tryz.zeroValue198
  g0 := by kernel_rfl
  g6 := by kernel_rfl
  i0 := by kernel_rfl
  i3 := by kernel_rfl
  i4 := by kernel_rfl
  i5 := by kernel_rfl
  i9 := by kernel_rfl
  i21 := by kernel_rfl
  i31 := by kernel_rfl
  i40 := by kernel_rfl
  i46 := by kernel_rfl
  i49 := by kernel_rfl
  i51 := by kernel_rfl
  i141 := by kernel_rfl
  i152 := by kernel_rfl
  i154 := by kernel_rfl
  i193 := by kernel_rfl
  i194 := by kernel_rfl
  i196 := by kernel_rfl
  i198 := by kernel_rfl
  i201 := by kernel_rfl
  i226 := by kernel_rfl
  i227 := by kernel_rfl
  m0 := by kernel_rfl
  m6 := by kernel_rfl }
open Go.RowKit Go.Lib in
theorem Tryz.strings_Fields_laid (s : ByteArray) (w : World) (hs : s.size < 4294967281) (hascii : ∀ (j : Nat) b, s.data.toList[j]? = some b → b.toNat < 128) (htab : Lib.TabIs Tryz.prog w "strings.asciiSpace" .u8 Lib.asciiSpaceTab) :
    Calls Tryz.prog 136 #[.string s] w fun e w' =>
      e = .returned (.slice (some ⟨w.heap.size, 0, none⟩) (Lib.fields s.data.toList).length (Lib.fields s.data.toList).length) ∧ w' = w.alloc (.cells ((Lib.fields s.data.toList).map fun l => Value.string ⟨l.toArray⟩).toArray 9) := Any.strings_Fields_laid Tryz.laysM157 s w hs hascii htab
def Tryz.lays110_ren : Go.Shelf.Ren := ⟨fun | 110 => 114 | 109 => 166 | n => n, fun | 31 => 40 | 9 => 9 | 4 => 4 | 3 => 3 | 0 => 0 | n => n, fun | n => n⟩
theorem Tryz.lays110 : Go.Proofs.Lays.n110 Tryz.prog Tryz.lays110_ren := {
  mixed := by kernel_rfl
  f109 := Tryz.func166.trans (congrArg some (by kernel_rfl))
  f110 := Tryz.func114.trans (congrArg some (by kernel_rfl))
  t0 := Tryz.underlying0
  a0 := Tryz.isAgg0
  z0 := Tryz.sizeOf0
  v0 := Tryz.zeroValue0
  t3 := Tryz.underlying3
  a3 := Tryz.isAgg3
  z3 := Tryz.sizeOf3
  v3 := Tryz.zeroValue3
  t4 := Tryz.underlying4
  a4 := Tryz.isAgg4
  z4 := Tryz.sizeOf4
  v4 := Tryz.zeroValue4
  t9 := Tryz.underlying9
  a9 := Tryz.isAgg9
  z9 := Tryz.sizeOf9
  v9 := Tryz.zeroValue9
  t31 := Tryz.underlying40
  a31 := Tryz.isAgg40
  z31 := Tryz.sizeOf40
  v31 := Tryz.zeroValue40 }
open Go.Lib in
theorem Tryz.slices_Contains_string (b off n c : Nat) (zs : List ByteArray) (x : ByteArray) (w : World) (hz : n ≤ zs.length) (hbig : n ≤ 9223372036854775807) (hc : ∀ j, j < zs.length → w.cell? ⟨b, off + j, none⟩ = some (.string (zs.getD j ByteArray.empty))) :
    Calls Tryz.prog 114 #[.slice (some ⟨b, off, none⟩) n c, .string x] w fun e w' => e = .returned (.bool (Lib.containsS (zs.take n) x)) ∧ w' = w := Any.slices_Contains_string Tryz.lays110 b off n c zs x w hz hbig hc
open Go.Lib in
theorem Tryz.slices_Contains_string_empty (a : Option Addr) (c : Nat) (x : ByteArray) (w : World) :
    Calls Tryz.prog 114 #[.slice a 0 c, .string x] w fun e w' => e = .returned (.bool false) ∧ w' = w := Any.slices_Contains_string_empty Tryz.lays110 a c x w
def Tryz.laysNm223_ren : Go.Shelf.Ren := ⟨fun | 23 => 188 | n => n, fun | 22 => 29 | 3 => 3 | 4 => 4 | 0 => 0 | n => n, fun | n => n⟩
theorem Tryz.laysNm223 : Go.Proofs.Lays2.n23 Tryz.prog Tryz.laysNm223_ren := {
  mixed := by kernel_rfl
  f23 := Tryz.func188.trans (congrArg some (by kernel_rfl))
  t0 := Tryz.underlying0
  a0 := Tryz.isAgg0
  z0 := Tryz.sizeOf0
  v0 := Tryz.zeroValue0
  t3 := Tryz.underlying3
  a3 := Tryz.isAgg3
  z3 := Tryz.sizeOf3
  v3 := Tryz.zeroValue3
  t4 := Tryz.underlying4
  a4 := Tryz.isAgg4
  z4 := Tryz.sizeOf4
  v4 := Tryz.zeroValue4
  t22 := Tryz.underlying29
  a22 := Tryz.isAgg29
  z22 := Tryz.sizeOf29
  v22 := Tryz.zeroValue29
  i3 := by kernel_rfl }
open Go.RowKit Go.Lib Go.Sort in
theorem Tryz.slices_Delete_int_cells (b off n c i j : Nat) (zs : List Int) (w : World) (hz : n ≤ zs.length) (hcap : n ≤ c) (hm : c ≤ 9223372036854775807) (hij : i ≤ j) (hj : j ≤ n) (hc : ∀ j, j < zs.length → w.cell? ⟨b, off + j, none⟩ = some (.int .i64 (zs.getD j 0))) (hf : ∀ j, j < n → w.frozen? ⟨b, off + j, none⟩ = false) :
    Calls Tryz.prog 188 #[.slice (some ⟨b, off, none⟩) n c, .int .i64 i, .int .i64 j] w fun e w' => e = .returned (.slice (some ⟨b, off, none⟩) (n - (j - i)) c) ∧ ∃ q, w' = (w.drewN q).setCells b off (((zs.take n).take i ++ (zs.take n).drop j ++ List.replicate (j - i) 0).map (Value.int .i64)) := Any.slices_Delete_int_cells Tryz.laysNm223 b off n c i j zs w hz hcap hm hij hj hc hf
end Go.Proofs

namespace Go.Proofs.YtnbdalohlldnbaaGreatDoor
open Go.RowKit

theorem addr_add (b j : Nat) : (⟨b, 0, none⟩ : Addr).add j = ⟨b, j, none⟩ := by
  simp [Addr.add]
  omega

theorem len_of_size (s : ByteArray) : s.data.toList.length = s.size := rfl

/-- block b's first cells are these bytes, and may be written. -/
def ByteRow (w : World) (b : Nat) (l : List UInt8) : Prop := ∀ j c, l[j]? = some c → w.cell? ⟨b, j, none⟩ = some (.int .u8 (c.toNat : Int)) ∧ w.frozen? ⟨b, j, none⟩ = false

theorem bytesRow_get (s : ByteArray) (cap j : Nat) (c : UInt8) (h : s.data.toList[j]? = some c) : (bytesRow s cap)[j]? = some (.int .u8 (c.toNat : Int)) := by
  have hj : j < s.data.size := by
    have := (List.getElem?_eq_some_iff.1 h).1
    simpa using this
  unfold bytesRow
  rw [Array.getElem?_append_left (by simpa using hj)]
  rw [Array.getElem?_map]
  have : s.data[j]? = some c := by simpa using h
  rw [this]
  rfl

theorem byteRow_made (w : World) (s : ByteArray) (cap : Nat) (t : TypeId) : ByteRow (w.alloc (.cells (bytesRow s cap) t ((bytesRow s cap).size, (bytesRow s cap).size + 1))).drew w.heap.size s.data.toList := by
  intro j c h
  have hg := bytesRow_get s cap j c h
  refine ⟨?_, ?_⟩
  · show (w.alloc _).cell? _ = _
    rw [World.cell?_alloc_mark]
    exact hg
  · show (w.alloc _).frozen? _ = _
    have hj := (Array.getElem?_eq_some_iff.1 hg).1
    have hb : (w.alloc (.cells (bytesRow s cap) t ((bytesRow s cap).size, (bytesRow s cap).size + 1))).heap[w.heap.size]? = some (.cells (bytesRow s cap) t ((bytesRow s cap).size, (bytesRow s cap).size + 1)) := by
      show (w.heap.push _)[w.heap.size]? = _
      simp
    simp only [World.frozen?, hb]
    simp
    omega

theorem ByteRow.set {w : World} {b : Nat} {l : List UInt8} (h : ByteRow w b l) (k : Nat) (c : UInt8) : ByteRow (w.setCell ⟨b, k, none⟩ (.int .u8 (c.toNat : Int))) b (l.set k c) := by
  intro j d hd
  rw [List.getElem?_set] at hd
  by_cases hjk : k = j
  · subst hjk
    rw [if_pos rfl] at hd
    split at hd
    · rename_i hlt
      obtain ⟨h1, h2⟩ := h k _ (List.getElem?_eq_getElem hlt)
      obtain rfl := Option.some.inj hd
      refine ⟨?_, ?_⟩
      · exact World.cell?_setCell_same _ _ _ h1
      · rw [World.frozen?_setCell]; exact h2
    · cases hd
  · rw [if_neg hjk] at hd
    obtain ⟨h1, h2⟩ := h j d hd
    refine ⟨?_, ?_⟩
    · rw [World.cell?_setCell_other _ _ _ _ (by intro e; injection e with _ e2 _; exact hjk e2)]; exact h1
    · rw [World.frozen?_setCell]; exact h2

/-- A first result that lies in a row, and a second one in a slot. -/
theorem results_row2 {P : Program} {fn : Func} {p u : Tmp} {ty : TypeId} (h : fn.results = #[.cell p ty, .tmp u]) (tmps : Array Value) (w : World) (g : Nat) (t : TypeId) (cs : Array Value) (fr : Nat × Nat) (d : TypeDesc)
    (hp : tmps.getD p undef = .pointer (some ⟨g, 0, none⟩)) (hg : w.heap[g]? = some (.cells cs t fr))
    (hu : P.underlying ty = some d) (hd : (match d with | .struct _ | .array _ _ => true | _ => false) = true) (hi : (P.info? ty).map (·.size) = some cs.size) :
    (results fn tmps).run P w = .ok (.tuple #[.agg cs, tmps.getD u undef]) w := by
  rw [results_cell_tmp h, hp]
  have : (asAddr (.pointer (some (⟨g, 0, none⟩ : Addr)))).run P w = .ok ⟨g, 0, none⟩ w := by simp [asAddr]
  rw [this]
  simp only [Result.andThen, run_loadVar_row w g t ty cs fr d hg hu hd hi]
end Go.Proofs.YtnbdalohlldnbaaGreatDoor

namespace Go.Proofs.YtnbdalohlldnbaaGreatDoor
open Go.RowKit
theorem rowAt {w : World} {R : Nat} {cs : Array Value} {t : TypeId} {fr : Nat × Nat} (h : w.heap[R]? = some (.cells cs t fr)) (k : Nat) (v : Value) (hv : cs[k]? = some v) : w.cell? ⟨R, k, none⟩ = some v := by
  rw [cell_of_row w R k _ _ _ h]; exact hv
theorem row_lt {w : World} {R : Nat} {o : Obj} (h : w.heap[R]? = some o) : R < w.heap.size := (Array.getElem?_eq_some_iff.1 h).1
theorem heap_new (w : World) (o : Obj) : (w.alloc o).heap[w.heap.size]? = some o := by show (w.heap.push _)[w.heap.size]? = _; simp
theorem heap_new2 (w : World) (o o2 : Obj) : ((w.alloc o).alloc o2).heap[w.heap.size + 1]? = some o2 := by
  have := heap_new (w.alloc o) o2
  rwa [show (w.alloc o).heap.size = w.heap.size + 1 by simp] at this
theorem below_setRow {B g : Nat} {a w : World} (h : Below B a w) {cs : Array Value} (hg : B ≤ g) : Below B a (w.setRow g cs) :=
  ⟨h.os, h.tape, h.output, by rw [show (w.setRow g cs).heap.size = w.heap.size by simp [World.setRow]]; exact h.size, fun k hk => by rw [setRow_other _ _ _ _ (by omega)]; exact h.block k hk⟩
theorem row_set {w : World} {R : Nat} {cs : Array Value} {t : TypeId} {fr : Nat × Nat} (h : w.heap[R]? = some (.cells cs t fr)) (k : Nat) (v : Value) : (w.setCell ⟨R, k, none⟩ v).heap[R]? = some (.cells (cs.setIfInBounds k v) t fr) := by
  rw [setCell_eq_setRow w R k cs _ _ v h]
  exact setRow_heap _ _ _ _ _ _ h
/-- An operation of a drawn region is taken; where it lays what it yields is said. -/
theorem TkD {P : Program} {md : Region.Mode} {ops : Array Oper} {Q : Exit → Act → World → Prop} {S : World → Prop} {fuel : Nat} {listed : Array Bool} {a : Act} {w : World} (i : Nat) (d : Option Tmp) {oi : Oper} {v : Value} (hi : ops[i]? = some oi) (hd : oi.dst = d) (hy : ∀ w, S w → (execOp a.eval oi).run P w = .ok (.value v) w) (h : wpAnyH P md ops Q S fuel (listed.setIfInBounds i true) (a.put d v) w) (hs : Region.noSelect ops = true := by kernel_rfl) (hf : Region.free md ops listed i = true := by kernel_rfl) (hr : (Region.ready md ops listed).contains i = true := by kernel_rfl) (hQ : ∀ c a w, Q (.panic c) (a.put oi.dst v) w → Q (.panic c) a w := by exact fun _ _ _ h => h) (hw : Region.wanted oi (yielded ops a.tmps) = true := by rfl) (hS : S w := by assumption) : wpAnyH P md ops Q S (fuel + 1) listed a w :=
  wpAnyH_take hi hs hf hr hQ (Or.inl ⟨hw, hy⟩) hS (by rw [hd]; exact h)
/-- One whose guard does not hold. -/
theorem TnD {P : Program} {md : Region.Mode} {ops : Array Oper} {Q : Exit → Act → World → Prop} {S : World → Prop} {fuel : Nat} {listed : Array Bool} {a : Act} {w : World} (i : Nat) (d : Option Tmp) {oi : Oper} (hi : ops[i]? = some oi) (hd : oi.dst = d) (h : wpAnyH P md ops Q S fuel (listed.setIfInBounds i true) (a.put d undef) w) (hs : Region.noSelect ops = true := by kernel_rfl) (hf : Region.free md ops listed i = true := by kernel_rfl) (hr : (Region.ready md ops listed).contains i = true := by kernel_rfl) (hQ : ∀ c a w, Q (.panic c) (a.put oi.dst undef) w → Q (.panic c) a w := by exact fun _ _ _ h => h) (hw : Region.wanted oi (yielded ops a.tmps) = false := by rfl) (hS : S w := by assumption) : wpAnyH P md ops Q S (fuel + 1) listed a w :=
  wpAnyH_take hi hs hf hr hQ (Or.inr ⟨hw, rfl⟩) hS (by rw [hd]; exact h)
/-- One whose value the walk finds by itself. -/
theorem TkH {P : Program} {md : Region.Mode} {ops : Array Oper} {Q : Exit → Act → World → Prop} {S : World → Prop} {fuel : Nat} {listed : Array Bool} {a : Act} {w : World} {oi : Oper} {v : Value} (i d : Nat) (h : wpAnyH P md ops Q S fuel (listed.setIfInBounds i true) (a.put (some d) v) w) (hi : ops[i]? = some oi := by rfl) (hd : oi.dst = some d := by rfl) (hy : ∀ w, S w → (execOp a.eval oi).run P w = .ok (.value v) w := by (intro W hSw; (try dsimp only at hSw); (try simp only [Act.put]); (try simp only [List.setIfInBounds_toArray]); (try simp only [List.set_cons_zero, List.set_cons_succ]); go_simp; try with_reducible rfl)) (hs : Region.noSelect ops = true := by kernel_rfl) (hf : Region.free md ops listed i = true := by kernel_rfl) (hr : (Region.ready md ops listed).contains i = true := by kernel_rfl) (hQ : ∀ c a w, Q (.panic c) (a.put oi.dst v) w → Q (.panic c) a w := by exact fun _ _ _ h => h) (hw : Region.wanted oi (yielded ops a.tmps) = true := by rfl) (hS : S w := by assumption) : wpAnyH P md ops Q S (fuel + 1) listed a w :=
  TkD i (some d) hi hd hy h hs hf hr hQ hw hS
end Go.Proofs.YtnbdalohlldnbaaGreatDoor

namespace Bd
open Go Go.RowKit
/-- Whose a block is: 0 nobody's. Blocks that are not there yet are nobody's. -/
def Lbl (own : Nat → Nat) (w : World) : Prop := ∀ k, w.heap.size ≤ k → own k = 0
/-- What lies between two worlds: only blocks whose labels are in c are not as they were; new blocks may have got labels. -/
structure Fr (c : Nat → Bool) (own own' : Nat → Nat) (w w' : World) : Prop where
  os : w'.os = w.os
  tape : w'.tape = w.tape
  output : w'.output = w.output
  size : w.heap.size ≤ w'.heap.size
  old : ∀ k, k < w.heap.size → own' k = own k
  lbl : Lbl own' w'
  block : ∀ k, k < w.heap.size → c (own k) = false → w'.heap[k]? = w.heap[k]?
theorem Fr.refl (c : Nat → Bool) {own : Nat → Nat} {w : World} (h : Lbl own w) : Fr c own own w w := ⟨rfl, rfl, rfl, Nat.le_refl _, fun _ _ => rfl, h, fun _ _ _ => rfl⟩
theorem Fr.trans {c : Nat → Bool} {o1 o2 o3 : Nat → Nat} {w1 w2 w3 : World} (h : Fr c o1 o2 w1 w2) (k : Fr c o2 o3 w2 w3) : Fr c o1 o3 w1 w3 :=
  ⟨k.os.trans h.os, k.tape.trans h.tape, k.output.trans h.output, Nat.le_trans h.size k.size, fun i hi => (k.old i (Nat.lt_of_lt_of_le hi h.size)).trans (h.old i hi), k.lbl,
    fun i hi hc => (k.block i (Nat.lt_of_lt_of_le hi h.size) (by rw [h.old i hi]; exact hc)).trans (h.block i hi hc)⟩
theorem Fr.mono {c d : Nat → Bool} {own own' : Nat → Nat} {w w' : World} (h : Fr c own own' w w') (hcd : ∀ l, d l = false → c l = false) : Fr d own own' w w' :=
  ⟨h.os, h.tape, h.output, h.size, h.old, h.lbl, fun k hk hd => h.block k hk (hcd _ hd)⟩
theorem Lbl.grow {own : Nat → Nat} {w w' : World} (h : Lbl own w) (hs : w.heap.size ≤ w'.heap.size) : Lbl own w' := fun k hk => h k (Nat.le_trans hs hk)
theorem Fr.of_below {c : Nat → Bool} {own : Nat → Nat} {w w' : World} (h : Below w.heap.size w w') (hL : Lbl own w) : Fr c own own w w' :=
  ⟨h.os, h.tape, h.output, h.size, fun _ _ => rfl, hL.grow h.size, fun k hk _ => h.block k hk⟩
/-- What is nobody's, and lay there, lies there. -/
theorem Fr.keep {c : Nat → Bool} {own own' : Nat → Nat} {w w' : World} (h : Fr c own own' w w') {k : Nat} {o : Obj} (hk : w.heap[k]? = some o) (hc : c (own k) = false) : w'.heap[k]? = some o :=
  (h.block k (Array.getElem?_eq_some_iff.1 hk).1 hc).trans hk
theorem Fr.alloc {c : Nat → Bool} {own own' : Nat → Nat} {w w' : World} (h : Fr c own own' w w') (o : Obj) : Fr c own own' w (w'.alloc o) :=
  h.trans (Fr.of_below ((Below.refl _ _).alloc (Nat.le_refl _) o) h.lbl)
theorem Fr.setRow {c : Nat → Bool} {own : Nat → Nat} {w : World} (hL : Lbl own w) {g : Nat} (cs : Array Value) (hg : c (own g) = true) : Fr c own own w (w.setRow g cs) :=
  ⟨rfl, rfl, rfl, by simp [World.setRow], fun _ _ => rfl, fun k hk => hL k (by simpa [World.setRow] using hk), fun k _ hc => setRow_other w g k cs (fun e => by subst e; rw [hg] at hc; cases hc)⟩
theorem Fr.setCell {c : Nat → Bool} {own : Nat → Nat} {w : World} (hL : Lbl own w) {p : Addr} (v : Value) (hg : c (own p.block) = true) : Fr c own own w (w.setCell p v) :=
  ⟨rfl, rfl, rfl, by simp [World.setCell], fun _ _ => rfl, fun k hk => hL k (by simpa [World.setCell] using hk), fun k _ hc => Below.heap_setCell _ _ _ _ (fun e => by subst e; rw [hg] at hc; cases hc)⟩
/-- A label for one block. -/
def lab (own : Nat → Nat) (g l : Nat) : Nat → Nat := fun k => if k = g then l else own k
theorem lab_self (own : Nat → Nat) (g l : Nat) : lab own g l g = l := if_pos rfl
theorem lab_other (own : Nat → Nat) {g k : Nat} (l : Nat) (h : k ≠ g) : lab own g l k = own k := if_neg h
/-- A new block gets a label. -/
theorem Fr.label {c : Nat → Bool} {own : Nat → Nat} {w w' : World} (hb : Fr c own own w w') (hlt : w.heap.size < w'.heap.size) (l : Nat) : Fr c own (lab own w.heap.size l) w w' :=
  ⟨hb.os, hb.tape, hb.output, hb.size, fun k hk => lab_other _ _ (by omega), fun k hk => by rw [lab_other _ _ (by omega)]; exact hb.lbl k hk, hb.block⟩
/-- A slice from a block's beginning; the block may be longer than the slice can grow. -/
def SlAt (w : World) (e : TypeId) (size : Nat) (v : Value) (n : Nat) (xs : List Value) : Prop :=
  xs.length = n * size ∧ ((v = .slice none 0 0 ∧ n = 0) ∨
    ∃ g cap cur, v = .slice (some ⟨g, 0, none⟩) n cap ∧ w.heap[g]? = some (.cells cur e (0, 0)) ∧ n ≤ cap ∧ cap ≤ maxLen ∧ cap * size ≤ cur.size ∧ cur.toList.take (n * size) = xs)
/-- One whose block bears a label. -/
def SlO (own : Nat → Nat) (l : Nat) (w : World) (e : TypeId) (size : Nat) (v : Value) (n : Nat) (xs : List Value) : Prop :=
  SlAt w e size v n xs ∧ ∀ g, v.ownBlock = some g → own g = l ∧ g < w.heap.size
theorem SlAt.nil (w : World) (e : TypeId) (size : Nat) : SlAt w e size (.slice none 0 0) 0 [] := ⟨by simp, Or.inl ⟨rfl, rfl⟩⟩
theorem SlO.nil (own : Nat → Nat) (l : Nat) (w : World) (e : TypeId) (size : Nat) : SlO own l w e size (.slice none 0 0) 0 [] := ⟨SlAt.nil w e size, fun g h => by cases h⟩
theorem SlAt.keep {w w' : World} {e : TypeId} {size n : Nat} {v : Value} {xs : List Value} (h : SlAt w e size v n xs) (hk : ∀ g, v.ownBlock = some g → w'.heap[g]? = w.heap[g]?) : SlAt w' e size v n xs := by
  refine ⟨h.1, ?_⟩
  rcases h.2 with h2 | ⟨g, cap, cur, rfl, hg, h3⟩
  · exact Or.inl h2
  · exact Or.inr ⟨g, cap, cur, rfl, by rw [hk g rfl]; exact hg, h3⟩
theorem SlO.keep {c : Nat → Bool} {own own' : Nat → Nat} {l : Nat} {w w' : World} {e : TypeId} {size n : Nat} {v : Value} {xs : List Value} (h : SlO own l w e size v n xs) (hf : Fr c own own' w w') (hc : c l = false) : SlO own' l w' e size v n xs := by
  refine ⟨h.1.keep fun g hg => hf.block g (h.2 g hg).2 (by rw [(h.2 g hg).1]; exact hc), fun g hg => ⟨by rw [hf.old g (h.2 g hg).2]; exact (h.2 g hg).1, Nat.lt_of_lt_of_le (h.2 g hg).2 hf.size⟩⟩
/-- A cell of a slice. -/
theorem SlAt.cell {w : World} {e : TypeId} {size n : Nat} {v : Value} {xs : List Value} (h : SlAt w e size v n xs) {j : Nat} {u : Value} (hj : xs[j]? = some u) : ∃ g cap, v = .slice (some ⟨g, 0, none⟩) n cap ∧ n ≤ cap ∧ w.cell? ⟨g, j, none⟩ = some u := by
  rcases h.2 with ⟨rfl, rfl⟩ | ⟨g, cap, cur, rfl, hg, h3, h4, h5, h6⟩
  · have := h.1
    rw [Nat.zero_mul] at this
    rw [List.eq_nil_of_length_eq_zero this] at hj; cases hj
  · refine ⟨g, cap, rfl, h3, ?_⟩
    rw [cell_of_row w g j _ _ _ hg]
    rw [← h6] at hj
    rw [List.getElem?_take] at hj
    split at hj
    · rw [← Array.getElem?_toList]; exact hj
    · cases hj
theorem SlAt.form {w : World} {e : TypeId} {size n : Nat} {v : Value} {xs : List Value} (h : SlAt w e size v n xs) : ∃ a c, v = .slice a n c ∧ n ≤ c := by
  rcases h.2 with ⟨rfl, rfl⟩ | ⟨g, cap, cur, rfl, hg, h3, _⟩
  · exact ⟨none, 0, rfl, Nat.le_refl _⟩
  · exact ⟨_, _, rfl, h3⟩
section
variable {P : Program} (w : World)
/-- append(s, x...) onto such a slice. -/
theorem run_append_sl {own : Nat → Nat} {l : Nat} (hL : Lbl own w) (t ty e : TypeId) (i : TypeInfo) (z : Value) (size bytes : Nat) (ht : P.underlying t = some (.slice e)) (hi : P.info? e = some i) (hz : i.zero = some z)
    (hsize : i.size = size) (hby : i.bytes = bytes) (hzs : z.cells.size = size)
    (v : Value) (n : Nat) (xs : List Value) (hown : SlO own l w e size v n xs)
    (a : Addr) (m c : Nat) (news : List Value) (hl : news.length = m * size) (hnews : ∀ j u, news[j]? = some u → w.cell? (a.add j) = some u) (h1 : ∀ u ∈ news, u.oneCell' = true)
    (h63 : n + m ≤ maxLen) (hbytes : (n + m) * bytes ≤ 140737488355328) :
    ∃ v' w' own', (Builtin.append_ #[t, t] ty #[v, .slice (some a) m c]).run P w = .ok v' w' ∧ SlO own' l w' e size v' (n + m) (xs ++ news) ∧ Fr (fun k => k == l) own own' w w' := by
  subst hsize
  subst hby
  have hlen : (xs ++ news).length = (n + m) * i.size := by rw [List.length_append, hown.1.1, hl, Nat.add_mul]
  have grown : ∀ (old : Nat), old < n + m → ∀ w' , w' = w.drew.alloc (.cells (xs.toArray ++ news.toArray ++ Builtin.zeroCells z.cells (grownCap w (n + m) old e - (n + m))) e) →
      SlO (lab own w.heap.size l) l w' e i.size (.slice (some ⟨w.heap.size, 0, none⟩) (n + m) (grownCap w (n + m) old e)) (n + m) (xs ++ news) ∧ Fr (fun k => k == l) own (lab own w.heap.size l) w w' := by
    rintro old ho w' rfl
    have hge := grownCap_ge w (n + m) old e
    have hcm : grownCap w (n + m) old e ≤ maxLen := grownCap_le_maxLen w (n + m) old e h63
    refine ⟨⟨⟨hlen, .inr ⟨w.heap.size, _, _, rfl, heap_alloc_new w.drew _, hge, hcm, ?_, ?_⟩⟩, fun g hg => ?_⟩, Fr.label (Fr.of_below ((Below.refl _ _).drew.alloc (Nat.le_refl _) _) hL) (by simp) l⟩
    · simp only [Array.size_append, List.size_toArray, size_zeroCells, hzs, hown.1.1, hl, ← Nat.add_mul]
      refine Nat.mul_le_mul_right _ ?_
      omega
    · simp only [Array.toList_append, List.append_assoc]
      rw [← List.append_assoc, ← hlen]
      exact List.take_left
    · obtain rfl : w.heap.size = g := by simpa [Value.ownBlock] using hg
      exact ⟨lab_self _ _ _, by simp⟩
  rcases hown.1.2 with ⟨rfl, rfl⟩ | ⟨g, cap, cur, rfl, hg, hnc, hcm, hcs, htake⟩
  · have hx : xs = [] := List.eq_nil_of_length_eq_zero (by simpa using hown.1.1)
    subst hx
    by_cases hm : m = 0
    · subst hm
      have hn : news = [] := List.eq_nil_of_length_eq_zero (by simpa using hl)
      subst hn
      refine ⟨.slice none 0 0, w, own, ?_, hown, Fr.refl _ hL⟩
      simp [Builtin.append_, run_underlying ht, Go.sizeOf, typeInfo, hi, Builtin.lenOf, Builtin.firstCells, loadCells, loadCellsFrom]
    · have hr := run_append_nil (P := P) w t ty e i z ht hi hz a m c news hl hnews (by omega) (by simp only [maxLen] at h63; omega) (by have hb := hbytes; simp only [Nat.zero_add] at hb; omega)
      have hgr := grown 0 (by omega) _ rfl
      simp only [Nat.zero_add, List.nil_append, Array.empty_append] at hgr ⊢
      exact ⟨_, _, _, hr, hgr.1, hgr.2⟩
  · by_cases hroom : n + m ≤ cap
    · have hfit : n * i.size + news.length ≤ cur.size := by rw [hl, ← Nat.add_mul]; exact Nat.le_trans (Nat.mul_le_mul_right _ hroom) hcs
      have hr := run_append_room (P := P) w t ty e i ht hi g n cap cur hg a m c news hl hnews h1 hroom hfit
      refine ⟨_, _, own, hr, ⟨⟨hlen, .inr ⟨g, cap, _, rfl, setRow_heap w g cur _ e _ hg, hroom, hcm, ?_, ?_⟩⟩, fun k hk => ?_⟩, Fr.setRow hL _ (by simpa using (hown.2 g rfl).1)⟩
      · simp only [List.size_toArray, List.length_append, List.length_take, List.length_drop, Array.length_toList]
        omega
      · rw [htake, ← hlen]
        exact List.take_left
      · obtain rfl : g = k := by simpa [Value.ownBlock] using hk
        exact ⟨(hown.2 g rfl).1, by simpa [World.setRow] using (hown.2 g rfl).2⟩
    · have holds : ∀ j u, xs[j]? = some u → w.cell? ((⟨g, 0, none⟩ : Addr).add j) = some u := fun j u hj => by
        obtain ⟨g', cap', e', _, hc⟩ := hown.1.cell hj
        injection e' with e1 e2 e3
        injection e1 with e1
        injection e1 with e1
        subst e1
        rw [show (⟨g, 0, none⟩ : Addr).add j = ⟨g, j, none⟩ by simp [Addr.add]; omega]
        exact hc
      have hr := run_append_grow (P := P) w t ty e i z ht hi hz ⟨g, 0, none⟩ n cap xs hown.1.1 holds a m c news hl hnews (by omega) (by simp only [maxLen] at h63; omega) (growslice_fits (by omega) hbytes)
      have hgr := grown cap (by omega) _ rfl
      exact ⟨_, _, _, hr, hgr.1, hgr.2⟩
end
end Bd

namespace Bd
open Go
abbrev Ba := ByteArray
instance : LawfulBEq ByteArray where
  eq_of_beq {a b} h := ByteArray.ext (eq_of_beq (show (a.data == b.data) = true from h))
  rfl {a} := show (a.data == a.data) = true from beq_self_eq_true _
def tx (s : String) : Ba := s.toUTF8
structure NodeL where
  kind : Int
  name : Ba
  text : Ba
  space : Int
  dup : Bool
  parent : Int
  content : Int
  kids : List Int
  frm : Int
  till : Int
  deriving DecidableEq
structure TokL where
  kind : Int
  name : Ba
  text : Ba
  dup : Bool
  self : Bool
  quirks : Bool
  frm : Int
  till : Int
def em : Ba := ⟨#[]⟩
def nd0 : NodeL := ⟨0, em, em, 0, false, 0, 0, [], 0, 0⟩
def tok0 : TokL := ⟨0, em, em, false, false, false, 0, 0⟩
/-! ### arena -/
abbrev Ar := List NodeL
def has (a : Ar) (i : Int) : Bool := decide (0 ≤ i) && decide (i < (a.length : Int))
def rd (a : Ar) (i : Int) : NodeL := a.getD i.toNat nd0
def node (a : Ar) (i : Int) : NodeL := if has a i then rd a i else nd0
def upd (a : Ar) (i : Int) (f : NodeL → NodeL) : Ar := a.modify i.toNat f
def bare (n : NodeL) : NodeL := { n with parent := -1, content := 0, kids := [] }
def kidK (k : Int) : Bool := k == 2 || k == 3 || k == 4 || k == 5
def holds (a : Ar) (i : Int) : Bool := has a i && ((rd a i).kind == 1 || (rd a i).kind == 3 || (rd a i).kind == 6)
def hangs (a : Ar) (i : Int) : Bool := has a i && kidK (rd a i).kind
def up (a : Ar) (i : Int) : Int := if (rd a i).kind == 6 then i - 1 else (rd a i).parent
def aboveF (a : Ar) (i : Int) : Nat → Int → Bool
  | 0, _ => false
  | n + 1, x => if x < 0 then false else if x == i then true else aboveF a i n (up a x)
def above (a : Ar) (i x : Int) : Bool := aboveF a i (a.length + 1) x
def root0 : NodeL := { nd0 with kind := 1, frm := -1, till := -1 }
def newA : Ar := [bare root0]
def templateS : Ba := ⟨#[116, 101, 109, 112, 108, 97, 116, 101]⟩
def isTpl (n : NodeL) : Bool := n.kind == 3 && n.space == 0 && n.name == templateS
def content0 : NodeL := { nd0 with kind := 6, frm := -1, till := -1, parent := -1 }
def add (a : Ar) (n : NodeL) : Ar × Int :=
  if a.isEmpty || !kidK n.kind then (a, -1)
  else if isTpl n then (a ++ [{ bare n with content := (a.length : Int) + 1 }, content0], a.length) else (a ++ [bare n], a.length)
def free (a : Ar) (i : Int) : Ar :=
  if (rd a i).parent < 0 then a
  else upd (upd a (rd a i).parent fun n => { n with kids := n.kids.erase i }) i fun n => { n with parent := -1 }
def laid (l : List Int) (ref i : Int) : List Int := if ref < 0 then l ++ [i] else l.take (l.idxOf ref) ++ i :: l.drop (l.idxOf ref)
def hang (a : Ar) (p ref i : Int) : Ar :=
  upd (upd (free a i) p fun n => { n with kids := laid n.kids ref i }) i fun n => { n with parent := p }
def append (a : Ar) (p i : Int) : Ar × Int :=
  if a.isEmpty then (a, 1) else if !holds a p || !hangs a i || above a i p then (a, 2) else (hang a p (-1) i, 0)
def before (a : Ar) (i ref : Int) : Ar × Int :=
  if a.isEmpty then (a, 1) else if !hangs a i || !has a ref || decide ((rd a ref).parent < 0) || above a i ref then (a, 2) else (hang a (rd a ref).parent ref i, 0)
def move (a : Ar) (f t : Int) : Ar × Int :=
  if a.isEmpty then (a, 1) else if !holds a f || !holds a t || above a f t then (a, 2) else ((rd a f).kids.foldl (fun a i => hang a t (-1) i) a, 0)
def textN (s : Ba) : NodeL := { nd0 with kind := 4, text := s, frm := -1, till := -1 }
def textA (a : Ar) (p ref : Int) (s : Ba) : Ar × Int :=
  if a.isEmpty then (a, 1)
  else if !holds a p || (ref != -1 && (!has a ref || (rd a ref).parent != p)) then (a, 2)
  else if s == em then (a, 0)
  else
    let kids := (rd a p).kids
    let k : Nat := if 0 ≤ ref then kids.idxOf ref else kids.length
    if 0 < k ∧ (rd a (kids.getD (k - 1) 0)).kind = 4 then (upd a (kids.getD (k - 1) 0) fun n => { n with text := n.text ++ s }, 0)
    else (hang (add a (textN s)).1 p ref (add a (textN s)).2, 0)
/-! ### kinds -/
def infixB (u : List UInt8) : List UInt8 → Bool
  | [] => u.isEmpty
  | l@(_ :: r) => u.isPrefixOf l || infixB u r
def inK (l : Ba) (n : Ba) : Bool := n != em && !(n.data.toList.contains 32) && infixB (32 :: (n.data.toList ++ [32])) l.data.toList
/-- The names of elements that are special, a blank around each. -/
def specialS : Ba := tx " address applet area article aside base basefont bgsound blockquote body br button caption center col colgroup dd details dir div dl dt embed fieldset figcaption figure footer form frame frameset h1 h2 h3 h4 h5 h6 head header hgroup hr html iframe img input keygen li link listing main marquee menu meta nav noembed noframes noscript object ol p param plaintext pre script search section select source style summary table tbody td template textarea tfoot th thead title tr track ul wbr xmp "
def mathS : Ba := tx " annotation-xml mi mn mo ms mtext "
def svgS : Ba := tx " desc foreignobject title "
def impliedS : Ba := tx " dd dt li optgroup option p rb rp rt rtc "
def normalS : Ba := tx " applet caption html marquee object table td template th "
def scopesL : List Ba := [normalS, normalS ++ tx "ol ul ", normalS ++ tx "button ", tx " html table template "]
def special (sp : Int) (n : Ba) : Bool := if sp == 0 then inK specialS n else if sp == 2 then inK mathS n else if sp == 1 then inK svgS n else false
def impliedK (n : Ba) : Bool := inK impliedS n
def scopeK (which sp : Int) (n : Ba) : Bool :=
  if which < 0 || 4 ≤ which then false else if sp == 0 then inK (scopesL.getD which.toNat em) n else which != 3 && special sp n
/-! ### stack -/
structure OpenL where
  node : Int
  space : Int
  name : Ba
  deriving DecidableEq
abbrev St := List OpenL
def htmlO (o : OpenL) (ns : List Ba) : Bool := o.space == 0 && ns.contains o.name
def atS (s : St) (k : Int) : Int := if k < 0 || (s.length : Int) ≤ k then -1 else ((s.map OpenL.node).getD k.toNat 0)
def topS (s : St) : Int := atS s ((s.length : Int) - 1)
def lastIdx {α : Type} (p : α → Bool) (l : List α) : Int := match l.reverse.findIdx? p with | some k => (l.length : Int) - 1 - k | none => -1
def indexS (s : St) (i : Int) : Int := lastIdx (fun o => o.node == i) s
def elementS (a : Ar) (i : Int) : OpenL × Int := if (node a i).kind != 3 then (⟨0, 0, em⟩, 2) else (⟨i, (node a i).space, (node a i).name⟩, 0)
def insertS (a : Ar) (s : St) (k i : Int) : St × Int :=
  if (elementS a i).2 != 0 then (s, (elementS a i).2) else if k < 0 || (s.length : Int) < k then (s, 2) else if 512 ≤ s.length then (s, 150)
  else (s.take k.toNat ++ (elementS a i).1 :: s.drop k.toNat, 0)
def pushS (a : Ar) (s : St) (i : Int) : St × Int := insertS a s s.length i
def replaceS (a : Ar) (s : St) (k i : Int) : St × Int :=
  if (elementS a i).2 != 0 then (s, (elementS a i).2) else if k < 0 || (s.length : Int) ≤ k then (s, 2) else (s.set k.toNat (elementS a i).1, 0)
def popS (s : St) : St := s.dropLast
def removeS (s : St) (i : Int) : St × Int := if indexS s i < 0 then (s, 4) else (s.eraseIdx (indexS s i).toNat, 0)
def scopeG (which : Int) (p : OpenL → Bool) : List OpenL → Bool
  | [] => false
  | o :: r => if p o then true else if scopeK which o.space o.name then false else scopeG which p r
def hasS (s : St) (which : Int) (ns : List Ba) : Bool := scopeG which (fun o => htmlO o ns) s.reverse
def hasN (s : St) (which i : Int) : Bool := scopeG which (fun o => o.node == i) s.reverse
def untilS (s : St) (ns : List Ba) : St × Int := if lastIdx (fun o => htmlO o ns) s < 0 then (s, 4) else (s.take (lastIdx (fun o => htmlO o ns) s).toNat, 0)
def dropS (so : Ba → Bool) (s : St) : St := (s.reverse.dropWhile fun o => o.space == 0 && so o.name).reverse
def impliedSt (but : Ba) (s : St) : St := dropS (fun n => n != but && impliedK n) s
/-! ### formats -/
abbrev Fo := List Int
def atF (l : Fo) (k : Int) : Int × Bool := if k < 0 || (l.length : Int) ≤ k then (-1, false) else (l.getD k.toNat 0, l.getD k.toNat 0 == -1)
def lastF (l : Fo) (frm : Int) (so : Int → Bool) : Int := if lastIdx so l < frm then -1 else lastIdx so l
def openF (l : Fo) : Int := lastF l 0 (fun i => i == -1) + 1
def indexF (l : Fo) (i : Int) : Int := if i < 0 then -1 else lastF l 0 (fun x => x == i)
def lastN (a : Ar) (l : Fo) (name : Ba) : Int :=
  let k := lastF l (openF l) (fun i => (node a i).space == 0 && (node a i).name == name)
  if k < 0 then -1 else l.getD k.toNat 0
def likeN (s n : NodeL) : Bool := n.kind == 3 && n.space == s.space && n.name == s.name
def layF (l : Fo) (k : Nat) (i : Int) : Fo × Int := if 64 ≤ l.length then (l, 3) else (l.take k ++ i :: l.drop k, 0)
/-- The places of those that are like, from the end on; the last one told is the first one in the list. -/
def likes (a : Ar) (l : Fo) (i : Int) : List Nat := (List.range l.length).reverse.filter fun k => decide (openF l ≤ (k : Int)) && likeN (node a i) (node a (l.getD k 0))
def pushF (a : Ar) (l : Fo) (i : Int) : Fo × Int :=
  if (node a i).kind != 3 then (l, 2)
  else
    let l' := if 3 ≤ (likes a l i).length then l.eraseIdx ((likes a l i).getLast?.getD 0) else l
    layF l' l'.length i
def removeF (l : Fo) (i : Int) : Fo × Int := if indexF l i < 0 then (l, 4) else (l.eraseIdx (indexF l i).toNat, 0)
def insertF (a : Ar) (l : Fo) (k i : Int) : Fo × Int := if (node a i).kind != 3 then (l, 2) else if k < 0 || (l.length : Int) < k then (l, 2) else layF l k.toNat i
def replaceF (a : Ar) (l : Fo) (k i : Int) : Fo × Int := if (node a i).kind != 3 then (l, 2) else if k < 0 || (l.length : Int) ≤ k then (l, 2) else (l.set k.toNat i, 0)
/-! ### builder -/
structure BS where
  ar : Ar
  st : St
  fo : Fo
  mode : Int
  back : Int
  modes : List Int
  head : Int
  form : Int
  quirks : Bool
  foster : Bool
  skip : Bool
  pending : Ba
  err : Int
def newB : BS := ⟨newA, [], [], 0, 0, [], -1, -1, false, false, false, em, 0⟩
def failB (b : BS) (e : Int) : BS := if b.err == 0 && e != 0 then { b with err := e } else b
def current (b : BS) : NodeL := node b.ar (topS b.st)
def htmlN (n : NodeL) (ns : List Ba) : Bool := n.kind == 3 && n.space == 0 && ns.contains n.name
def isB (b : BS) (ns : List Ba) : Bool := htmlN (current b) ns
def lastB (b : BS) (n : Ba) : Int := lastIdx (fun o => htmlN (node b.ar o.node) [n]) b.st
def openB (b : BS) (n : Ba) : Bool := decide (0 ≤ lastB b n)
def fosterL : List Ba := [tx "table", tx "tbody", tx "tfoot", tx "thead", tx "tr"]
def fostered (b : BS) : Int × Int :=
  if lastB b (tx "template") > lastB b (tx "table") then (atS b.st (lastB b (tx "template")), -1)
  else if lastB b (tx "table") < 0 then (atS b.st 0, -1)
  else if 0 ≤ (node b.ar (atS b.st (lastB b (tx "table")))).parent then ((node b.ar (atS b.st (lastB b (tx "table")))).parent, atS b.st (lastB b (tx "table")))
  else (atS b.st (lastB b (tx "table") - 1), -1)
def place (b : BS) (target : Int) : Int × Int :=
  let pr := if b.foster && htmlN (node b.ar target) fosterL then fostered b else (target, -1)
  if pr.2 < 0 && htmlN (node b.ar pr.1) [templateS] then ((node b.ar pr.1).content, pr.2) else pr
def putB (b : BS) (n target : Int) : BS :=
  if 0 ≤ (place b target).2 then { b with ar := (before b.ar n (place b target).2).1 } else { b with ar := (append b.ar (place b target).1 n).1 }
def target (b : BS) : Int := max (topS b.st) 0
def elementT (t : TokL) (sp : Int) : NodeL := { nd0 with kind := 3, name := t.name, space := sp, dup := t.dup, frm := t.frm, till := t.till }
def insertB (b : BS) (t : TokL) (sp : Int) : BS × Int :=
  if 512 ≤ b.st.length then (failB b 150, -1)
  else
    let i := (add b.ar (elementT t sp)).2
    let b1 := { b with ar := (add b.ar (elementT t sp)).1 }
    let b2 := putB b1 i (target b1)
    (failB { b2 with st := (pushS b2.ar b2.st i).1 } (pushS b2.ar b2.st i).2, i)
def only (b : BS) (t : TokL) : BS × Int := if 0 ≤ (insertB b t 0).2 then ({ (insertB b t 0).1 with st := popS (insertB b t 0).1.st }, (insertB b t 0).2) else insertB b t 0
def implyT (n : Ba) : TokL := { tok0 with kind := 2, name := n, frm := -1, till := -1 }
def imply (b : BS) (n : Ba) : BS × Int := insertB b (implyT n) 0
def charsB (b : BS) (s : Ba) : BS := if 0 < (place b (target b)).1 then { b with ar := (textA b.ar (place b (target b)).1 (place b (target b)).2 s).1 } else b
def commentN (t : TokL) : NodeL := { nd0 with kind := 5, text := t.text, frm := -1, till := -1 }
def comment (b : BS) (t : TokL) (into : Int) : BS :=
  let i := (add b.ar (commentN t)).2
  let b1 := { b with ar := (add b.ar (commentN t)).1 }
  if into < 0 then putB b1 i (target b1) else { b1 with ar := (append b1.ar into i).1 }
/-- The first place of those at the list's end that are not open. -/
def lostF (b : BS) : Nat → Nat
  | 0 => 0
  | k + 1 => if (atF b.fo k).2 || decide (0 ≤ indexS b.st (atF b.fo k).1) then k + 1 else lostF b k
def lost (b : BS) : Nat := lostF b b.fo.length
def againT (n : NodeL) : TokL := { tok0 with kind := 2, name := n.name, dup := n.dup, frm := n.frm, till := n.till }
def rebuildF : Nat → BS → Nat → BS
  | 0, b, _ => b
  | m + 1, b, k =>
    let r := insertB b (againT (node b.ar (atF b.fo k).1)) 0
    if r.2 < 0 then r.1 else rebuildF m { r.1 with fo := (replaceF r.1.ar r.1.fo k r.2).1 } (k + 1)
def rebuild (b : BS) : BS := rebuildF (b.fo.length - lost b) b (lost b)
def pS : Ba := ⟨#[112]⟩
def closeP (b : BS) : BS := if hasS b.st 2 [pS] then { b with st := (untilS (impliedSt pS b.st) [pS]).1 } else b
/-! ### adopt -/
def furthest (b : BS) (at' : Int) : Int :=
  match (b.st.drop (at' + 1).toNat).find? (fun o => special (node b.ar o.node).space (node b.ar o.node).name) with
  | some o => o.node
  | none => -1
def freshN (n : NodeL) : NodeL := { nd0 with kind := 3, name := n.name, dup := n.dup, frm := n.frm, till := n.till }
def fresh (b : BS) (i : Int) : BS × Int := ({ b with ar := (add b.ar (freshN (node b.ar i))).1 }, (add b.ar (freshN (node b.ar i))).2)
/-- From the block up to the element: what hangs together behind it, and the mark. -/
def inward (block format : Int) : Nat → BS → Int → Int → Int → Int → BS × Int × Int
  | 0, b, _, _, last, mark => (b, last, mark)
  | f + 1, b, many, k, last, mark =>
    let k := k - 1
    let x := atS b.st k
    if x == format then (b, last, mark)
    else
      let at0 := indexF b.fo x
      let drop := decide (3 < many) && decide (0 ≤ at0)
      let b1 := if drop then { b with fo := (removeF b.fo x).1 } else b
      let mark1 := if drop && decide (at0 < mark) then mark - 1 else mark
      let at1 := if drop then -1 else at0
      if at1 < 0 then inward block format f { b1 with st := (removeS b1.st x).1 } (many + 1) k last mark1
      else
        let (b2, y) := fresh b1 x
        let b3 := { b2 with fo := (replaceF b2.ar b2.fo at1 y).1, st := (replaceS b2.ar b2.st k y).1 }
        let mark2 := if last == block then at1 + 1 else mark1
        inward block format f { b3 with ar := (append b3.ar y last).1 } (many + 1) k y mark2
def renew (b : BS) (block format mark : Int) : BS :=
  let (b1, y) := fresh b format
  let b2 := { b1 with ar := (append (move b1.ar block y).1 block y).1 }
  let at0 := indexF b2.fo format
  let fo1 := (removeF b2.fo format).1
  let mark1 := if at0 < mark then mark - 1 else mark
  let fo2 := (insertF b2.ar fo1 mark1 y).1
  let st1 := (removeS b2.st format).1
  { b2 with fo := fo2, st := (insertS b2.ar st1 (indexS st1 block + 1) y).1 }
/-- more, done. -/
def once (b : BS) (name : Ba) : BS × Bool × Bool :=
  let format := lastN b.ar b.fo name
  if format < 0 then (b, false, false)
  else
    let at0 := indexS b.st format
    if at0 < 0 then ({ b with fo := (removeF b.fo format).1 }, false, true)
    else if !hasN b.st 0 format then (b, false, true)
    else
      let block := furthest b at0
      if block < 0 then ({ b with st := b.st.take at0.toNat, fo := (removeF b.fo format).1 }, false, true)
      else
        let above := atS b.st (at0 - 1)
        let (b1, last, mark) := inward block format 600 b 1 (indexS b.st block) block (indexF b.fo format)
        (renew (putB b1 last above) block format mark, true, true)
def runF : Nat → BS → Ba → BS × Bool
  | 0, b, _ => (b, true)
  | n + 1, b, name =>
    let (b1, more, done) := once b name
    if !done then (b1, false) else if !more then (b1, true) else runF n b1 name
def run (b : BS) (name : Ba) : BS × Bool :=
  if isB b [name] && decide (indexF b.fo (topS b.st) < 0) then ({ b with st := popS b.st }, true) else runF 8 b name
def otherF (b : BS) (name : Ba) : Nat → BS
  | 0 => b
  | k + 1 =>
    let n := node b.ar (atS b.st k)
    if n.space == 0 && n.name == name then { b with st := (impliedSt name b.st).take k } else if special n.space n.name then b else otherF b name k
def other (b : BS) (name : Ba) : BS := otherF b name b.st.length
/-! ### bodies -/
def openE (b : BS) (t : TokL) : BS := (insertB b t 0).1
def block (b : BS) (t : TokL) : BS := openE (closeP b) t
def plain (b : BS) (t : TokL) : BS := openE (rebuild b) t
def format (b : BS) (t : TokL) : BS :=
  let r := insertB (rebuild b) t 0
  if 0 ≤ r.2 then failB { r.1 with fo := (pushF r.1.ar r.1.fo r.2).1 } (pushF r.1.ar r.1.fo r.2).2 else r.1
def single (b : BS) (t : TokL) : BS := (only (rebuild b) t).1
def formatted (b : BS) (t : TokL) : BS := if (run b t.name).2 then (run b t.name).1 else other (run b t.name).1 t.name
def link (b : BS) (t : TokL) : BS :=
  let i := lastN b.ar b.fo (tx "a")
  if 0 ≤ i then
    let b1 := formatted b t
    format { b1 with fo := (removeF b1.fo i).1, st := (removeS b1.st i).1 } t
  else format b t
def itemF (names : List Ba) (b : BS) : Nat → BS
  | 0 => b
  | k + 1 =>
    let n := node b.ar (atS b.st k)
    if n.space == 0 && names.contains n.name then { b with st := (untilS (impliedSt n.name b.st) [n.name]).1 }
    else if n.space == 0 && (n.name == tx "address" || n.name == tx "div" || n.name == pS) then itemF names b k
    else if special n.space n.name then b else itemF names b k
def item (names : List Ba) (b : BS) (t : TokL) : BS := block (itemF names b b.st.length) t
def shut (b : BS) (t : TokL) : BS := if hasS b.st 0 [t.name] then { b with st := (untilS (impliedSt em b.st) [t.name]).1 } else b
def endP (b : BS) : BS := closeP (if hasS b.st 2 [pS] then b else (imply b pS).1)
def brT : TokL := { tok0 with kind := 2, name := tx "br", frm := -1, till := -1 }
def endBr (b : BS) : BS := single b brT
def chB (b : BS) (t : TokL) : BS := charsB (rebuild b) t.text
/-! ### the law's -/
def opened : BS :=
  let b := (imply newB (tx "html")).1
  let r := imply b (tx "head")
  let b := { r.1 with head := r.2 }
  let b := { b with st := popS b.st }
  let b := (imply b (tx "body")).1
  { b with mode := 6 }
def startT (n : Ba) : TokL := { tok0 with kind := 2, name := n }
def endT (n : Ba) : TokL := { tok0 with kind := 3, name := n }
def charsT (s : Ba) : TokL := { tok0 with kind := 7, text := s }
def shapeF (l : Ar) : Nat → Int → Ba
  | 0, _ => em
  | f + 1, i => if i < 0 || (l.length : Int) ≤ i then em else
    let n := rd l i
    if n.kind == 4 then n.text else (n.kids.foldl (fun s k => s ++ shapeF l f k) (n.name ++ tx "(")) ++ tx ")"
def shape (b : BS) : Ba := shapeF b.ar (b.ar.length + 1) 3
end Bd

namespace Go.Proofs.YtnbdalohlldnbaaGreatDoor
open Go.RowKit Bd
attribute [local go_sem ↓] Go.wp_at_zero Go.wp_at_succ
theorem below_call {w0 w w' : World} (h : Below w0.heap.size w0 w) (hb : Below w.heap.size w w') : Below w0.heap.size w0 w' := h.trans (hb.mono h.size)
/-- A number that is an int. -/
def Ik (k : Int) : Prop := -9223372036854775808 ≤ k ∧ k ≤ 9223372036854775807
def RB (b : Bool) (w : World) (e : Ending) (w' : World) : Prop := e = .returned (.bool b) ∧ w = w'
def RI (n : Int) (w : World) (e : Ending) (w' : World) : Prop := e = .returned (.int .i64 n) ∧ w = w'
def RBool (b : Bool) (w : World) (e : Ending) (w' : World) : Prop := e = .returned (.bool b) ∧ Below w.heap.size w w'
theorem row_setC {w : World} {R : Nat} {cs : Array Value} {t : TypeId} {fr : Nat × Nat} (h : w.heap[R]? = some (.cells cs t fr)) (k : Nat) (v : Value) : (w.setCell ⟨R, k, none⟩ v).heap[R]? = some (.cells (cs.setIfInBounds k v) t fr) := row_set h k v
def ints (l : List Int) : List Value := l.map (Value.int .i64)
theorem ints_get {l : List Int} {j : Nat} {x : Int} (h : l[j]? = some x) : (ints l)[j]? = some (.int .i64 x) := by unfold ints; rw [List.getElem?_map, h]; rfl
theorem ints_len (l : List Int) : (ints l).length = l.length := by simp [ints]
theorem ints_one (l : List Int) : ∀ u ∈ ints l, u.oneCell' = true := by
  intro u hu
  obtain ⟨x, _, rfl⟩ := List.mem_map.1 hu
  rfl
theorem infoInt : (Tryz.prog.info? 3).map (fun i => (i.zero, i.size, i.bytes)) = some (some (.int .i64 0), 1, 8) := by kernel_rfl
theorem addr_add' (g o j : Nat) : (⟨g, o, none⟩ : Addr).add j = ⟨g, o + j, none⟩ := by unfold Addr.add; split <;> simp_all
/-- Two texts, as the walk compares them. -/
theorem text_beq (a : ByteArray) (l : List UInt8) : (a.toList == l) = (a == (⟨l.toArray⟩ : ByteArray)) := by
  rw [Lib.toList_data, Bool.eq_iff_iff, beq_iff_eq, beq_iff_eq]
  constructor
  · intro h; exact ByteArray.ext (Array.toList_inj.1 (by rw [h]))
  · intro h; rw [h]
theorem text_beq2 (a b : ByteArray) : (a.toList == b.toList) = (a == b) := by
  rw [text_beq, Lib.toList_data]
end Go.Proofs.YtnbdalohlldnbaaGreatDoor
