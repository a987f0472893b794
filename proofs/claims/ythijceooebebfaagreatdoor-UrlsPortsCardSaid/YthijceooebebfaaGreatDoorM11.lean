/-
  The contracts of the library that the walks of this seat lean on, at this dump: each one application of a summary that the kit proves.
  What the library's functions that package hosts calls besides return: IndexFunc at the predicate of a domain's bytes, Join of nothing, Cut, ContainsAny.
  hosts.told and hosts.six.text.
  hosts.six.text.
-/
import Derived.Test.YthijceooebebfaaGreatDoorM05
import Derived.Test.YthijceooebebfaaGreatDoorM02
import Derived.Shelf.Strings.Builder1
import Derived.Shelf.Strings.Builder2
import Derived.Shelf.Strings.OnBuilder
import Derived.Shelf.Strings.Trim
import Derived.Shelf.Small.Utf8
import Derived.Shelf.Small.Strs
import Derived.Shelf.Strings.BuilderF
import Derived.Shelf.Strings.BuilderK
import Derived.Shelf.Strconv.Itoa0
import Derived.Shelf.Strconv.Itoa1
import Derived.Shelf.LaysM
import Derived.Shelf.Strconv.Itoa2
import Derived.Shelf.Strconv.Itoa3
import Derived.Shelf.Strconv.Itoa4
import Derived.Shelf.Strconv.Clone
import Derived.Shelf.Strconv.SyntaxError
import Derived.Shelf.LaysC
import Derived.Shelf.Strconv.ToError
import Derived.Shelf.Strconv.Lower
import Derived.Shelf.Strconv.ParseUint10
import Derived.Shelf.Strconv.ParseUint10Empty
import Derived.Shelf.Strconv.ParseUint10Any
import Derived.Shelf.Strconv.RangeError
import Derived.Shelf.Strconv.ToErrorRange
import Derived.Ground.MpProg
import Derived.Shelf.Pu.ParseUintPublic10
import Derived.Shelf.Pu.ErrVarParseUint
import Derived.Shelf.Strings.Search1
import Derived.Shelf.Strings.Search2
import Derived.Shelf.Strings.Search3
import Derived.Shelf.Strings.Cut
import Derived.Shelf.Strings.Count
import Derived.Shelf.Strings.Shaped
import Derived.Shelf.GgClosure.StringsIndexFunc
import Derived.Shelf.GgClosure.StringsTrimFunc
import Derived.Ground.GgwProg
import Derived.Shelf.GgClosure.StringsIndexFuncTop
import Derived.Shelf.GgClosure.StringsRunes
import Derived.Shelf.Strings.Prefix
import Derived.Shelf.Strings.Split
import Derived.Shelf.Strings.Replace
import Derived.Shelf.Strings.SplitShaped
import Derived.Shelf.Strings.Runes
import Derived.Shelf.Strings.IndexAny
import Derived.Shelf.Strings.AsciiSet
import Derived.Shelf.Strings.IndexAnyAll
import Derived.Shelf.Unicode.DecodeSlow
import Derived.Shelf.Unicode.DecodeAny
import Derived.Shelf.Unicode.DecodeLast
import Derived.Shelf.Strings.FuncGrows
import Derived.Test.YthijceooebebfaaGreatDoorProg
import Derived.Test.YthijceooebebfaaGreatDoorM08
import Derived.Test.YthijceooebebfaaGreatDoorM10
import Derived.Lib.DecodeNEq
import Derived.Lib.MapLaws
import Derived.Laws.RangeString
import Derived.Test.YthijceooebebfaaGreatDoorM09
import Derived.Deep.RegionWith
namespace Go.Proofs
open Go.Shelf
open Go.RowKit in
theorem Tryz.strings_Join_none (a : Option Addr) (c : Nat) (sep : ByteArray) (w : World) :
    Calls Tryz.prog 214 #[.slice a 0 c, .string sep] w fun e w' => e = .returned (.string ⟨#[]⟩) ∧ w' = w := Any.strings_Join_none Tryz.lays156 Tryz.Builder_Extra_156 a c sep w
def Tryz.lays119_ren : Go.Shelf.Ren := ⟨fun | 119 => 157 | n => n, fun | 21 => 21 | 4 => 4 | n => n, fun | n => n⟩
theorem Tryz.lays119 : Go.Proofs.Lays.n119 Tryz.prog Tryz.lays119_ren := {
  mixed := by kernel_rfl
  f119 := Tryz.func157.trans (congrArg some (by kernel_rfl))
  t4 := Tryz.underlying4
  a4 := Tryz.isAgg4
  z4 := Tryz.sizeOf4
  v4 := Tryz.zeroValue4
  t21 := Tryz.underlying21
  a21 := Tryz.isAgg21
  z21 := Tryz.sizeOf21
  v21 := Tryz.zeroValue21 }
theorem Tryz.utf8_ValidRune (r : Int) (w : World) :
    Calls Tryz.prog 157 #[.int .i32 r] w fun e w' => e = .returned (.bool (Lib.validRune r)) ∧ w' = w := Any.utf8_ValidRune Tryz.lays119 r w
def Tryz.lays150_ren : Go.Shelf.Ren := ⟨fun | 150 => 173 | 153 => 137 | 152 => 135 | 226 => 158 | 227 => 110 | 228 => 142 | 137 => 73 | 119 => 157 | 224 => 127 | 225 => 126 | 217 => 114 | 266 => 144 | n => n, fun | 9 => 9 | 4 => 4 | 3 => 3 | 5 => 5 | 21 => 21 | 117 => 133 | 116 => 132 | 0 => 0 | 46 => 93 | 124 => 136 | n => n, fun | n => n⟩
theorem Tryz.lays150 : Go.Proofs.Lays.n150 Tryz.prog Tryz.lays150_ren := {
  mixed := by kernel_rfl
  f119 := Tryz.func157.trans (congrArg some (by kernel_rfl))
  f137 := Tryz.func73.trans (congrArg some (by kernel_rfl))
  f150 := Tryz.func173.trans (congrArg some (by kernel_rfl))
  f152 := Tryz.func135.trans (congrArg some (by kernel_rfl))
  f153 := Tryz.func137.trans (congrArg some (by kernel_rfl))
  f217 := Tryz.func114.trans (congrArg some (by kernel_rfl))
  f224 := Tryz.func127.trans (congrArg some (by kernel_rfl))
  f225 := Tryz.func126.trans (congrArg some (by kernel_rfl))
  f226 := Tryz.func158.trans (congrArg some (by kernel_rfl))
  f227 := Tryz.func110.trans (congrArg some (by kernel_rfl))
  f228 := Tryz.func142.trans (congrArg some (by kernel_rfl))
  f266 := Tryz.func144.trans (congrArg some (by kernel_rfl))
  t0 := Tryz.underlying0
  a0 := Tryz.isAgg0
  z0 := Tryz.sizeOf0
  v0 := Tryz.zeroValue0
  t3 := Tryz.underlying3
  a3 := Tryz.isAgg3
  z3 := Tryz.sizeOf3
  v3 := Tryz.zeroValue3
  t4 := Tryz.underlying4
  a4 := Tryz.isAgg4
  z4 := Tryz.sizeOf4
  v4 := Tryz.zeroValue4
  t5 := Tryz.underlying5
  a5 := Tryz.isAgg5
  z5 := Tryz.sizeOf5
  v5 := Tryz.zeroValue5
  t9 := Tryz.underlying9
  a9 := Tryz.isAgg9
  z9 := Tryz.sizeOf9
  v9 := Tryz.zeroValue9
  t21 := Tryz.underlying21
  a21 := Tryz.isAgg21
  z21 := Tryz.sizeOf21
  v21 := Tryz.zeroValue21
  t46 := Tryz.underlying93
  a46 := Tryz.isAgg93
  z46 := Tryz.sizeOf93
  v46 := Tryz.zeroValue93
  t116 := Tryz.underlying132
  a116 := Tryz.isAgg132
  z116 := Tryz.sizeOf132
  t117 := Tryz.underlying133
  a117 := Tryz.isAgg133
  z117 := Tryz.sizeOf133
  v117 := Tryz.zeroValue133
  t124 := Tryz.underlying136
  a124 := Tryz.isAgg136
  z124 := Tryz.sizeOf136
  v124 := Tryz.zeroValue136 }
open Go.RowKit Go.Lib in
theorem Tryz.strings_ContainsAny_laid (s chars : ByteArray) (w : World) (hs : s.size < 4294967281) (hcs : chars.size < 4294967281) (has : ∀ (j : Nat) b, s.data.toList[j]? = some b → b.toNat < 128) (hac : ∀ (j : Nat) b, chars.data.toList[j]? = some b → b.toNat < 128) :
    Calls Tryz.prog 173 #[.string s, .string chars] w fun e w' => e = .returned (.bool (Lib.containsAny s.data.toList chars.data.toList)) ∧ Below w.heap.size w w' := Any.strings_ContainsAny_laid Tryz.lays150 (by kernel_rfl) s chars w hs hcs has hac
end Go.Proofs

namespace Lz
open Go
theorem rune_hi (s : ByteArray) (pos : Nat) (h : pos < s.size) (hb : 128 ≤ (s[pos]'h).toNat) : 128 ≤ (Utf8.decode s pos).1 := by
  rw [Lib.decode_at]
  have h0 : (s.get! pos).toNat = (s[pos]'h).toNat := by
    congr 1
    show s.data[pos]! = _
    rw [getElem!_pos s.data pos h]; rfl
  rcases Lib.decodeN_shape (s.size - pos) (s.get! pos).toNat (s.get! (pos + 1)).toNat (s.get! (pos + 2)).toNat (s.get! (pos + 3)).toNat with ⟨h1, _⟩ | ⟨_, _, _, h2, h3⟩ | ⟨_, _, _, _, h2, _, h3⟩ | ⟨_, _, _, _, _, h2, _, h3⟩ | h3
  · omega
  · rw [h3]; exact h2
  · rw [h3]; show 128 ≤ _; omega
  · rw [h3]; show 128 ≤ _; omega
  · rw [h3]; show 128 ≤ 65533; omega
/-- Where the first rune is that a predicate says yes to which says yes to all beyond 127, and to bytes as q does. -/
theorem idx_any {p : Nat → Bool} {q : UInt8 → Bool} (hp : ∀ x, 128 ≤ x → p x = true) (hq : ∀ c : UInt8, c.toNat < 128 → p c.toNat = q c) (hq2 : ∀ c : UInt8, 128 ≤ c.toNat → q c = true) (s : ByteArray) :
    ∀ (f pos : Nat), s.size ≤ pos + f → decide (0 ≤ Lib.idxFuncFrom p true s f pos) = (s.data.toList.drop pos).any q
  | 0, pos, h => by
    rw [List.drop_eq_nil_of_le (by show s.size ≤ pos; omega)]; rfl
  | f + 1, pos, h => by
    rw [Lib.idxFuncFrom]
    by_cases hps : pos < s.size
    · rw [if_pos hps]
      have hd : s.data.toList.drop pos = s[pos] :: s.data.toList.drop (pos + 1) := by
        rw [List.drop_eq_getElem_cons (show pos < s.data.toList.length from hps)]; rfl
      rw [hd, List.any_cons]
      rcases Nat.lt_or_ge (s[pos]'hps).toNat 128 with h1 | h1
      · have hdec := decode_ascii s pos hps h1
        rw [hdec, hq _ h1]
        cases hqc : q s[pos] with
        | true => simp
        | false =>
          simp only [Bool.false_eq_true, if_false, Bool.false_or]
          exact idx_any hp hq hq2 s f (pos + 1) (by omega)
      · rw [hp _ (rune_hi s pos hps h1), hq2 _ h1]
        simp
    · rw [if_neg hps, List.drop_eq_nil_of_le (by show s.size ≤ pos; omega)]; rfl
theorem containsAny_eq (l chars : Bs) : Lib.containsAny l chars = l.any chars.contains := by
  unfold Lib.containsAny
  induction l with
  | nil => rfl
  | cons b r ih =>
    have hge := Lib.indexAny_ge chars r
    rw [Lib.indexAny, List.any_cons, ← ih]
    by_cases h : chars.contains b = true
    · rw [if_pos h, h]; simp
    · rw [if_neg h]
      have h2 : chars.contains b = false := by simpa using h
      rw [h2, Bool.false_or, Bool.eq_iff_iff, decide_eq_true_eq, decide_eq_true_eq]
      by_cases h3 : Lib.indexAny r chars = -1
      · rw [h3]; simp
      · rw [if_neg (by simpa using h3)]; omega
end Lz
namespace Go.Proofs.YthijceooebebfaaGreatDoor
open Go.RowKit

theorem Join_z (a : Option Addr) (c : Nat) (sep : ByteArray) (w : World) : Calls Tryz.prog 214 #[.slice a 0 c, .string sep] w (RStr [] w) := by
  refine (Tryz.strings_Join_none a c sep w).mono ?_
  rintro e w' ⟨h1, rfl⟩
  exact ⟨_, h1, Lib.hid rfl, Below.refl _ _⟩
theorem Cut_h (s p : ByteArray) (hs : s.size ≤ 1073741824) (w : World) (hE : EnvH w) : Calls Tryz.prog 39 #[.string s, .string p] w (RStrStrB (Lib.cut s.data.toList p.data.toList).1 (Lib.cut s.data.toList p.data.toList).2.1 (Lib.cut s.data.toList p.data.toList).2.2 w) := by
  obtain ⟨m, hm⟩ := hE.ml
  exact (Tryz.strings_Cut s p m w (by omega) hm).mono fun _ _ ⟨he, n, hw⟩ => ⟨_, _, he, rfl, rfl, by rw [hw]; exact below_drewN (Below.refl _ _) n⟩

/-- Is a rune none of a domain's? -/
def pDom (x : Nat) : Bool := if x < 128 then Lz.oddB (UInt8.ofNat x) else true
def bannedB : ByteArray := ⟨#[0, 9, 10, 13, 32, 35, 47, 58, 60, 62, 63, 64, 91, 92, 93, 94, 124]⟩
theorem banned_at : ∀ x : Fin 128, 32 < x.val → x.val < 127 → x.val ≠ 37 → decide (0 ≤ Lib.indexByte bannedB.data.toList x.val.toUInt8) = Lz.oddB (UInt8.ofNat x.val) := by decide +kernel
theorem odd_at : ∀ x : Fin 128, (x.val ≤ 32 ∨ 127 ≤ x.val ∨ x.val = 37) → Lz.oddB (UInt8.ofNat x.val) = true := by decide +kernel

set_option maxRecDepth 100000 in
theorem dom1_any (x : Nat) (hx : x ≤ 1114111) (w : World) : Calls Tryz.prog 191 #[.int .i32 (x : Int)] w fun e w' => e = .returned (.bool (pDom x)) ∧ Below w.heap.size w w' := by
  by_cases h : x ≤ 32 ∨ 127 ≤ x ∨ x = 37
  · have hp : pDom x = true := by
      unfold pDom
      split
      · exact odd_at ⟨x, by assumption⟩ h
      · rfl
    rw [hp]
    rcases Nat.lt_or_ge 32 x with h1 | h1
    · have h1' : ¬ (x : Int) ≤ 32 := by omega
      have h1b : decide ((x : Int) ≤ 32) = false := decide_eq_false h1'
      rcases Nat.lt_or_ge x 127 with h2 | h2
      · have h3 : x = 37 := by omega
        have h2b : decide (127 ≤ (x : Int)) = false := decide_eq_false (by omega)
        have h3b : ((x : Int) == 37) = true := by rw [h3]; rfl
        have h2' : ¬ 127 ≤ (x : Int) := by omega
        clear h h3 hp
        go_enter Tryz.func191, Tryz.ntmps191
        go_wp2
        go_ret
        exact ⟨rfl, Below.refl _ _⟩
      · have h2b : decide (127 ≤ (x : Int)) = true := decide_eq_true (by omega)
        have h2' : 127 ≤ (x : Int) := by omega
        clear h hp
        go_enter Tryz.func191, Tryz.ntmps191
        go_wp2
        go_ret
        exact ⟨rfl, Below.refl _ _⟩
    · have h1' : (x : Int) ≤ 32 := by omega
      have h1b : decide ((x : Int) ≤ 32) = true := decide_eq_true h1'
      clear h hp
      go_enter Tryz.func191, Tryz.ntmps191
      go_wp2
      go_ret
      exact ⟨rfl, Below.refl _ _⟩
  · have hp : pDom x = decide (0 ≤ Lib.indexByte bannedB.data.toList x.toUInt8) := by
      unfold pDom
      rw [if_pos (by omega)]
      exact (banned_at ⟨x, by omega⟩ (by show 32 < x; omega) (by show x < 127; omega) (by show x ≠ 37; omega)).symm
    have cC := Tryz.strings_ContainsRune_ascii bannedB (x : Int) w (by omega) (by omega)
    rw [show ((x : Int)).toNat = x by omega, ← hp] at cC
    have CC := Lib.hid cC
    have h1' : ¬ (x : Int) ≤ 32 := by omega
    have h1b : decide ((x : Int) ≤ 32) = false := decide_eq_false h1'
    have h2' : ¬ 127 ≤ (x : Int) := by omega
    have h2b : decide (127 ≤ (x : Int)) = false := decide_eq_false h2'
    have h3b : ((x : Int) == 37) = false := beq_eq_false_iff_ne.2 (by omega)
    clear h hp cC
    go_enter Tryz.func191, Tryz.ntmps191
    go_wp2_with fail
    refine (CC.out).mono ?_
    rintro e w' ⟨rfl, rfl⟩
    go_wp2
    go_ret
    exact ⟨rfl, Below.refl _ _⟩
theorem pDom_hi (x : Nat) (h : 128 ≤ x) : pDom x = true := by unfold pDom; rw [if_neg (by omega)]
theorem pDom_lo (c : UInt8) (h : c.toNat < 128) : pDom c.toNat = Lz.oddB c := by unfold pDom; rw [if_pos h]; simp
theorem odd_hi : ∀ c : UInt8, 128 ≤ c.toNat → Lz.oddB c = true := Lz.byte_all (by decide +kernel)
theorem fn_dom1 (args : Array Value) (w : World) : (callFunc 191 args).run Tryz.prog w = .ok (.enter 191 args) w := enters_of Tryz.func191 (by kernel_rfl) rfl args w
/-- strings.IndexFunc at what no domain has: below 0 just where no byte is odd. -/
theorem IndexFunc_dom (s : ByteArray) (w : World) : Calls Tryz.prog 93 #[.string s, .func (.func 191) #[] #[]] w fun e w' => ∃ i : Int, e = .returned (.int .i64 i) ∧ Hid (decide (0 ≤ i) = s.data.toList.any Lz.oddB) ∧ Below w.heap.size w w' := by
  refine (Tryz.strings_IndexFunc_grows 191 #[] fn_dom1 pDom s w (fun W x hx _ => dom1_any x hx W)).mono ?_
  rintro e w' ⟨he, hb⟩
  refine ⟨_, he, Lib.hid ?_, hb⟩
  have := Lz.idx_any pDom_hi pDom_lo odd_hi s s.size 0 (by omega)
  rw [List.drop_zero] at this
  exact this
/-- strings.ContainsAny at what hosts have not, of a text of bytes below 128. -/
theorem ContainsAny_asc (s : ByteArray) (hs : s.size ≤ 1073741824) (ha : ∀ c ∈ s.data.toList, c.toNat < 128) (w : World) : Calls Tryz.prog 173 #[.string s, .string bannedB] w (RBool (s.data.toList.any Lz.banned.contains) w) := by
  refine (Tryz.strings_ContainsAny_laid s bannedB w (by omega) (by decide) (fun j b hj => ha b (List.mem_of_getElem? hj)) (fun j b hj => ?_)).mono ?_
  · have : ∀ b ∈ bannedB.data.toList, b.toNat < 128 := by decide
    exact this b (List.mem_of_getElem? hj)
  · rintro e w' ⟨he, hb⟩
    refine ⟨?_, hb⟩
    rw [he, Lz.containsAny_eq]; rfl
end Go.Proofs.YthijceooebebfaaGreatDoor

namespace Go.Proofs.YthijceooebebfaaGreatDoor
open Go.RowKit

/-- A slice of pieces, as the world holds it. -/
def SlU (w : World) (v : Value) (l : List Nat) : Prop :=
  ∃ a c, v = .slice a l.length c ∧ l.length ≤ 1000000 ∧ ∀ (j : Nat) (b : Nat), l[j]? = some b → ∃ B off, a = some ⟨B, off, none⟩ ∧ B < w.heap.size ∧ w.cell? ⟨B, off + j, none⟩ = some (.int .u16 (b : Int))
theorem hexD4 {n : Nat} (h : n < 65536) : (Lz.hexD n).length ≤ 4 := Lz.hexD_len 3 n (by simpa using h)

set_option maxHeartbeats 1000000 in
set_option maxRecDepth 100000 in
theorem told_any (v : Value) (l : List Nat) (w : World) (hE : EnvH w) (hl : SlU w v l) (hlt : ∀ n ∈ l, n < 65536) : Calls Tryz.prog 189 #[v] w (RStr (Lz.toldP l) w) := by
  obtain ⟨i0, hi, hz0, hz1, hz2⟩ := info_parts infoStr
  obtain ⟨a, c, rfl, hl9, hcells⟩ := hl
  have Hc := Lib.hid hcells
  have Hlt := Lib.hid hlt
  clear hcells hlt
  have h0 := World.ownsRow_nil w w.heap.size 9 1
  go_enter Tryz.func189, Tryz.ntmps189
  go_wp2
  go_loopw [3, 8] (fun a i wr => ∃ (j : Nat) (xs : List ByteArray), j ≤ l.length ∧ i = .int .i64 j ∧ Hid (xs.map (·.data.toList) = (l.take j).map Lz.hexD) ∧ wr.ownsRow w.heap.size 9 1 a j (xs.map Value.string) ∧ Below w.heap.size w wr) (fun _ i _ => l.length - (intOf i).toNat)
  case atStart => exact ⟨0, [], Nat.zero_le _, rfl, Lib.hid rfl, h0, Below.refl _ w⟩
  case round =>
    clear h0
    obtain ⟨j, xs, hj, rfl, hxs, hown, hb⟩ := hrel
    have hsz := hb.size
    have Hown := Lib.hid hown
    by_cases hlt : j < l.length
    · have hg : l[j]? = some l[j] := List.getElem?_eq_getElem hlt
      obtain ⟨B, off, rfl, hBl, hcv⟩ := Hc.out j l[j] hg
      have hcv2 : wr.cell? ⟨B, off + j, none⟩ = some (.int .u16 l[j]) := by rw [hb.cell (p := ⟨B, off + j, none⟩) hBl]; exact hcv
      have htk : l.take (j + 1) = l.take j ++ [l[j]] := by rw [List.take_add_one, hg]; rfl
      have hn := Hlt.out l[j] (List.getElem_mem hlt)
      generalize l[j] = n at *
      have Htk := Lib.hid htk
      clear htk hg hcv hown
      have hn0 : (0 : Int) ≤ (n : Int) := by omega
      have hnu : IntKind.u64.wrap (n : Int) = (n : Int) := wrap64 (by omega) (by omega)
      go_wp2_with fail
      refine (FormatUint_16 n (by omega) _ (hE.below hb).db16).mono ?_
      rintro e w1 ⟨t, rfl, ht, hb1⟩
      have Hown1 := Lib.hid (own_below Hown.out hb1)
      have hb2 : Below w.heap.size w w1 := below_call hb hb1
      have hsz2 := hb2.size
      have hst : xs.map Value.string ++ [Value.string t] = (xs ++ [t]).map Value.string := by simp
      have Hst := Lib.hid hst
      have hxs2 : Hid ((xs ++ [t]).map (·.data.toList) = (l.take (j + 1)).map Lz.hexD) := by
        show _ = _
        rw [Htk.out, List.map_append, List.map_append, hxs.out, List.map_singleton, List.map_singleton, ht.out, Lz.baseD_hex]
      clear hst Htk
      go_wp2_with (at_builtin; refine wpList_append_own _ rfl (.tmp 12) (.tmp 16) 25 rfl w.heap.size 9 i0 (.string ⟨#[]⟩) 1 16 Tryz.underlying25 hi hz0 hz1 hz2 rfl (by decide) _ _ _ rfl (Hown1.out.alloc _) ⟨w1.heap.size, 0, none⟩ 1 1 [.string t] rfl rfl (cell_one _ _ _) (by simp [Value.oneCell']) (by unfold maxLen; omega) (by omega) (by simp; omega) ?_)
      intro v' w3 hown' hgrow _
      have hb3 := Below.grown1 hb2 Hown1.out hgrow hsz2 (Nat.le_refl _)
      rw [Hst.out] at hown'
      have Hown3 := Lib.hid hown'
      clear hown' hgrow
      go_wp2
      go_roundw
      case rel => exact ⟨j + 1, xs ++ [t], by omega, by go_num, hxs2.out, Hown3.out, hb3⟩
      case measure => simp [intOf]; omega
    · have hjl : j = l.length := by omega
      have hlj : ¬ j < l.length := hlt
      have HD : Hid (xs.map (·.data.toList) = l.map Lz.hexD) := by show _ = _; rw [hxs.out, hjl, List.take_length]
      have hxl : xs.length = j := by have := hown.1; simpa using this
      by_cases h1 : j = 0
      · obtain ⟨a0, c0, rfl⟩ : ∃ a c, u3 = .slice a 0 c := by
          rw [h1] at hown
          rcases hown.2 with ⟨h, _⟩ | ⟨g, cap, cur, h, _⟩
          · exact ⟨_, _, h⟩
          · exact ⟨_, _, h⟩
        have HL : Hid (Lz.toldP l = []) := by
          show _ = _
          rw [List.length_eq_zero_iff.1 (show l.length = 0 by omega)]; rfl
        clear hown Hown hxl hjl hlt hxs h1
        go_wp2_with fail
        with_reducible refine (Join_z a0 c0 ⟨#[58]⟩ _).mono ?_
        rintro e w1 ⟨u, rfl, hu, hb1⟩
        go_wp2
        go_ret
        exact ⟨u, rfl, Lib.hid (by rw [hu.out, HL.out]), below_call hb hb1⟩
      · obtain ⟨b, cap, rfl, hcap, hT⟩ := texts_own hown (by omega)
        have hxx : ∀ x, x ∈ xs → x.size ≤ 4 := by
          intro x hx
          have h1 : x.data.toList ∈ l.map Lz.hexD := by rw [← HD.out]; exact List.mem_map_of_mem hx
          obtain ⟨n, hn, hc⟩ := List.mem_map.1 h1
          rw [← len_of_size, ← hc]
          exact hexD4 (Hlt.out n hn)
        have HX := Lib.hid hxx
        have HT := Lib.hid hT
        have Hcap := Lib.hid hcap
        have hxn : Hid (xs.length ≤ 1000000) := by show _ ≤ _; omega
        clear hxx hT hown Hown hxl hjl hcap hlt hxs
        go_wp2_with fail
        with_reducible refine (Join_c b cap xs ⟨#[58]⟩ _ HT.out Hcap.out hxn.out 4 (by omega) HX.out (by decide)).mono ?_
        rintro e w1 ⟨u, rfl, hu, hb1⟩
        go_wp2
        go_ret
        refine ⟨u, rfl, Lib.hid ?_, below_call hb hb1⟩
        rw [hu.out, HD.out]
        rfl
end Go.Proofs.YthijceooebebfaaGreatDoor

namespace Go.Proofs.YthijceooebebfaaGreatDoor
open Go.RowKit
attribute [local go_sem ↓] Go.wp_at_zero Go.wp_at_succ

theorem six_size : (Tryz.prog.info? 216).map (·.size) = some 8 := by kernel_rfl
theorem six_len : Tryz.prog.arrayLen 216 = 8 := by simp [Program.arrayLen, Tryz.underlying216]
/-- What stands from a place on. -/
theorem six_from (B t : Nat) (ht : t ≤ 8) : ∃ a, (∀ W, (Instr.sliceAt 216 (.pointer (some ⟨B, 0, none⟩)) (some (.int .i64 (t : Int))) none none).run Tryz.prog W = .ok (.slice a (8 - t) (8 - t)) W) ∧ (t < 8 → a = some ⟨B, t, none⟩) := by
  by_cases h : t = 8
  · subst h
    refine ⟨some ⟨B, 0, none⟩, fun W => ?_, fun h => absurd h (by omega)⟩
    rw [run_sliceAt_array_l W 216 ⟨B, 0, none⟩ (by simp [Program.arrayLen, Program.elem, Tryz.underlying216]) .i64 ((8 : Nat) : Int) (by omega) (by rw [six_len]; omega)]
    go_simp
  · refine ⟨some ⟨B, t, none⟩, fun W => ?_, fun _ => rfl⟩
    rw [run_sliceAt_array_l W 216 ⟨B, 0, none⟩ (by simp [Program.arrayLen, Program.elem, Tryz.underlying216]) .i64 (t : Int) (by omega) (by rw [six_len]; omega)]
    go_simp
    intro h; omega
theorem six_to (B t : Nat) (ht : t ≤ 8) (W : World) : (Instr.sliceAt 216 (.pointer (some ⟨B, 0, none⟩)) none (some (.int .i64 (t : Int))) none).run Tryz.prog W = .ok (.slice (some ⟨B, 0, none⟩) t 8) W := by
  rw [run_sliceAt_array_h W 216 ⟨B, 0, none⟩ (by simp [Program.arrayLen, Program.elem, Tryz.underlying216]) .i64 (t : Int) (by omega) (by rw [six_len]; omega)]
  go_simp

theorem told_len (l : List Nat) (h : ∀ n ∈ l, n < 65536) (h8 : l.length ≤ 8) : (Lz.toldP l).length ≤ 40 := by
  have hj := join_len [58] 4 (l.map Lz.hexD) (by
    intro x hx
    obtain ⟨n, hn, rfl⟩ := List.mem_map.1 hx
    exact hexD4 (h n hn))
  rw [joinP_eq, List.length_map] at hj
  unfold Lz.toldP
  simp at hj; omega

set_option maxHeartbeats 2000000 in
set_option maxRecDepth 100000 in
theorem text_any (l : List Nat) (h8 : l.length = 8) (hlt : ∀ n ∈ l, n < 65536) (w : World) (hE : EnvH w) : Calls Tryz.prog 171 #[sixV l] w (RStr (Lz.textP l) w) := by
  have cR := fun W => run_any l h8 W
  unfold sixV at cR ⊢
  obtain ⟨cs, hcs⟩ : ∃ cs, cs = (l.map fun n : Nat => Value.int .u16 (n : Int)).toArray := ⟨_, rfl⟩
  rw [← hcs] at cR ⊢
  obtain ⟨w1, hw1⟩ : ∃ w1, w1 = w.alloc (.cells cs 216) := ⟨_, rfl⟩
  have hr : w1.heap[w.heap.size]? = some (.cells cs 216 (0, 0)) := by rw [hw1]; exact heap_alloc_new w _
  have hc : ∀ j x, l[j]? = some x → w1.cell? ⟨w.heap.size, j, none⟩ = some (.int .u16 (x : Nat)) := by
    intro j x hj
    rw [hw1, World.cell?_alloc_mark, hcs]
    simp [hj]
  have hlw : w.heap.size < w1.heap.size := by rw [hw1]; simp
  have hb1 : Below w.heap.size w w1 := by rw [hw1]; exact (Below.refl _ w).alloc (Nat.le_refl _) _
  have hcz : (Tryz.prog.info? 216).map (·.size) = some cs.size := by rw [six_size, hcs]; simp [h8]
  have hsl : ∀ a n k (W : World), Below w1.heap.size w1 W → (0 < n → a = some ⟨w.heap.size, k, none⟩) → k + n ≤ 8 → ∀ c, SlU W (.slice a n c) ((l.drop k).take n) := by
    intro a n k W hW ha hk c
    have hln : ((l.drop k).take n).length = n := by simp; omega
    refine ⟨a, c, by rw [hln], by rw [hln]; omega, fun j b hj => ?_⟩
    have hjn : j < n := by have := (List.getElem?_eq_some_iff.1 hj).1; omega
    rw [List.getElem?_take, if_pos hjn, List.getElem?_drop] at hj
    exact ⟨_, _, ha (by omega), Nat.lt_of_lt_of_le hlw hW.size, by rw [hW.cell (p := ⟨w.heap.size, k + j, none⟩) hlw]; exact hc _ _ hj⟩
  have cT : ∀ a n k (W : World), Below w1.heap.size w1 W → (0 < n → a = some ⟨w.heap.size, k, none⟩) → k + n ≤ 8 → ∀ c, Calls Tryz.prog 189 #[.slice a n c] W (RStr (Lz.toldP ((l.drop k).take n)) W) :=
    fun a n k W hW ha hk c => told_any _ _ W (hE.below (below_call hb1 hW)) (hsl a n k W hW ha hk c) (fun x hx => hlt x (List.mem_of_mem_drop (List.mem_of_mem_take hx)))
  obtain ⟨f, hf⟩ : ∃ f, f = (Lz.runP 0 l (0, 0)).1 := ⟨_, rfl⟩
  obtain ⟨t, ht⟩ : ∃ t, t = (Lz.runP 0 l (0, 0)).2 := ⟨_, rfl⟩
  have hrun := Lz.run_ok0 l
  have hft : f ≤ 8 ∧ t ≤ 8 := by
    rw [hf, ht]
    rcases hrun with h | ⟨h1, h2, _⟩
    · rw [h]; simp
    · omega
  have HT : Hid (Lz.textP l = if f = t then Lz.toldP l else Lz.toldP (l.take f) ++ [58, 58] ++ Lz.toldP (l.drop t)) := by show _ = _; rw [hf, ht]; rfl
  unfold RRun at cR
  rw [← hf, ← ht] at cR
  have CR := Lib.hid cR
  have CT := Lib.hid cT
  have Hr := Lib.hid hr
  have H8 := Lib.hid h8
  have Hlt := Lib.hid hlt
  clear cR cT hr h8 hsl hc hf ht hrun hlt hcs
  have Hcz := Lib.hid hcz
  clear hcz
  obtain ⟨hf8, ht8⟩ := hft
  go_enter Tryz.func171, Tryz.ntmps171
  go_upto_region 1 with fail
  rw [← hw1]
  clear hw1
  go_wp2_with (refine wpList_load_row rfl 216 _ rfl w.heap.size rfl 216 _ (0, 0) _ Hr.out Tryz.underlying216 rfl Hcz.out ?_)
  with_reducible refine (CR.out _).mono ?_
  rintro e w2 ⟨rfl, hb2⟩
  have hbw2 := below_call hb1 hb2
  by_cases hft : f = t
  · have hftb : ((f : Int) == (t : Int)) = true := by rw [hft]; simp
    have hT2 : Hid (Lz.textP l = Lz.toldP l) := by show _ = _; rw [HT.out, if_pos hft]
    have hall : ∀ W, (Instr.sliceAt 216 (.pointer (some ⟨w.heap.size, 0, none⟩)) none none none).run Tryz.prog W = .ok (.slice (some ⟨w.heap.size, 0, none⟩) 8 8) W := fun W => by
      rw [run_sliceAt_array_all W 216 ⟨w.heap.size, 0, none⟩ (by simp [Program.arrayLen, Program.elem, Tryz.underlying216])]
      rw [six_len]; go_simp
    have c8 := CT.out (some ⟨w.heap.size, 0, none⟩) 8 0 w2 hb2 (fun _ => rfl) (by omega) 8
    rw [List.drop_zero, List.take_of_length_le (by rw [H8.out]; exact Nat.le_refl _), ← hT2.out] at c8
    have C8 := Lib.hid c8
    clear c8 CT CR hft HT hT2
    go_wp2_with fail
    with_reducible refine C8.out.mono ?_
    rintro e w3 ⟨u, rfl, hu, hb3⟩
    go_wp2
    go_ret
    exact ⟨u, rfl, hu, below_call hbw2 hb3⟩
  · have hftb : ((f : Int) == (t : Int)) = false := beq_eq_false_iff_ne.2 (by omega)
    have hT2 : Hid (Lz.textP l = Lz.toldP (l.take f) ++ [58, 58] ++ Lz.toldP (l.drop t)) := by show _ = _; rw [HT.out, if_neg hft]
    have hto := six_to w.heap.size f hf8
    obtain ⟨a2, hfr, ha2⟩ := six_from w.heap.size t ht8
    have c1 := fun W hW => CT.out (some ⟨w.heap.size, 0, none⟩) f 0 W hW (fun _ => rfl) (by omega) 8
    have c2 := fun W hW => CT.out a2 (8 - t) t W hW (fun h => ha2 (by omega)) (by omega) (8 - t)
    rw [List.drop_zero] at c1
    rw [List.take_of_length_le (l := l.drop t) (by rw [List.length_drop, H8.out]; exact Nat.le_refl _)] at c2
    have hz1 := told_len (l.take f) (fun n hn => Hlt.out n (List.mem_of_mem_take hn)) (by simp; omega)
    have hz2 := told_len (l.drop t) (fun n hn => Hlt.out n (List.mem_of_mem_drop hn)) (by rw [List.length_drop, H8.out]; omega)
    have C1 := Lib.hid c1
    have C2 := Lib.hid c2
    clear c1 c2 CT CR hft HT ha2
    go_upto_region 4 with fail
    go_region_with (first | (go_at_call 189; (with_reducible refine (C1.out _ hb2.drew).mono ?_); rintro e w3 ⟨u1, rfl, hu1, hb3⟩; have hk1 : u1.size ≤ 40 := (by rw [← len_of_size, hu1.out]; exact hz1); have hk2 : ¬ (9223372036854775807 < u1.size + 2) := (by omega)) | (go_at_call 189; (with_reducible refine (C2.out _ (below_call hb2.drew hb3)).mono ?_); rintro e w4 ⟨u2, rfl, hu2, hb4⟩; have hk3 : u2.size ≤ 40 := (by rw [← len_of_size, hu2.out]; exact hz2); have hk4 : ¬ (9223372036854775807 < u1.size + 2 + u2.size) := (by omega)))
    go_wp2
    go_ret
    refine ⟨_, rfl, Lib.hid ?_, below_call (below_call hbw2.drew hb3) hb4⟩
    rw [append_data', append_data', hu1.out, hu2.out, hT2.out]
end Go.Proofs.YthijceooebebfaaGreatDoor
