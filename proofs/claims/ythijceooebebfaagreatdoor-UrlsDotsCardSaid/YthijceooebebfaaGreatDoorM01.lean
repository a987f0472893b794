/-
  Small laws on worlds and on rows of bytes that the walks of this seat lean on. No condition.
  Plain laws on lists of bytes: what the packages ascii and sources compute, with no program in sight. No condition.
  The walks of package ascii and of the predicates on bytes in package sources: each returns what its plain function says, and leaves the world as it was, or lays new blocks alone.
-/
import Derived.WalkKit
import Derived.WalkSpells
import Derived.WalkLawsBesides
import Derived.Laws.IdiomStrings
import Derived.Lib.Hide
import Derived.Laws.Tables
import Derived.Laws.CopyOwn
import Derived.Lib.Split
import Derived.Lib.CutLaws
import Derived.Lib.AtoiAll
import Derived.Lib.ItoaNum
import Derived.Lib.TrimByte
import Derived.Test.YthijceooebebfaaGreatDoorProg
namespace Go.Proofs.YthijceooebebfaaGreatDoor
open Go.RowKit

theorem addr_add (b j : Nat) : (⟨b, 0, none⟩ : Addr).add j = ⟨b, j, none⟩ := by
  simp [Addr.add]
  omega

theorem len_of_size (s : ByteArray) : s.data.toList.length = s.size := rfl

/-- block b's first cells are these bytes, and may be written. -/
def ByteRow (w : World) (b : Nat) (l : List UInt8) : Prop := ∀ j c, l[j]? = some c → w.cell? ⟨b, j, none⟩ = some (.int .u8 (c.toNat : Int)) ∧ w.frozen? ⟨b, j, none⟩ = false

theorem bytesRow_get (s : ByteArray) (cap j : Nat) (c : UInt8) (h : s.data.toList[j]? = some c) : (bytesRow s cap)[j]? = some (.int .u8 (c.toNat : Int)) := by
  have hj : j < s.data.size := by
    have := (List.getElem?_eq_some_iff.1 h).1
    simpa using this
  unfold bytesRow
  rw [Array.getElem?_append_left (by simpa using hj)]
  rw [Array.getElem?_map]
  have : s.data[j]? = some c := by simpa using h
  rw [this]
  rfl

theorem byteRow_made (w : World) (s : ByteArray) (cap : Nat) (t : TypeId) : ByteRow (w.alloc (.cells (bytesRow s cap) t ((bytesRow s cap).size, (bytesRow s cap).size + 1))).drew w.heap.size s.data.toList := by
  intro j c h
  have hg := bytesRow_get s cap j c h
  refine ⟨?_, ?_⟩
  · show (w.alloc _).cell? _ = _
    rw [World.cell?_alloc_mark]
    exact hg
  · show (w.alloc _).frozen? _ = _
    have hj := (Array.getElem?_eq_some_iff.1 hg).1
    have hb : (w.alloc (.cells (bytesRow s cap) t ((bytesRow s cap).size, (bytesRow s cap).size + 1))).heap[w.heap.size]? = some (.cells (bytesRow s cap) t ((bytesRow s cap).size, (bytesRow s cap).size + 1)) := by
      show (w.heap.push _)[w.heap.size]? = _
      simp
    simp only [World.frozen?, hb]
    simp
    omega

theorem ByteRow.set {w : World} {b : Nat} {l : List UInt8} (h : ByteRow w b l) (k : Nat) (c : UInt8) : ByteRow (w.setCell ⟨b, k, none⟩ (.int .u8 (c.toNat : Int))) b (l.set k c) := by
  intro j d hd
  rw [List.getElem?_set] at hd
  by_cases hjk : k = j
  · subst hjk
    rw [if_pos rfl] at hd
    split at hd
    · rename_i hlt
      obtain ⟨h1, h2⟩ := h k _ (List.getElem?_eq_getElem hlt)
      obtain rfl := Option.some.inj hd
      refine ⟨?_, ?_⟩
      · exact World.cell?_setCell_same _ _ _ h1
      · rw [World.frozen?_setCell]; exact h2
    · cases hd
  · rw [if_neg hjk] at hd
    obtain ⟨h1, h2⟩ := h j d hd
    refine ⟨?_, ?_⟩
    · rw [World.cell?_setCell_other _ _ _ _ (by intro e; injection e with _ e2 _; exact hjk e2)]; exact h1
    · rw [World.frozen?_setCell]; exact h2

/-- A first result that lies in a row, and a second one in a slot. -/
theorem results_row2 {P : Program} {fn : Func} {p u : Tmp} {ty : TypeId} (h : fn.results = #[.cell p ty, .tmp u]) (tmps : Array Value) (w : World) (g : Nat) (t : TypeId) (cs : Array Value) (fr : Nat × Nat) (d : TypeDesc)
    (hp : tmps.getD p undef = .pointer (some ⟨g, 0, none⟩)) (hg : w.heap[g]? = some (.cells cs t fr))
    (hu : P.underlying ty = some d) (hd : (match d with | .struct _ | .array _ _ => true | _ => false) = true) (hi : (P.info? ty).map (·.size) = some cs.size) :
    (results fn tmps).run P w = .ok (.tuple #[.agg cs, tmps.getD u undef]) w := by
  rw [results_cell_tmp h, hp]
  have : (asAddr (.pointer (some (⟨g, 0, none⟩ : Addr)))).run P w = .ok ⟨g, 0, none⟩ w := by simp [asAddr]
  rw [this]
  simp only [Result.andThen, run_loadVar_row w g t ty cs fr d hg hu hd hi]
end Go.Proofs.YthijceooebebfaaGreatDoor

namespace Lz
open Go
abbrev Bs := List UInt8

theorem byte_all {p : UInt8 → Prop} (h : ∀ n : Fin 256, p (UInt8.ofNat n.val)) (c : UInt8) : p c := by
  have := h ⟨c.toNat, c.toNat_lt⟩
  simpa using this

/-- A text cut at each byte c. -/
def splitC (c : UInt8) : Bs → List Bs
  | [] => [[]]
  | b :: l => if b == c then [] :: splitC c l else match splitC c l with
    | [] => [[b]]
    | h :: t => (b :: h) :: t

theorem isPrefix_one (c b : UInt8) (l : Bs) : ([c] : Bs).isPrefixOf (b :: l) = (c == b) := by simp [List.isPrefixOf]

theorem index_one_hit {c b : UInt8} {l : Bs} (h : b = c) : Lib.index (b :: l) [c] = 0 := by
  subst h
  unfold Lib.index
  rw [isPrefix_one]; simp
theorem index_one_miss {c b : UInt8} {l : Bs} (h : b ≠ c) : Lib.index (b :: l) [c] = if Lib.index l [c] == -1 then -1 else Lib.index l [c] + 1 := by
  rw [Lib.index, isPrefix_one]
  have : (c == b) = false := by simpa using fun e => h e.symm
  rw [this]
  rfl
theorem index_one_nil (c : UInt8) : Lib.index [] [c] = -1 := rfl

theorem split_both (c : UInt8) : ∀ l : Bs, Lib.splitK [c] 0 (Lib.count l [c]) l = splitC c l ∧ (splitC c l).length = Lib.count l [c] + 1
  | [] => by
    have : Lib.count [] [c] = 0 := Lib.count_miss (index_one_nil c)
    rw [this]
    exact ⟨rfl, rfl⟩
  | b :: l => by
    obtain ⟨ih1, ih2⟩ := split_both c l
    have hne : ([c] : Bs) ≠ [] := by simp
    by_cases hb : b = c
    · have hi : Lib.index (b :: l) [c] = ((0 : Nat) : Int) := index_one_hit hb
      have hc := Lib.count_hit hne hi
      simp only [Nat.zero_add, List.length_singleton, List.drop_succ_cons, List.drop_zero] at hc
      rw [hc, Nat.add_comm 1]
      have hs : splitC c (b :: l) = [] :: splitC c l := by rw [splitC, if_pos (by simpa using hb)]
      refine ⟨?_, ?_⟩
      · rw [Lib.splitK, if_neg (by rw [hi]; decide), hi, hs]
        simp [ih1]
      · rw [hs]; simp [ih2]
    · have hm := index_one_miss (l := l) hb
      have hs : splitC c (b :: l) = match splitC c l with | [] => [[b]] | h :: t => (b :: h) :: t := by rw [splitC, if_neg (by simpa using hb)]
      by_cases hi : Lib.index l [c] = -1
      · have h1 : Lib.index (b :: l) [c] = -1 := by rw [hm, hi]; rfl
        have c0 := Lib.count_miss hi
        rw [Lib.count_miss h1]
        rw [c0] at ih1 ih2
        rw [hs, ← ih1]
        exact ⟨rfl, rfl⟩
      · have hge := Lib.index_ge l [c]
        obtain ⟨i, hin⟩ : ∃ i : Nat, Lib.index l [c] = i := ⟨(Lib.index l [c]).toNat, by omega⟩
        have h1 : Lib.index (b :: l) [c] = ((i + 1 : Nat) : Int) := by rw [hm, if_neg (by simpa using hi), hin]; rfl
        have c1 := Lib.count_hit hne h1
        have c0 := Lib.count_hit hne hin
        simp only [List.length_singleton] at c0 c1
        rw [show i + 1 + 1 = (i + 1) + 1 from rfl, List.drop_succ_cons] at c1
        have cc : Lib.count (b :: l) [c] = Lib.count l [c] := by rw [c1, c0]
        rw [cc]
        have e1 : Lib.splitK [c] 0 (Lib.count l [c]) l = l.take i :: Lib.splitK [c] 0 (Lib.count (l.drop (i + 1)) [c]) (l.drop (i + 1)) := by
          rw [c0, Nat.add_comm 1, Lib.splitK, if_neg (by rw [hin]; simp; try omega), hin]
          simp
        have e2 : Lib.splitK [c] 0 (Lib.count l [c]) (b :: l) = (b :: l.take i) :: Lib.splitK [c] 0 (Lib.count (l.drop (i + 1)) [c]) (l.drop (i + 1)) := by
          rw [c0, Nat.add_comm 1, Lib.splitK, if_neg (by rw [h1]; simp; try omega), h1]
          simp [Int.toNat]
        rw [hs, e2, ← ih1, e1]
        refine ⟨rfl, ?_⟩
        rw [← ih1, e1] at ih2
        simpa using ih2
theorem split_eq (c : UInt8) (l : Bs) : Lib.split l [c] = splitC c l := (split_both c l).1
theorem split_length (c : UInt8) (l : Bs) : (Lib.split l [c]).length = Lib.count l [c] + 1 := by rw [split_eq]; exact (split_both c l).2
theorem splitC_piece (c : UInt8) : ∀ (l x : Bs), x ∈ splitC c l → x.length ≤ l.length
  | [], x, h => by simp [splitC] at h; simp [h]
  | b :: l, x, h => by
    rw [splitC] at h
    split at h
    · rcases List.mem_cons.1 h with rfl | h
      · simp
      · exact Nat.le_succ_of_le (splitC_piece c l x h)
    · split at h
      · rcases List.mem_cons.1 h with rfl | h
        · simp
        · cases h
      · rename_i h0 t hs
        rcases List.mem_cons.1 h with rfl | h
        · have := splitC_piece c l h0 (by rw [hs]; simp)
          simpa using this
        · exact Nat.le_succ_of_le (splitC_piece c l x (by rw [hs]; simp [h]))

theorem splitC_len (c : UInt8) : ∀ l : Bs, (splitC c l).length ≤ l.length + 1
  | [] => by simp [splitC]
  | b :: l => by
    have ih := splitC_len c l
    rw [splitC]
    split
    · simpa using ih
    · split
      · simp
      · rename_i h0 t hs
        rw [hs] at ih
        simp at ih ⊢
        omega

def isAlpha (c : UInt8) : Bool := (65 ≤ c && c ≤ 90) || (97 ≤ c && c ≤ 122)
def isDigit (c : UInt8) : Bool := 48 ≤ c && c ≤ 57
def low1 (c : UInt8) : UInt8 := if 65 ≤ c && c ≤ 90 then c + 32 else c
def low (l : Bs) : Bs := l.map low1
def isWord (c : UInt8) : Bool := isAlpha c || isDigit c || c == 45
def isLetter (c : UInt8) : Bool := isWord c || c == 43 || c == 47 || c == 95
def isSchemed (c : UInt8) : Bool := isWord c || c == 43 || c == 46
def isSeen (c : UInt8) : Bool := 32 < c && c < 127 && !([63, 35, 59, 44, 34, 60, 62, 92, 94, 96, 123, 124, 125].contains c)
def allB (p : UInt8 → Bool) (l : Bs) : Bool := l.all p && !l.isEmpty
def baseB (l : Bs) : Bool := decide (l.length - (Lib.trimRightB l 61).length ≤ 2) && allB isLetter (Lib.trimRightB l 61)
def schemeB (l : Bs) : Bool := (match l with | [] => false | c :: _ => isAlpha c) && allB isSchemed l
def namedB (l : Bs) : Bool := (Lib.split l [46]).all (allB isWord)

/-- A source expression. -/
structure Src where
  kind : Int
  text : Bs
  bits : Int
  scheme : Bs
  host : Bs
  wild : Bool
  port : Int
  path : Bs
  deriving DecidableEq, Repr

def keywords : List Bs := [[115, 101, 108, 102], [117, 110, 115, 97, 102, 101, 45, 105, 110, 108, 105, 110, 101], [117, 110, 115, 97, 102, 101, 45, 101, 118, 97, 108], [115, 116, 114, 105, 99, 116, 45, 100, 121, 110, 97, 109, 105, 99], [117, 110, 115, 97, 102, 101, 45, 104, 97, 115, 104, 101, 115], [114, 101, 112, 111, 114, 116, 45, 115, 97, 109, 112, 108, 101], [119, 97, 115, 109, 45, 117, 110, 115, 97, 102, 101, 45, 101, 118, 97, 108], [117, 110, 115, 97, 102, 101, 45, 97, 108, 108, 111, 119, 45, 114, 101, 100, 105, 114, 101, 99, 116, 115]]
def sNonce : Bs := [110, 111, 110, 99, 101, 45]
def sSha (bits : Int) : Bs := [115, 104, 97] ++ Lib.itoa bits ++ [45]
def keyS (t : Bs) : Src := ⟨1, t, 0, [], [], false, -1, []⟩
def schemeS (t : Bs) : Src := ⟨2, [], 0, t, [], false, -1, []⟩
def nonceS (t : Bs) : Src := ⟨4, t, 0, [], [], false, -1, []⟩
def hashS (t : Bs) (b : Int) : Src := ⟨5, t, b, [], [], false, -1, []⟩

/-- One length of hash. -/
def shaS (l : Bs) (bits : Int) : Option Src := if Lib.hasPrefix (low l) (sSha bits) && baseB (l.drop (sSha bits).length) then some (hashS (l.drop (sSha bits).length) bits) else none
def quotedS (l : Bs) : Option Src :=
  if keywords.contains (low l) then some (keyS (low l))
  else if Lib.hasPrefix (low l) sNonce && baseB (l.drop 6) then some (nonceS (l.drop 6))
  else (shaS l 256).or ((shaS l 384).or (shaS l 512))

def hostP (l : Bs) : Option (Bool × Bs) :=
  if l = [42] then some (true, [])
  else if namedB (Lib.trimPrefix l [42, 46]) then some (Lib.hasPrefix l [42, 46], low (Lib.trimPrefix l [42, 46])) else none
def portP (l : Bs) : Option Int :=
  if l = [42] then some (-2)
  else match Lib.atoiAll l with
    | .ok n => if allB isDigit l && decide (n ≤ 65535) then some n else none
    | _ => none
/-- A host and a port, with the scheme and the path that stand with them. -/
def hostedQ (sch path r : Bs) : Option Src :=
  match hostP (Lib.cut r [58]).1 with
  | none => none
  | some (wild, host) =>
    match (if (Lib.cut r [58]).2.2 then portP (Lib.cut r [58]).2.1 else some (-1)) with
    | none => none
    | some port => if path.isEmpty || allB isSeen path then some ⟨3, [], 0, sch, host, wild, port, path⟩ else none
/-- A host, and what stands with it, behind the scheme. -/
def hostedP (sch l : Bs) : Option Src :=
  if 0 ≤ Lib.indexByte l 47 then hostedQ sch (l.drop (Lib.indexByte l 47).toNat) (l.take (Lib.indexByte l 47).toNat) else hostedQ sch [] l
def hostedS (l : Bs) : Option Src :=
  let c := Lib.cut l [58, 47, 47]
  if c.2.2 then (if schemeB c.1 then hostedP (low c.1) c.2.1 else none) else hostedP [] l
def quotes (l : Bs) : Bool := decide (1 < l.length) && l.head? == some 39 && l.getLast? == some 39
def parseS (l : Bs) : Option Src :=
  if quotes l then quotedS ((l.drop 1).dropLast)
  else if Lib.hasSuffix l [58] && schemeB (Lib.trimSuffix l [58]) then some (schemeS (low (Lib.trimSuffix l [58])))
  else hostedS l

/-- A host as text. -/
def addressT (x : Src) : Bs :=
  (if x.scheme = [] then [] else x.scheme ++ [58, 47, 47]) ++
  (if x.wild then (if x.host = [] then [42] else [42, 46] ++ x.host) else x.host) ++
  (if x.port = -2 then [58, 42] else if 0 ≤ x.port then 58 :: Lib.itoa x.port else []) ++ x.path
def textT (x : Src) : Bs :=
  if x.kind = 1 then 39 :: x.text ++ [39]
  else if x.kind = 4 then [39, 110, 111, 110, 99, 101, 45] ++ x.text ++ [39]
  else if x.kind = 5 then [39, 115, 104, 97] ++ Lib.itoa x.bits ++ [45] ++ x.text ++ [39]
  else if x.kind = 2 then x.scheme ++ [58]
  else if x.kind = 3 then addressT x
  else []

end Lz

namespace Go.Proofs.YthijceooebebfaaGreatDoor
open Go.RowKit

theorem byte_lt (c : UInt8) : (c.toNat : Int) < 256 := by have := c.toNat_lt; omega

theorem alphaI (c : UInt8) : (decide (97 ≤ bits BinOp.or IntKind.u8 (c.toNat : Int) 32) && decide (bits BinOp.or IntKind.u8 (c.toNat : Int) 32 ≤ 122)) = Lz.isAlpha c := by
  revert c
  exact Lz.byte_all (by decide +kernel)
theorem digitI (c : UInt8) : decide (((c.toNat : Int) - 48) % 256 < 10) = Lz.isDigit c := by
  revert c
  exact Lz.byte_all (by decide +kernel)
theorem low1I (c : UInt8) : ((Lz.low1 c).toNat : Int) = if 65 ≤ (c.toNat : Int) ∧ (c.toNat : Int) ≤ 90 then (c.toNat : Int) + 97 - 65 else c.toNat := by
  revert c
  exact Lz.byte_all (by decide +kernel)

set_option maxRecDepth 100000 in
theorem Alpha_any (c : UInt8) (w : World) : Calls Tryz.prog 95 #[.int .u8 c.toNat] w fun e w' => e = .returned (.bool (Lz.isAlpha c)) ∧ w = w' := by
  have hc := byte_lt c
  rw [← alphaI]
  go_enter Tryz.func95, Tryz.ntmps95
  go_wp2
  · go_ret
    rename_i h
    exact ⟨by rw [decide_eq_true h]; rfl, rfl⟩
  · go_ret
    rename_i h
    exact ⟨by rw [decide_eq_false (by omega)]; rfl, rfl⟩

theorem Digit_any (c : UInt8) (w : World) : Calls Tryz.prog 96 #[.int .u8 c.toNat] w fun e w' => e = .returned (.bool (Lz.isDigit c)) ∧ w = w' := by
  have hc := byte_lt c
  rw [← digitI]
  go_enter Tryz.func96, Tryz.ntmps96
  go_wp2
  go_ret
  exact ⟨rfl, rfl⟩

set_option maxRecDepth 100000 in
theorem lower_any (c : UInt8) (w : World) : Calls Tryz.prog 136 #[.int .u8 c.toNat] w fun e w' => e = .returned (.int .u8 (Lz.low1 c).toNat) ∧ w = w' := by
  have hc := byte_lt c
  have H := Lib.hid (low1I c)
  go_enter Tryz.func136, Tryz.ntmps136
  go_wp2
  all_goals go_ret
  · rename_i h1 h2
    exact ⟨by rw [H.out, if_pos ⟨h1, h2⟩]; rfl, rfl⟩
  · rename_i h1 h2
    exact ⟨by rw [H.out, if_neg (by omega)]; rfl, rfl⟩
  · rename_i h1
    exact ⟨by rw [H.out, if_neg (by omega)]; rfl, rfl⟩

set_option maxRecDepth 100000 in
theorem Lower_any (s : ByteArray) (hs : s.size ≤ 1073741824) (w : World) : Calls Tryz.prog 98 #[.string s] w fun e w' => e = .returned (.string ⟨(Lz.low s.data.toList).toArray⟩) ∧ Below w.heap.size w w' := by
  have kb := run_bytes_of_string (P := Tryz.prog) w 9 35 5 s Tryz.underlying9 Tryz.underlying35 Tryz.underlying5
  obtain ⟨cap, hcap⟩ : ∃ cap, cap = grownCap w s.size 0 5 := ⟨_, rfl⟩
  rw [← hcap] at kb
  clear hcap
  obtain ⟨l, hl⟩ : ∃ l, l = s.data.toList := ⟨_, rfl⟩
  have hlen : l.length = s.size := by rw [hl]; exact len_of_size s
  have hmade := byteRow_made w s cap 5
  rw [← hl] at hmade
  rw [← hl]
  have Hlen := Lib.hid hlen
  have Hmade := Lib.hid hmade
  clear hlen hl hmade
  go_enter Tryz.func98, Tryz.ntmps98
  go_wp2
  go_loopw [10] (fun i wr => ∃ k : Nat, k ≤ s.size ∧ i = .int .i64 k ∧ ByteRow wr w.heap.size (Lz.low (l.take k) ++ l.drop k) ∧ Below w.heap.size w wr) (fun i _ => s.size - (intOf i).toNat)
  case atStart => exact ⟨0, Nat.zero_le _, rfl, Hmade.out, ((Below.refl _ w).alloc (Nat.le_refl _) _).drew⟩
  case round =>
    obtain ⟨k, hk, rfl, hrow, hb⟩ := hrel
    clear kb Hmade
    by_cases hlt : k < s.size
    · obtain ⟨c, hcv⟩ : ∃ c, l[k]? = some c := ⟨_, List.getElem?_eq_getElem (by rw [Hlen.out]; omega)⟩
      have hlk : (Lz.low (l.take k)).length = k := by simp only [Lz.low, List.length_map, List.length_take, Hlen.out]; omega
      obtain ⟨h1, h2⟩ := hrow k c (by rw [List.getElem?_append_right (by omega), hlk]; simpa using hcv)
      have hrow' := hrow.set k (Lz.low1 c)
      rw [show (Lz.low (l.take k) ++ l.drop k).set k (Lz.low1 c) = Lz.low (l.take (k + 1)) ++ l.drop (k + 1) by
        rw [List.set_append_right _ _ (by omega), hlk, Nat.sub_self]
        have hlt' : k < l.length := by rw [Hlen.out]; exact hlt
        rw [List.drop_eq_getElem_cons hlt', List.set_cons_zero]
        have hck : l[k] = c := by rw [List.getElem?_eq_getElem hlt'] at hcv; exact Option.some.inj hcv
        rw [List.take_succ_eq_append_getElem hlt', hck]
        simp [Lz.low]] at hrow'
      have HR := Lib.hid hrow'
      clear hrow hrow' hcv hlk Hlen
      go_wp2_with (go_at_call 136; refine (lower_any _ _).mono ?_; rintro e w' ⟨rfl, rfl⟩)
      go_roundw
      case rel => exact ⟨k + 1, by omega, by go_num, HR.out, hb.setCell (Nat.le_refl _) _⟩
      case measure => simp [intOf]; omega
    · have hks : k = s.size := by omega
      have hcb := run_convert_bytes_back (P := Tryz.prog) wr 35 9 5 ⟨w.heap.size, 0, none⟩ cap (Lz.low l) Tryz.underlying35 Tryz.underlying5 Tryz.underlying9 (by
        intro j hj
        have h := hrow j (Lz.low l)[j] (by rw [hks, ← Hlen.out, List.take_length, List.drop_length, List.append_nil]; exact List.getElem?_eq_getElem hj)
        have ha : (⟨w.heap.size, 0, none⟩ : Addr).add j = ⟨w.heap.size, j, none⟩ := addr_add _ j
        rw [ha]
        exact h.1)
      rw [show (Lz.low l).length = s.size by rw [← Hlen.out]; simp [Lz.low]] at hcb
      clear hrow Hlen hks
      go_wp2
      go_ret
      exact ⟨rfl, hb⟩

end Go.Proofs.YthijceooebebfaaGreatDoor
