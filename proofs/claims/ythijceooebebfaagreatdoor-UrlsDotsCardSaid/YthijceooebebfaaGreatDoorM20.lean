/-
  Package urls: the maker in memory; a path of one's own; append to it.
  strings.IndexAny at slashes: the exact place.
  Package urls: as, shorten, dots, on.
-/
import Derived.Test.YthijceooebebfaaGreatDoorM19
import Derived.Test.YthijceooebebfaaGreatDoorM04
import Derived.Test.YthijceooebebfaaGreatDoorM14
import Derived.OwnWalk
import Derived.Test.YthijceooebebfaaGreatDoorM06
import Derived.Lib.SplitLaws
namespace Go.Proofs.YthijceooebebfaaGreatDoor
open Go.RowKit

theorem rowAt {w : World} {R : Nat} {cs : Array Value} {t : TypeId} {fr : Nat × Nat} (h : w.heap[R]? = some (.cells cs t fr)) (k : Nat) (v : Value) (hv : cs[k]? = some v) : w.cell? ⟨R, k, none⟩ = some v := by
  rw [cell_of_row w R k _ _ _ h]; exact hv
theorem rowFz {w : World} {R : Nat} {cs : Array Value} {t : TypeId} (h : w.heap[R]? = some (.cells cs t (0, 0))) (k : Nat) : w.frozen? ⟨R, k, none⟩ = false := by simp [World.frozen?, h]
theorem rowSet {w : World} {R : Nat} {cs : Array Value} {t : TypeId} {fr : Nat × Nat} (h : w.heap[R]? = some (.cells cs t fr)) (k : Nat) (v : Value) {cs' : Array Value} (hc : cs.setIfInBounds k v = cs') : (w.setCell ⟨R, k, none⟩ v).heap[R]? = some (.cells cs' t fr) := by
  rw [setCell_eq_setRow w R k cs _ _ v h, ← hc]
  exact setRow_heap _ _ _ _ _ _ h
theorem row_lt {w : World} {R : Nat} {o : Obj} (h : w.heap[R]? = some o) : R < w.heap.size := (Array.getElem?_eq_some_iff.1 h).1
theorem setCell_other {w : World} {p : Addr} {k : Nat} (h : k ≠ p.block) (v : Value) : (w.setCell p v).heap[k]? = w.heap[k]? := Below.heap_setCell w p v k h
theorem grown_setCell (w : World) (p : Addr) (v : Value) : w.grownBy (w.setCell p v) (some p.block) :=
  ⟨rfl, rfl, rfl, by simp, fun k _ hk => setCell_other (fun e => hk (by rw [e])) v⟩

theorem add_block (a : Addr) (j : Nat) (hs : a.spot = none) : (a.add j).block = a.block := by
  obtain ⟨G, off, spot⟩ := a
  obtain rfl : spot = none := hs
  unfold Addr.add
  split <;> rfl
theorem infoTxt : (Tryz.prog.info? 9).map (fun i => (i.zero, i.size, i.bytes)) = some (some (.string ⟨#[]⟩), 1, 16) := by kernel_rfl
/-- A path of one's own: a row that append may write into, or a view that is full. -/
def PathOwn (w : World) (B : Nat) (v : Value) (xs : List ByteArray) : Prop :=
  w.ownsRow B 9 1 v xs.length (xs.map Value.string) ∨
  ∃ a : Addr, v = .slice (some a) xs.length xs.length ∧ a.spot = none ∧ (∀ j u, (xs.map Value.string)[j]? = some u → w.cell? (a.add j) = some u) ∧ (xs ≠ [] → ∃ cur fz, w.heap[a.block]? = some (.cells cur 9 fz))
theorem PathOwn.nil (w : World) (B : Nat) : PathOwn w B (.slice none 0 0) [] := .inl (World.ownsRow_nil w B _ _)
/-- Kept where another block alone was written, that is no row of texts. -/
theorem PathOwn.kept {w w' : World} {B : Nat} {v : Value} {xs : List ByteArray} {row : Option Nat} (h : PathOwn w B v xs) (hg : w.grownBy w' row)
    (hr : ∀ k, row = some k → ∃ cs t fr, w.heap[k]? = some (.cells cs t fr) ∧ t ≠ 9) : PathOwn w' B v xs := by
  rcases h with h | ⟨a, rfl, hs, hc, hb⟩
  · refine .inl (h.kept hg ?_)
    rcases h.2 with ⟨rfl, _⟩ | ⟨g, cap, cur, rfl, _, hgb, _⟩
    · exact .inl rfl
    · refine .inr fun e => ?_
      obtain ⟨cs, t, fr, h1, h2⟩ := hr g e.symm
      rw [hgb] at h1
      injection h1 with h1
      injection h1 with _ h3 _
      exact h2 h3.symm
  · by_cases hx : xs = []
    · subst hx
      exact .inr ⟨a, rfl, hs, fun j u hj => by simp at hj, fun h => absurd rfl h⟩
    · obtain ⟨cur, fz, hcur⟩ := hb hx
      have hne : some a.block ≠ row := fun e => by
        obtain ⟨cs, t, fr, h1, h2⟩ := hr a.block e.symm
        rw [hcur] at h1
        injection h1 with h1
        injection h1 with _ h3 _
        exact h2 h3.symm
      have hk := hg.block a.block (row_lt hcur) hne
      exact .inr ⟨a, rfl, hs, fun j u hj => (World.cell?_of_block (a := a.add j) (by rw [add_block a j hs]; exact hk)).trans (hc j u hj), fun _ => ⟨cur, fz, by rw [hk]; exact hcur⟩⟩
theorem below_grown {w w' : World} (hb : Below w.heap.size w w') : w.grownBy w' none := ⟨hb.os, hb.tape, hb.output, hb.size, fun k hk _ => hb.block k hk⟩
theorem PathOwn.below {w w' : World} {B : Nat} {v : Value} {xs : List ByteArray} (h : PathOwn w B v xs) (hb : Below w.heap.size w w') : PathOwn w' B v xs :=
  h.kept (below_grown hb) (fun k hk => by cases hk)
theorem PathOwn.setCell {w : World} {B M : Nat} {v : Value} {xs : List ByteArray} {cs : Array Value} {t : TypeId} {fr : Nat × Nat} (h : PathOwn w B v xs) (hM : w.heap[M]? = some (.cells cs t fr)) (ht : t ≠ 9) (k : Nat) (u : Value) : PathOwn (w.setCell ⟨M, k, none⟩ u) B v xs :=
  h.kept (grown_setCell w ⟨M, k, none⟩ u) (fun k hk => by injection hk with hk; subst hk; exact ⟨cs, t, fr, hM, ht⟩)
/-- The value of a path of one's own. -/
theorem PathOwn.form {w : World} {B : Nat} {v : Value} {xs : List ByteArray} (h : PathOwn w B v xs) : ∃ a c, v = .slice a xs.length c ∧ xs.length ≤ c ∧ ∀ (j : Nat) (x : ByteArray), xs[j]? = some x → ∃ G off, a = some ⟨G, off, none⟩ ∧ G < w.heap.size ∧ w.cell? ⟨G, off + j, none⟩ = some (.string x) := by
  rcases h with h | ⟨a, rfl, hs, hc, hb⟩
  · rcases h.2 with ⟨rfl, h0⟩ | ⟨g, cap, cur, rfl, hgb, hg, hn, hcm, hcs, htk⟩
    · refine ⟨none, 0, by rw [h0], by omega, fun j x hj => ?_⟩
      rw [List.eq_nil_of_length_eq_zero h0] at hj
      simp at hj
    · refine ⟨_, cap, rfl, hn, fun j x hj => ⟨g, 0, rfl, row_lt hg, ?_⟩⟩
      have := h.cells (g := g) rfl j (.string x) (by rw [List.getElem?_map, hj]; rfl)
      rw [addr_add] at this
      rw [Nat.zero_add]; exact this
  · refine ⟨some a, xs.length, rfl, Nat.le_refl _, fun j x hj => ?_⟩
    obtain ⟨G, off, spot⟩ := a
    obtain rfl : spot = none := hs
    have := hc j (.string x) (by rw [List.getElem?_map, hj]; rfl)
    rw [show (⟨G, off, none⟩ : Addr).add j = ⟨G, off + j, none⟩ by simp [Addr.add]] at this
    exact ⟨G, off, rfl, World.block_lt_of_cell? _ _ this, this⟩
/-- The last one is left out. -/
theorem PathOwn.pop {w : World} {B : Nat} {a : Option Addr} {n c : Nat} {xs : List ByteArray} (h : PathOwn w B (.slice a n c) xs) (hn : 1 ≤ xs.length) : PathOwn w B (.slice a (n - 1) (n - 1)) xs.dropLast := by
  have hl : xs.dropLast.length = n - 1 := by
    obtain ⟨a', c', e, _⟩ := h.form
    injection e with _ e2 _
    rw [List.length_dropLast, e2]
  have hsub : ∀ (j : Nat) (u : Value), (xs.dropLast.map Value.string)[j]? = some u → (xs.map Value.string)[j]? = some u := by
    intro j u hj
    rw [List.getElem?_map, Option.map_eq_some_iff] at hj
    obtain ⟨x, hx, rfl⟩ := hj
    have hjl := (List.getElem?_eq_some_iff.1 hx).1
    rw [List.length_dropLast] at hjl
    rw [List.getElem?_map, ← List.getElem?_take_of_lt (show j < xs.length - 1 from hjl), ← List.dropLast_eq_take, hx]; rfl
  rcases h with h | ⟨p, e, hs, hc, hb⟩
  · rcases h.2 with ⟨e, h0⟩ | ⟨g, cap, cur, e, hgb, hg, hnc, hcm, hcs, htk⟩
    · omega
    · injection e with e1 e2 e3
      subst e1
      exact .inr ⟨⟨g, 0, none⟩, by rw [hl], rfl, fun j u hj => h.cells (g := g) (by rw [Value.ownBlock]) j u (hsub j u hj), fun _ => ⟨cur, (0, 0), hg⟩⟩
  · injection e with e1 e2 e3
    subst e1
    exact .inr ⟨p, by rw [hl], hs, fun j u hj => hc j u (hsub j u hj), fun _ => hb (fun e => by rw [e] at hn; simp at hn)⟩

section
variable {P : Program} (w : World)
/-- append to a view that is full: a new block. -/
theorem run_append_full (base : Nat) (t ty e : TypeId) (i : TypeInfo) (z : Value) (bytes : Nat) (ht : P.underlying t = some (.slice e)) (hi : P.info? e = some i) (hz : i.zero = some z)
    (hsize : i.size = 1) (hby : i.bytes = bytes) (hzs : z.cells.size = 1)
    (p : Addr) (n : Nat) (xs : List Value) (hlx : xs.length = n) (hcx : ∀ j u, xs[j]? = some u → w.cell? (p.add j) = some u)
    (a : Addr) (c : Nat) (x : Value) (hx : w.cell? (a.add 0) = some x)
    (h63 : n + 1 ≤ maxLen) (hbytes : (n + 1) * bytes ≤ 140737488355328) (hbase : base ≤ w.heap.size) :
    ∃ v' w', (Builtin.append_ #[t, t] ty #[.slice (some p) n n, .slice (some a) 1 c]).run P w = .ok v' w' ∧ w'.ownsRow base e 1 v' (n + 1) (xs ++ [x]) ∧ w.grownBy w' none := by
  have hsmall : n + 1 ≤ 9223372036854775807 := by simp only [maxLen] at h63; omega
  have hr := run_append_grow (P := P) w t ty e i z ht hi hz p n n xs (by rw [hsize, Nat.mul_one]; exact hlx) hcx a 1 c [x] (by rw [hsize]; rfl) (fun j u hj => by
    have : j < 1 := by simpa using (List.getElem?_eq_some_iff.1 hj).1
    obtain rfl : j = 0 := by omega
    obtain rfl : x = u := by simpa using hj
    exact hx) (by omega) (by omega) (growslice_fits (by omega) (by rw [hby]; exact hbytes))
  refine ⟨_, _, hr, ⟨by simp [hlx], .inr ⟨w.heap.size, _, _, rfl, hbase, heap_alloc_new w.drew _, grownCap_ge _ _ _ _, grownCap_le_maxLen w (n + 1) n e h63, ?_, ?_⟩⟩, ⟨rfl, rfl, rfl, by simp, fun k hk _ => Below.heap_alloc w.drew _ k hk⟩⟩
  · have hge := grownCap_ge w (n + 1) n e
    simp only [Array.size_append, List.size_toArray, size_zeroCells, hzs, hlx, List.length_singleton]
    omega
  · simp only [Array.toList_append, List.append_assoc]
    rw [← List.append_assoc, show (n + 1) * 1 = (xs ++ [x]).length by simp [hlx]]
    exact List.take_left
end
/-- append of one text to a path of one's own. -/
theorem run_append_path (w : World) (base : Nat) (ty : TypeId) (v : Value) (xs : List ByteArray) (hown : PathOwn w base v xs) (a : Addr) (c : Nat) (p : ByteArray) (hp : w.cell? (a.add 0) = some (.string p))
    (hlen : xs.length ≤ 1000000000) (hbase : base ≤ w.heap.size) :
    ∃ v' w' row, (Builtin.append_ #[25, 25] ty #[v, .slice (some a) 1 c]).run Tryz.prog w = .ok v' w' ∧ PathOwn w' base v' (xs ++ [p]) ∧ w.grownBy w' row ∧ (∀ k, row = some k → base ≤ k ∧ ∃ cur fr, w.heap[k]? = some (.cells cur 9 fr)) := by
  obtain ⟨i0, hi, hz0, hz1, hz2⟩ := info_parts infoTxt
  have hm : (xs ++ [p]).map Value.string = xs.map Value.string ++ [.string p] := by simp
  rcases hown with h | ⟨q, rfl, hs, hc, hb⟩
  · have hn1 : ∀ j u, [Value.string p][j]? = some u → w.cell? (a.add j) = some u := fun j u hj => by
      have : j < 1 := by simpa using (List.getElem?_eq_some_iff.1 hj).1
      obtain rfl : j = 0 := by omega
      obtain rfl : Value.string p = u := by simpa using hj
      exact hp
    obtain ⟨v', w', hr, h2, h3, _⟩ := run_append_own (P := Tryz.prog) w base 25 ty 9 i0 (.string ⟨#[]⟩) 1 16 Tryz.underlying25 hi hz0 hz1 hz2 rfl (by decide) v xs.length (xs.map Value.string) h a 1 c [.string p] rfl hn1 (by simp [Value.oneCell']) (by unfold maxLen; omega) (by omega) hbase
    refine ⟨v', w', v.ownBlock, hr, .inl ?_, h3, fun k hk => ?_⟩
    · rw [hm, List.length_append]; exact h2
    · rcases h.2 with ⟨rfl, _⟩ | ⟨g, cap, cur, rfl, hgb, hg, _⟩
      · cases hk
      · injection hk with hk; subst hk; exact ⟨hgb, cur, _, hg⟩
  · obtain ⟨v', w', hr, h2, h3⟩ := run_append_full (P := Tryz.prog) w base 25 ty 9 i0 (.string ⟨#[]⟩) 16 Tryz.underlying25 hi hz0 hz1 hz2 rfl q xs.length (xs.map Value.string) (by simp) hc a c (.string p) hp (by unfold maxLen; omega) (by omega) hbase
    refine ⟨v', w', none, hr, .inl ?_, h3, fun k hk => by cases hk⟩
    rw [hm, List.length_append]; exact h2
/-- The block that append wrote into, if any: one of texts, at B or beyond. -/
def RowOk (B : Nat) (w : World) (row : Option Nat) : Prop := ∀ k, row = some k → B ≤ k ∧ ∃ cur fr, w.heap[k]? = some (.cells cur 9 fr)
theorem wpList_append_path (w : World) {ops : Array Oper} {rest : List Oper} {o : Oper} {a : Act} {Q : Exit → Act → World → Prop} (hgd : o.guard = none) (s x : Operand)
    (ho : o.op = .call { callee := .builtin .append, args := #[s, x], argTypes := #[25, 25] })
    (base : Nat) (v : Value) (xs : List ByteArray) (hs : a.eval s = v) (hown : PathOwn w base v xs) (ad : Addr) (c : Nat) (p : ByteArray) (hx : a.eval x = .slice (some ad) 1 c) (hp : w.cell? (ad.add 0) = some (.string p))
    (hlen : xs.length ≤ 1000000000) (hbase : base ≤ w.heap.size)
    (h : ∀ g n' c' w' row, PathOwn w' base (.slice (some g) n' c') (xs ++ [p]) → w.grownBy w' row → RowOk base w row → wpList Tryz.prog ops Q rest (a.put o.dst (.slice (some g) n' c')) w') :
    wpList Tryz.prog ops Q (o :: rest) a w := by
  refine wpList_plain hgd fun K hK => ?_
  obtain ⟨v', w', row, hr, h2, h3, h4⟩ := run_append_path w base o.type v xs hown ad c p hp hlen hbase
  obtain ⟨g, c', rfl, _, hcells⟩ := h2.form
  obtain ⟨G, off, rfl, _, _⟩ := hcells xs.length p (by simp)
  unfold Oper.wp execOp
  simp only [ho, resolve, invoke, builtin, Sem.run_bind, Sem.run_pure, Result.andThen_ok, List.map_toArray, List.map_cons, List.map_nil, hs, hx, hr]
  exact hK _ _ (h _ _ _ w' row h2 h3 h4)

/-- What a maker holds. -/
structure MkV where
  sch : ByteArray
  usr : ByteArray
  pas : ByteArray
  hh : Bool
  hst : ByteArray
  prt : Int
  opq : Bool
  pv : Value
  xs : List ByteArray
  hq : Bool
  hf : Bool
  qry : ByteArray
  frg : ByteArray
def MkV.cells (x : MkV) : Array Value := #[.string x.sch, .string x.usr, .string x.pas, .bool x.hh, .string x.hst, .int .i64 x.prt, .bool x.opq, x.pv, .bool x.hq, .bool x.hf, .string x.qry, .string x.frg]
def MkV.url (x : MkV) : Lz.UrlL := ⟨x.sch.data.toList, x.usr.data.toList, x.pas.data.toList, x.hh, x.hst.data.toList, x.prt, x.opq, x.xs.map (·.data.toList), x.hq, x.hf, x.qry.data.toList, x.frg.data.toList⟩
def slashB (sp : Bool) : ByteArray := if sp then ⟨#[47, 92]⟩ else ⟨#[47]⟩
/-- The maker's block: the URL, whether it is special, its slashes. -/
structure MkAt (B M : Nat) (w : World) (x : MkV) (sp : Bool) (sl : ByteArray) : Prop where
  row : w.heap[M]? = some (.cells #[.string x.sch, .string x.usr, .string x.pas, .bool x.hh, .string x.hst, .int .i64 x.prt, .bool x.opq, x.pv, .bool x.hq, .bool x.hf, .string x.qry, .string x.frg, .bool sp, .string sl] 63 (0, 0))
  own : PathOwn w B x.pv x.xs
  le : B ≤ M
/-- The maker at M holds this URL. -/
def MkIs (B M : Nat) (w : World) (u : Lz.UrlL) : Prop := ∃ x, MkAt B M w x (Lz.specP x.sch.data.toList) (slashB (Lz.specP x.sch.data.toList)) ∧ Hid (x.url = u)
theorem MkAt.below {B M : Nat} {w w' : World} {x : MkV} {sp : Bool} {sl : ByteArray} (h : MkAt B M w x sp sl) (hb : Below w.heap.size w w') : MkAt B M w' x sp sl :=
  ⟨by rw [hb.block M (row_lt h.row)]; exact h.row, h.own.below hb, h.le⟩
theorem MkIs.below {B M : Nat} {w w' : World} {u : Lz.UrlL} (h : MkIs B M w u) (hb : Below w.heap.size w w') : MkIs B M w' u := by
  obtain ⟨x, hx, hu⟩ := h; exact ⟨x, hx.below hb, hu⟩
theorem MkIs.form {B M : Nat} {w : World} {u : Lz.UrlL} (h : MkIs B M w u) : ∃ (sch usr pas : ByteArray) (hh : Bool) (hst : ByteArray) (prt : Int) (opq : Bool) (a : Option Addr) (c : Nat) (xs : List ByteArray) (hq hf : Bool) (qry frg : ByteArray),
    MkAt B M w ⟨sch, usr, pas, hh, hst, prt, opq, .slice a xs.length c, xs, hq, hf, qry, frg⟩ (Lz.specP sch.data.toList) (slashB (Lz.specP sch.data.toList)) ∧
    u = ⟨sch.data.toList, usr.data.toList, pas.data.toList, hh, hst.data.toList, prt, opq, xs.map (fun x : ByteArray => x.data.toList), hq, hf, qry.data.toList, frg.data.toList⟩ ∧ xs.length ≤ c ∧
    ∀ (j : Nat) (x : ByteArray), xs[j]? = some x → ∃ G off, a = some ⟨G, off, none⟩ ∧ G < w.heap.size ∧ w.cell? ⟨G, off + j, none⟩ = some (.string x) := by
  obtain ⟨⟨sch, usr, pas, hh, hst, prt, opq, pv, xs, hq, hf, qry, frg⟩, hm, hu⟩ := h
  obtain ⟨a, c, hpv, hc, hcells⟩ := hm.own.form
  have hpv' : pv = .slice a xs.length c := hpv
  subst hpv'
  exact ⟨sch, usr, pas, hh, hst, prt, opq, a, c, xs, hq, hf, qry, frg, hm, hu.out.symm, hc, hcells⟩
/-- A method of the maker has done its work. -/
def RMk (B M : Nat) (u : Lz.UrlL) (w : World) (e : Ending) (w' : World) : Prop := e = .returned (.tuple #[]) ∧ Below B w w' ∧ MkIs B M w' u
theorem maker_ne : 63 ≠ 9 := by decide
theorem below_grownP {B : Nat} {a w w' : World} {row : Option Nat} (h : Below B a w) (hg : w.grownBy w' row) (hB : B ≤ w.heap.size) (hr : RowOk B w row) : Below B a w' :=
  h.grown hg hB fun k hk => (hr k hk).1
theorem row_grownP {w w' : World} {row : Option Nat} {B M : Nat} {cs : Array Value} (hM : w.heap[M]? = some (.cells cs 63 (0, 0))) (hg : w.grownBy w' row) (hr : RowOk B w row) : w'.heap[M]? = some (.cells cs 63 (0, 0)) := by
  rw [hg.block M (row_lt hM) (fun e => ?_)]
  · exact hM
  · obtain ⟨_, cur, fr, h1⟩ := hr M e.symm
    rw [hM] at h1
    injection h1 with h1
    injection h1 with _ h2 _
    exact maker_ne h2
end Go.Proofs.YthijceooebebfaaGreatDoor

namespace Lz
open Go
/-- Lib.indexAny as a place. -/
theorem indexAny_pl (ch : Bs) : ∀ l : Bs, Lib.indexAny l ch = match plQ ch.contains l with | some n => (n : Int) | none => -1
  | [] => rfl
  | c :: r => by
    have ih := indexAny_pl ch r
    rw [Lib.indexAny, plQ, List.findIdx?_cons]
    cases hc : ch.contains c with
    | true => simp
    | false =>
      simp only [Bool.false_eq_true, if_false]
      rw [ih]
      show _ = _
      cases hp : plQ ch.contains r with
      | none =>
        have : List.findIdx? ch.contains r = none := hp
        simp [this]
      | some n =>
        have : List.findIdx? ch.contains r = some n := hp
        simp only [this, Option.map_some]
        rw [if_neg (by rw [beq_iff_eq]; omega)]
        simp
end Lz
namespace Go.Proofs.YthijceooebebfaaGreatDoor
open Go.RowKit

theorem indexByte_pl (c : UInt8) : ∀ l : List UInt8, Lib.indexByte l c = intO (Lz.plQ ([c] : List UInt8).contains l)
  | [] => rfl
  | b :: l => by
    have ih := indexByte_pl c l
    rw [Lib.indexByte, Lz.plQ, List.findIdx?_cons]
    by_cases h : b = c
    · subst h; simp [intO]
    · have h1 : ([c] : List UInt8).contains b = false := by simp [h]
      rw [h1, if_neg (by simpa using h), ih]
      show _ = intO (if false = true then some 0 else Option.map (fun i => i + 1) (Lz.plQ ([c] : List UInt8).contains l))
      cases Lz.plQ ([c] : List UInt8).contains l with
      | none => simp [intO]
      | some n =>
        have hb : ((n : Int) == -1) = false := by rw [beq_eq_false_iff_ne]; omega
        show (if ((n : Int) == -1) = true then (-1 : Int) else (n : Int) + 1) = _
        rw [hb]; simp [intO]
theorem indexAny_intO (ch l : List UInt8) : Lib.indexAny l ch = intO (Lz.plQ ch.contains l) := by
  rw [Lz.indexAny_pl]
  cases Lz.plQ ch.contains l <;> rfl
set_option maxHeartbeats 2000000 in
set_option maxRecDepth 1000000 in
theorem IndexAny_fewP (s ch : ByteArray) (h8 : s.size ≤ 8) (h2 : 2 ≤ ch.size) (ha : ∀ c ∈ ch.data.toList, c.toNat < 128) (w : World) :
    Calls Tryz.prog 137 #[.string s, .string ch] w fun e w' => ∃ o : Option Nat, e = .returned (.int .i64 (intO o)) ∧ Hid (o = Lz.plQ ch.data.toList.contains s.data.toList) ∧ Below w.heap.size w w' := by
  have he := isEmpty_of_pos (s := ch) (by omega)
  have hc1 : ((ch.size : Int) == 1) = false := beq_eq_false_iff_ne.2 (by omega)
  have cU := fun W => Tryz.strings_shouldUseASCIISet (s.size : Int) W
  rw [decide_eq_false (show ¬ (8 : Int) < (s.size : Int) by omega)] at cU
  have CU := Lib.hid fun W => (cU W).mono fun _ _ (h : _ ∧ _) => (⟨h.1, h.2.symm⟩ : _ ∧ W = _)
  have Ha := Lib.hid ha
  clear cU ha
  go_enter Tryz.func137, Tryz.ntmps137
  go_wp2_with fail
  refine (CU.out _).mono ?_
  rintro e w' ⟨rfl, rfl⟩
  go_wp2
  go_loopg [] s.size (fun gf wx => ∃ pos : Nat, wx.heap[w.heap.size]? = some (.stringIter s pos) ∧ Below w.heap.size w wx ∧ s.size ≤ pos + gf ∧ Hid (Lz.plQ ch.data.toList.contains s.data.toList = (Lz.plQ ch.data.toList.contains (s.data.toList.drop pos)).map (· + pos)))
  case atStart => exact ⟨0, World.iter_heap w s 0, (Below.refl _ w).alloc (Nat.le_refl _) _, by omega, Lib.hid (by rw [List.drop_zero]; cases Lz.plQ ch.data.toList.contains s.data.toList <;> rfl)⟩
  case round =>
    obtain ⟨pos, hit, hbw, hfu, hS⟩ := hrel
    by_cases hps : pos < s.size
    · obtain ⟨g', rfl⟩ : ∃ g', gk = g' + 1 := ⟨gk - 1, by omega⟩
      have hnx : ∀ ty, (Instr.next (.pointer (some ⟨w.heap.size, 0, none⟩)) true ty).run Tryz.prog wr = _ := fun ty => Lib.run_next_any_at wr w.heap.size s pos ty hit hps
      have hwd := Lib.width_pos s pos
      have hval := Lz.rune_valid s pos
      have hstep : Hid ((Lz.plQ ch.data.toList.contains (s.data.toList.drop pos)).map (· + pos) = if (decide ((Utf8.decode s pos).1 < 128) && ch.data.toList.contains (UInt8.ofNat (Utf8.decode s pos).1)) = true then some pos else (Lz.plQ ch.data.toList.contains (s.data.toList.drop (pos + (Utf8.decode s pos).2))).map (· + (pos + (Utf8.decode s pos).2))) := by
        show _ = _
        rcases Nat.lt_or_ge (s[pos]'hps).toNat 128 with h1 | h1
        · rw [decode_ascii s pos hps h1]
          have hd : s.data.toList.drop pos = s[pos] :: s.data.toList.drop (pos + 1) := by
            rw [List.drop_eq_getElem_cons (show pos < s.data.toList.length from hps)]; rfl
          rw [hd, Lz.plQ, List.findIdx?_cons, decide_eq_true h1]
          simp only [Bool.true_and, UInt8.ofNat_toNat]
          cases ch.data.toList.contains s[pos] with
          | true => simp
          | false =>
            simp only [Bool.false_eq_true, if_false]
            show _ = Option.map _ (Lz.plQ ch.data.toList.contains (s.data.toList.drop (pos + 1)))
            show Option.map _ (Option.map _ (Lz.plQ ch.data.toList.contains (s.data.toList.drop (pos + 1)))) = _
            cases Lz.plQ ch.data.toList.contains (s.data.toList.drop (pos + 1)) with
            | none => rfl
            | some n => simp; omega
        · have hr := Lz.rune_hi s pos hps h1
          rw [decide_eq_false (by omega), Bool.false_and, if_neg (by simp)]
          refine Lz.plQ_skip _ _ _ _ ?_
          intro j b h3 h4 hj
          have hjl : j < s.size := by rw [← len_of_size]; exact (List.getElem?_eq_some_iff.1 hj).1
          have h5 := Lz.hi_bytes s pos hps h1 j h3 h4 hjl
          rw [get_of_lt hjl] at hj
          rw [Option.some.inj hj] at h5
          rw [Bool.eq_false_iff]; intro hm
          have := Ha.out b (List.contains_iff_mem.1 hm)
          omega
      generalize hR : (Utf8.decode s pos).1 = R at hnx hval hstep
      generalize hK : (Utf8.decode s pos).2 = K at hnx hwd hstep
      clear hR hK
      have hit2 := Lib.iterAt_heap wr w.heap.size s pos (pos + K) hit
      have hbw2 := Lib.below_iterAt hbw (k := w.heap.size) (Nat.le_refl _) s (pos + K)
      have hlw : w.heap.size < (wr.iterAt w.heap.size s (pos + K)).heap.size := (Array.getElem?_eq_some_iff.1 hit2).1
      generalize wr.iterAt w.heap.size s (pos + K) = W at hnx hit2 hbw2 hlw
      have CI := Lib.hid (IndexRune_asc ch Ha.out R hval W)
      have Hit2 := Lib.hid hit2
      clear hval hit2 hit
      go_wp2_with fail
      refine (CI.out).mono ?_
      rintro e w2 ⟨i, rfl, hi, hb2⟩
      have hit3 : Hid (w2.heap[w.heap.size]? = some (.stringIter s (pos + K))) := by show _ = _; rw [hb2.block _ hlw]; exact Hit2.out
      have hbw3 : Below w.heap.size w w2 := hbw2.trans (hb2.mono hbw2.size)
      by_cases hi0 : 0 ≤ i
      · have HD : Hid (some pos = Lz.plQ ch.data.toList.contains s.data.toList) := by
          show _ = _
          have h1 := hi.out
          rw [decide_eq_true hi0] at h1
          rw [hS.out, hstep.out, if_pos h1.symm]
        go_wp2
        go_ret
        exact ⟨some pos, rfl, HD, hbw3⟩
      · have HD : Hid (Lz.plQ ch.data.toList.contains s.data.toList = (Lz.plQ ch.data.toList.contains (s.data.toList.drop (pos + K))).map (· + (pos + K))) := by
          show _ = _
          have h1 := hi.out
          rw [decide_eq_false hi0] at h1
          rw [hS.out, hstep.out, if_neg (by rw [← h1]; simp)]
        go_wp2
        go_roundg g'
        case measure => omega
        case rel => exact ⟨pos + K, hit3.out, hbw3, by omega, HD⟩
    · have hnx : ∀ ty, (Instr.next (.pointer (some ⟨w.heap.size, 0, none⟩)) true ty).run Tryz.prog wr = _ := fun ty => Lib.run_next_end_at wr w.heap.size s pos ty hit hps
      have HD : Hid (none = Lz.plQ ch.data.toList.contains s.data.toList) := by
        show _ = _
        rw [hS.out, List.drop_eq_nil_of_le (by rw [len_of_size]; omega)]; rfl
      go_wp2
      go_ret
      exact ⟨none, rfl, HD, hbw⟩
set_option maxHeartbeats 2000000 in
set_option maxRecDepth 1000000 in
/-- strings.IndexAny at one byte. -/
theorem IndexAny_one (s ch : ByteArray) (hch : ch.data.toList = [47]) (w : World) : Calls Tryz.prog 137 #[.string s, .string ch] w fun e w' => ∃ o : Option Nat, e = .returned (.int .i64 (intO o)) ∧ Hid (o = Lz.plQ ([47] : List UInt8).contains s.data.toList) ∧ Below w.heap.size w w' := by
  have hz : ch.size = 1 := by rw [← len_of_size, hch]; rfl
  have hp : 0 < ch.size := by omega
  have hpI : (0 : Int) < (ch.size : Int) := by omega
  have he := isEmpty_of_pos (s := ch) hp
  have hc1 : ((ch.size : Int) == 1) = true := by rw [hz]; rfl
  have h0 : ch[0] = 47 := by
    have := get_of_lt (s := ch) (n := 0) hp
    rw [hch] at this
    simpa using this.symm
  have h0I : (ch[0].toNat : Int) = 47 := by rw [h0]; rfl
  have cI := Tryz.strings_IndexRune_ascii s 47
  have CI := Lib.hid (fun W => (cI W (by omega) (by omega)).mono fun _ _ (h : _ ∧ _) => (⟨h.1, h.2.symm⟩ : _ ∧ W = _))
  have hV : Lib.indexByte s.data.toList (47 : Int).toNat.toUInt8 = intO (Lz.plQ ([47] : List UInt8).contains s.data.toList) := indexByte_pl 47 _
  rw [hV] at CI
  clear hV cI hch h0 hz
  go_enter Tryz.func137, Tryz.ntmps137
  go_wp2_with fail
  refine (CI.out _).mono ?_
  rintro e w' ⟨rfl, rfl⟩
  go_wp2_with fail
  go_ret
  exact ⟨_, rfl, Lib.hid rfl, Below.refl _ _⟩
/-- strings.IndexAny at a URL's slashes. -/
theorem IndexAny_sl (s : ByteArray) (hs : s.size ≤ 1073741824) (sp : Bool) (w : World) : Calls Tryz.prog 137 #[.string s, .string (slashB sp)] w fun e w' => ∃ o : Option Nat, e = .returned (.int .i64 (intO o)) ∧ Hid (o = Lz.plQ (Lz.slashQ sp) s.data.toList) ∧ Below w.heap.size w w' := by
  cases sp with
  | false =>
    have := IndexAny_one s ⟨#[47]⟩ rfl w
    rw [show ([47] : List UInt8).contains = Lz.slashQ false from Lz.slash_contains false] at this
    exact this
  | true =>
    have hc : ([47, 92] : List UInt8).contains = Lz.slashQ true := Lz.slash_contains true
    have ha : ∀ c ∈ (slashB true).data.toList, c.toNat < 128 := by decide
    by_cases h8 : s.size ≤ 8
    · have := IndexAny_fewP s (slashB true) h8 (by decide) ha w
      rw [show (slashB true).data.toList.contains = Lz.slashQ true from hc] at this
      exact this
    · refine (Tryz.strings_IndexAny_long (zero_of_info info256).1 s (slashB true) w (by decide) (by omega) (by omega) (by decide) (fun j b hj => ha b (List.mem_of_getElem? hj))).mono ?_
      rintro e w' ⟨he, hw⟩
      refine ⟨_, by rw [he, indexAny_intO], Lib.hid (by rw [show (slashB true).data.toList.contains = Lz.slashQ true from hc]), ?_⟩
      rw [hw]
      exact ((Below.refl _ w).alloc (Nat.le_refl _) _).alloc (by simp) _
/-- maker.cut. -/
theorem cutM_any (M : Nat) (sp : Bool) (s : ByteArray) (hs : s.size ≤ 1073741824) (w : World) (h13 : w.cell? ⟨M, 13, none⟩ = some (.string (slashB sp))) :
    Calls Tryz.prog 101 #[.pointer (some ⟨M, 0, none⟩), .string s] w (RStrStrB (Lz.cutS sp s.data.toList).1 (Lz.cutS sp s.data.toList).2.1 (Lz.cutS sp s.data.toList).2.2 w) := by
  have cI := Lib.hid (IndexAny_sl s hs sp w)
  go_enter Tryz.func101, Tryz.ntmps101
  go_wp2_with fail
  refine cI.out.mono ?_
  rintro e w1 ⟨o, rfl, ho, hb1⟩
  generalize hii : intO o = ii
  cases o with
  | none =>
    obtain rfl : (-1 : Int) = ii := hii
    have HC : Hid (Lz.cutS sp s.data.toList = (s.data.toList, [], false)) := Lib.hid (Lz.cutS_none ho.out.symm)
    clear ho
    go_wp2_with fail
    go_ret3
    rw [HC.out]
    exact ⟨s, ⟨#[]⟩, rfl, Lib.hid rfl, Lib.hid rfl, hb1⟩
  | some i =>
    obtain rfl : (i : Int) = ii := hii
    have HC : Hid (Lz.cutS sp s.data.toList = (s.data.toList.take i, s.data.toList.drop (i + 1), true)) := Lib.hid (Lz.cutS_some ho.out.symm)
    have hil : i < s.size := by rw [← len_of_size]; exact Lz.plQ_lt ho.out.symm
    clear ho
    have hi0 : ¬ ((i : Int) < 0) := by omega
    have hi1 : (i : Int) ≤ (s.size : Int) := by omega
    have hi2 : (0 : Int) ≤ (i : Int) + 1 := by omega
    have hi3 : (i : Int) + 1 ≤ (s.size : Int) := by omega
    have hi4 : ((i : Int) + 1).toNat = i + 1 := by omega
    have hi5 : (0 : Int) ≤ (i : Int) := by omega
    have hw1 : IntKind.i64.wrap ((i : Int) + 1) = (i : Int) + 1 := IntWalk.i64_in _ (by omega)
    go_wp2_with fail
    go_quiet (fail)
    go_wp2_with fail
    go_ret3
    rw [HC.out]
    exact ⟨_, _, rfl, Lib.hid (extract_head2 _ _), Lib.hid (extract_tail' _ _), below_drewN hb1 _⟩
end Go.Proofs.YthijceooebebfaaGreatDoor

namespace Go.Proofs.YthijceooebebfaaGreatDoor
open Go.RowKit

theorem mk_set {B M : Nat} {w : World} {x : MkV} {sp : Bool} {sl : ByteArray} (h : MkAt B M w x sp sl) (k : Nat) (v : Value) (x' : MkV) (sp' : Bool) (sl' : ByteArray)
    (hc : (#[.string x.sch, .string x.usr, .string x.pas, .bool x.hh, .string x.hst, .int .i64 x.prt, .bool x.opq, x.pv, .bool x.hq, .bool x.hf, .string x.qry, .string x.frg, .bool sp, .string sl] : Array Value).setIfInBounds k v = #[.string x'.sch, .string x'.usr, .string x'.pas, .bool x'.hh, .string x'.hst, .int .i64 x'.prt, .bool x'.opq, x'.pv, .bool x'.hq, .bool x'.hf, .string x'.qry, .string x'.frg, .bool sp', .string sl'])
    (ho : ∀ w', PathOwn w' B x.pv x.xs → (PathOwn w' B x'.pv x'.xs)) : MkAt B M (w.setCell ⟨M, k, none⟩ v) x' sp' sl' :=
  ⟨rowSet h.row k v hc, ho _ (h.own.setCell h.row maker_ne k v), h.le⟩

/-- Every byte of the scheme's slashes is known. -/
theorem as_any (B M : Nat) (x : MkV) (sp : Bool) (sl s : ByteArray) (w : World) (hm : MkAt B M w x sp sl) :
    Calls Tryz.prog 64 #[.pointer (some ⟨M, 0, none⟩), .string s] w fun e w' => e = .returned (.tuple #[]) ∧ Below B w w' ∧ MkAt B M w' { x with sch := s } (Lz.specP s.data.toList) (slashB (Lz.specP s.data.toList)) := by
  obtain ⟨sch, usr, pas, hh, hst, prt, opq, pv, xs, hq, hf, qry, frg⟩ := x
  have hle := hm.le
  have cS := Lib.hid (fun W => Special_any s W)
  obtain ⟨q, hq'⟩ : ∃ q, q = Lz.specP s.data.toList := ⟨_, rfl⟩
  rw [← hq'] at cS ⊢
  clear hq'
  have m1 := mk_set hm 0 (.string s) { sch := s, usr := usr, pas := pas, hh := hh, hst := hst, prt := prt, opq := opq, pv := pv, xs := xs, hq := hq, hf := hf, qry := qry, frg := frg } sp sl (by simp) (fun _ h => h)
  have m2 := mk_set m1 12 (.bool q) { sch := s, usr := usr, pas := pas, hh := hh, hst := hst, prt := prt, opq := opq, pv := pv, xs := xs, hq := hq, hf := hf, qry := qry, frg := frg } q sl (by simp) (fun _ h => h)
  have m3 := mk_set m2 13 (.string ⟨#[47]⟩) { sch := s, usr := usr, pas := pas, hh := hh, hst := hst, prt := prt, opq := opq, pv := pv, xs := xs, hq := hq, hf := hf, qry := qry, frg := frg } q ⟨#[47]⟩ (by simp) (fun _ h => h)
  have m4 := mk_set m3 13 (.string ⟨#[47, 92]⟩) { sch := s, usr := usr, pas := pas, hh := hh, hst := hst, prt := prt, opq := opq, pv := pv, xs := xs, hq := hq, hf := hf, qry := qry, frg := frg } q ⟨#[47, 92]⟩ (by simp) (fun _ h => h)
  have b3 : Below B w (((w.setCell ⟨M, 0, none⟩ (.string s)).setCell ⟨M, 12, none⟩ (.bool q)).setCell ⟨M, 13, none⟩ (.string ⟨#[47]⟩)) := (((Below.refl B w).setCell (p := ⟨M, 0, none⟩) hle _).setCell (p := ⟨M, 12, none⟩) hle _).setCell (p := ⟨M, 13, none⟩) hle _
  have b4 := b3.setCell (p := ⟨M, 13, none⟩) hle (.string ⟨#[47, 92]⟩)
  have c0 := rowAt hm.row 0 (.string sch) rfl
  have f0 := rowFz hm.row 0
  have c12 := rowAt hm.row 12 (.bool sp) rfl
  have f12 := rowFz hm.row 12
  have c13 := rowAt hm.row 13 (.string sl) rfl
  have f13 := rowFz hm.row 13
  have e12 := rowAt m3.row 12 (.bool q) rfl
  have M3 := Lib.hid m3
  have M4 := Lib.hid m4
  have B3 := Lib.hid b3
  have B4 := Lib.hid b4
  clear m1 m2 m3 m4 b3 b4 hm
  cases q
  · go_enter Tryz.func64, Tryz.ntmps64
    go_wp2_with fail
    refine (cS.out _).mono ?_
    rintro e w1 ⟨rfl, rfl⟩
    go_wp2_with fail
    go_end0
    exact ⟨rfl, B3.out, M3.out⟩
  · go_enter Tryz.func64, Tryz.ntmps64
    go_wp2_with fail
    refine (cS.out _).mono ?_
    rintro e w1 ⟨rfl, rfl⟩
    go_wp2_with fail
    go_end0
    exact ⟨rfl, B4.out, M4.out⟩

theorem shortP_nil (s : List UInt8) : Lz.shortP s [] = [] := by unfold Lz.shortP; split <;> rfl
theorem shortP_drop {s : List UInt8} {l : List (List UInt8)} (h : ¬ (s = Lz.fileS ∧ l.length = 1 ∧ Lz.rootedP l = true)) : Lz.shortP s l = l.dropLast := by unfold Lz.shortP; rw [if_neg h]
/-- The last text of the path is left out. -/
theorem short_done {B M : Nat} {w : World} {sch usr pas : ByteArray} {hh : Bool} {hst : ByteArray} {prt : Int} {opq : Bool} {a : Option Addr} {k c : Nat} {xs : List ByteArray} {hq hf : Bool} {qry frg : ByteArray} {sp : Bool} {sl : ByteArray}
    (hm : MkAt B M w ⟨sch, usr, pas, hh, hst, prt, opq, .slice a (k + 1) c, xs, hq, hf, qry, frg⟩ sp sl) (hn : xs.length = k + 1) :
    Below B w (w.setCell ⟨M, 7, none⟩ (.slice a k k)) ∧ MkAt B M (w.setCell ⟨M, 7, none⟩ (.slice a k k)) ⟨sch, usr, pas, hh, hst, prt, opq, .slice a k k, xs.dropLast, hq, hf, qry, frg⟩ sp sl :=
  ⟨(Below.refl B w).setCell (p := ⟨M, 7, none⟩) hm.le _, mk_set hm 7 (.slice a k k) ⟨sch, usr, pas, hh, hst, prt, opq, .slice a k k, xs.dropLast, hq, hf, qry, frg⟩ sp sl (by simp) (fun _ h => h.pop (by show 1 ≤ xs.length; omega))⟩
theorem map_dropLast (xs : List ByteArray) : xs.dropLast.map (fun x : ByteArray => x.data.toList) = (xs.map (fun x : ByteArray => x.data.toList)).dropLast := by rw [List.map_dropLast]
set_option maxRecDepth 100000 in
theorem shorten_any (B M : Nat) (u : Lz.UrlL) (w : World) (hm : MkIs B M w u) (hl : u.path.length ≤ 1000000000) :
    Calls Tryz.prog 100 #[.pointer (some ⟨M, 0, none⟩)] w (RMk B M { u with path := Lz.shortP u.scheme u.path } w) := by
  obtain ⟨sch, usr, pas, hh, hst, prt, opq, a, c, xs, hq, hf, qry, frg, hk, rfl, hc, hcells⟩ := hm.form
  have hm0 := hm
  have hlx : xs.length ≤ 1000000000 := by simpa using hl
  have c7 := rowAt hk.row 7 (.slice a xs.length c) rfl
  have c0 := rowAt hk.row 0 (.string sch) rfl
  have f7 := rowFz hk.row 7
  have hpa : PathAt w (.slice a xs.length c) (xs.map (fun x : ByteArray => x.data.toList)) := ⟨a, c, xs, rfl, rfl, hcells⟩
  have cR := rooted_any _ _ w hpa
  obtain ⟨n, hn⟩ : ∃ n, n = xs.length := ⟨_, rfl⟩
  rw [← hn] at c7 cR hc hlx hk
  clear hcells hl hpa
  cases n with
  | zero =>
    have hx : xs = [] := List.length_eq_zero_iff.1 hn.symm
    subst hx
    have HF : Hid (MkIs B M w ⟨sch.data.toList, usr.data.toList, pas.data.toList, hh, hst.data.toList, prt, opq, Lz.shortP sch.data.toList [], hq, hf, qry.data.toList, frg.data.toList⟩) := by
      rw [shortP_nil]; exact hm0
    clear hm hm0 hk cR hn
    go_enter Tryz.func100, Tryz.ntmps100
    go_wp2_with fail
    go_end0
    exact ⟨rfl, Below.refl _ _, HF.out⟩
  | succ k =>
    have hk0 : (0 : Int) < (((k + 1 : Nat)) : Int) := by omega
    have hsd := short_done hk hn.symm
    have HD : Hid ((¬ (sch.data.toList = Lz.fileS ∧ k = 0 ∧ Lz.rootedP (xs.map (fun x : ByteArray => x.data.toList)) = true)) → RMk B M ⟨sch.data.toList, usr.data.toList, pas.data.toList, hh, hst.data.toList, prt, opq, Lz.shortP sch.data.toList (xs.map (fun x : ByteArray => x.data.toList)), hq, hf, qry.data.toList, frg.data.toList⟩ w (.returned (.tuple #[])) (w.setCell ⟨M, 7, none⟩ (.slice a k k))) := by
      intro hno
      refine ⟨rfl, hsd.1, _, hsd.2, Lib.hid ?_⟩
      rw [shortP_drop (by rw [List.length_map, ← hn]; intro h; exact hno ⟨h.1, by omega, h.2.2⟩), ← map_dropLast]
      rfl
    have hks : ((k + 1 : Nat) : Int) - 1 = (k : Int) := by omega
    have hkb : k ≤ 1000000000 := by omega
    have hkc : k ≤ c := by omega
    by_cases hf0 : sch.data.toList = Lz.fileS
    · have g0 := text_yes (k := [102, 105, 108, 101]) hf0
      by_cases hk1 : k = 0
      · subst hk1
        cases hr : Lz.rootedP (xs.map (fun x : ByteArray => x.data.toList)) with
        | true =>
          have HF : Hid (MkIs B M w ⟨sch.data.toList, usr.data.toList, pas.data.toList, hh, hst.data.toList, prt, opq, Lz.shortP sch.data.toList (xs.map (fun x : ByteArray => x.data.toList)), hq, hf, qry.data.toList, frg.data.toList⟩) := by
            have : Lz.shortP sch.data.toList (xs.map (fun x : ByteArray => x.data.toList)) = xs.map (fun x : ByteArray => x.data.toList) := by unfold Lz.shortP; rw [if_pos ⟨hf0, by rw [List.length_map, ← hn], hr⟩]
            rw [this]; exact hm0
          rw [hr] at cR
          have CR := Lib.hid cR
          clear hm hm0 hk cR hn hsd hr hf0
          go_enter Tryz.func100, Tryz.ntmps100
          go_wp2_with fail
          refine CR.out.mono ?_
          rintro e w1 ⟨rfl, rfl⟩
          go_wp2_with fail
          go_end0
          exact ⟨rfl, Below.refl _ _, HF.out⟩
        | false =>
          rw [hr] at cR
          have HE := Lib.hid (HD.out (fun h => by rw [hr] at h; exact absurd h.2.2 (by simp)))
          have CR := Lib.hid cR
          clear hm hm0 hk cR hn hsd hr hf0
          go_enter Tryz.func100, Tryz.ntmps100
          go_wp2_with fail
          refine CR.out.mono ?_
          rintro e w1 ⟨rfl, rfl⟩
          go_wp2_with fail
          go_end0
          exact HE.out
      · have hk2 : (1 : Int) < (((k + 1 : Nat)) : Int) := by omega
        have hk3 : (1 : Int) < (k : Int) + 1 := by omega
        have HE := Lib.hid (HD.out (fun h => hk1 h.2.1))
        clear hm hm0 hk cR hn hsd hf0
        go_enter Tryz.func100, Tryz.ntmps100
        go_wp2_with fail
        go_end0
        exact HE.out
    · have g0 := text_no (k := [102, 105, 108, 101]) hf0
      have HE := Lib.hid (HD.out (fun h => hf0 h.1))
      clear hm hm0 hk cR hn hsd hf0
      go_enter Tryz.func100, Tryz.ntmps100
      go_wp2_with fail
      go_end0
      exact HE.out

theorem EnvH.at {B : Nat} {w w' : World} (h : EnvH w) (hb : Below B w w') (hB : 9 ≤ B) : EnvH w' := by
  have hz := h.size
  have hc : ∀ b o, b < 9 → w'.cell? ⟨b, o, none⟩ = w.cell? ⟨b, o, none⟩ := fun b o hlt => hb.cell (p := ⟨b, o, none⟩) (by show b < _; omega)
  obtain ⟨h1, h2, h3, h4, h5, h6, h7, h8⟩ := h
  refine ⟨?_, ?_, ?_, ?_, ?_, ?_, ?_, Nat.le_trans hz hb.size⟩
  · obtain ⟨m, hm⟩ := h1; exact ⟨m, by rw [hc _ _ (by decide)]; exact hm⟩
  · exact var?_below hb gPow (by have : 0 < 9 := by decide
                                 omega) h2
  · obtain ⟨a, b, hm⟩ := h3; exact ⟨a, b, by rw [hc _ _ (by decide)]; exact hm⟩
  · obtain ⟨a, b, hm⟩ := h4; exact ⟨a, b, by rw [hc _ _ (by decide)]; exact hm⟩
  · rw [hc _ _ (by decide)]; exact h5
  · rw [hc _ _ (by decide)]; exact h6
  · rw [hc _ _ (by decide)]; exact h7
set_option maxRecDepth 100000 in
theorem dots_any (s : ByteArray) (hs : s.size ≤ 1000000000) (w : World) (hE : EnvH w) : Calls Tryz.prog 113 #[.string s] w (RInt (Lz.dotsP s.data.toList : Nat) w) := by
  have cL := Lib.hid (fun W => Lower_c s (by omega) W)
  go_enter Tryz.func113, Tryz.ntmps113
  go_wp2_with fail
  refine (cL.out _).mono ?_
  rintro e w1 ⟨u, rfl, hu, hb1⟩
  have hus : u.size = s.size := by rw [← len_of_size, hu.out, low_length, len_of_size]
  obtain ⟨m, hm⟩ := (hE.below hb1).ml
  have cR := Tryz.strings_ReplaceAll u ⟨#[37, 50, 101]⟩ ⟨#[46]⟩ m w1 (by omega) hm (by decide) (by
    have := Lib.countB_le ⟨#[37, 50, 101]⟩ (by decide) u.size u (Nat.le_refl _)
    have h1 : (⟨#[46]⟩ : ByteArray).size = 1 := rfl
    rw [h1]; omega)
  have hrep : Lib.replaceAll u.data.toList (⟨#[37, 50, 101]⟩ : ByteArray).data.toList (⟨#[46]⟩ : ByteArray).data.toList = Lz.unE (Lz.low s.data.toList) := by
    rw [hu.out]; exact Lz.replace_unE _
  rw [hrep] at cR
  have CR := Lib.hid cR
  obtain ⟨r, hr⟩ : ∃ r : ByteArray, r = ⟨(Lz.unE (Lz.low s.data.toList)).toArray⟩ := ⟨_, rfl⟩
  have hrd : r.data.toList = Lz.unE (Lz.low s.data.toList) := by rw [hr]
  rw [← hr] at CR
  clear cR hrep hr hm
  by_cases h1 : r.data.toList = [46]
  · have g1 := text_yes h1
    have hz : r.size = 1 := by rw [← len_of_size, h1]; rfl
    have HV : Hid (Lz.dotsP s.data.toList = 1) := by show _ = _; unfold Lz.dotsP; rw [← hrd, if_pos h1]
    clear hrd h1
    go_wp2_with fail
    refine CR.out.mono ?_
    rintro e w2 ⟨rfl, hb2⟩
    go_wp2_with fail
    go_ret
    rw [HV.out]
    exact ⟨by first | rfl | (rw [hz]; rfl), below_call hb1 hb2⟩
  · have g1 := text_no h1
    by_cases h2 : r.data.toList = [46, 46]
    · have g2 := text_yes h2
      have hz : r.size = 2 := by rw [← len_of_size, h2]; rfl
      have HV : Hid (Lz.dotsP s.data.toList = 2) := by show _ = _; unfold Lz.dotsP; rw [← hrd, if_neg h1, if_pos h2]
      clear hrd h1 h2
      go_wp2_with fail
      refine CR.out.mono ?_
      rintro e w2 ⟨rfl, hb2⟩
      go_wp2_with fail
      go_ret
      rw [HV.out]
      exact ⟨by first | rfl | (rw [hz]; rfl), below_call hb1 hb2⟩
    · have g2 := text_no h2
      have HV : Hid (Lz.dotsP s.data.toList = 0) := by show _ = _; unfold Lz.dotsP; rw [← hrd, if_neg h1, if_neg h2]
      clear hrd h1 h2
      go_wp2_with fail
      refine CR.out.mono ?_
      rintro e w2 ⟨rfl, hb2⟩
      go_wp2_with fail
      go_ret
      rw [HV.out]
      exact ⟨rfl, below_call hb1 hb2⟩

theorem app_mid {B M : Nat} {w w5 : World} {x : MkV} {sp : Bool} {sl : ByteArray} {o : Obj} {row : Option Nat} (hm : MkAt B M w x sp sl) (hB : B ≤ w.heap.size) (hg : (w.alloc o).grownBy w5 row)
    (hr : RowOk B (w.alloc o) row) :
    Below B w w5 ∧ w5.heap[M]? = some (.cells #[.string x.sch, .string x.usr, .string x.pas, .bool x.hh, .string x.hst, .int .i64 x.prt, .bool x.opq, x.pv, .bool x.hq, .bool x.hf, .string x.qry, .string x.frg, .bool sp, .string sl] 63 (0, 0)) :=
  ⟨below_grownP ((Below.refl B w).alloc hB o) hg (by simp; omega) hr, row_grownP (by rw [Below.heap_alloc w o M (row_lt hm.row)]; exact hm.row) hg hr⟩
theorem app_done {B M : Nat} {w w5 : World} {sch usr pas : ByteArray} {hh : Bool} {hst : ByteArray} {prt : Int} {opq : Bool} {pv : Value} {xs : List ByteArray} {hq hf : Bool} {qry frg : ByteArray} {sp : Bool} {sl : ByteArray} {v' : Value} {p : ByteArray}
    (hb : Below B w w5) (hM : w5.heap[M]? = some (.cells #[.string sch, .string usr, .string pas, .bool hh, .string hst, .int .i64 prt, .bool opq, pv, .bool hq, .bool hf, .string qry, .string frg, .bool sp, .string sl] 63 (0, 0)))
    (hle : B ≤ M) (hown : PathOwn w5 B v' (xs ++ [p])) :
    Below B w (w5.setCell ⟨M, 7, none⟩ v') ∧ MkAt B M (w5.setCell ⟨M, 7, none⟩ v') ⟨sch, usr, pas, hh, hst, prt, opq, v', xs ++ [p], hq, hf, qry, frg⟩ sp sl :=
  ⟨hb.setCell (p := ⟨M, 7, none⟩) hle _, ⟨rowSet hM 7 v' (by simp), hown.setCell hM maker_ne 7 v', hle⟩⟩
end Go.Proofs.YthijceooebebfaaGreatDoor
