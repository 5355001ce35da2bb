-- Told by hand; its numbers filled in by a program of this session.
import Derived.Test.YtkkfkdncddbaeaaFnBase
import Derived.Test.YtkkfkdncddbaeaaHLies
import Derived.Laws.CopyRow
import Derived.Lib.AppendZerosOnto
import Derived.Laws.Externs
import Derived.Lib.Overlaps
import Derived.Shelf.Spec.SlicesInsert
namespace Go.Proofs.Ytkkfkdncddbaeaa.Fn
open Go.RowKit Go.Proofs.YtkkfkdncddbaeaaW.PrintWords Go.Proofs.YtkkfkdncddbaeaaW.PrintLast Go.Proofs.YtkkfkdncddbaeaaW.PrintMore
attribute [local go_sem] max2_int min2_int max_two min_two max_three min_three max_four min_four   -- for this text's walks alone
set_option linter.unusedVariables false
set_option linter.unusedSimpArgs false

/-! Rows of plain cells: copying, clearing, appending zeros; k cells an element. -/
section
variable {α : Type} {d : Kd α} {enc : α → List Value} {e : Nat} {w : World} {base : Nat} {ok : Nat → Prop} {v : Value} {xs : List α} {k g cap : Nat}
/-- A row laid in block g, its cells as a list: the first ones are xs. -/
def LieL (enc : α → List Value) (k e : Nat) (w : World) (g cap : Nat) (cur : Array Value) (xs : List α) : Prop :=
  w.heap[g]? = some (.cells cur e (0, 0)) ∧ cur.size = cap * k ∧ xs.length ≤ cap ∧ cap ≤ maxLen ∧ cur.toList.take (xs.length * k) = xs.flatMap enc
theorem flat_len (hk : ∀ x, (enc x).length = k) (l : List α) : (l.flatMap enc).length = l.length * k := by
  induction l with
  | nil => simp
  | cons x t ih => rw [List.flatMap_cons, List.length_append, hk, ih, List.length_cons, Nat.succ_mul]; omega
theorem flat_take (hk : ∀ x, (enc x).length = k) (l : List α) (j : Nat) : (l.flatMap enc).take (j * k) = (l.take j).flatMap enc := by
  induction l generalizing j with
  | nil => simp
  | cons x t ih =>
    cases j with
    | zero => simp
    | succ j => rw [List.take_succ_cons, List.flatMap_cons, List.flatMap_cons, ← ih, List.take_append, hk, Nat.succ_mul, List.take_of_length_le (by rw [hk]; omega)]; congr 2; omega
theorem flat_drop (hk : ∀ x, (enc x).length = k) (l : List α) (j : Nat) : (l.flatMap enc).drop (j * k) = (l.drop j).flatMap enc := by
  induction l generalizing j with
  | nil => simp
  | cons x t ih =>
    cases j with
    | zero => simp
    | succ j => rw [List.drop_succ_cons, List.flatMap_cons, ← ih, List.drop_append, hk, Nat.succ_mul, List.drop_of_length_le (by rw [hk]; omega), List.nil_append]; congr 1; omega
theorem flat_get (hk : ∀ x, (enc x).length = k) (l : List α) (j : Nat) (x : α) (hj : l[j]? = some x) (i : Nat) (u : Value) (hu : (enc x)[i]? = some u) : (l.flatMap enc)[j * k + i]? = some u := by
  have h1 := flat_drop (enc := enc) hk l j
  have hjl := (List.getElem?_eq_some_iff.1 hj).1
  have h2 : l.drop j = x :: l.drop (j + 1) := by
    rw [← List.getElem_cons_drop hjl]
    have := (List.getElem?_eq_some_iff.1 hj).2
    rw [this]
  rw [h2, List.flatMap_cons] at h1
  have h3 : ((l.flatMap enc).drop (j * k))[i]? = some u := by
    rw [h1, List.getElem?_append_left (List.getElem?_eq_some_iff.1 hu).1]
    exact hu
  rwa [List.getElem?_drop] at h3
theorem flat_inj (hk : ∀ x, (enc x).length = k) (cs : List Value) : ∀ (l : List α), cs.length = l.length * k → (∀ j x, l[j]? = some x → ∀ i u, (enc x)[i]? = some u → cs[j * k + i]? = some u) → cs = l.flatMap enc := by
  intro l hl h
  apply List.ext_getElem?
  intro t
  by_cases ht : t < cs.length
  · have hk0 : 0 < k := by
      rcases Nat.eq_zero_or_pos k with h0 | h0
      · rw [h0, Nat.mul_zero] at hl; omega
      · exact h0
    have hj : t / k < l.length := by rw [Nat.div_lt_iff_lt_mul hk0]; omega
    have e1 : l[t / k]? = some l[t / k] := List.getElem?_eq_getElem hj
    have hm : t % k < (enc l[t / k]).length := by rw [hk]; exact Nat.mod_lt _ hk0
    have e2 := List.getElem?_eq_getElem hm
    have e3 : t / k * k + t % k = t := Nat.div_add_mod' t k
    have h1 := h _ _ e1 _ _ e2
    have h2 := flat_get (enc := enc) hk l _ _ e1 _ _ e2
    rw [e3] at h1 h2
    rw [h1, h2]
  · rw [List.getElem?_eq_none (by omega), List.getElem?_eq_none (by rw [flat_len hk]; omega)]
theorem Lies.toL (hk : ∀ x, (enc x).length = k) (h : Lies enc k e w g cap xs) : ∃ cur, LieL enc k e w g cap cur xs := by
  obtain ⟨cur, h1, h2, h3, h4, h5⟩ := h
  refine ⟨cur, h1, h2, h3, h4, flat_inj hk _ xs ?_ ?_⟩
  · rw [List.length_take, (show cur.toList.length = cur.size from Array.length_toList), h2]
    exact Nat.min_eq_left (Nat.mul_le_mul_right _ h3)
  · intro j x hj i u hu
    have hjl := (List.getElem?_eq_some_iff.1 hj).1
    have hi : i < k := by have := (List.getElem?_eq_some_iff.1 hu).1; rw [hk] at this; exact this
    have : (j + 1) * k ≤ xs.length * k := Nat.mul_le_mul_right _ hjl
    rw [Nat.add_mul, Nat.one_mul] at this
    rw [List.getElem?_take_of_lt (by omega), Array.getElem?_toList]
    exact h5 j x hj i u hu
theorem LieL.to (hk : ∀ x, (enc x).length = k) {cur : Array Value} (h : LieL enc k e w g cap cur xs) : Lies enc k e w g cap xs := by
  obtain ⟨h1, h2, h3, h4, h5⟩ := h
  refine ⟨cur, h1, h2, h3, h4, fun j x hj i u hu => ?_⟩
  have hjl := (List.getElem?_eq_some_iff.1 hj).1
  have hi : i < k := by have := (List.getElem?_eq_some_iff.1 hu).1; rw [hk] at this; exact this
  have : (j + 1) * k ≤ xs.length * k := Nat.mul_le_mul_right _ hjl
  rw [Nat.add_mul, Nat.one_mul] at this
  have h6 := flat_get (enc := enc) hk xs j x hj i u hu
  rw [← h5, List.getElem?_take_of_lt (by omega), Array.getElem?_toList] at h6
  exact h6
/-- Cells of a row, read. -/
theorem LieL.cell {cur : Array Value} (h : LieL enc k e w g cap cur xs) (o j : Nat) (u : Value) (hj : cur.toList[o + j]? = some u) : w.cell? ((⟨g, o, none⟩ : Addr).add j) = some u := by
  rw [add_at, blk_cell h.1, ← Array.getElem?_toList]
  exact hj
end
section
variable {P : Program}
/-- What a run of stores leaves. -/
theorem run_copy_k (w : World) (dT sT ty elem : TypeId) (g o dLen dCap : Nat) (a : Addr) (sLen sCap : Nat) (cur : Array Value) (t : TypeId) (cs : List Value) (k : Nat)
    (hu : P.underlying dT = some (.slice elem)) (hs : ∀ w, (Go.sizeOf elem).run P w = .ok k w)
    (hg : w.heap[g]? = some (.cells cur t (0, 0))) (hn : cs.length = Nat.min sLen dLen * k)
    (hsrc : ∀ j v, cs[j]? = some v → w.cell? (a.add j) = some v) (hfit : o + cs.length ≤ cur.size) (h1 : ∀ v ∈ cs, v.oneCell' = true) :
    (Builtin.copy_ #[dT, sT] ty #[.slice (some ⟨g, o, none⟩) dLen dCap, .slice (some a) sLen sCap]).run P w =
      .ok (goInt (Nat.min sLen dLen)) (w.setRow g (cur.toList.take o ++ cs ++ cur.toList.drop (o + cs.length)).toArray) := by
  have hl := run_loadCells_list (P := P) w a cs hsrc
  have hst := run_storeCells_at P g o t cs 0 cur w hg (by simpa using hfit) h1
  rw [hn] at hl
  simp only [Nat.add_zero] at hst
  simp [Builtin.copy_, run_underlying hu, Builtin.lenOf, Builtin.firstCells, hs, hl, hst]
theorem run_copy_nil_k (w : World) (dT sT ty elem : TypeId) (g o dLen dCap : Nat) (k : Nat) (hu : P.underlying dT = some (.slice elem)) (hs : ∀ w, (Go.sizeOf elem).run P w = .ok k w) :
    (Builtin.copy_ #[dT, sT] ty #[.slice (some ⟨g, o, none⟩) dLen dCap, .slice none 0 0]).run P w = .ok (goInt 0) w := by
  simp [Builtin.copy_, run_underlying hu, Builtin.lenOf, Builtin.firstCells, hs, storeCells]
theorem run_clear_k (w : World) (t e ty : TypeId) (z : Value) (ht : P.underlying t = some (.slice e)) (hv : ∀ w, (zeroValue e).run P w = .ok z w) (g o n c : Nat) (cur : Array Value) (te : TypeId)
    (hg : w.heap[g]? = some (.cells cur te (0, 0))) (hfit : o + n * z.cells.size ≤ cur.size) (h1 : ∀ v ∈ z.cells.toList, v.oneCell' = true) (hn : 0 < n) :
    ∃ zs : List Value, zs.length = n * z.cells.size ∧ (Builtin.clear_ #[t] ty #[.slice (some ⟨g, o, none⟩) n c]).run P w = .ok (.tuple #[]) (w.setRow g (cur.toList.take o ++ zs ++ cur.toList.drop (o + zs.length)).toArray) := by
  refine ⟨(Builtin.zeroCells z.cells n).toList, by simp [Builtin.zeroCells], ?_⟩
  have hz1 : ∀ v ∈ (Builtin.zeroCells z.cells n).toList, v.oneCell' = true := by
    intro v hv'
    simp only [Builtin.zeroCells, Array.toList_map, List.mem_map] at hv'
    obtain ⟨i, hi, rfl⟩ := hv'
    have hi : i < n * z.cells.size := by simpa using hi
    have hs0 : 0 < z.cells.size := by
      rcases Nat.eq_zero_or_pos z.cells.size with h0 | h0
      · rw [h0, Nat.mul_zero] at hi; omega
      · exact h0
    have hm := Nat.mod_lt i hs0
    rw [getElem!_pos z.cells _ hm]
    exact h1 _ (by simp)
  have hst := run_storeCells_at P g o te (Builtin.zeroCells z.cells n).toList 0 cur w hg (by simp [Builtin.zeroCells]; omega) hz1
  simp only [Nat.add_zero] at hst
  obtain ⟨m, rfl⟩ : ∃ m, n = m + 1 := ⟨n - 1, by omega⟩
  simp [Builtin.clear_, run_underlying ht, hv, hst]
theorem run_clear_none (w : World) (t e ty : TypeId) (ht : P.underlying t = some (.slice e)) (a : Option Addr) (c : Nat) :
    (Builtin.clear_ #[t] ty #[.slice a 0 c]).run P w = .ok (.tuple #[]) w := by
  cases a <;> simp [Builtin.clear_, run_underlying ht]
end
section
variable {α : Type} {enc : α → List Value} {e : Nat} {w : World} {k g cap : Nat}
theorem take_app_len {β : Type} (a b : List β) (n : Nat) (h : a.length = n) : (a ++ b).take n = a := by subst h; simp
theorem drop_app_len {β : Type} (a b : List β) (n : Nat) (h : a.length = n) : (a ++ b).drop n = b := by subst h; simp
/-- Cells of a row, laid over: what stands ahead of them and they themselves are told. -/
theorem LieL.put (hk : ∀ x, (enc x).length = k) {cur : Array Value} {xs ys : List α} {i : Nat} (h : LieL enc k e w g cap cur xs) (hi : i ≤ xs.length) (hc : i + ys.length ≤ cap) :
    LieL enc k e (w.setRow g (cur.toList.take (i * k) ++ ys.flatMap enc ++ cur.toList.drop (i * k + (ys.flatMap enc).length)).toArray) g cap (cur.toList.take (i * k) ++ ys.flatMap enc ++ cur.toList.drop (i * k + (ys.flatMap enc).length)).toArray (xs.take i ++ ys) := by
  obtain ⟨h1, h2, h3, h4, h5⟩ := h
  have hfl := flat_len (enc := enc) hk ys
  have hik : i * k ≤ xs.length * k := Nat.mul_le_mul_right _ hi
  have hck : (i + ys.length) * k ≤ cap * k := Nat.mul_le_mul_right _ hc
  rw [Nat.add_mul] at hck
  have hl1 : (cur.toList.take (i * k)).length = i * k := by rw [List.length_take, (show cur.toList.length = cur.size from Array.length_toList), h2]; exact Nat.min_eq_left (by omega)
  have hpre : cur.toList.take (i * k) = (xs.take i).flatMap enc := by
    rw [← flat_take (enc := enc) hk xs i, ← h5, List.take_take, Nat.min_eq_left hik]
  have hxl : (xs.take i).length = i := by rw [List.length_take]; omega
  refine ⟨setRow_heap w g cur _ e (0, 0) h1, ?_, by rw [List.length_append, hxl]; exact hc, h4, ?_⟩
  · rw [List.size_toArray, List.length_append, List.length_append, hl1, List.length_drop, (show cur.toList.length = cur.size from Array.length_toList), h2, hfl]; omega
  · rw [List.length_append, hxl, List.flatMap_append, ← hpre, Nat.add_mul]
    exact take_app_len _ _ _ (by rw [List.length_append, hl1, hfl])
/-- A row, the first of its elements alone. -/
theorem LieL.cut (hk : ∀ x, (enc x).length = k) {cur : Array Value} {xs : List α} (h : LieL enc k e w g cap cur xs) (i : Nat) (hi : i ≤ xs.length) : LieL enc k e w g cap cur (xs.take i) := by
  obtain ⟨h1, h2, h3, h4, h5⟩ := h
  have hik : i * k ≤ xs.length * k := Nat.mul_le_mul_right _ hi
  have hxl : (xs.take i).length = i := by rw [List.length_take]; omega
  refine ⟨h1, h2, by omega, h4, ?_⟩
  rw [hxl, ← flat_take (enc := enc) hk xs i, ← h5, List.take_take, Nat.min_eq_left hik]
/-- Cells behind the row's elements may turn. -/
theorem LieL.behind {cur cur' : Array Value} {xs : List α} (h : LieL enc k e w g cap cur xs) (o : Nat) (ho : xs.length * k ≤ o) (hs : cur'.size = cur.size) (hc : cur'.toList.take o = cur.toList.take o) : LieL enc k e (w.setRow g cur') g cap cur' xs := by
  obtain ⟨h1, h2, h3, h4, h5⟩ := h
  refine ⟨setRow_heap w g cur _ e (0, 0) h1, by rw [hs, h2], h3, h4, ?_⟩
  have e1 : cur'.toList.take (xs.length * k) = (cur'.toList.take o).take (xs.length * k) := by rw [List.take_take, Nat.min_eq_left ho]
  rw [e1, hc, List.take_take, Nat.min_eq_left ho, h5]
theorem setRow_below {B : Nat} {w0 w : World} (h : Below B w0 w) (hg : B ≤ g) (cs : Array Value) : Below B w0 (w.setRow g cs) :=
  ⟨h.os, h.tape, h.output, by rw [setRow_size]; exact h.size, fun i hi => by rw [setRow_other w g i cs (by omega)]; exact h.block i hi⟩
end
section
variable {α : Type} {enc : α → List Value} {e : Nat} {w : World} {k g cap : Nat}
/-- Cells of a row, laid over, with the row's elements behind them. -/
theorem LieL.put_mid (hk : ∀ x, (enc x).length = k) {cur : Array Value} {xs ys : List α} {i : Nat} (h : LieL enc k e w g cap cur xs) (hi : i + ys.length ≤ xs.length) :
    LieL enc k e (w.setRow g (cur.toList.take (i * k) ++ ys.flatMap enc ++ cur.toList.drop (i * k + (ys.flatMap enc).length)).toArray) g cap (cur.toList.take (i * k) ++ ys.flatMap enc ++ cur.toList.drop (i * k + (ys.flatMap enc).length)).toArray (xs.take i ++ ys ++ xs.drop (i + ys.length)) := by
  have hp := h.put hk (ys := ys) (show i ≤ xs.length by omega) (by have := h.2.2.1; omega)
  obtain ⟨h1, h2, h3, h4, h5⟩ := h
  have hfl := flat_len (enc := enc) hk ys
  have hxl : (xs.take i).length = i := by rw [List.length_take]; omega
  refine ⟨hp.1, hp.2.1, ?_, h4, ?_⟩
  · simp only [List.length_append, hxl, List.length_drop]; omega
  · have hlen : (xs.take i ++ ys ++ xs.drop (i + ys.length)).length = xs.length := by simp only [List.length_append, hxl, List.length_drop]; omega
    rw [hlen, List.flatMap_append]
    have h6 := hp.2.2.2.2
    simp only at h6 ⊢
    have hpl : (xs.take i ++ ys).length = i + ys.length := by rw [List.length_append, hxl]
    rw [hpl, Nat.add_mul] at h6
    have hl1 : (cur.toList.take (i * k)).length = i * k := by
      rw [List.length_take, (show cur.toList.length = cur.size from Array.length_toList), h2]
      exact Nat.min_eq_left (Nat.mul_le_mul_right _ (by omega))
    have hA : (cur.toList.take (i * k) ++ ys.flatMap enc).length = i * k + ys.length * k := by rw [List.length_append, hl1, hfl]
    have hle : i * k + ys.length * k ≤ xs.length * k := by rw [← Nat.add_mul]; exact Nat.mul_le_mul_right _ hi
    have h7 : cur.toList.take (i * k) ++ ys.flatMap enc = (xs.take i ++ ys).flatMap enc := by
      rw [← h6]
      exact (take_app_len _ _ _ hA).symm
    rw [List.take_append, List.take_of_length_le (by rw [hA]; exact hle), h7]
    congr 1
    rw [← h7, hA, hfl, ← flat_drop (enc := enc) hk xs (i + ys.length), ← h5, Nat.add_mul, List.drop_take]
/-- What a slice of the row reads. -/
theorem LieL.src (hk : ∀ x, (enc x).length = k) {cur : Array Value} {xs : List α} (h : LieL enc k e w g cap cur xs) (j : Nat) : ∀ t u, ((xs.drop j).flatMap enc)[t]? = some u → w.cell? ((⟨g, j * k, none⟩ : Addr).add t) = some u := by
  intro t u ht
  refine h.cell _ _ _ ?_
  rw [← flat_drop (enc := enc) hk xs j, ← h.2.2.2.2, List.getElem?_drop] at ht
  have hl := (List.getElem?_eq_some_iff.1 ht).1
  rw [List.length_take] at hl
  rw [List.getElem?_take_of_lt (by omega)] at ht
  exact ht
theorem LieL.same {w1 : World} {cur : Array Value} {xs : List α} (h : LieL enc k e w g cap cur xs) (hk : w1.heap[g]? = w.heap[g]?) : LieL enc k e w1 g cap cur xs := ⟨hk.trans h.1, h.2⟩
end

end Go.Proofs.Ytkkfkdncddbaeaa.Fn
