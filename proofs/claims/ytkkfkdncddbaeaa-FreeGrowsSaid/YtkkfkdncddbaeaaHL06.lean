-- Told by hand; its numbers filled in by a program of this session.
import Derived.Test.YtkkfkdncddbaeaaFnBase
import Derived.Test.YtkkfkdncddbaeaaHPureS
import Derived.Test.YtkkfkdncddbaeaaFn106
import Derived.Test.YtkkfkdncddbaeaaFn51
namespace Go.Proofs.Ytkkfkdncddbaeaa.Fn
open Go.RowKit Go.Proofs.YtkkfkdncddbaeaaW.PrintWords Go.Proofs.YtkkfkdncddbaeaaW.PrintLast Go.Proofs.YtkkfkdncddbaeaaW.PrintMore
attribute [local go_sem] max2_int min2_int max_two min_two max_three min_three max_four min_four   -- for this text's walks alone
set_option linter.unusedVariables false
set_option linter.unusedSimpArgs false

/-! free.Check's answer in plain lists. -/
theorem inside6 (x : S40) (size : Int) (h0 : 0 ≤ size) (h1 : size ≤ 65536) : free_inside.f x.f0 x.f1 size = some (decide (0 < x.f1 ∧ 0 ≤ x.f0 ∧ x.f0 + x.f1 ≤ size)) := by
  unfold free_inside.f
  split
  · split
    · split
      · rw [w64 (by omega)]
        congr 1
        exact decide_eq_decide.2 (by omega)
      · congr 1; exact (decide_eq_false (by omega)).symm
    · congr 1; exact (decide_eq_false (by omega)).symm
  · congr 1; exact (decide_eq_false (by omega)).symm
theorem restF_cons (size e : Int) (x : S40) (t : List Flag.Sp) : Flag.restF size e (toP x :: t) = (decide (0 < x.f1) && decide (0 ≤ x.f0) && decide (x.f0 + x.f1 ≤ size) && decide (e < x.f0) && Flag.restF size (x.f0 + x.f1) t) := rfl
theorem check6_l (size : Int) (h0 : 0 ≤ size) (h1 : size ≤ 65536) (l : List S40) (hl : l.length ≤ 1024) (sp : List S40) : ∀ (m i : Nat) (last : Int), i + m = l.length → free_Check.l0 (m + 1) last l (l.length : Int) (i : Int) size sp = some (if Flag.restF size last ((l.drop i).map toP) = true then 0 else 9) := by
  intro m
  induction m with
  | zero =>
    intro i last hi
    rw [List.drop_eq_nil_of_le (by omega)]
    unfold free_Check.l0
    rw [if_neg (by omega)]
    simp [Flag.restF]
  | succ m ih =>
    intro i last hi
    have hil : i < l.length := by omega
    rw [← List.getElem_cons_drop hil, List.map_cons, restF_cons]
    unfold free_Check.l0
    have hx : rd_T40 l (i : Int) = l[i] := by rw [rd40_get l (i : Int) (by omega) (by omega)]; simp
    rw [if_pos (by omega), if_pos (by omega), if_pos (by omega), hx, inside6 _ size h0 h1, Option.bind_some]
    by_cases hin : 0 < l[i].f1 ∧ 0 ≤ l[i].f0 ∧ l[i].f0 + l[i].f1 ≤ size
    · rw [if_pos (decide_eq_true hin)]
      have hw : wrap64 (l[i].f0 + l[i].f1) = l[i].f0 + l[i].f1 := w64 (by omega)
      have hw2 : wrap64 ((i : Int) + 1) = ((i + 1 : Nat) : Int) := by rw [w64 (by omega)]; omega
      rw [hw, hw2]
      by_cases hc : l[i].f0 ≤ last
      · rw [if_pos hc, decide_eq_false (show ¬ (last < l[i].f0) by omega)]
        simp
      · rw [if_neg hc, ih (i + 1) _ (by omega), decide_eq_true (show last < l[i].f0 by omega), decide_eq_true hin.1, decide_eq_true hin.2.1, decide_eq_true hin.2.2]
        simp
    · rw [if_neg (by simpa using hin)]
      have : (decide (0 < l[i].f1) && decide (0 ≤ l[i].f0) && decide (l[i].f0 + l[i].f1 ≤ size)) = false := by
        rw [Bool.eq_false_iff]
        intro h
        simp only [Bool.and_eq_true, decide_eq_true_eq] at h
        exact hin ⟨h.1.1, h.1.2, h.2⟩
      rw [this]
      simp
theorem check6 (size : Int) (l : List S40) : ∃ k, free_Check.f k size l = some (Flag.checkF size (l.map toP)) := by
  refine ⟨l.length + 3, ?_⟩
  unfold free_Check.f Flag.checkF
  by_cases h0 : size < 0
  · rw [if_pos h0, if_neg (by omega)]; unfold free_Check.j0; rfl
  · by_cases h1 : size > 65536
    · rw [if_neg h0, if_pos h1, if_neg (by omega)]; unfold free_Check.j0; rfl
    · rw [if_neg h0, if_neg h1]
      by_cases h2 : (l.length : Int) > 1024
      · rw [decide_eq_true h2, if_neg (by rw [List.length_map]; omega)]; unfold free_Check.j0; rfl
      · rw [decide_eq_false h2]
        have hj : free_Check.j0 (l.length + 3) false size l = free_Check.l0 (l.length + 1 + 1) (-1) l (l.length : Int) 0 size l := by unfold free_Check.j0; exact if_neg Bool.false_ne_true
        rw [hj]
        have h := check6_l size (by omega) (by omega) l (by omega) l l.length 0 (-1) (by omega)
        have h' := (free_Check.mono_l (l.length + 1)).2 (-1) l (l.length : Int) 0 size l _ h
        rw [List.drop_zero] at h'
        rw [h']
        congr 1
        have e : ((0 ≤ size ∧ size ≤ 65536) ∧ (l.map toP).length ≤ 1024 ∧ Flag.restF size (-1) (l.map toP) = true) ↔ Flag.restF size (-1) (l.map toP) = true := ⟨fun h => h.2.2, fun h => ⟨by omega, by rw [List.length_map]; omega, h⟩⟩
        by_cases hr : Flag.restF size (-1) (l.map toP) = true
        · rw [if_pos hr, if_pos (e.2 hr)]
        · rw [if_neg hr, if_neg (fun h => hr (e.1 h))]

end Go.Proofs.Ytkkfkdncddbaeaa.Fn
