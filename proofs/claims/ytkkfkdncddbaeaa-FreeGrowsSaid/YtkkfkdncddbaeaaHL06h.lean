-- Told by hand; its numbers filled in by a program of this session.
import Derived.Test.YtkkfkdncddbaeaaFnBase
import Derived.Test.YtkkfkdncddbaeaaHL06t
import Derived.Test.YtkkfkdncddbaeaaFn79
namespace Go.Proofs.Ytkkfkdncddbaeaa.Fn
open Go.RowKit Go.Proofs.YtkkfkdncddbaeaaW.PrintWords Go.Proofs.YtkkfkdncddbaeaaW.PrintLast Go.Proofs.YtkkfkdncddbaeaaW.PrintMore
attribute [local go_sem] max2_int min2_int max_two min_two max_three min_three max_four min_four   -- for this text's walks alone
set_option linter.unusedVariables false
set_option linter.unusedSimpArgs false

/-! Highest in plain lists. -/
theorem rd_last {l : List S40} (h : l ≠ []) : ∃ u, (l.map toP).getLast? = some (toP u) ∧ rd_T40 l ((l.length : Int) - 1) = u ∧ u ∈ l ∧ l = l.dropLast ++ [u] := by
  have hl : 0 < l.length := List.length_pos_iff.2 h
  refine ⟨l.getLast h, ?_, ?_, List.getLast_mem h, (List.dropLast_concat_getLast h).symm⟩
  · rw [List.getLast?_map, List.getLast?_eq_some_getLast h]; rfl
  · rw [rd40_get l _ (by omega) (by omega), List.getLast_eq_getElem]
    congr 1
    omega
theorem high_K (d : Nat) (size : Int) (l : List S40) : free_Highest.f (1030 + d) size l = some (Flag.highF size (l.map toP)) := by
  unfold free_Highest.f Flag.highF
  rw [check6_K, Option.bind_some]
  by_cases hc : Flag.checkF size (l.map toP) = 0
  · rw [if_pos hc, if_pos hc]
    have h6 := Flag.checkF_ok.1 hc
    by_cases hl : l = []
    · subst hl; rfl
    · have hp : 0 < l.length := List.length_pos_iff.2 hl
      obtain ⟨u, e1, e2, e3, e4⟩ := rd_last hl
      have hu := h6.ins _ (List.mem_map_of_mem e3)
      have u1 : 0 < u.f1 := hu.n
      have u2 : 0 ≤ u.f0 := hu.a
      have u3 : u.f0 + u.f1 ≤ size := hu.e
      have hs1 := h6.s1
      have hln := h6.len
      rw [List.length_map] at hln
      have ew : wrap64 ((l.length : Int) - 1) = (l.length : Int) - 1 := w64 (by omega)
      rw [e1, ew, e2, if_pos (by omega), if_pos (by omega), if_pos (by omega), w64 (n := u.f0 + u.f1) (by omega)]
      show _ = some (if u.f0 + u.f1 = size then (u.f0, 0) else (size, 0))
      split <;> rfl
  · rw [if_neg hc, if_neg hc]

end Go.Proofs.Ytkkfkdncddbaeaa.Fn
