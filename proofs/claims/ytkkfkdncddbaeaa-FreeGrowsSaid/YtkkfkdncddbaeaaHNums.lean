-- Told by hand; its numbers filled in by a program of this session.
import Derived.Test.YtkkfkdncddbaeaaFnBase
namespace Go.Proofs.Ytkkfkdncddbaeaa.Fn
open Go.RowKit Go.Proofs.YtkkfkdncddbaeaaW.PrintWords Go.Proofs.YtkkfkdncddbaeaaW.PrintLast Go.Proofs.YtkkfkdncddbaeaaW.PrintMore
attribute [local go_sem] max2_int min2_int max_two min_two max_three min_three max_four min_four   -- for this text's walks alone
set_option linter.unusedVariables false
set_option linter.unusedSimpArgs false

/-! Go's whole numbers. -/
theorem w64 {n : Int} (h : -9223372036854775808 ≤ n ∧ n < 9223372036854775808) : wrap64 n = n := by unfold wrap64; omega
theorem mx_max (a b : Int) : mx a b = max a b := by unfold mx; omega
theorem mn_min (a b : Int) : mn a b = min a b := by unfold mn; omega
/-- The place that a law looks at. -/
theorem place_in (a : Int) : 0 ≤ Int.tmod (wrap64 ((Int.tmod a 65536) + 65536)) 65536 ∧ Int.tmod (wrap64 ((Int.tmod a 65536) + 65536)) 65536 < 65536 := by
  have h1 : Int.tmod a 65536 < 65536 := Int.tmod_lt_of_pos a (by omega)
  have h2 : -65536 < Int.tmod a 65536 := by
    have := Int.tmod_lt_of_pos (-a) (b := 65536) (by omega)
    rw [Int.neg_tmod] at this
    omega
  rw [w64 (by omega)]
  exact ⟨Int.tmod_nonneg _ (by omega), Int.tmod_lt_of_pos _ (by omega)⟩

end Go.Proofs.Ytkkfkdncddbaeaa.Fn
