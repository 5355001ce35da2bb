-- Told by hand; its numbers filled in by a program of this session.
import Derived.Test.YtkkfkdncddbaeaaFnBase
import Derived.Test.YtkkfkdncddbaeaaHL05m
import Derived.Test.YtkkfkdncddbaeaaFn35
import Derived.Test.YtkkfkdncddbaeaaFn6
namespace Go.Proofs.Ytkkfkdncddbaeaa.Fn
open Go.RowKit Go.Proofs.YtkkfkdncddbaeaaW.PrintWords Go.Proofs.YtkkfkdncddbaeaaW.PrintLast Go.Proofs.YtkkfkdncddbaeaaW.PrintMore
attribute [local go_sem] max2_int min2_int max_two min_two max_three min_three max_four min_four   -- for this text's walks alone
set_option linter.unusedVariables false
set_option linter.unusedSimpArgs false

/-! The pure statement of ExtentCuts. -/
/-- The place that a law looks at. -/
theorem place_in (a : Int) : 0 ≤ Int.tmod (wrap64 ((Int.tmod a 65536) + 65536)) 65536 ∧ Int.tmod (wrap64 ((Int.tmod a 65536) + 65536)) 65536 < 65536 := by
  have h1 : Int.tmod a 65536 < 65536 := Int.tmod_lt_of_pos a (by omega)
  have h2 : -65536 < Int.tmod a 65536 := by
    have := Int.tmod_lt_of_pos (-a) (b := 65536) (by omega)
    rw [Int.neg_tmod] at this
    omega
  rw [w64 (by omega)]
  exact ⟨Int.tmod_nonneg _ (by omega), Int.tmod_lt_of_pos _ (by omega)⟩
theorem findS_of {l : List S24} (hm : Flag.Map5 (l.map toE)) {v : Int} (h0 : 0 ≤ v) (h1 : v < 65536) : findS l v = ((Flag.lookE (l.map toE) v).getD (-1), 0) := by
  unfold findS
  rw [if_pos (Flag.checkE_ok.2 hm), if_neg (by omega), if_neg (by omega)]
theorem cuts_f (l : List S24) (a n virt : Int) {k : Nat} (hk : l.length + 10000 < k) : flagstonelaw05_ExtentCuts.f k l a n virt = some true := by
  unfold flagstonelaw05_ExtentCuts.f
  obtain ⟨p0, p1⟩ := place_in virt
  generalize Int.tmod (wrap64 ((Int.tmod virt 65536) + 65536)) 65536 = v at p0 p1 ⊢
  rw [alive_x (by omega), Option.bind_some, if_pos rfl, cut_x (by omega), Option.bind_some]
  unfold flagstonelaw05_num.f extent_Find.f
  rw [Option.bind_some]
  by_cases h : (cutS l a n).2 = 0
  · rw [if_pos h]
    have ho := cutS_ok h
    have hlen := ho.len
    obtain ⟨h1, h2⟩ := replG_cut ho.map ho.v0 ho.n0 ho.e
    rw [ho.is]
    dsimp only
    rw [Option.bind_some, Option.bind_some, findS_of ho.map2 p0 p1, findS_of ho.map p0 p1]
    dsimp only
    rw [h2]
    obtain ⟨k, rfl⟩ : ∃ k', k = k' + 2 := ⟨k - 2, by omega⟩
    have hj1 : ∀ (kk : Nat) (g : Int), 2000 < kk → flagstonelaw05_ExtentCuts.j1 (kk + 1) (replG l a n []) g 0 g 0 = some true := by
      intro kk g hkk
      rw [flagstonelaw05_ExtentCuts.j1]
      unfold flagstonelaw05_num.f
      rw [Option.bind_some, Option.bind_some, if_pos (show wrap64 (0 + 0) = 0 from w64 (by omega)), if_pos rfl, check_x _ (by omega), Option.bind_some, Option.bind_some, Flag.checkE_ok.2 ho.map2]
      rfl
    have v0 := ho.v0
    have n0 := ho.n0
    have e0 := ho.e
    by_cases c1 : v ≥ a
    · rw [if_pos c1, w64 (n := v - a) (by omega)]
      by_cases c2 : v - a < n
      · rw [decide_eq_true c2, flagstonelaw05_ExtentCuts.j0, if_pos rfl, if_pos (show a ≤ v ∧ v < a + n by omega)]
        exact hj1 k _ (by omega)
      · rw [decide_eq_false c2, flagstonelaw05_ExtentCuts.j0, if_neg (by simp), if_neg (show ¬ (a ≤ v ∧ v < a + n) by omega)]
        exact hj1 k _ (by omega)
    · rw [if_neg c1, flagstonelaw05_ExtentCuts.j0, if_neg (by simp), if_neg (show ¬ (a ≤ v ∧ v < a + n) by omega)]
      exact hj1 k _ (by omega)
  · rw [if_neg h, cutS_bad h]
    rfl
theorem cuts_pure (l : List S24) (a n virt : Int) (h : l.length * 24 ≤ 140737488351232) : ∃ k, flagstonelaw05_ExtentCuts.f k l a n virt = some true :=
  ⟨l.length + 10001, cuts_f l a n virt (by omega)⟩

end Go.Proofs.Ytkkfkdncddbaeaa.Fn
