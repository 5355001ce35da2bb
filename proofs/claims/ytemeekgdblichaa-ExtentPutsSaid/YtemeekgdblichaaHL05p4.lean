-- Told by hand; its numbers filled in by a program of this session.
import Derived.Test.YtemeekgdblichaaFnBase
import Derived.Test.YtemeekgdblichaaHL05p3
import Derived.Test.YtemeekgdblichaaFn7
namespace Go.Proofs.Ytemeekgdblichaa.Fn
open Go.RowKit Go.Proofs.YtemeekgdblichaaW.PrintWords Go.Proofs.YtemeekgdblichaaW.PrintLast Go.Proofs.YtemeekgdblichaaW.PrintMore
attribute [local go_sem] max2_int min2_int max_two min_two max_three min_three max_four min_four   -- for this text's walks alone
set_option linter.unusedVariables false
set_option linter.unusedSimpArgs false

/-! The pure statement of ExtentPuts. -/
theorem puts_f (l : List S24) (x : S24) (virt : Int) {k : Nat} (hk : l.length + 10000 < k) : flagstonelaw05_ExtentPuts.f k l x.f0 x.f1 x.f2 virt = some true := by
  unfold flagstonelaw05_ExtentPuts.f
  obtain ⟨p0, p1⟩ := place_in virt
  generalize Int.tmod (wrap64 ((Int.tmod virt 65536) + 65536)) 65536 = v at p0 p1 ⊢
  rw [alive_x (by omega), Option.bind_some, if_pos rfl, put_x (by omega), Option.bind_some]
  unfold flagstonelaw05_num.f extent_Find.f
  rw [Option.bind_some]
  by_cases h : (putS l x).2 = 0
  · rw [if_pos h]
    have ho := putS_ok h
    have hlen := ho.len
    obtain ⟨h1, h2⟩ := replG_one ho.map ho.ok
    obtain ⟨g1, g2, g3, g4, g5⟩ := ho.ok
    simp only [toE] at g1 g2 g3 g4 g5
    rw [ho.is]
    dsimp only
    rw [Option.bind_some, Option.bind_some, findS_of ho.map2 p0 p1, findS_of ho.map p0 p1]
    dsimp only
    rw [h2]
    obtain ⟨k, rfl⟩ : ∃ k', k = k' + 2 := ⟨k - 2, by omega⟩
    have hj1 : ∀ (kk : Nat) (g g' : Int), 2000 < kk → g = g' → flagstonelaw05_ExtentPuts.j1 (kk + 1) (replG l x.f0 x.f2 [x]) g 0 g' 0 = some true := by
      intro kk g g' hkk hg
      rw [flagstonelaw05_ExtentPuts.j1]
      unfold flagstonelaw05_num.f
      rw [Option.bind_some, Option.bind_some, if_pos (show wrap64 (0 + 0) = 0 from w64 (by omega)), if_pos hg, check_x _ (by omega), Option.bind_some, Option.bind_some, Flag.checkE_ok.2 ho.map2]
      rfl
    by_cases c1 : v ≥ x.f0
    · rw [if_pos c1, w64 (n := v - x.f0) (by omega)]
      by_cases c2 : v - x.f0 < x.f2
      · rw [decide_eq_true c2, flagstonelaw05_ExtentPuts.j0, if_pos rfl, if_pos (show x.f0 ≤ v ∧ v < x.f0 + x.f2 by omega), w64 (n := x.f1 + v) (by omega), w64 (n := x.f1 + v - x.f0) (by omega)]
        refine hj1 k _ _ (by omega) ?_
        show Flag.valAt (toE x) v = _
        unfold Flag.valAt toE
        rw [if_neg (show ¬ x.f1 < 0 by omega)]
        dsimp only; omega
      · rw [decide_eq_false c2, flagstonelaw05_ExtentPuts.j0, if_neg (by simp), if_neg (show ¬ (x.f0 ≤ v ∧ v < x.f0 + x.f2) by omega)]
        exact hj1 k _ _ (by omega) rfl
    · rw [if_neg c1, flagstonelaw05_ExtentPuts.j0, if_neg (by simp), if_neg (show ¬ (x.f0 ≤ v ∧ v < x.f0 + x.f2) by omega)]
      exact hj1 k _ _ (by omega) rfl
  · rw [if_neg h, putS_bad h]
    rfl
theorem puts_pure (l : List S24) (x : S24) (virt : Int) (h : l.length * 24 ≤ 140737488351232) : ∃ k, flagstonelaw05_ExtentPuts.f k l x.f0 x.f1 x.f2 virt = some true :=
  ⟨l.length + 10001, puts_f l x virt (by omega)⟩

end Go.Proofs.Ytemeekgdblichaa.Fn
