-- Told by hand; its numbers filled in by a program of this session.
import Derived.Test.YtkkfkdncddbaeaaFnBase
import Derived.Test.YtkkfkdncddbaeaaHL05p3
import Derived.Test.YtkkfkdncddbaeaaFn8
namespace Go.Proofs.Ytkkfkdncddbaeaa.Fn
open Go.RowKit Go.Proofs.YtkkfkdncddbaeaaW.PrintWords Go.Proofs.YtkkfkdncddbaeaaW.PrintLast Go.Proofs.YtkkfkdncddbaeaaW.PrintMore
attribute [local go_sem] max2_int min2_int max_two min_two max_three min_three max_four min_four   -- for this text's walks alone
set_option linter.unusedVariables false
set_option linter.unusedSimpArgs false

/-! The pure statement of ExtentFollows. -/
theorem follows_f (l : List S24) (x : S40) (t virt : Int) {k : Nat} (hk : l.length + 10000 < k) : flagstonelaw05_ExtentFollows.f k l x.f0 x.f1 t virt = some true := by
  unfold flagstonelaw05_ExtentFollows.f extent_Move.f
  obtain ⟨p0, p1⟩ := place_in virt
  generalize Int.tmod (wrap64 ((Int.tmod virt 65536) + 65536)) 65536 = v at p0 p1 ⊢
  rw [alive_x (by omega), Option.bind_some, if_pos rfl, Option.bind_some]
  unfold flagstonelaw05_num.f extent_Find.f
  rw [Option.bind_some]
  rcases moveS_cases l x.f0 x.f1 t with ho | ⟨h, hb⟩
  · have hlen := ho.len
    obtain ⟨h1, h2, _⟩ := move_spec ho.map ho.arg
    obtain ⟨g1, g2, g3, g4, g5⟩ := ho.arg
    rw [ho.is]
    dsimp only
    rw [if_pos rfl, Option.bind_some, Option.bind_some, findS_of ho.map2 p0 p1, findS_of ho.map p0 p1]
    dsimp only
    rw [h2]
    obtain ⟨k, rfl⟩ : ∃ k', k = k' + 2 := ⟨k - 2, by omega⟩
    have hj1 : ∀ (kk : Nat) (g g' : Int), 2000 < kk → g = g' → flagstonelaw05_ExtentFollows.j1 (kk + 1) (l.foldl (moveG x.f0 x.f1 t) []) g 0 g' 0 = some true := by
      intro kk g g' hkk hg
      rw [flagstonelaw05_ExtentFollows.j1]
      unfold flagstonelaw05_num.f
      rw [Option.bind_some, Option.bind_some, if_pos (show wrap64 (0 + 0) = 0 from w64 (by omega)), if_pos hg, check_x _ (by omega), Option.bind_some, Option.bind_some, Flag.checkE_ok.2 ho.map2]
      rfl
    cases hq : Flag.lookE (l.map toE) v with
    | none =>
      rw [Option.map_none, Option.getD_none, if_neg (by omega), flagstonelaw05_ExtentFollows.j0, if_neg (by simp)]
      exact hj1 k _ _ (by omega) rfl
    | some r =>
      have hr := Flag.okMap_look ho.map.ok hq
      rw [Option.map_some, Option.getD_some, Option.getD_some]
      unfold mvd
      by_cases c1 : r ≥ x.f0
      · rw [if_pos c1, w64 (n := r - x.f0) (by omega)]
        by_cases c2 : r - x.f0 < x.f1
        · rw [decide_eq_true c2, flagstonelaw05_ExtentFollows.j0, if_pos rfl, if_pos (show x.f0 ≤ r ∧ r < x.f0 + x.f1 by omega), w64 (n := t + r) (by omega), w64 (n := t + r - x.f0) (by omega)]
          exact hj1 k _ _ (by omega) (by omega)
        · rw [decide_eq_false c2, flagstonelaw05_ExtentFollows.j0, if_neg (by simp), if_neg (show ¬ (x.f0 ≤ r ∧ r < x.f0 + x.f1) by omega)]
          exact hj1 k _ _ (by omega) rfl
      · rw [if_neg c1, flagstonelaw05_ExtentFollows.j0, if_neg (by simp), if_neg (show ¬ (x.f0 ≤ r ∧ r < x.f0 + x.f1) by omega)]
        exact hj1 k _ _ (by omega) rfl
  · rw [if_neg h, hb]
    rfl
theorem follows_pure (l : List S24) (x : S40) (t virt : Int) (h : l.length * 24 ≤ 140737488351232) : ∃ k, flagstonelaw05_ExtentFollows.f k l x.f0 x.f1 t virt = some true :=
  ⟨l.length + 10001, follows_f l x t virt (by omega)⟩

end Go.Proofs.Ytkkfkdncddbaeaa.Fn
