-- Told by hand; its numbers filled in by a program of this session.
import Derived.Test.YtemeekgdblichaaFnBase
import Derived.Test.YtemeekgdblichaaHL05e
import Derived.Test.YtemeekgdblichaaFn3
import Derived.Test.YtemeekgdblichaaFn4
namespace Go.Proofs.Ytemeekgdblichaa.Fn
open Go.RowKit Go.Proofs.YtemeekgdblichaaW.PrintWords Go.Proofs.YtemeekgdblichaaW.PrintLast Go.Proofs.YtemeekgdblichaaW.PrintMore
attribute [local go_sem] max2_int min2_int max_two min_two max_three min_three max_four min_four   -- for this text's walks alone
set_option linter.unusedVariables false
set_option linter.unusedSimpArgs false

/-! The pure statements of ExtentOwn and ExtentTwice, as their rows ask for them. -/
theorem own_f (l : List S24) (x : S24) (v n : Int) (hl : l.length < 5864062014805) {k : Nat} (hk : 4 * l.length + 10000 < k) : flagstonelaw05_ExtentOwn.f k l x.f0 x.f1 x.f2 v n = some true := by
  obtain ⟨sp, hsp⟩ := spoil_x hl (k := k) (by omega)
  have a1 := putS_len l x
  have a2 := cutS_len l v n
  unfold flagstonelaw05_ExtentOwn.f
  rw [alive_x (by omega), Option.bind_some, if_pos rfl, copy_x hl, Option.bind_some, put_x (by omega), Option.bind_some, put_r hk, Option.bind_some, cut_x (by omega), Option.bind_some, cut_r hk, Option.bind_some, hsp, Option.bind_some, same_x (by omega) (by omega), Option.bind_some, if_pos rfl]
  unfold flagstonelaw05_num.f
  rw [Option.bind_some, if_pos rfl, same_x (by omega) (by omega), Option.bind_some, if_pos rfl, Option.bind_some]
  simp
theorem twice_f (l : List S24) (x : S24) {k : Nat} (hk : l.length + 10000 < k) : flagstonelaw05_ExtentTwice.f k l x.f0 x.f1 x.f2 = some true := by
  unfold flagstonelaw05_ExtentTwice.f
  rw [alive_x (by omega), Option.bind_some, if_pos rfl, put_x (by omega), Option.bind_some]
  unfold flagstonelaw05_num.f
  rw [Option.bind_some]
  by_cases h : (putS l x).2 = 0
  · rw [if_pos h]
    have ho := putS_ok h
    rw [ho.is]
    dsimp only
    have hl := ho.len
    obtain ⟨k, rfl⟩ : ∃ k', k = k' + 1 := ⟨k - 1, by omega⟩
    have e1 : putS (replG l x.f0 x.f2 [x]) x = (replG l x.f0 x.f2 [x], 0) := by
      rw [putS_of ho.map2 ho.ok (by rw [put_twice ho]; exact hl), put_twice ho]
    rw [put_x (x := x) (by omega), Option.bind_some, cut_x (by omega), Option.bind_some, cut_x (by omega), Option.bind_some, e1]
    have a1 := cutS_len l x.f0 x.f2
    rw [cut_x (by omega), Option.bind_some, Option.bind_some]
    have hj : ∀ (c d e : List S24) (g : Int), flagstonelaw05_ExtentTwice.j0 (k + 1) (replG l x.f0 x.f2 [x]) (replG l x.f0 x.f2 [x]) 0 c d e g true = some true := by
      intro c d e g
      rw [flagstonelaw05_ExtentTwice.j0, if_pos rfl]
      unfold flagstonelaw05_num.f
      rw [Option.bind_some, if_pos rfl, same_x (by omega) (by omega)]
      rfl
    split
    · rename_i hg
      have hc := cutS_ok hg
      rw [Option.bind_some]
      by_cases hd : (cutS l x.f0 x.f2).2 = 0
      · have hdo := cutS_ok hd
        have e3 : cutS (cutS l x.f0 x.f2).1 x.f0 x.f2 = (replG l x.f0 x.f2 [], 0) := by
          rw [hdo.is]
          dsimp only
          rw [cutS_of hdo.map2 hdo.v0 hdo.n0 hdo.e (by rw [cut_twice hdo]; exact hdo.len), cut_twice hdo]
        rw [e3, hc.is, hdo.is, put_cut ho]
        rw [flagstonelaw05_ExtentTwice.j0, if_neg (by simp)]
        unfold flagstonelaw05_num.f
        have hll := hdo.len
        dsimp only
        rw [Option.bind_some, Option.bind_some, if_pos (show wrap64 (0 + 0) = 0 from w64 (by omega)), same_x (by omega) (by omega), Option.bind_some, if_pos rfl, same_x (by omega) (by omega), Option.bind_some, if_pos rfl]
        rfl
      · have : ((cutS l x.f0 x.f2).2 != 0) = true := by simpa using hd
        rw [this]
        exact hj _ _ _ _
    · exact hj _ _ _ _
  · rw [if_neg h, putS_bad h]
    rfl
theorem own_pure (l : List S24) (x : S24) (v n : Int) (h : l.length * 24 ≤ 140737488351232) : ∃ k, flagstonelaw05_ExtentOwn.f k l x.f0 x.f1 x.f2 v n = some true :=
  ⟨4 * l.length + 10001, own_f l x v n (by omega) (by omega)⟩
theorem twice_pure (l : List S24) (x : S24) (h : l.length * 24 ≤ 140737488351232) : ∃ k, flagstonelaw05_ExtentTwice.f k l x.f0 x.f1 x.f2 = some true :=
  ⟨l.length + 10001, twice_f l x (by omega)⟩

end Go.Proofs.Ytemeekgdblichaa.Fn
