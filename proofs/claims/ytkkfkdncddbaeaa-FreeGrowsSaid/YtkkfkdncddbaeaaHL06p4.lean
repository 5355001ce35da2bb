-- Told by hand; its numbers filled in by a program of this session.
import Derived.Test.YtkkfkdncddbaeaaFnBase
import Derived.Test.YtkkfkdncddbaeaaHL06c
import Derived.Test.YtkkfkdncddbaeaaHL06t
import Derived.Test.YtkkfkdncddbaeaaHL06g
import Derived.Test.YtkkfkdncddbaeaaFn14
namespace Go.Proofs.Ytkkfkdncddbaeaa.Fn
open Go.RowKit Go.Proofs.YtkkfkdncddbaeaaW.PrintWords Go.Proofs.YtkkfkdncddbaeaaW.PrintLast Go.Proofs.YtkkfkdncddbaeaaW.PrintMore
attribute [local go_sem] max2_int min2_int max_two min_two max_three min_three max_four min_four   -- for this text's walks alone
set_option linter.unusedVariables false
set_option linter.unusedSimpArgs false

/-! FreeGrows. -/
theorem gj_true (d : Nat) (more s : Int) (l : List S40) (h : l.length * 16 ≤ 140737488351232) : flagstonelaw06_FreeGrows.j0 (1030 + d + 1) more true s l = some true := by
  rw [flagstonelaw06_FreeGrows.j0, if_pos rfl, of6 s l h, Option.bind_some]
  simp only []
  rw [check6_K, Option.bind_some, num6, Option.bind_some, refchk_K, Option.bind_some]
  simp
theorem grows_row (s : Int) (l : List S40) (a : Int) (h : l.length * 16 ≤ 140737488351232) (_ : (Lit.int .i64 a).wf = true) : ∃ k, flagstonelaw06_FreeGrows.f k s l a = some true := by
  refine ⟨1030 + 2 + 1, ?_⟩
  have ha : flagstonelaw06_alive.f (1030 + 2 + 1) = some true := alive6_k 973
  unfold flagstonelaw06_FreeGrows.f
  have hc := refchk_K 3 s l
  have hc' : flagstoneref06_Check.f (1030 + 2 + 1) s l = some (Flag.checkF s (l.map toP)) := hc
  rw [ha, Option.bind_some, if_pos rfl, hc', Option.bind_some]
  obtain ⟨more, m0, m1, em⟩ : ∃ m : Int, 0 ≤ m ∧ m < 100 ∧ Int.tmod (wrap64 ((Int.tmod a 100) + 100)) 100 = m := by
    have b1 := Int.lt_tmod_of_pos a (show (0 : Int) < 100 by omega)
    have b2 := Int.tmod_lt_of_pos a (show (0 : Int) < 100 by omega)
    rw [w64 (by omega)]
    exact ⟨_, Int.tmod_nonneg _ (by omega), Int.tmod_lt_of_pos _ (by omega), rfl⟩
  rw [em]
  by_cases hck : Flag.checkF s (l.map toP) = 0
  · rw [if_pos hck]
    by_cases c1 : s > 60000
    · rw [if_pos c1]; exact gj_true 2 more s l h
    · rw [if_neg c1]
      by_cases c2 : (l.length : Int) > 1000
      · rw [decide_eq_true c2]; exact gj_true 2 more s l h
      · rw [decide_eq_false c2]
        have h6 := Flag.checkF_ok.1 hck
        have hs0 := h6.s0
        obtain ⟨b, t1, t2, t3, t4⟩ := Flag.grows6 h6 (show s ≤ 60000 by omega) (by rw [List.length_map]; omega) m0 m1
        obtain ⟨a1, a2, a3, ea, fa⟩ := resize_K s l (s + more)
        have fa2 := fa.trans t1
        simp only [Prod.mk.injEq] at fa2
        obtain ⟨ha1, fa2, rfl⟩ := fa2
        obtain ⟨b1, b2, b3, eb, fb⟩ := resize_K a1 a2 s
        rw [fa2, ha1] at fb
        have fb2 := fb.trans t2
        simp only [Prod.mk.injEq] at fb2
        obtain ⟨hb1, fb2, rfl⟩ := fb2
        obtain rfl := toP_inj fb2
        rw [← fa2, ← ha1] at t3
        obtain ⟨q1, er1⟩ := room_K 2 h6
        obtain ⟨q2, er2⟩ := room_K 2 t3
        have hsum := sum_le h6
        rw [← fa2] at t4
        have z0 : wrap64 ((0 : Int) + 0) = 0 := w64 (by omega)
        have e0 : wrap64 (wrap64 (wrap64 ((0 : Int) + 0) + 0) + 0) = 0 := by rw [z0, z0, z0]
        have e1 : wrap64 (s + more) = s + more := w64 (by omega)
        have e2 : wrap64 (Flag.sumS (a2.map toP) - Flag.sumS (b2.map toP)) = more := by rw [t4, w64 (by omega)]; omega
        have hl2 : b2.length ≤ 1024 := by have := h6.len; simpa using this
        rw [flagstonelaw06_FreeGrows.j0, if_neg Bool.false_ne_true, of6 s b2 h, Option.bind_some]
        simp only [e1, ea, eb, er1, er2, Option.bind_some, num6, e0, if_true, of6 s b2 h]
        rw [hb1]
        simp only [alike_K 2 s b2 hl2, Option.bind_some, if_true, e2]
        simp
  · rw [if_neg hck]; exact gj_true 2 more s l h

end Go.Proofs.Ytkkfkdncddbaeaa.Fn
