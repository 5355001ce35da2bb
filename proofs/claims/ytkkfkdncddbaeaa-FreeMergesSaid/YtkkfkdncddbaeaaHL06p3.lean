-- Told by hand; its numbers filled in by a program of this session.
import Derived.Test.YtkkfkdncddbaeaaFnBase
import Derived.Test.YtkkfkdncddbaeaaHL06c
import Derived.Test.YtkkfkdncddbaeaaHL06t
import Derived.Test.YtkkfkdncddbaeaaFn13
namespace Go.Proofs.Ytkkfkdncddbaeaa.Fn
open Go.RowKit Go.Proofs.YtkkfkdncddbaeaaW.PrintWords Go.Proofs.YtkkfkdncddbaeaaW.PrintLast Go.Proofs.YtkkfkdncddbaeaaW.PrintMore
attribute [local go_sem] max2_int min2_int max_two min_two max_three min_three max_four min_four   -- for this text's walks alone
set_option linter.unusedVariables false
set_option linter.unusedSimpArgs false

/-! FreeMerges. -/
theorem split_at (a L : Int) (h1 : 2 ≤ L) (h2 : L ≤ 65536) : ∃ k : Int, 0 < k ∧ k < L ∧ wrap64 (1 + (Int.tmod (wrap64 ((wrap64 ((Int.tmod a (wrap64 (L - 1))) + L)) - 1)) (wrap64 (L - 1)))) = k := by
  have e1 : wrap64 (L - 1) = L - 1 := w64 (by omega)
  have b1 := Int.lt_tmod_of_pos a (show (0 : Int) < L - 1 by omega)
  have b2 := Int.tmod_lt_of_pos a (show (0 : Int) < L - 1 by omega)
  obtain ⟨t, ht⟩ : ∃ t, t = Int.tmod a (L - 1) := ⟨_, rfl⟩
  rw [← ht] at b1 b2
  have e2 : wrap64 (t + L) = t + L := w64 (by omega)
  have e3 : wrap64 (t + L - 1) = t + L - 1 := w64 (by omega)
  rw [e1, ← ht, e2, e3]
  have b3 := Int.tmod_nonneg (L - 1) (show (0 : Int) ≤ t + L - 1 by omega)
  have b4 := Int.tmod_lt_of_pos (t + L - 1) (show (0 : Int) < L - 1 by omega)
  obtain ⟨u, hu⟩ : ∃ u, u = Int.tmod (t + L - 1) (L - 1) := ⟨_, rfl⟩
  rw [← hu] at b3 b4 ⊢
  have e4 : wrap64 (1 + u) = 1 + u := w64 (by omega)
  exact ⟨1 + u, by omega, by omega, e4⟩
theorem mj_true (k : Nat) (at_ e s : Int) (l : List S40) (x0 x1 s2 : Int) (l2 : List S40) (h : e = 0 ∨ l2 = []) : flagstonelaw06_FreeMerges.j0 (k + 1) at_ e true s l x0 x1 s2 l2 = some true := by
  rw [flagstonelaw06_FreeMerges.j0, if_pos rfl, num6, Option.bind_some]
  by_cases c : e = 0
  · rw [if_pos c]
  · rw [if_neg c]
    rcases h with h | h
    · exact absurd h c
    · rw [h]; rfl
theorem merges_row (s : Int) (l : List S40) (x : S40) (at_ : Int) (h : l.length * 16 ≤ 140737488351232) (_ : (Lit.int .i64 at_).wf = true) : ∃ k, flagstonelaw06_FreeMerges.f k s l x.f0 x.f1 at_ = some true := by
  refine ⟨1030 + 1, ?_⟩
  have ha : flagstonelaw06_alive.f (1030 + 1) = some true := alive6_k 971
  obtain ⟨a1, a2, a3, ea, fa⟩ := free_K 1 s l x.f0 x.f1
  unfold flagstonelaw06_FreeMerges.f
  rw [ha, Option.bind_some, if_pos rfl, of6 s l h, Option.bind_some]
  simp only []
  rw [ea, Option.bind_some, num6, Option.bind_some]
  simp only []
  rcases Flag.freeF_cases s (l.map toP) ⟨x.f0, x.f1⟩ with ⟨c1, c2, c3⟩ | ⟨h6, hi, hn, c0⟩
  · rw [← fa] at c1 c3
    have c1' : a2 = [] := List.map_eq_nil_iff.1 c1
    have c3' : ¬ a3 = 0 := c3
    rw [if_neg c3']
    exact mj_true 1030 at_ a3 s l x.f0 x.f1 a1 a2 (.inr c1')
  · rw [← fa] at c0
    have c0' : a3 = 0 := c0
    rw [if_pos c0']
    by_cases c2 : x.f1 < 2
    · rw [if_pos c2]
      exact mj_true 1030 at_ a3 s l x.f0 x.f1 a1 a2 (.inl c0')
    · rw [if_neg c2]
      by_cases c4 : (l.length : Int) > 1000
      · rw [decide_eq_true c4]
        exact mj_true 1030 at_ a3 s l x.f0 x.f1 a1 a2 (.inl c0')
      · rw [decide_eq_false c4]
        have i1 : 0 < x.f1 := hi.n
        have i2 : 0 ≤ x.f0 := hi.a
        have i3 : x.f0 + x.f1 ≤ s := hi.e
        have hs1 := h6.s1
        obtain ⟨k, k0, k1, ek⟩ := split_at at_ x.f1 (by omega) (by omega)
        obtain ⟨m, b, t1, t2, t3⟩ := Flag.merges6 (k := k) h6 hi hn (by rw [List.length_map]; omega) k0 (by exact k1)
        have fa2 := fa.trans t1
        simp only [Prod.mk.injEq] at fa2
        obtain ⟨rfl, fa2, rfl⟩ := fa2
        have t2' : Flag.freeF a1 (l.map toP) ⟨x.f0 + k, x.f1 - k⟩ = (a1, b, 0) := t2
        have t3' : Flag.freeF a1 b ⟨x.f0, k⟩ = (a1, m, 0) := t3
        obtain ⟨b1, b2, b3, eb, fb⟩ := free_K 0 a1 l (x.f0 + k) (x.f1 - k)
        have fb2 := fb.trans t2'
        simp only [Prod.mk.injEq] at fb2
        obtain ⟨rfl, fb2, rfl⟩ := fb2
        obtain ⟨d1, d2, d3, ed, fd⟩ := free_K 0 b1 b2 x.f0 k
        rw [fb2] at fd
        have fd2 := fd.trans t3'
        simp only [Prod.mk.injEq] at fd2
        obtain ⟨rfl, fd2, rfl⟩ := fd2
        obtain rfl := toP_inj (fa2.trans fd2.symm)
        have e1 : wrap64 (x.f1 - 1) = x.f1 - 1 := w64 (by omega)
        have e2 : wrap64 (x.f0 + k) = x.f0 + k := w64 (by omega)
        have e3 : wrap64 (x.f1 - k) = x.f1 - k := w64 (by omega)
        have e0 : wrap64 ((0 : Int) + 0) = 0 := w64 (by omega)
        have hla : a2.length ≤ 1024 := by
          obtain ⟨m', q1, q2, q3, q4, q5⟩ := Flag.freeF_in h6 hi hn
          rw [List.length_map] at q4
          have q6 := (q5 (by omega)).2.symm.trans t1
          simp only [Prod.mk.injEq] at q6
          have := congrArg List.length q6.2.1
          rw [← fa2, List.length_map] at this
          omega
        rw [flagstonelaw06_FreeMerges.j0, if_neg Bool.false_ne_true, ek, e1, if_neg (by omega), of6 d1 l h, Option.bind_some]
        simp only []
        rw [e2, e3]
        have eb' : free_Free.f 1030 d1 l (x.f0 + k) (x.f1 - k) = some (d1, b2, 0) := eb
        have ed' : free_Free.f 1030 d1 b2 x.f0 k = some (d1, a2, 0) := ed
        rw [eb', Option.bind_some]
        simp only []
        rw [ed', Option.bind_some]
        simp only [num6, Option.bind_some, e0, if_true]
        have hss := sameS_K 0 a2 hla
        have hss' : flagstoneplain_SameSpans.f 1030 a2 a2 = some true := hss
        rw [hss']
        rfl

end Go.Proofs.Ytkkfkdncddbaeaa.Fn
