-- Told by hand; its numbers filled in by a program of this session.
import Derived.Test.YtkkfkdncddbaeaaFnBase
import Derived.Test.YtkkfkdncddbaeaaHL06c
import Derived.Test.YtkkfkdncddbaeaaHL06t
import Derived.Test.YtkkfkdncddbaeaaHWoG
import Derived.Test.YtkkfkdncddbaeaaFn77
import Derived.Test.YtkkfkdncddbaeaaFn23
namespace Go.Proofs.Ytkkfkdncddbaeaa.Fn
open Go.RowKit Go.Proofs.YtkkfkdncddbaeaaW.PrintWords Go.Proofs.YtkkfkdncddbaeaaW.PrintLast Go.Proofs.YtkkfkdncddbaeaaW.PrintMore
attribute [local go_sem] max2_int min2_int max_two min_two max_three min_three max_four min_four   -- for this text's walks alone
set_option linter.unusedVariables false
set_option linter.unusedSimpArgs false

/-! FreeAll. -/
theorem all_l {s t : Int} {l r : List S40} (hl : l.length ≤ 1024) (hs : s ≤ 65536) (t0 : 0 ≤ t) (t1 : t < s) (hin : ∀ x ∈ l, Flag.Ins s (toP x)) (h6 : Flag.Free6 s (r.map toP)) (hm : ∀ i, Flag.memS (r.map toP) i ↔ (0 ≤ i ∧ i < s) ∧ ¬ Flag.memS (l.map toP) i) :
    ∀ (m i : Nat) (fl : Bool), i + m = l.length → (fl = true ↔ Flag.memS ((l.take i).map toP) t) → ∀ d, flagstonelaw06_FreeAll.l0 (m + 1 + (1030 + d)) l t fl (i : Int) s r = some true := by
  intro m
  induction m with
  | zero =>
    intro i fl hi hf d
    have e : 0 + 1 + (1030 + d) = (1030 + d) + 1 := by omega
    rw [e, flagstonelaw06_FreeAll.l0, if_neg (by omega)]
    obtain ⟨r1, r2, r3, e1, e2⟩ := take_K d s r t 1
    rw [e1, Option.bind_some, check6_K, Option.bind_some, num6, Option.bind_some, if_pos (Flag.checkF_ok.2 h6)]
    simp only [num6, Option.bind_some]
    have e3 : r3 = (Flag.takeF s (r.map toP) ⟨t, 1⟩).2.2 := by rw [← e2]
    rw [List.take_of_length_le (by omega)] at hf
    cases fl with
    | true =>
      rw [if_pos rfl]
      have h72 := Flag.takeF_none h6 t0 t1 (fun h => ((hm t).1 h).2 (hf.1 rfl))
      rw [e3, h72, if_pos rfl]
    | false =>
      rw [if_neg Bool.false_ne_true]
      have hno : ¬ Flag.memS (l.map toP) t := fun h => Bool.false_ne_true (hf.2 h)
      rcases Flag.takeF_one h6 ((hm t).2 ⟨⟨t0, t1⟩, hno⟩) with h | h
      · rw [e3, h, if_pos rfl]
      · rw [e3, h, if_neg (by decide)]; rfl
  | succ m ih =>
    intro i fl hi hf d
    have hil : i < l.length := by omega
    have hx : rd_T40 l (i : Int) = l[i] := by rw [rd40_get l (i : Int) (by omega) (by omega)]; simp
    have hw2 : wrap64 ((i : Int) + 1) = ((i + 1 : Nat) : Int) := by rw [w64 (by omega)]; omega
    have hI := hin l[i] (List.getElem_mem _)
    have q1 : 0 < l[i].f1 := hI.n
    have q2 : 0 ≤ l[i].f0 := hI.a
    have q3 : l[i].f0 + l[i].f1 ≤ s := hI.e
    have e : m + 1 + 1 + (1030 + d) = (m + 1 + (1030 + d)) + 1 := by omega
    have hstep : Flag.memS ((l.take (i + 1)).map toP) t ↔ Flag.memS ((l.take i).map toP) t ∨ (l[i].f0 ≤ t ∧ t < l[i].f0 + l[i].f1) := by
      rw [List.take_succ_eq_append_getElem hil, List.map_append, Flag.memS_append]
      constructor
      · rintro (h | h)
        · exact .inl h
        · rcases h with h | h
          · exact .inr h
          · exact (show False from h).elim
      · rintro (h | h)
        · exact .inl h
        · exact .inr (.inl h)
    rw [e, flagstonelaw06_FreeAll.l0, if_pos (by omega), hw2, hx]
    cases fl with
    | true =>
      rw [if_pos rfl]
      exact ih (i + 1) true (by omega) ⟨fun _ => hstep.2 (.inl (hf.1 rfl)), fun _ => rfl⟩ d
    | false =>
      have hno : ¬ Flag.memS ((l.take i).map toP) t := fun h => Bool.false_ne_true (hf.2 h)
      rw [if_neg Bool.false_ne_true, if_pos (by omega)]
      by_cases c : t ≥ l[i].f0
      · rw [if_pos c, w64 (n := t - l[i].f0) (by omega)]
        refine ih (i + 1) _ (by omega) ?_ d
        rw [decide_eq_true_eq, hstep]
        constructor
        · intro h; exact .inr ⟨c, by omega⟩
        · rintro (h | h)
          · exact absurd h hno
          · omega
      · rw [if_neg c]
        refine ih (i + 1) _ (by omega) ?_ d
        constructor
        · intro h; cases h
        · intro h
          rcases hstep.1 h with h | h
          · exact absurd h hno
          · omega
theorem all_row (size : Int) (l : List S40) (at_ : Int) (_ : l.length * 16 ≤ 140737488351232) (_ : (Lit.int .i64 size).wf = true) (_ : (Lit.int .i64 at_).wf = true) : ∃ k, flagstonelaw06_FreeAll.f k size l at_ = some true := by
  refine ⟨l.length + 1 + (1030 + 60), ?_⟩
  have ha : flagstonelaw06_alive.f (l.length + 1 + (1030 + 60)) = some true := by
    have e : l.length + 1 + (1030 + 60) = 60 + (l.length + 1 + 1030) := by omega
    rw [e]; exact alive6_k _
  unfold flagstonelaw06_FreeAll.f free_Without.f
  rw [ha, Option.bind_some, if_pos rfl, Option.bind_some, num6, Option.bind_some]
  have hF := without_F size l
  obtain ⟨g, hg⟩ : ∃ g, g = withoutG size l := ⟨_, rfl⟩
  rw [← hg] at hF ⊢
  obtain ⟨r1, r2, r3⟩ := g
  simp only [] at hF ⊢
  rcases Flag.wRef_cases size (l.map toP) with ⟨c1, c2, c3⟩ | ⟨m, hm, h6, hin, hmem⟩
  · rw [← hF] at c1 c2 c3
    have c1' : r2 = [] := List.map_eq_nil_iff.1 c1
    have c2' : r1 = 0 := c2
    have c3' : ¬ r3 = 0 := c3
    rw [if_neg c3', c1', c2']
    rfl
  · have hF2 := hF.trans hm
    simp only [Prod.mk.injEq] at hF2
    obtain ⟨rfl, hm2, rfl⟩ := hF2
    rw [← hm2] at h6 hmem
    rw [if_pos rfl]
    by_cases hz : r1 = 0
    · rw [if_pos hz]
      have : r2 = [] := by
        cases r2 with
        | nil => rfl
        | cons y t =>
          exfalso
          have hy := h6.ins (toP y) (by simp)
          have h1 := hy.n; have h2 := hy.a; have h3 := hy.e
          omega
      rw [this]; rfl
    · rw [if_neg hz]
      have hs0 := h6.s0
      have hs1 := h6.s1
      have b1 := Int.lt_tmod_of_pos at_ (show (0 : Int) < r1 by omega)
      have b2 := Int.tmod_lt_of_pos at_ (show (0 : Int) < r1 by omega)
      rw [w64 (n := Int.tmod at_ r1 + r1) (by omega)]
      have hl : l.length ≤ 1024 := by
        by_cases hc : (l.length : Int) > 1024
        · exfalso
          unfold Flag.wRef at hm
          rw [if_neg (by omega), List.length_map, if_pos hc] at hm
          simp at hm
        · omega
      exact all_l hl hs1 (Int.tmod_nonneg _ (by omega)) (Int.tmod_lt_of_pos _ (by omega)) (fun x hx => hin _ (List.mem_map_of_mem hx)) h6 hmem l.length 0 false (by omega) ⟨fun h => absurd h Bool.false_ne_true, fun h => by rw [List.take_zero] at h; exact (show False from h).elim⟩ 60

end Go.Proofs.Ytkkfkdncddbaeaa.Fn
