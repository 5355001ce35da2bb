-- Told by hand; its numbers filled in by a program of this session.
import Derived.Test.YtkkfkdncddbaeaaFnBase
import Derived.Test.YtkkfkdncddbaeaaHL05k
import Derived.Test.YtkkfkdncddbaeaaHL05p3
import Derived.Test.YtkkfkdncddbaeaaFn9
namespace Go.Proofs.Ytkkfkdncddbaeaa.Fn
open Go.RowKit Go.Proofs.YtkkfkdncddbaeaaW.PrintWords Go.Proofs.YtkkfkdncddbaeaaW.PrintLast Go.Proofs.YtkkfkdncddbaeaaW.PrintMore
attribute [local go_sem] max2_int min2_int max_two min_two max_three min_three max_four min_four   -- for this text's walks alone
set_option linter.unusedVariables false
set_option linter.unusedSimpArgs false

/-! The pure statement of ExtentLooks. -/
/-- Pieces that tell of each sector from one on, below another one, and of no other. -/
structure Cov (g : Int → Int) (t : List S24) (at_ e : Int) : Prop where
  nf : Flag.NF (t.map toE)
  le : at_ ≤ e
  look : ∀ i, Flag.lookE (t.map toE) i = if at_ ≤ i ∧ i < e then some (g i) else none
theorem Cov.nil {g : Int → Int} {at_ e : Int} (h : Cov g [] at_ e) : at_ = e := by
  by_cases c : at_ < e
  · have := h.look at_
    rw [if_pos ⟨Int.le_refl _, c⟩] at this
    simp [Flag.lookE] at this
  · have := h.le; omega
theorem Cov.cons {g : Int → Int} {x : S24} {t : List S24} {at_ e : Int} (h : Cov g (x :: t) at_ e) : x.f0 = at_ ∧ 0 < x.f2 ∧ at_ + x.f2 ≤ e ∧ g at_ = x.f1 ∧ g (at_ + x.f2 - 1) = (if x.f1 < 0 then x.f1 else x.f1 + x.f2 - 1) ∧ Cov g t (at_ + x.f2) e := by
  obtain ⟨h1, h2, h3⟩ := h
  have hn : 0 < x.f2 := h1.head
  have a1 := h3 x.f0
  rw [List.map_cons, Flag.lookE_head (x := toE x) (show x.f0 ≤ x.f0 by omega) (show x.f0 < x.f0 + x.f2 by omega)] at a1
  have b1 : at_ ≤ x.f0 ∧ x.f0 < e := by
    by_cases c : at_ ≤ x.f0 ∧ x.f0 < e
    · exact c
    · rw [if_neg c] at a1; cases a1
  have hv : x.f0 = at_ := by
    by_cases c : at_ < x.f0
    · have a2 := h3 at_
      rw [if_pos ⟨Int.le_refl _, by omega⟩, List.map_cons, Flag.lookE_before (x := toE x) h1 c] at a2
      cases a2
    · omega
  subst hv
  rw [if_pos b1, show x.f0 = (toE x).v from rfl, Flag.valAt_start] at a1
  have a3 := h3 (x.f0 + x.f2 - 1)
  rw [List.map_cons, Flag.lookE_head (x := toE x) (show x.f0 ≤ _ by omega) (show x.f0 + x.f2 - 1 < x.f0 + x.f2 by omega)] at a3
  have b3 : x.f0 ≤ x.f0 + x.f2 - 1 ∧ x.f0 + x.f2 - 1 < e := by
    by_cases c : x.f0 ≤ x.f0 + x.f2 - 1 ∧ x.f0 + x.f2 - 1 < e
    · exact c
    · rw [if_neg c] at a3; cases a3
  rw [if_pos b3] at a3
  refine ⟨rfl, hn, by omega, (Option.some.inj a1).symm, ?_, h1.tail, by omega, fun i => ?_⟩
  · rw [← Option.some.inj a3]
    unfold Flag.valAt toE
    dsimp only
    split
    · rfl
    · omega
  · by_cases c : i < x.f0 + x.f2
    · rw [if_neg (by omega)]
      exact Flag.lookE_none (fun y hy => by have := h1.after y hy; have : (toE x).v + (toE x).n = x.f0 + x.f2 := rfl; omega)
    · have a4 := h3 i
      rw [List.map_cons, Flag.lookE_tail (x := toE x) (show ¬ (x.f0 ≤ i ∧ i < x.f0 + x.f2) by omega)] at a4
      rw [a4]
      by_cases d : i < e
      · rw [if_pos ⟨by omega, d⟩, if_pos ⟨by omega, d⟩]
      · rw [if_neg (by omega), if_neg (by omega)]
theorem looks_loop {l A : List S24} {v n : Int} (hm : Flag.Map5 (l.map toE)) (h0 : 0 ≤ v) (hn : 0 ≤ n) (he : v + n ≤ 65536) (hA : A.length ≤ 4096) (t : List S24) : ∀ (pre : List S24) (at_ : Int) (k : Nat), A = pre ++ t → 2 * t.length < k → v ≤ at_ → Cov (fun i => (Flag.lookE (l.map toE) i).getD (-1)) t at_ (v + n) →
    flagstonelaw05_ExtentLooks.l0 k l v n A at_ (pre.length : Int) = some true := by
  induction t with
  | nil =>
    intro pre a k h hk hv hc
    obtain ⟨k, rfl⟩ : ∃ k', k = k' + 1 := ⟨k - 1, by simp at hk; omega⟩
    rw [flagstonelaw05_ExtentLooks.l0, if_neg (by rw [h]; simp), w64 (by omega), hc.nil]
    simp
  | cons x t ih =>
    intro pre a k h hk hv hc
    obtain ⟨k, rfl⟩ : ∃ k', k = k' + 2 := ⟨k - 2, by simp at hk; omega⟩
    have hlen : A.length = pre.length + t.length + 1 := by rw [h]; simp; omega
    have hr : rd_T24 A (pre.length : Int) = x := by rw [h]; exact rd_at pre x t rfl
    have e1 : wrap64 ((pre.length : Int) + 1) = ((pre ++ [x]).length : Int) := by rw [w64 (by omega)]; simp
    obtain ⟨c1, c2, c3, c4, c5, c6⟩ := hc.cons
    have hnext := ih (pre ++ [x]) (a + x.f2) k (by rw [h]; simp) (by simp at hk; omega) (by omega) c6
    have f1 := findS_of hm (v := a) (by omega) (by omega)
    have f2 := findS_of hm (v := a + x.f2 - 1) (by omega) (by omega)
    rw [flagstonelaw05_ExtentLooks.l0, if_pos (by omega), if_pos (by omega), hr, if_pos c1, decide_eq_false (by omega), flagstonelaw05_ExtentLooks.j1, if_neg (by simp)]
    unfold extent_Find.f flagstonelaw05_num.f
    rw [f1, Option.bind_some, if_pos (by omega), if_pos (by omega), hr, e1, w64 (n := a + x.f2) (by omega), w64 (n := a + x.f2 - 1) (by omega), f2, Option.bind_some, Option.bind_some, Option.bind_some, c4, c5, hnext]
    rw [if_pos (show wrap64 (0 + 0) = 0 from w64 (by omega)), if_pos rfl]
    have hb : x.f1 < 65536 ∧ -1 ≤ x.f1 := by
      rw [← c4]
      cases hq : Flag.lookE (l.map toE) a with
      | none => simp
      | some r => have := Flag.okMap_look hm.ok hq; rw [Option.getD_some]; omega
    by_cases d : x.f1 ≥ 0
    · rw [if_pos d, if_neg (show ¬ x.f1 < 0 by omega), w64 (n := x.f1 + x.f2) (by omega), w64 (n := x.f1 + x.f2 - 1) (by omega), if_pos rfl]
      exact if_neg (show ¬ x.f1 < 0 by omega)
    · rw [if_neg d, if_pos (show x.f1 < 0 by omega), if_pos (show x.f1 < 0 by omega), if_neg d]
theorem looks_f (l : List S24) (v n : Int) {k : Nat} (hk : l.length + 20000 < k) : flagstonelaw05_ExtentLooks.f k l v n = some true := by
  unfold flagstonelaw05_ExtentLooks.f extent_Look.f
  rw [alive_x (by omega), Option.bind_some, if_pos rfl, Option.bind_some]
  unfold flagstonelaw05_num.f
  rw [Option.bind_some]
  rcases lookS_cases l v n with ho | ⟨h, hb⟩
  · rw [ho.is]
    dsimp only
    rw [if_pos rfl]
    obtain ⟨h1, h2, _⟩ := look_spec ho.map ho.v0 ho.n0 ho.e
    have hl : l.length ≤ 1024 := by simpa using ho.map.len
    have hA := lookL_length l v n
    exact looks_loop ho.map ho.v0 ho.n0 ho.e (by omega) (lookL l v n) [] v k rfl (by omega) (Int.le_refl _) ⟨h1, by have := ho.n0; omega, h2⟩
  · rw [if_neg h, hb]
    rfl
theorem looks_pure (l : List S24) (v n : Int) (h : l.length * 24 ≤ 140737488351232) : ∃ k, flagstonelaw05_ExtentLooks.f k l v n = some true :=
  ⟨l.length + 20001, looks_f l v n (by omega)⟩

end Go.Proofs.Ytkkfkdncddbaeaa.Fn
