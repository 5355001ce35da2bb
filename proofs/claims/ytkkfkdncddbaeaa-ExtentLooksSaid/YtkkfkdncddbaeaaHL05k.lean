-- Told by hand; its numbers filled in by a program of this session.
import Derived.Test.YtkkfkdncddbaeaaFnBase
import Derived.Test.YtkkfkdncddbaeaaHL05e
import Derived.Test.YtkkfkdncddbaeaaFn37
import Derived.Test.YtkkfkdncddbaeaaFn39
namespace Go.Proofs.Ytkkfkdncddbaeaa.Fn
open Go.RowKit Go.Proofs.YtkkfkdncddbaeaaW.PrintWords Go.Proofs.YtkkfkdncddbaeaaW.PrintLast Go.Proofs.YtkkfkdncddbaeaaW.PrintMore
attribute [local go_sem] max2_int min2_int max_two min_two max_three min_three max_four min_four   -- for this text's walks alone
set_option linter.unusedVariables false
set_option linter.unusedSimpArgs false

/-! What sectors are, piece by piece: in plain lists. -/
def looksG (e : Int) : List S24 → Int → List S24
  | [], at_ => [⟨at_, -1, wrap64 (e - at_)⟩]
  | x :: t, at_ => if (partG x at_ e).f2 ≤ 0 then looksG e t at_ else ⟨at_, -1, wrap64 ((partG x at_ e).f0 - at_)⟩ :: partG x at_ e :: looksG e t (wrap64 ((partG x at_ e).f0 + (partG x at_ e).f2))
theorem looks_pieces (e : Int) (l : List S24) : ∀ s : List S24 × Int, addG (l.foldl (lookStep e) s).1 ⟨(l.foldl (lookStep e) s).2, -1, wrap64 (e - (l.foldl (lookStep e) s).2)⟩ = (looksG e l s.2).foldl addG s.1 := by
  induction l with
  | nil => intro s; rfl
  | cons x t ih =>
    intro s
    rw [List.foldl_cons, ih, looksG]
    unfold lookStep
    split
    · rfl
    · rfl
theorem lookL_pieces (l : List S24) (v n : Int) : lookL l v n = (looksG (wrap64 (v + n)) l v).foldl addG [] := looks_pieces _ l ([], v)
theorem looksG_toE {e : Int} (he : 0 ≤ e ∧ e ≤ 65536) {l : List S24} (hl : ∀ x ∈ l, Flag.okMap (toE x)) : ∀ at_ : Int, 0 ≤ at_ → at_ ≤ 65536 → (looksG e l at_).map toE = Flag.looks (l.map toE) at_ e := by
  induction l with
  | nil =>
    intro a h0 h1
    simp only [looksG, List.map_cons, List.map_nil, Flag.looks, toE]
    rw [w64 (by omega)]
  | cons x t ih =>
    intro a h0 h1
    have hx := hl x List.mem_cons_self
    have ih := ih (fun y hy => hl y (List.mem_cons_of_mem _ hy))
    have ep := partG_toE hx (a := a) (b := e) ⟨by omega, by omega⟩ ⟨by omega, by omega⟩
    obtain ⟨g1, g2, g3, g4, g5⟩ := hx
    simp only [toE] at g1 g2 g3 g4 g5
    have e0 : (partG x a e).f0 = (Flag.part (toE x) a e).v := congrArg Flag.Ex.v ep
    have e2 : (partG x a e).f2 = (Flag.part (toE x) a e).n := congrArg Flag.Ex.n ep
    have d0 : (Flag.part (toE x) a e).v = max a x.f0 := rfl
    have d2 : (Flag.part (toE x) a e).n = min e (x.f0 + x.f2) - max a x.f0 := rfl
    rw [looksG, List.map_cons, Flag.looks, e2]
    split
    · exact ih a h0 h1
    · rename_i hc
      rw [e0, w64 (n := (Flag.part (toE x) a e).v - a) (by omega), w64 (n := (Flag.part (toE x) a e).v + (Flag.part (toE x) a e).n) (by omega), List.map_cons, List.map_cons, ep, ih _ (by omega) (by omega)]
      rfl
theorem looksG_in {e : Int} (he : 0 ≤ e ∧ e ≤ 65536) {l : List S24} (hl : ∀ x ∈ l, Flag.okMap (toE x)) : ∀ at_ : Int, 0 ≤ at_ → at_ ≤ 65536 → ∀ y ∈ looksG e l at_, y.f2 ≤ 0 ∨ InM y := by
  induction l with
  | nil =>
    intro a h0 h1 y hy
    have : y = ⟨a, -1, wrap64 (e - a)⟩ := by simpa [looksG] using hy
    subst this
    rw [w64 (by omega)]
    by_cases h : e - a ≤ 0
    · exact .inl h
    · exact .inr ⟨h0, show a + (e - a) ≤ _ by omega, by show (-1 : Int) ≤ -1; omega, by show (-1 : Int) ≤ _; omega, show 0 < e - a by omega⟩
  | cons x t ih =>
    intro a h0 h1 y hy
    have hx := hl x List.mem_cons_self
    have ih := ih (fun y hy => hl y (List.mem_cons_of_mem _ hy))
    have hpi := partG_in hx (a := a) (b := e) ⟨by omega, by omega⟩ ⟨by omega, by omega⟩ h0
    have ep := partG_toE hx (a := a) (b := e) ⟨by omega, by omega⟩ ⟨by omega, by omega⟩
    obtain ⟨g1, g2, g3, g4, g5⟩ := hx
    simp only [toE] at g1 g2 g3 g4 g5
    have e0 : (partG x a e).f0 = max a x.f0 := congrArg Flag.Ex.v ep
    have e2 : (partG x a e).f2 = min e (x.f0 + x.f2) - max a x.f0 := congrArg Flag.Ex.n ep
    rw [looksG] at hy
    split at hy
    · exact ih a h0 h1 y hy
    · rename_i hc
      rcases List.mem_cons.1 hy with rfl | hy
      · rw [e0, w64 (n := max a x.f0 - a) (by omega)]
        by_cases h : max a x.f0 - a ≤ 0
        · exact .inl h
        · exact .inr ⟨h0, show a + (max a x.f0 - a) ≤ _ by omega, by show (-1 : Int) ≤ -1; omega, by show (-1 : Int) ≤ _; omega, show 0 < max a x.f0 - a by omega⟩
      · rcases List.mem_cons.1 hy with rfl | hy
        · exact hpi
        · refine ih _ ?_ ?_ y hy
          · rw [w64 (by omega)]; omega
          · rw [w64 (by omega)]; omega
theorem look_spec {l : List S24} {v n : Int} (hm : Flag.Map5 (l.map toE)) (hv : 0 ≤ v) (hn : 0 ≤ n) (he : v + n ≤ 65536) :
    Flag.NF ((lookL l v n).map toE) ∧ (∀ i, Flag.lookE ((lookL l v n).map toE) i = if v ≤ i ∧ i < v + n then some ((Flag.lookE (l.map toE) i).getD (-1)) else none) ∧ ∀ y ∈ lookL l v n, InM y := by
  have hl : ∀ x ∈ l, Flag.okMap (toE x) := fun x hx => hm.ok _ (List.mem_map_of_mem hx)
  rw [lookL_pieces, w64 (by omega)]
  obtain ⟨h1, h2⟩ := fold_join (looksG_in ⟨by omega, he⟩ hl v hv (by omega))
  rw [looksG_toE ⟨by omega, he⟩ hl v hv (by omega)] at h1
  obtain ⟨h3, h4⟩ := Flag.lookM_spec hm.nf v (v + n)
  rw [h1]
  exact ⟨h3, h4, h2⟩
theorem lookL_length (l : List S24) (v n : Int) : (lookL l v n).length ≤ 2 * l.length + 1 := by
  unfold lookL
  have h1 := lookFold_length (wrap64 (v + n)) l ([], v)
  have h2 := addG_length (l.foldl (lookStep (wrap64 (v + n))) ([], v)).1 ⟨(l.foldl (lookStep (wrap64 (v + n))) ([], v)).2, -1, wrap64 (wrap64 (v + n) - (l.foldl (lookStep (wrap64 (v + n))) ([], v)).2)⟩
  simp only [List.length_nil] at h1
  omega
theorem look_r_loop (l : List S24) (hl : l.length ≤ 1024) (hok : ∀ x ∈ l, Flag.okMap (toE x)) {e : Int} (he : 0 ≤ e ∧ e ≤ 65536) (t : List S24) : ∀ (pre acc : List S24) (at_ : Int) (k : Nat), l = pre ++ t → t.length < k → acc.length ≤ 2 * pre.length → 0 ≤ at_ → at_ ≤ 65536 →
    flagstoneref05_Look.l0 k l acc at_ e (pre.length : Int) = some ((looksG e t at_).foldl addG acc, 0) := by
  induction t with
  | nil =>
    intro pre acc a k h hk hacc h0 h1
    obtain ⟨k, rfl⟩ : ∃ k', k = k' + 1 := ⟨k - 1, by simp at hk; omega⟩
    have hlen : l.length = pre.length := by rw [h]; simp
    have := add_r (l := acc) (x := ⟨a, -1, wrap64 (e - a)⟩) (by omega)
    dsimp only at this
    rw [flagstoneref05_Look.l0, if_neg (by omega), this]
    rfl
  | cons x t ih =>
    intro pre acc a k h hk hacc h0 h1
    obtain ⟨k, rfl⟩ : ∃ k', k = k' + 1 := ⟨k - 1, by simp at hk; omega⟩
    have hlen : l.length = pre.length + t.length + 1 := by rw [h]; simp; omega
    have hr : rd_T24 l (pre.length : Int) = x := by rw [h]; exact rd_at pre x t rfl
    have hx := hok x (by rw [h]; simp)
    obtain ⟨g1, g2, g3, g4, g5⟩ := hx
    simp only [toE] at g1 g2 g3 g4 g5
    have e1 : wrap64 ((pre.length : Int) + 1) = ((pre ++ [x]).length : Int) := by rw [w64 (by omega)]; simp
    rw [flagstoneref05_Look.l0, if_pos (by omega), if_pos (by omega), hr, e1, mx_max, mn_min, w64 (n := x.f0 + x.f2) (by omega), looksG]
    have hp : partG x a e = ⟨max x.f0 a, x.f1 + (max x.f0 a - x.f0), min (x.f0 + x.f2) e - max x.f0 a⟩ := by
      unfold partG
      rw [mx_max, mn_min, w64 (n := x.f0 + x.f2) (by omega), Int.max_comm, Int.min_comm, if_neg (by omega), w64 (n := max x.f0 a - x.f0) (by omega), w64 (n := x.f1 + (max x.f0 a - x.f0)) (by omega), w64 (n := min (x.f0 + x.f2) e - max x.f0 a) (by omega)]
    rw [hp]
    dsimp only
    by_cases hc : max x.f0 a ≥ min (x.f0 + x.f2) e
    · rw [if_pos hc, if_pos (by omega)]
      exact ih (pre ++ [x]) acc a k (by rw [h]; simp) (by simp at hk; omega) (by simp; omega) h0 h1
    · have a1 := add_r (l := acc) (x := ⟨a, -1, wrap64 (max x.f0 a - a)⟩) (by omega)
      have l1 := addG_length acc ⟨a, -1, wrap64 (max x.f0 a - a)⟩
      have a2 := add_r (l := addG acc ⟨a, -1, wrap64 (max x.f0 a - a)⟩) (x := ⟨max x.f0 a, x.f1 + (max x.f0 a - x.f0), min (x.f0 + x.f2) e - max x.f0 a⟩) (by omega)
      have l2 := addG_length (addG acc ⟨a, -1, wrap64 (max x.f0 a - a)⟩) ⟨max x.f0 a, x.f1 + (max x.f0 a - x.f0), min (x.f0 + x.f2) e - max x.f0 a⟩
      dsimp only at a1 a2
      have w1 : wrap64 (wrap64 (x.f1 + max x.f0 a) - x.f0) = x.f1 + (max x.f0 a - x.f0) := by rw [w64 (n := x.f1 + max x.f0 a) (by omega), w64 (by omega)]; omega
      have w2 : wrap64 (min (x.f0 + x.f2) e - max x.f0 a) = min (x.f0 + x.f2) e - max x.f0 a := w64 (by omega)
      have w3 : wrap64 (max x.f0 a + (min (x.f0 + x.f2) e - max x.f0 a)) = min (x.f0 + x.f2) e := by rw [w64 (by omega)]; omega
      rw [if_neg hc, if_neg (by omega), a1, Option.bind_some, w1, w2, a2, Option.bind_some, w3]
      exact ih (pre ++ [x]) _ _ k (by rw [h]; simp) (by simp at hk; omega) (by simp; omega) (by omega) (by omega)
theorem look_r {l : List S24} {v n : Int} {k : Nat} (hk : 2 * l.length < k) : flagstoneref05_Look.f k l v n = some (lookS l v n) := by
  unfold flagstoneref05_Look.f lookS
  rw [check_r l hk, Option.bind_some, fits_rB, Option.bind_some]
  rcases Flag.checkE_or (l.map toE) with h | h
  · rw [if_pos h, if_pos h]
    have hm := Flag.checkE_ok.1 h
    by_cases hf : fitsB v n = true
    · rw [if_pos hf, if_pos hf]
      obtain ⟨f1, f2, f3⟩ := fitsB_iff.1 hf
      have hl : l.length ≤ 1024 := by simpa using hm.len
      rw [lookL_pieces, w64 (by omega)]
      exact look_r_loop l hl (fun x hx => hm.ok _ (List.mem_map_of_mem hx)) ⟨by omega, f3⟩ l [] [] v k rfl (by omega) (by simp) f1 (by omega)
    · rw [if_neg hf, if_neg hf]
  · rw [if_neg (by omega), if_neg (by omega)]
/-- What a Look that is done tells. -/
structure LookOk (l : List S24) (v n : Int) : Prop where
  map : Flag.Map5 (l.map toE)
  v0 : 0 ≤ v
  n0 : 0 ≤ n
  e : v + n ≤ 65536
  is : lookS l v n = (lookL l v n, 0)
theorem lookS_cases (l : List S24) (v n : Int) : LookOk l v n ∨ ((lookS l v n).2 ≠ 0 ∧ (lookS l v n).1 = []) := by
  rcases Flag.checkE_or (l.map toE) with h | h
  · by_cases hf : fitsB v n = true
    · obtain ⟨f1, f2, f3⟩ := fitsB_iff.1 hf
      exact .inl ⟨Flag.checkE_ok.1 h, f1, f2, f3, by unfold lookS; rw [if_pos h, if_pos hf]⟩
    · right; unfold lookS; rw [if_pos h, if_neg hf]; exact ⟨by decide, rfl⟩
  · right; unfold lookS; rw [if_neg (by omega)]; exact ⟨by decide, rfl⟩
theorem lookS_len (l : List S24) (v n : Int) (h : l.length ≤ 1024 ∨ Flag.checkE (l.map toE) ≠ 0) : (lookS l v n).1.length ≤ 4096 := by
  unfold lookS
  split
  · rename_i hc
    have := lookL_length l v n
    split
    · have hl : l.length ≤ 1024 := by simpa using (Flag.checkE_ok.1 hc).len
      show (lookL l v n).length ≤ 4096
      omega
    · simp
  · simp

end Go.Proofs.Ytkkfkdncddbaeaa.Fn
