-- Told by hand; its numbers filled in by a program of this session.
import Derived.Test.YtkkfkdncddbaeaaFnBase
import Derived.Test.YtkkfkdncddbaeaaHL06a
import Derived.Test.YtkkfkdncddbaeaaHL06b
import Derived.Test.YtkkfkdncddbaeaaFn11
namespace Go.Proofs.Ytkkfkdncddbaeaa.Fn
open Go.RowKit Go.Proofs.YtkkfkdncddbaeaaW.PrintWords Go.Proofs.YtkkfkdncddbaeaaW.PrintLast Go.Proofs.YtkkfkdncddbaeaaW.PrintMore
attribute [local go_sem] max2_int min2_int max_two min_two max_three min_three max_four min_four   -- for this text's walks alone
set_option linter.unusedVariables false
set_option linter.unusedSimpArgs false

/-! FreeFits. -/
theorem fits_l1 {l : List S40} (hl : l.length ≤ 1024) (n line at_ mine sz : Int) (hm : n ≤ mine) (H : ∀ x ∈ l, n ≤ roomG line x → mine < roomG line x ∨ (roomG line x = mine ∧ at_ ≤ x.f0)) :
    ∀ m i : Nat, i + m = l.length → flagstonelaw06_FreeFits.l1 (m + 1) n line at_ mine (i : Int) sz l = some true := by
  intro m
  induction m with
  | zero =>
    intro i hi
    unfold flagstonelaw06_FreeFits.l1
    rw [if_neg (by omega)]
    simp; omega
  | succ m ih =>
    intro i hi
    have hil : i < l.length := by omega
    have hx : rd_T40 l (i : Int) = l[i] := by rw [rd40_get l (i : Int) (by omega) (by omega)]; simp
    have hw2 : wrap64 ((i : Int) + 1) = ((i + 1 : Nat) : Int) := by rw [w64 (by omega)]; omega
    unfold flagstonelaw06_FreeFits.l1
    rw [if_pos (by omega), if_pos (by omega), hx, hw2]
    have e : wrap64 (mn (wrap64 (l[i].f0 + l[i].f1)) line - l[i].f0) = roomG line l[i] := rfl
    rw [e, ih (i + 1) (by omega)]
    have h := H l[i] (List.getElem_mem _)
    by_cases c1 : roomG line l[i] ≥ n
    · rcases h c1 with h2 | h2
      · rw [if_pos c1, if_neg (by omega), if_neg (by omega)]
      · rw [if_pos c1, if_neg (by omega), if_pos h2.1, if_neg (by omega)]
    · rw [if_neg c1]
theorem num6 (a : Int) : flagstonelaw06_num.f a = some a := by unfold flagstonelaw06_num.f; rfl
theorem fits_none {l : List S40} (hl : l.length ≤ 1024) (n line at_ sz : Int) (H : ∀ x ∈ l, roomG line x < n) :
    ∀ (m i : Nat) (mine : Int), i + m = l.length → flagstonelaw06_FreeFits.l0 (m + 1) n line at_ 51 mine false (i : Int) sz l = some true := by
  intro m
  induction m with
  | zero =>
    intro i mine hi
    unfold flagstonelaw06_FreeFits.l0
    rw [if_neg (by omega), num6]
    rfl
  | succ m ih =>
    intro i mine hi
    have hil : i < l.length := by omega
    have hx : rd_T40 l (i : Int) = l[i] := by rw [rd40_get l (i : Int) (by omega) (by omega)]; simp
    have hw2 : wrap64 ((i : Int) + 1) = ((i + 1 : Nat) : Int) := by rw [w64 (by omega)]; omega
    unfold flagstonelaw06_FreeFits.l0
    rw [if_pos (by omega), if_pos (by omega), hx, hw2, num6]
    have e : wrap64 (mn (wrap64 (l[i].f0 + l[i].f1)) line - l[i].f0) = roomG line l[i] := rfl
    have h := H l[i] (List.getElem_mem _)
    rw [e, decide_eq_false (show ¬ (roomG line l[i] ≥ n) by omega)]
    simp only [Bool.false_eq_true, if_false, Option.bind_some]
    rw [if_neg (by decide)]
    exact ih (i + 1) mine (by omega)
theorem fits_some {l : List S40} (hl : l.length ≤ 1024) (n line at_ rho sz : Int) (hm : n ≤ rho) (H : ∀ x ∈ l, n ≤ roomG line x → rho < roomG line x ∨ (roomG line x = rho ∧ at_ ≤ x.f0)) (HA : ∀ x ∈ l, x.f0 = at_ → roomG line x = rho) :
    ∀ (m i : Nat) (mine : Int) (sm : Bool), i + m = l.length → (mine = rho ∨ ∃ x ∈ l.drop i, x.f0 = at_) → flagstonelaw06_FreeFits.l0 (m + (l.length + 1) + 1) n line at_ 0 mine sm (i : Int) sz l = some true := by
  intro m
  induction m with
  | zero =>
    intro i mine sm hi hx
    have hmr : mine = rho := by
      rcases hx with h | ⟨x, h, _⟩
      · exact h
      · rw [List.drop_eq_nil_of_le (by omega)] at h; cases h
    rw [Nat.zero_add]
    unfold flagstonelaw06_FreeFits.l0
    rw [if_neg (by omega), num6, hmr]
    exact fits_l1 hl n line at_ rho sz hm H l.length 0 (by omega)
  | succ m ih =>
    intro i mine sm hi hmx
    have hil : i < l.length := by omega
    have hx : rd_T40 l (i : Int) = l[i] := by rw [rd40_get l (i : Int) (by omega) (by omega)]; simp
    have hw2 : wrap64 ((i : Int) + 1) = ((i + 1 : Nat) : Int) := by rw [w64 (by omega)]; omega
    have e : wrap64 (mn (wrap64 (l[i].f0 + l[i].f1)) line - l[i].f0) = roomG line l[i] := rfl
    have hf : m + 1 + (l.length + 1) = (m + (l.length + 1)) + 1 := by omega
    rw [hf]
    unfold flagstonelaw06_FreeFits.l0
    rw [if_pos (by omega), if_pos (by omega), hx, hw2, num6, e]
    simp only [Option.bind_some, if_true]
    by_cases ca : l[i].f0 = at_
    · have hr := HA l[i] (List.getElem_mem _) ca
      simp only [if_pos ca]
      split
      · exact ih (i + 1) _ _ (by omega) (.inl hr)
      · exact ih (i + 1) _ _ (by omega) (.inl hr)
    · simp only [if_neg ca]
      have hmx2 : mine = rho ∨ ∃ x ∈ l.drop (i + 1), x.f0 = at_ := by
        rcases hmx with h | ⟨x, h1, h2⟩
        · exact .inl h
        · rw [← List.getElem_cons_drop hil] at h1
          rcases List.mem_cons.1 h1 with rfl | h1
          · exact absurd h2 ca
          · exact .inr ⟨x, h1, h2⟩
      split
      · exact ih (i + 1) _ _ (by omega) hmx2
      · exact ih (i + 1) _ _ (by omega) hmx2
theorem copyS_x {l : List S40} (hl : l.length < 8796093022208) : flagstoneplain_CopySpans.f l = some l := by
  unfold flagstoneplain_CopySpans.f
  rw [if_pos (by simp; omega), List.nil_append]
theorem alive6_k (k : Nat) : flagstonelaw06_alive.f (60 + k) = some true := by
  induction k with
  | zero => exact alive6
  | succ k ih => exact flagstonelaw06_alive.mono (60 + k) _ ih
theorem l0_up {n line at_ e mine i sz : Int} {sm r : Bool} {l : List S40} {k : Nat} (d : Nat) (h : flagstonelaw06_FreeFits.l0 k n line at_ e mine sm i sz l = some r) : flagstonelaw06_FreeFits.l0 (k + d) n line at_ e mine sm i sz l = some r := by
  induction d with
  | zero => exact h
  | succ d ih => exact (flagstonelaw06_FreeFits.mono_l (k + d)).2.1 _ _ _ _ _ _ _ _ _ _ ih
theorem j0_f (k : Nat) (n line at_ e s : Int) (l : List S40) : flagstonelaw06_FreeFits.j0 (k + 1) n line at_ e false s l = flagstonelaw06_FreeFits.l0 k n line at_ e 0 false 0 s l := by
  unfold flagstonelaw06_FreeFits.j0
  exact if_neg Bool.false_ne_true
theorem fits_pure (s : Int) (l : List S40) (n line : Int) (h : l.length * 16 ≤ 140737488351232) (h9 : line < 9223372036854775808) : ∃ k, flagstonelaw06_FreeFits.f k s l n line = some true := by
  refine ⟨60 + (l.length + (l.length + 1) + 1 + 1), ?_⟩
  unfold flagstonelaw06_FreeFits.f flagstonelaw06_Of.f free_Best.f
  rw [alive6_k, Option.bind_some, if_pos rfl, copyS_x (by omega)]
  simp only [Option.bind_some, num6]
  by_cases hck : Flag.checkF s (l.map toP) = 0
  · rw [if_pos hck]
    by_cases hc : n < 1 ∨ line < 0
    · rw [if_pos hc]; rfl
    · rw [if_neg hc]
      have hm := Flag.checkF_ok.1 hck
      have hl : l.length ≤ 1024 := by have := hm.len; simpa using this
      have hins : ∀ x ∈ l, Flag.Ins s (toP x) := fun x hx => hm.ins _ (List.mem_map_of_mem hx)
      have hb := best_G (n := n) hm.s1 (show 0 ≤ line by omega) h9 hins
      unfold bestR
      have hf : 60 + (l.length + (l.length + 1) + 1 + 1) = (l.length + (l.length + 1) + 1 + 60) + 1 := by omega
      have hrg : ∀ x ∈ l, roomG line x = Flag.room line (toP x) := fun x hx => room_G (hins x hx) hm.s1 (by omega)
      rw [hf]
      cases hq : bestG l n line with
      | none =>
        rw [hq] at hb
        have hn := Flag.bestS_none hb.symm
        simp only []
        rw [if_neg (by decide), show ((51 : Int) == 4) = false from by decide, j0_f]
        have h1 := fits_none hl n line 0 s (fun x hx => by rw [hrg x hx]; exact hn _ (List.mem_map_of_mem hx)) l.length 0 0 (by omega)
        have h2 := l0_up (l.length + 1 + 60) h1
        have e2 : l.length + 1 + (l.length + 1 + 60) = l.length + (l.length + 1) + 1 + 60 := by omega
        rw [e2] at h2
        exact h2
      | some y =>
        rw [hq] at hb
        obtain ⟨b1, b2, b3⟩ := Flag.bestS_some hm.nf.rising hb.symm
        simp only []
        rw [if_neg (by decide), show ((0 : Int) == 4) = false from by decide, j0_f]
        obtain ⟨y', hy', hyy⟩ := List.mem_map.1 b1
        have h1 := fits_some hl n line y.f0 (Flag.room line (toP y)) s b2 (fun x hx hx2 => by
          rw [hrg x hx] at hx2 ⊢
          exact (b3 _ (List.mem_map_of_mem hx) hx2).imp id (fun h => ⟨h.1.symm, h.2⟩)) (fun x hx hxe => by
          have hye : y'.f0 = y.f0 := congrArg Flag.Sp.a hyy
          obtain ⟨i, hi, rfl⟩ := List.mem_iff_getElem.1 hx
          obtain ⟨j, hj, rfl⟩ := List.mem_iff_getElem.1 hy'
          have hi1 : 0 < l[i].f1 := (hins _ (List.getElem_mem hi)).n
          have hj1 : 0 < l[j].f1 := (hins _ (List.getElem_mem hj)).n
          have hij : i = j := by
            rcases Nat.lt_trichotomy i j with h | h | h
            · have := nfs_get hm.nf i j h hj; omega
            · exact h
            · have := nfs_get hm.nf j i h hi; omega
          subst hij
          rw [hrg _ hx, hyy]) l.length 0 0 false (by omega) (.inr ⟨y', by simpa using hy', congrArg Flag.Sp.a hyy⟩)
        have h2 := l0_up 60 h1
        exact h2
  · rw [if_neg hck]; rfl
theorem fits_row (s : Int) (l : List S40) (n line : Int) (h : l.length * 16 ≤ 140737488351232) (_ : (Lit.int .i64 n).wf = true) (h9 : (Lit.int .i64 line).wf = true) : ∃ k, flagstonelaw06_FreeFits.f k s l n line = some true :=
  fits_pure s l n line h (by
    simp only [Lit.wf, Bool.and_eq_true, decide_eq_true_eq] at h9
    have h2 : line ≤ 9223372036854775807 := h9.2
    omega)

end Go.Proofs.Ytkkfkdncddbaeaa.Fn
