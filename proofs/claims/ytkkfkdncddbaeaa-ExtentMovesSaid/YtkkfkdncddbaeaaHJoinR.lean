-- Told by hand; its numbers filled in by a program of this session.
import Derived.Test.YtkkfkdncddbaeaaFnBase
import Derived.Test.YtkkfkdncddbaeaaFn111
import Derived.Test.YtkkfkdncddbaeaaFn112
namespace Go.Proofs.Ytkkfkdncddbaeaa.Fn
open Go.RowKit Go.Proofs.YtkkfkdncddbaeaaW.PrintWords Go.Proofs.YtkkfkdncddbaeaaW.PrintLast Go.Proofs.YtkkfkdncddbaeaaW.PrintMore
attribute [local go_sem] max2_int min2_int max_two min_two max_three min_three max_four min_four   -- for this text's walks alone
set_option linter.unusedVariables false
set_option linter.unusedSimpArgs false

/-! The document's joining of spans, in plain lists. -/
theorem rd40_at (pre : List S40) (x : S40) (t : List S40) {i : Int} (h : i = pre.length) : rd_T40 (pre ++ x :: t) i = x := by
  subst h; simp [rd_T40]
def insS (s : List S40) (x : S40) : List S40 := s.takeWhile (fun y => decide (y.f0 ≤ x.f0)) ++ [x] ++ s.dropWhile (fun y => decide (y.f0 ≤ x.f0))
theorem insS_perm (s : List S40) (x : S40) : (insS s x).Perm (s ++ [x]) := by
  unfold insS
  have h := List.takeWhile_append_dropWhile (p := fun y : S40 => decide (y.f0 ≤ x.f0)) (l := s)
  conv => rhs; rw [← h]
  rw [List.append_assoc, List.append_assoc]
  exact List.Perm.append_left _ List.perm_append_comm
theorem insS_sorted {s : List S40} (x : S40) (h : s.Pairwise fun a b => a.f0 ≤ b.f0) : (insS s x).Pairwise fun a b => a.f0 ≤ b.f0 := by
  unfold insS
  induction s with
  | nil => simp
  | cons y t ih =>
    have h2 := List.pairwise_cons.1 h
    by_cases c : y.f0 ≤ x.f0
    · rw [List.takeWhile_cons_of_pos (by simpa using c), List.dropWhile_cons_of_pos (by simpa using c)]
      refine List.pairwise_cons.2 ⟨fun z hz => ?_, ih h2.2⟩
      have hz : z ∈ insS t x := hz
      have hz := (insS_perm t x).mem_iff.1 hz
      rcases List.mem_append.1 hz with hz | hz
      · exact h2.1 z hz
      · have : z = x := by simpa using hz
        rw [this]; exact c
    · rw [List.takeWhile_cons_of_neg (by simpa using c), List.dropWhile_cons_of_neg (by simpa using c)]
      refine List.pairwise_cons.2 ⟨fun z hz => ?_, h⟩
      rcases List.mem_cons.1 hz with rfl | hz
      · omega
      · have := h2.1 z hz; omega
theorem insFold (l : List S40) : ∀ s : List S40, (s.Pairwise fun a b => a.f0 ≤ b.f0) → (l.foldl insS s).Perm (s ++ l) ∧ (l.foldl insS s).Pairwise fun a b => a.f0 ≤ b.f0 := by
  induction l with
  | nil => intro s hs; exact ⟨by simp, hs⟩
  | cons x t ih =>
    intro s hs
    obtain ⟨h1, h2⟩ := ih (insS s x) (insS_sorted x hs)
    refine ⟨?_, h2⟩
    rw [List.foldl_cons]
    refine h1.trans ?_
    have := (insS_perm s x).append_right t
    simpa using this
theorem insS_length (s : List S40) (x : S40) : (insS s x).length = s.length + 1 := by
  have := (insS_perm s x).length_eq
  simpa using this
theorem join_l1 (x0 p0 t0 : List S40) (x : S40) (hx0 : x0 = p0 ++ x :: t0) (hb : x0.length < 1099511627776) (s : List S40) (hs : s.length < 1099511627776) (R : List S40) (t : List S40) : ∀ pre : List S40, s = pre ++ t →
    Ev (fun k => flagstoneref05_Join.l0 k x0 (pre ++ t.takeWhile (fun y => decide (y.f0 ≤ x.f0)) ++ [x] ++ t.dropWhile (fun y => decide (y.f0 ≤ x.f0))) ((p0.length : Int) + 1)) R → Ev (fun k => flagstoneref05_Join.l1 k x0 s (p0.length : Int) (pre.length : Int)) R := by
  have hlen0 : x0.length = p0.length + t0.length + 1 := by rw [hx0]; simp; omega
  have hr0 : rd_T40 x0 (p0.length : Int) = x := by rw [hx0]; exact rd40_at p0 x t0 rfl
  have ew : wrap64 ((p0.length : Int) + 1) = (p0.length : Int) + 1 := w64 (by omega)
  induction t with
  | nil =>
    intro pre h he
    have hlen : s.length = pre.length := by rw [h]; simp
    refine Ev.step (fun k => ?_) he
    rw [flagstoneref05_Join.l1, if_neg (by omega), if_pos (by omega), if_pos (by omega), Option.bind_some, if_pos (by simp; omega), Option.bind_some, if_pos (by omega), if_pos (by omega), if_pos (by simp; omega), Option.bind_some, Option.bind_some, if_pos (by simp; omega), hr0, ew]
    have e1 : s.take (pre.length : Int).toNat = pre := by rw [Int.toNat_natCast, h]; simp
    have e2 : s.drop (pre.length : Int).toNat = [] := by rw [Int.toNat_natCast, h]; simp
    rw [e1, e2]
    simp
  | cons y t ih =>
    intro pre h he
    have hlen : s.length = pre.length + t.length + 1 := by rw [h]; simp; omega
    have hr : rd_T40 s (pre.length : Int) = y := by rw [h]; exact rd40_at pre y t rfl
    by_cases c : y.f0 ≤ x.f0
    · have e1 : wrap64 ((pre.length : Int) + 1) = ((pre ++ [y]).length : Int) := by rw [w64 (by omega)]; simp
      rw [List.takeWhile_cons_of_pos (by simpa using c), List.dropWhile_cons_of_pos (by simpa using c)] at he
      have hn := ih (pre ++ [y]) (by rw [h]; simp) (by simpa using he)
      refine Ev.step (fun k => ?_) hn
      rw [flagstoneref05_Join.l1, if_pos (by omega), if_pos (by omega), if_pos (by omega), if_pos (by omega), hr, hr0, if_pos c, e1]
    · rw [List.takeWhile_cons_of_neg (by simpa using c), List.dropWhile_cons_of_neg (by simpa using c)] at he
      refine Ev.step (fun k => ?_) he
      rw [flagstoneref05_Join.l1, if_pos (by omega), if_pos (by omega), if_pos (by omega), if_pos (by omega), hr, hr0, if_neg c, if_pos (by omega), Option.bind_some, if_pos (by simp; omega), Option.bind_some, if_pos (by simp; omega), Option.bind_some, Option.bind_some, if_pos (by simp; omega), ew]
      have e1 : s.take (pre.length : Int).toNat = pre := by rw [Int.toNat_natCast, h]; simp
      have e2 : s.drop (pre.length : Int).toNat = y :: t := by rw [Int.toNat_natCast, h]; simp
      rw [e1, e2]
      simp
theorem join_l0 (x0 : List S40) (hb : x0.length < 1099511627776) (R : List S40) (t0 : List S40) : ∀ p0 s : List S40, x0 = p0 ++ t0 → s.length = p0.length →
    Ev (fun k => flagstoneref05_Join.l2 k (t0.foldl insS s) [] 0) R → Ev (fun k => flagstoneref05_Join.l0 k x0 s (p0.length : Int)) R := by
  induction t0 with
  | nil =>
    intro p0 s h hs he
    refine Ev.step (fun k => ?_) he
    rw [flagstoneref05_Join.l0, if_neg (by rw [h]; simp)]
    rfl
  | cons x t ih =>
    intro p0 s h hs he
    have hlen0 : x0.length = p0.length + t.length + 1 := by rw [h]; simp; omega
    have h1 := ih (p0 ++ [x]) (insS s x) (by rw [h]; simp) (by rw [insS_length]; simp; omega) he
    have e1 : (((p0 ++ [x]).length : Int)) = (p0.length : Int) + 1 := by simp
    rw [e1] at h1
    have h2 := join_l1 x0 p0 t x h hb s (by omega) R s [] rfl (by simpa [insS] using h1)
    refine Ev.step (fun k => ?_) h2
    rw [flagstoneref05_Join.l0, if_pos (by omega)]
    rfl
theorem join_l2 (ys : List S40) (hb : ys.length < 1099511627776) (t : List S40) : ∀ pre o : List S40, ys = pre ++ t → o.length ≤ pre.length →
    Ev (fun k => flagstoneref05_Join.l2 k ys o (pre.length : Int)) (t.foldl joinG o) := by
  induction t with
  | nil =>
    intro pre o h ho
    refine Ev.step (f := fun _ => some o) (fun k => ?_) (Ev.now o)
    rw [flagstoneref05_Join.l2, if_neg (by rw [h]; simp)]
  | cons x t ih =>
    intro pre o h ho
    have hlen : ys.length = pre.length + t.length + 1 := by rw [h]; simp; omega
    have hr : rd_T40 ys (pre.length : Int) = x := by rw [h]; exact rd40_at pre x t rfl
    have e1 : wrap64 ((pre.length : Int) + 1) = ((pre ++ [x]).length : Int) := by rw [w64 (by omega)]; simp
    have hn := ih (pre ++ [x]) (joinG o x) (by rw [h]; simp) (by have := joinG_length o x; simp; omega)
    refine Ev.step (fun k => ?_) hn
    rw [flagstoneref05_Join.l2, if_pos (by omega), hr, e1, w64 (n := (o.length : Int) - 1) (by omega)]
    unfold joinG
    by_cases c1 : (o.length : Int) - 1 ≥ 0
    · rw [if_pos c1, if_pos (by omega), if_pos (by omega), if_pos (by omega)]
      by_cases c2 : x.f0 ≤ wrap64 ((rd_T40 o ((o.length : Int) - 1)).f0 + (rd_T40 o ((o.length : Int) - 1)).f1)
      · rw [if_pos c2, if_pos ⟨by omega, c2⟩]
      · rw [if_neg c2, if_pos (show o.length < 8796093022208 by omega)]
        exact congrArg (fun z => flagstoneref05_Join.l2 k ys z _) (if_neg (fun h => c2 h.2)).symm
    · rw [if_neg c1, if_pos (show (0 : Int) ≤ (pre.length : Int) by omega), if_pos (show o.length < 8796093022208 by omega)]
      exact congrArg (fun z => flagstoneref05_Join.l2 k ys z _) (if_neg (fun h => c1 (by omega))).symm
/-- The document's joining is the program's. -/
theorem join_r {l : List S40} (hb : l.length < 1099511627776) (h : ∀ x ∈ l, OkSp x) : Ev (fun k => flagstoneref05_Join.f k l) (joinL l) := by
  obtain ⟨h1, h2⟩ := insFold l [] List.Pairwise.nil
  rw [List.nil_append] at h1
  have h3 := join_l2 (l.foldl insS []) (by rw [h1.length_eq]; exact hb) (l.foldl insS []) [] [] rfl (Nat.le_refl _)
  rw [joinL_of h h1 h2] at h3
  exact join_l0 l hb _ l [] [] rfl rfl h3
theorem join_x {l : List S40} (hb : l.length < 1099511627776) (h : ∀ x ∈ l, OkSp x) : extent_Join.f l = some (joinL l) := by
  unfold extent_Join.f; rw [if_pos ⟨hb, h⟩]

end Go.Proofs.Ytkkfkdncddbaeaa.Fn
