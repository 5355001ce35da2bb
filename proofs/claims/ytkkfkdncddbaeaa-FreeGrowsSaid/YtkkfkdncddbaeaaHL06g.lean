-- Told by hand; its numbers filled in by a program of this session.
import Derived.Test.YtkkfkdncddbaeaaFnBase
import Derived.Test.YtkkfkdncddbaeaaHL06h
import Derived.Test.YtkkfkdncddbaeaaFn52
import Derived.Test.YtkkfkdncddbaeaaFn53
import Derived.Test.YtkkfkdncddbaeaaFn50
namespace Go.Proofs.Ytkkfkdncddbaeaa.Fn
open Go.RowKit Go.Proofs.YtkkfkdncddbaeaaW.PrintWords Go.Proofs.YtkkfkdncddbaeaaW.PrintLast Go.Proofs.YtkkfkdncddbaeaaW.PrintMore
attribute [local go_sem] max2_int min2_int max_two min_two max_three min_three max_four min_four   -- for this text's walks alone
set_option linter.unusedVariables false
set_option linter.unusedSimpArgs false

/-! Sizes: Resize, Room, the page's Check. -/
theorem trim_G {t : Int} {l : List S40} (h0 : 0 ≤ t) (h1 : t ≤ 65536) (hu : ∀ x ∈ l, 0 ≤ x.f0 ∧ 0 < x.f1 ∧ x.f0 + x.f1 ≤ 65536) : (trimG l t).map toP = Flag.trimS (l.map toP) t := by
  unfold trimG Flag.trimS
  by_cases hl : l = []
  · subst hl; rfl
  · obtain ⟨u, e1, e2, e3, e4⟩ := rd_last hl
    obtain ⟨u2, u1, u3⟩ := hu u e3
    have e5 : l.getLast? = some u := by rw [e4]; simp
    rw [e1, e5]
    show (if wrap64 (u.f0 + u.f1) > t then (if wrap64 (t - u.f0) ≤ 0 then l.dropLast else l.dropLast ++ [⟨u.f0, wrap64 (t - u.f0)⟩]) else l).map toP = (if u.f0 + u.f1 > t then (if t - u.f0 ≤ 0 then (l.map toP).dropLast else (l.map toP).dropLast ++ [⟨u.f0, t - u.f0⟩]) else l.map toP)
    rw [w64 (n := u.f0 + u.f1) (by omega), w64 (n := t - u.f0) (by omega)]
    split
    · split
      · rw [List.map_dropLast]
      · rw [List.map_append, List.map_dropLast]; rfl
    · rfl
theorem resize_K (size : Int) (l : List S40) (t : Int) : ∃ r1 r2 r3, free_Resize.f size l t = some (r1, r2, r3) ∧ (r1, r2.map toP, r3) = Flag.resizeF size (l.map toP) t := by
  unfold free_Resize.f Flag.resizeF
  by_cases hc : (Flag.highF size (l.map toP)).2 = 0
  · rw [if_pos hc, if_pos hc]
    have h6 := high_free hc
    have hs0 := h6.s0
    have hs1 := h6.s1
    have hln := h6.len
    rw [List.length_map] at hln
    have hu : ∀ x ∈ l, 0 ≤ x.f0 ∧ 0 < x.f1 ∧ x.f0 + x.f1 ≤ 65536 := fun x hx => by
      have h := h6.ins _ (List.mem_map_of_mem hx)
      have q1 : 0 < x.f1 := h.n
      have q2 : 0 ≤ x.f0 := h.a
      have q3 : x.f0 + x.f1 ≤ size := h.e
      omega
    by_cases c1 : t < 0 ∨ t > 65536
    · rw [if_pos c1, if_pos c1]
      exact ⟨0, [], 4, rfl, rfl⟩
    · rw [if_neg c1, if_neg c1]
      by_cases c3 : t < (Flag.highF size (l.map toP)).1
      · rw [if_pos c3, if_pos c3]
        exact ⟨0, [], 72, rfl, rfl⟩
      · rw [if_neg c3, if_neg c3]
        by_cases c4 : t > size
        · rw [if_pos c4, if_pos c4]
          have ew : wrap64 (t - size) = t - size := w64 (by omega)
          obtain ⟨a1, a2, a3, a4⟩ := at_split h6 size hs0 hs1
          unfold free_in.f
          rw [a1, Option.bind_some, Option.bind_some, ew, Int.toNat_natCast]
          obtain ⟨r1, r2, r3, e1, e2⟩ := full_F t (inL l (atL l size) ⟨size, t - size⟩)
          rw [e1]
          refine ⟨r1, r2, r3, rfl, ?_⟩
          have hip := in_pure (x := ⟨size, t - size⟩) hs1 (fun y hy => h6.ins _ (List.mem_map_of_mem hy)) hs0 (show 0 < t - size by omega) (show size + (t - size) ≤ 65536 by omega)
          have hip2 : (inL l (atL l size) ⟨size, t - size⟩).map toP = Flag.inS (l.map toP) ⟨size, t - size⟩ := hip
          rw [e2, hip2]
        · rw [if_neg c4, if_neg c4]
          exact ⟨_, _, _, rfl, by rw [trim_G (by omega) (by omega) hu]⟩
  · rw [if_neg hc, if_neg hc]
    exact ⟨0, [], _, rfl, rfl⟩
theorem room_l (l : List S40) (hl : l.length ≤ 1024) (hu : ∀ x ∈ l, 0 < x.f1 ∧ x.f1 ≤ 65536) : ∀ (m i : Nat) (a b : Int), i + m = l.length → 0 ≤ a → a ≤ 65536 * i → ∀ d, ∃ b', free_Room.l0 (m + 1 + d) a b l (l.length : Int) (i : Int) = some (a + Flag.sumS ((l.drop i).map toP), b', 0) := by
  intro m
  induction m with
  | zero =>
    intro i a b hi ha0 ha d
    have e : 0 + 1 + d = d + 1 := by omega
    rw [e, List.drop_eq_nil_of_le (by omega)]
    rw [free_Room.l0, if_neg (by omega)]
    exact ⟨b, by rw [List.map_nil, Flag.sumS, Int.add_zero]⟩
  | succ m ih =>
    intro i a b hi ha0 ha d
    have hil : i < l.length := by omega
    have hx : rd_T40 l (i : Int) = l[i] := by rw [rd40_get l (i : Int) (by omega) (by omega)]; simp
    have hw2 : wrap64 ((i : Int) + 1) = ((i + 1 : Nat) : Int) := by rw [w64 (by omega)]; omega
    obtain ⟨q1, q2⟩ := hu l[i] (List.getElem_mem _)
    have e : m + 1 + 1 + d = (m + 1 + d) + 1 := by omega
    rw [e]
    rw [free_Room.l0, if_pos (by omega), if_pos (by omega), if_pos (by omega), hx, hw2, w64 (n := a + l[i].f1) (by omega), ← List.getElem_cons_drop hil]
    obtain ⟨b', h⟩ := ih (i + 1) (a + l[i].f1) (mx b l[i].f1) (by omega) (by omega) (by omega) d
    refine ⟨b', ?_⟩
    rw [h, List.map_cons, Flag.sumS]
    congr 2
    show a + l[i].f1 + _ = a + (l[i].f1 + _)
    omega
theorem room_K (d : Nat) {size : Int} {l : List S40} (h6 : Flag.Free6 size (l.map toP)) : ∃ b, free_Room.f (1030 + d) size l = some (Flag.sumS (l.map toP), b, 0) := by
  unfold free_Room.f
  rw [check6_K, Option.bind_some, if_pos (Flag.checkF_ok.2 h6)]
  have hln := h6.len
  rw [List.length_map] at hln
  have hs1 := h6.s1
  have e : 1030 + d = l.length + 1 + (1029 + d - l.length) := by omega
  rw [e]
  obtain ⟨b, h⟩ := room_l l hln (fun x hx => by
    have h := h6.ins _ (List.mem_map_of_mem hx)
    have q1 : 0 < x.f1 := h.n
    have q2 : 0 ≤ x.f0 := h.a
    have q3 : x.f0 + x.f1 ≤ size := h.e
    omega) l.length 0 0 0 (by omega) (Int.le_refl _) (by omega) (1029 + d - l.length)
  refine ⟨b, ?_⟩
  rw [List.drop_zero, Int.zero_add] at h
  exact h
theorem sum_le {size : Int} {l : List S40} (h6 : Flag.Free6 size (l.map toP)) : 0 ≤ Flag.sumS (l.map toP) ∧ Flag.sumS (l.map toP) ≤ 65536 := by
  have h1 := Flag.sumS_le (e := 0) h6.s0 h6.nf fun x hx => ⟨(h6.ins x hx).a, (h6.ins x hx).e⟩
  have h2 := Flag.sumS_ge fun x hx => (h6.ins x hx).n
  have := h6.s1
  omega
theorem insR (x0 x1 size : Int) (h0 : 0 ≤ size) (h1 : size ≤ 65536) : flagstoneref06_inside.f x0 x1 size = some (Flag.insB size ⟨x0, x1⟩) := by
  unfold flagstoneref06_inside.f Flag.insB
  show _ = some (decide (0 < x1 ∧ 0 ≤ x0 ∧ x0 + x1 ≤ size))
  split
  · split
    · split
      · rw [w64 (by omega)]
        congr 1
        exact decide_eq_decide.2 (by omega)
      · congr 1; exact (decide_eq_false (by omega)).symm
    · congr 1; exact (decide_eq_false (by omega)).symm
  · congr 1; exact (decide_eq_false (by omega)).symm
/-- The end of the span ahead of a place; -1 ahead of the first. -/
def prevE (l : List S40) (i : Nat) : Int := if 0 < i then (rd_T40 l ((i : Int) - 1)).f0 + (rd_T40 l ((i : Int) - 1)).f1 else -1
theorem refchk_l (size : Int) (h0 : 0 ≤ size) (h1 : size ≤ 65536) (l : List S40) (hl : l.length ≤ 1024) : ∀ (m i : Nat), i + m = l.length → (0 < i → 0 ≤ (rd_T40 l ((i : Int) - 1)).f0 ∧ 0 < (rd_T40 l ((i : Int) - 1)).f1 ∧ (rd_T40 l ((i : Int) - 1)).f0 + (rd_T40 l ((i : Int) - 1)).f1 ≤ size) →
    ∀ d, flagstoneref06_Check.l0 (m + 1 + d) (i : Int) size l = some (if Flag.restF size (prevE l i) ((l.drop i).map toP) = true then 0 else 9) := by
  intro m
  induction m with
  | zero =>
    intro i hi _ d
    have e : 0 + 1 + d = d + 1 := by omega
    rw [e, List.drop_eq_nil_of_le (by omega)]
    rw [flagstoneref06_Check.l0, if_neg (by omega)]
    rfl
  | succ m ih =>
    intro i hi hpv d
    have hil : i < l.length := by omega
    have hx : rd_T40 l (i : Int) = l[i] := by rw [rd40_get l (i : Int) (by omega) (by omega)]; simp
    have hw2 : wrap64 ((i : Int) + 1) = ((i + 1 : Nat) : Int) := by rw [w64 (by omega)]; omega
    have e : m + 1 + 1 + d = (m + 1 + d) + 1 := by omega
    have hstep : rd_T40 l (((i + 1 : Nat) : Int) - 1) = l[i] := by
      have : ((i + 1 : Nat) : Int) - 1 = (i : Int) := by omega
      rw [this, hx]
    rw [e]
    rw [flagstoneref06_Check.l0, if_pos (by omega), if_pos (by omega), hx, insR _ _ _ h0 h1, Option.bind_some, hw2, ← List.getElem_cons_drop hil, List.map_cons, restF_cons]
    by_cases hin : 0 < l[i].f1 ∧ 0 ≤ l[i].f0 ∧ l[i].f0 + l[i].f1 ≤ size
    · have hb : Flag.insB size ⟨l[i].f0, l[i].f1⟩ = true := decide_eq_true hin
      rw [if_pos hb]
      have hnext := ih (i + 1) (by omega) (fun _ => by rw [hstep]; exact ⟨hin.2.1, hin.1, hin.2.2⟩) d
      have hpe : prevE l (i + 1) = l[i].f0 + l[i].f1 := by unfold prevE; rw [if_pos (by omega), hstep]
      rw [hpe] at hnext
      rw [decide_eq_true hin.1, decide_eq_true hin.2.1, decide_eq_true hin.2.2]
      simp only [Bool.true_and]
      by_cases hi0 : (i : Int) > 0
      · obtain ⟨p1, p2, p3⟩ := hpv (by omega)
        have hw3 : wrap64 ((i : Int) - 1) = (i : Int) - 1 := w64 (by omega)
        rw [if_pos hi0, hw3, if_pos (by omega), if_pos (by omega), w64 (n := (rd_T40 l ((i : Int) - 1)).f0 + (rd_T40 l ((i : Int) - 1)).f1) (by omega)]
        have hpi : prevE l i = (rd_T40 l ((i : Int) - 1)).f0 + (rd_T40 l ((i : Int) - 1)).f1 := by unfold prevE; rw [if_pos (by omega)]
        rw [hpi]
        by_cases hc : l[i].f0 ≤ (rd_T40 l ((i : Int) - 1)).f0 + (rd_T40 l ((i : Int) - 1)).f1
        · rw [if_pos hc, decide_eq_false (by omega)]
          simp
        · rw [if_neg hc, hnext, decide_eq_true (by omega)]
          simp
      · rw [if_neg hi0, hnext]
        have hpi : prevE l i = -1 := by unfold prevE; rw [if_neg (by omega)]
        rw [hpi, decide_eq_true (by omega)]
        simp
    · have hb : Flag.insB size ⟨l[i].f0, l[i].f1⟩ = false := decide_eq_false hin
      rw [hb, if_neg Bool.false_ne_true]
      have : (decide (0 < l[i].f1) && decide (0 ≤ l[i].f0) && decide (l[i].f0 + l[i].f1 ≤ size)) = false := by
        rw [Bool.eq_false_iff]
        intro h
        simp only [Bool.and_eq_true, decide_eq_true_eq] at h
        exact hin ⟨h.1.1, h.1.2, h.2⟩
      rw [this]
      simp
theorem refchk_K (d : Nat) (size : Int) (l : List S40) : flagstoneref06_Check.f (1030 + d) size l = some (Flag.checkF size (l.map toP)) := by
  unfold flagstoneref06_Check.f Flag.checkF
  have hk : 1030 + d = (1029 + d) + 1 := by omega
  rw [hk]
  by_cases h0 : size < 0
  · rw [if_pos h0, if_neg (by omega)]; unfold flagstoneref06_Check.j0; rfl
  · by_cases h1 : size > 65536
    · rw [if_neg h0, if_pos h1, if_neg (by omega)]; unfold flagstoneref06_Check.j0; rfl
    · rw [if_neg h0, if_neg h1]
      by_cases h2 : (l.length : Int) > 1024
      · rw [decide_eq_true h2, if_neg (by rw [List.length_map]; omega)]; unfold flagstoneref06_Check.j0; rfl
      · rw [decide_eq_false h2]
        rw [flagstoneref06_Check.j0, if_neg Bool.false_ne_true]
        have e : 1029 + d = l.length + 1 + (1028 + d - l.length) := by omega
        rw [e]
        have h := refchk_l size (by omega) (by omega) l (by omega) l.length 0 (by omega) (by intro h; omega) (1028 + d - l.length)
        have hp0 : prevE l 0 = -1 := by unfold prevE; rw [if_neg (by omega)]
        rw [hp0, List.drop_zero] at h
        rw [show ((0 : Nat) : Int) = 0 from rfl] at h
        rw [h]
        congr 1
        have e : ((0 ≤ size ∧ size ≤ 65536) ∧ (l.map toP).length ≤ 1024 ∧ Flag.restF size (-1) (l.map toP) = true) ↔ Flag.restF size (-1) (l.map toP) = true := ⟨fun h => h.2.2, fun h => ⟨by omega, by rw [List.length_map]; omega, h⟩⟩
        by_cases hr : Flag.restF size (-1) (l.map toP) = true
        · rw [if_pos hr, if_pos (e.2 hr)]
        · rw [if_neg hr, if_neg (fun h => hr (e.1 h))]

end Go.Proofs.Ytkkfkdncddbaeaa.Fn
