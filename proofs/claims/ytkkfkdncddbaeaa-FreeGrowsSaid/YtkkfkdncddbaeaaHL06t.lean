-- Told by hand; its numbers filled in by a program of this session.
import Derived.Test.YtkkfkdncddbaeaaFnBase
import Derived.Test.YtkkfkdncddbaeaaHL06
import Derived.Test.YtkkfkdncddbaeaaHPureT
import Derived.Test.YtkkfkdncddbaeaaFn109
import Derived.Test.YtkkfkdncddbaeaaFn46
import Derived.Test.YtkkfkdncddbaeaaFn47
import Derived.Test.YtkkfkdncddbaeaaFn48
namespace Go.Proofs.Ytkkfkdncddbaeaa.Fn
open Go.RowKit Go.Proofs.YtkkfkdncddbaeaaW.PrintWords Go.Proofs.YtkkfkdncddbaeaaW.PrintLast Go.Proofs.YtkkfkdncddbaeaaW.PrintMore
attribute [local go_sem] max2_int min2_int max_two min_two max_three min_three max_four min_four   -- for this text's walks alone
set_option linter.unusedVariables false
set_option linter.unusedSimpArgs false

/-! free.Take and free.Free in plain lists. -/
theorem check6_K (d : Nat) (size : Int) (l : List S40) : free_Check.f (1030 + d) size l = some (Flag.checkF size (l.map toP)) := by
  unfold free_Check.f Flag.checkF
  have hk : 1030 + d = (1029 + d) + 1 := by omega
  rw [hk]
  by_cases h0 : size < 0
  · rw [if_pos h0, if_neg (by omega)]; unfold free_Check.j0; rfl
  · by_cases h1 : size > 65536
    · rw [if_neg h0, if_pos h1, if_neg (by omega)]; unfold free_Check.j0; rfl
    · rw [if_neg h0, if_neg h1]
      by_cases h2 : (l.length : Int) > 1024
      · rw [decide_eq_true h2, if_neg (by rw [List.length_map]; omega)]; unfold free_Check.j0; rfl
      · rw [decide_eq_false h2]
        have hj : free_Check.j0 (1029 + d + 1) false size l = free_Check.l0 (1029 + d) (-1) l (l.length : Int) 0 size l := by unfold free_Check.j0; exact if_neg Bool.false_ne_true
        rw [hj]
        have h := check6_l size (by omega) (by omega) l (by omega) l l.length 0 (-1) (by omega)
        have h' : ∀ m, free_Check.l0 (l.length + 1 + m) (-1) l (l.length : Int) 0 size l = some (if Flag.restF size (-1) ((l.drop 0).map toP) = true then 0 else 9) := by
          intro m
          induction m with
          | zero => exact h
          | succ m ih => exact (free_Check.mono_l (l.length + 1 + m)).2 (-1) l (l.length : Int) 0 size l _ ih
        have e9 : 1029 + d = l.length + 1 + (1028 + d - l.length) := by omega
        rw [e9, h', List.drop_zero]
        congr 1
        have e : ((0 ≤ size ∧ size ≤ 65536) ∧ (l.map toP).length ≤ 1024 ∧ Flag.restF size (-1) (l.map toP) = true) ↔ Flag.restF size (-1) (l.map toP) = true := ⟨fun h => h.2.2, fun h => ⟨by omega, by rw [List.length_map]; omega, h⟩⟩
        by_cases hr : Flag.restF size (-1) (l.map toP) = true
        · rw [if_pos hr, if_pos (e.2 hr)]
        · rw [if_neg hr, if_neg (fun h => hr (e.1 h))]
theorem insB_f {size : Int} (x0 x1 : Int) (h0 : 0 ≤ size) (h1 : size ≤ 65536) : free_inside.f x0 x1 size = some (Flag.insB size ⟨x0, x1⟩) := inside6 ⟨x0, x1⟩ size h0 h1
theorem full_F (size : Int) (l : List S40) : ∃ r1 r2 r3, free_full.f size l = some (r1, r2, r3) ∧ (r1, r2.map toP, r3) = Flag.fullF size (l.map toP) := by
  unfold free_full.f Flag.fullF
  rw [List.length_map]
  split
  · exact ⟨_, _, _, rfl, rfl⟩
  · exact ⟨_, _, _, rfl, rfl⟩
/-- Where a sector lies, by places. -/
theorem at_split {size : Int} {l : List S40} (h : Flag.Free6 size (l.map toP)) (s : Int) (h0 : 0 ≤ s) (h1 : s ≤ 65536) : free_at.f l s = some (atL l s : Int) ∧ atL l s ≤ l.length ∧ Flag.ahead (l.map toP) s = (l.take (atL l s)).map toP ∧ Flag.behind (l.map toP) s = (l.drop (atL l s)).map toP := by
  have hw := h.wide h.s1 (Int.le_refl _)
  obtain ⟨e1, e2⟩ := Flag.ahead_take (l.map toP) s
  have hlen := congrArg List.length (Flag.ahead_behind (l.map toP) s)
  rw [List.length_append, List.length_map] at hlen
  refine ⟨?_, by unfold atL; omega, ?_, ?_⟩
  · unfold free_at.f
    rw [if_pos ⟨Flag.checkF_ok.2 hw, by omega, by omega⟩]
  · rw [List.map_take]; exact e1
  · rw [List.map_drop]; exact e2
theorem rd_drop {l : List S40} {i : Nat} (hi : i < l.length) : (l.drop i).map toP = toP (rd_T40 l (i : Int)) :: (l.drop (i + 1)).map toP := by
  have hx : rd_T40 l (i : Int) = l[i] := by rw [rd40_get l (i : Int) (by omega) (by omega)]; simp
  rw [hx, ← List.getElem_cons_drop hi, List.map_cons]
theorem rest_G {y x : S40} (h1 : 0 ≤ y.f0) (h2 : 0 < y.f1) (h3 : y.f0 + y.f1 ≤ 65536) (h4 : 0 ≤ x.f0) (h5 : 0 < x.f1) (h6 : x.f0 + x.f1 ≤ 65536) : (restG1 y x ++ restG2 y x).map toP = Flag.restOf (toP y) (toP x) := by
  unfold restG1 restG2 Flag.restOf
  rw [w64 (n := x.f0 + x.f1) (by omega), w64 (n := y.f0 + y.f1) (by omega), w64 (n := y.f0 + y.f1 - (x.f0 + x.f1)) (by omega), w64 (n := x.f0 - y.f0) (by omega), List.map_append]
  show _ = (if y.f0 < x.f0 then [(⟨y.f0, x.f0 - y.f0⟩ : Flag.Sp)] else []) ++ (if x.f0 + x.f1 < y.f0 + y.f1 then [(⟨x.f0 + x.f1, y.f0 + y.f1 - (x.f0 + x.f1)⟩ : Flag.Sp)] else [])
  congr 1
  · split <;> rfl
  · split <;> rfl
theorem takej_f (k : Nat) (i size : Int) (l : List S40) (x0 x1 : Int) : free_Take.j0 (k + 1) i false size l x0 x1 = (free_out.f l i x0 x1).bind fun t110 => (free_full.f size t110).bind fun b => some (b.1, b.2.1, b.2.2) := by
  unfold free_Take.j0
  exact if_neg Bool.false_ne_true
theorem freej_f (k : Nat) (size : Int) (l : List S40) (x0 x1 : Int) : free_Free.j0 (k + 1) false size l x0 x1 = (free_in.f l x0 x1).bind fun t108 => (free_full.f size t108).bind fun b => some (b.1, b.2.1, b.2.2) := by
  unfold free_Free.j0
  exact if_neg Bool.false_ne_true
theorem take_K (d : Nat) (size : Int) (l : List S40) (x0 x1 : Int) : ∃ r1 r2 r3, free_Take.f (1030 + d) size l x0 x1 = some (r1, r2, r3) ∧ (r1, r2.map toP, r3) = Flag.takeF size (l.map toP) ⟨x0, x1⟩ := by
  unfold free_Take.f Flag.takeF
  rw [check6_K, Option.bind_some]
  by_cases hc : Flag.checkF size (l.map toP) = 0
  · rw [if_pos hc, if_pos hc]
    have h6 := Flag.checkF_ok.1 hc
    rw [insB_f x0 x1 h6.s0 h6.s1, Option.bind_some]
    by_cases hi : Flag.insB size ⟨x0, x1⟩ = true
    · rw [if_pos hi, if_pos hi]
      have hI := Flag.insB_iff.1 hi
      have i1 : 0 < x1 := hI.n
      have i2 : 0 ≤ x0 := hI.a
      have i3 : x0 + x1 ≤ size := hI.e
      have hs1 := h6.s1
      obtain ⟨a1, a2, a3, a4⟩ := at_split h6 x0 i2 (by omega)
      rw [a1, Option.bind_some]
      have hk : 1030 + d = (1029 + d) + 1 := by omega
      unfold Flag.takeG
      show ∃ (r1 : Int) (r2 : List S40) (r3 : Int), _ ∧ (r1, r2.map toP, r3) = (match Flag.behind (l.map toP) x0 with
        | [] => (0, [], 72)
        | y :: R => if y.a > x0 ∨ y.a + y.n < x0 + x1 then (0, [], 72) else Flag.fullF size (Flag.ahead (l.map toP) x0 ++ Flag.restOf y ⟨x0, x1⟩ ++ R))
      rw [a3, a4, hk]
      by_cases he : (atL l x0 : Int) = (l.length : Int)
      · rw [if_pos he, List.drop_eq_nil_of_le (by omega)]
        unfold free_Take.j0
        exact ⟨0, [], 72, rfl, rfl⟩
      · rw [if_neg he, if_pos (by omega), if_pos (by omega), rd_drop (by omega)]
        obtain ⟨y, hy⟩ : ∃ y, y = rd_T40 l (atL l x0 : Int) := ⟨_, rfl⟩
        have hyI : Flag.Ins size (toP y) := by
          rw [hy, rd40_get l _ (by omega) (by omega)]
          exact h6.ins _ (List.mem_map_of_mem (List.getElem_mem _))
        rw [← hy]
        have y1 : 0 < y.f1 := hyI.n
        have y2 : 0 ≤ y.f0 := hyI.a
        have y3 : y.f0 + y.f1 ≤ size := hyI.e
        rw [w64 (n := y.f0 + y.f1) (by omega), w64 (n := x0 + x1) (by omega)]
        show ∃ (r1 : Int) (r2 : List S40) (r3 : Int), _ ∧ (r1, r2.map toP, r3) = (if y.f0 > x0 ∨ y.f0 + y.f1 < x0 + x1 then (0, [], 72) else Flag.fullF size ((l.take (atL l x0)).map toP ++ Flag.restOf (toP y) ⟨x0, x1⟩ ++ (l.drop (atL l x0 + 1)).map toP))
        by_cases c1 : y.f0 > x0
        · rw [if_pos c1, if_pos (.inl c1)]
          unfold free_Take.j0
          exact ⟨0, [], 72, rfl, rfl⟩
        · rw [if_neg c1]
          by_cases c2 : y.f0 + y.f1 < x0 + x1
          · rw [decide_eq_true c2, if_pos (.inr c2)]
            unfold free_Take.j0
            exact ⟨0, [], 72, rfl, rfl⟩
          · rw [decide_eq_false c2, if_neg (by omega), takej_f]
            have ho : free_out.f l (atL l x0 : Int) x0 x1 = some (outL l (atL l x0) ⟨x0, x1⟩) := by
              have := h6.len
              rw [List.length_map] at this
              unfold free_out.f
              rw [if_pos (by omega), Int.toNat_natCast]
            rw [ho, Option.bind_some]
            obtain ⟨r1, r2, r3, e1, e2⟩ := full_F size (outL l (atL l x0) ⟨x0, x1⟩)
            rw [e1]
            refine ⟨r1, r2, r3, rfl, ?_⟩
            rw [e2]
            unfold outL
            rw [← hy, List.map_append, List.map_append, rest_G y2 y1 (by omega) (show 0 ≤ x0 from i2) (show 0 < x1 from i1) (show x0 + x1 ≤ 65536 by omega)]
            rfl
    · rw [if_neg hi, if_neg hi]
      exact ⟨0, [], 4, rfl, rfl⟩
  · rw [if_neg hc, if_neg hc]
    exact ⟨0, [], _, rfl, rfl⟩
theorem free_K (d : Nat) (size : Int) (l : List S40) (x0 x1 : Int) : ∃ r1 r2 r3, free_Free.f (1030 + d) size l x0 x1 = some (r1, r2, r3) ∧ (r1, r2.map toP, r3) = Flag.freeF size (l.map toP) ⟨x0, x1⟩ := by
  unfold free_Free.f Flag.freeF
  rw [check6_K, Option.bind_some]
  by_cases hc : Flag.checkF size (l.map toP) = 0
  · rw [if_pos hc, if_pos hc]
    have h6 := Flag.checkF_ok.1 hc
    rw [insB_f x0 x1 h6.s0 h6.s1, Option.bind_some]
    by_cases hi : Flag.insB size ⟨x0, x1⟩ = true
    · rw [if_pos hi, if_pos hi]
      have hI := Flag.insB_iff.1 hi
      have i1 : 0 < x1 := hI.n
      have i2 : 0 ≤ x0 := hI.a
      have i3 : x0 + x1 ≤ size := hI.e
      have hs1 := h6.s1
      obtain ⟨a1, a2, a3, a4⟩ := at_split h6 x0 i2 (by omega)
      rw [a1, Option.bind_some]
      have hk : 1030 + d = (1029 + d) + 1 := by omega
      have hj : ∃ r1 r2 r3, free_Free.j0 (1029 + d + 1) false size l x0 x1 = some (r1, r2, r3) ∧ (r1, r2.map toP, r3) = Flag.fullF size (Flag.joinTo (Flag.ahead (l.map toP) x0) (Flag.behind (l.map toP) x0) ⟨x0, x1⟩) := by
        rw [freej_f]
        unfold free_in.f
        rw [a1, Option.bind_some, Option.bind_some, Int.toNat_natCast]
        obtain ⟨r1, r2, r3, e1, e2⟩ := full_F size (inL l (atL l x0) ⟨x0, x1⟩)
        rw [e1]
        refine ⟨r1, r2, r3, rfl, ?_⟩
        have hip := in_pure (x := ⟨x0, x1⟩) hs1 (fun y hy => h6.ins _ (List.mem_map_of_mem hy)) i2 i1 (show x0 + x1 ≤ 65536 by omega)
        have hip2 : (inL l (atL l x0) ⟨x0, x1⟩).map toP = Flag.inS (l.map toP) ⟨x0, x1⟩ := hip
        rw [e2, hip2]
        rfl
      unfold Flag.freeG
      show ∃ (r1 : Int) (r2 : List S40) (r3 : Int), _ ∧ (r1, r2.map toP, r3) = (match Flag.behind (l.map toP) x0 with
        | [] => Flag.fullF size (Flag.joinTo (Flag.ahead (l.map toP) x0) [] ⟨x0, x1⟩)
        | y :: R => if y.a < x0 + x1 then (0, [], 6) else Flag.fullF size (Flag.joinTo (Flag.ahead (l.map toP) x0) (y :: R) ⟨x0, x1⟩))
      rw [hk]
      rw [a4] at hj ⊢
      by_cases he : (atL l x0 : Int) < (l.length : Int)
      · rw [rd_drop (by omega)] at hj ⊢
        obtain ⟨y, hy⟩ : ∃ y, y = rd_T40 l (atL l x0 : Int) := ⟨_, rfl⟩
        rw [if_pos he, if_pos (by omega), ← hy, w64 (n := x0 + x1) (by omega)]
        rw [← hy] at hj
        show ∃ (r1 : Int) (r2 : List S40) (r3 : Int), _ ∧ (r1, r2.map toP, r3) = (if y.f0 < x0 + x1 then (0, [], 6) else Flag.fullF size (Flag.joinTo (Flag.ahead (l.map toP) x0) (toP y :: (l.drop (atL l x0 + 1)).map toP) ⟨x0, x1⟩))
        by_cases c1 : y.f0 < x0 + x1
        · rw [decide_eq_true c1, if_pos c1]
          unfold free_Free.j0
          exact ⟨0, [], 6, rfl, rfl⟩
        · rw [decide_eq_false c1, if_neg c1]
          exact hj
      · rw [if_neg he]
        rw [List.drop_eq_nil_of_le (by omega)] at hj ⊢
        exact hj
    · rw [if_neg hi, if_neg hi]
      exact ⟨0, [], 4, rfl, rfl⟩
  · rw [if_neg hc, if_neg hc]
    exact ⟨0, [], _, rfl, rfl⟩
theorem toP_inj {a b : List S40} (h : a.map toP = b.map toP) : a = b := by
  induction a generalizing b with
  | nil => cases b with
    | nil => rfl
    | cons y t => cases h
  | cons x t ih =>
    cases b with
    | nil => cases h
    | cons y u =>
      rw [List.map_cons, List.map_cons] at h
      injection h with h1 h2
      rw [ih h2]
      have e0 : x.f0 = y.f0 := congrArg Flag.Sp.a h1
      have e1 : x.f1 = y.f1 := congrArg Flag.Sp.n h1
      cases x; cases y
      simp only at e0 e1
      rw [e0, e1]
theorem sameS_l (l : List S40) (hl : l.length ≤ 1024) : ∀ m i : Nat, i + m = l.length → ∀ d, flagstoneplain_SameSpans.l0 (m + 1 + d) l l (i : Int) = some true := by
  intro m
  induction m with
  | zero =>
    intro i hi d
    have e : 0 + 1 + d = d + 1 := by omega
    rw [e]
    unfold flagstoneplain_SameSpans.l0
    rw [if_neg (by omega)]
  | succ m ih =>
    intro i hi d
    have e : m + 1 + 1 + d = (m + 1 + d) + 1 := by omega
    rw [e]
    unfold flagstoneplain_SameSpans.l0
    have hw2 : wrap64 ((i : Int) + 1) = ((i + 1 : Nat) : Int) := by rw [w64 (by omega)]; omega
    rw [if_pos (by omega), if_pos (by omega), if_pos (by omega), if_neg (by simp), hw2]
    exact ih (i + 1) (by omega) d
theorem sameS_K (d : Nat) (l : List S40) (hl : l.length ≤ 1024) : flagstoneplain_SameSpans.f (1030 + d) l l = some true := by
  unfold flagstoneplain_SameSpans.f
  rw [if_pos rfl]
  have e : 1030 + d = l.length + 1 + (1029 + d - l.length) := by omega
  rw [e]
  exact sameS_l l hl l.length 0 (by omega) _
theorem alike_K (d : Nat) (s : Int) (l : List S40) (hl : l.length ≤ 1024) : flagstonelaw06_Alike.f (1030 + d) s l s l = some 0 := by
  unfold flagstonelaw06_Alike.f
  rw [if_pos rfl, sameS_K d l hl, Option.bind_some, if_pos rfl]

end Go.Proofs.Ytkkfkdncddbaeaa.Fn
