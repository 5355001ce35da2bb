/- Part 5 of the walk: printed by programs of this session (by way of the kit's print) or told by hand. -/
import Derived.Test.YtkkfkdncddbaeaaU4
namespace Go.Proofs.Ytkkfkdncddbaeaa.Fn
open Go.RowKit Go.Proofs.YtkkfkdncddbaeaaW.PrintWords Go.Proofs.YtkkfkdncddbaeaaW.PrintLast Go.Proofs.YtkkfkdncddbaeaaW.PrintMore
attribute [local go_sem] max2_int min2_int max_two min_two max_three min_three max_four min_four
set_option linter.unusedVariables false
set_option linter.unusedSimpArgs false
def flagstoneref05_Put.f (k : Nat) (l0 : List (S24)) (a1_0 : Int) (a1_1 : Int) (a1_2 : Int) : Option ((List (S24)) × Int) := (flagstoneref05_Check.f k l0).bind fun t102 => (if t102 = 0 then (if a1_2 < 1 then (some (([] : List (S24)), 4)) else ((flagstoneref05_fits.f a1_0 a1_2).bind fun t103 => (if t103 = true then ((flagstoneref05_fits.f a1_1 a1_2).bind fun t104 => (if t104 = true then ((flagstoneref05_without.f k l0 a1_0 a1_2).bind fun t105 => ((flagstoneref05_merged.f k t105 (([(⟨a1_0, a1_1, a1_2⟩ : S24)] : List (S24)))).bind fun t111 => (if (t111.length : Int) > 1024 then (some (([] : List (S24)), 51)) else (some (t111, 0))))) else (some (([] : List (S24)), 4)))) else (some (([] : List (S24)), 4))))) else (some (([] : List (S24)), 9)))
theorem flagstoneref05_Put.mono : ∀ a0 a1 a2 a3 k, LeO (flagstoneref05_Put.f k a0 a1 a2 a3) (flagstoneref05_Put.f (k + 1) a0 a1 a2 a3) := by
 intro a0 a1 a2 a3 k
 unfold flagstoneref05_Put.f
 repeat' first
  | (with_reducible exact flagstoneref05_Check.mono _ _)
  | (with_reducible exact flagstoneref05_merged.mono _ _ _)
  | (with_reducible exact flagstoneref05_without.mono _ _ _ _)
  | (with_reducible exact LeO.refl _)
  | (with_reducible exact LeO.none _)
  | (with_reducible refine LeO.ite ?_ ?_)
  | (with_reducible refine LeO.bind ?_ (fun _ => ?_))
  | exact flagstoneref05_Check.mono _ _
  | exact flagstoneref05_merged.mono _ _ _
  | exact flagstoneref05_without.mono _ _ _ _
  | exact LeO.none _
  | refine LeO.ite ?_ ?_
  | refine LeO.bind ?_ (fun _ => ?_)
def flagstoneref05_Put.T5 : Bool × List (List Nat × List Nat) := (true, [([], []), ([], []), ([1], [1]), ([], []), ([3], [3]), ([0, 2, 4], [0, 2, 4]), ([], []), ([6], [6]), ([5, 7, 5], [5, 7]), ([8, 8, 0, 1, 2, 3, 4, 5, 6, 7, 8], [8])])
def flagstoneref05_Put.B5 : List Nat := [0, 0, 2, 0, 8, 31, 0, 64, 255, 511]
theorem flagstoneref05_Put.tab5 : rtab .any (opsOf Try.f28 5) = flagstoneref05_Put.T5 := by kernel_rfl
theorem flagstoneref05_Put.bits5 : waitsOk flagstoneref05_Put.T5.2 flagstoneref05_Put.B5 = true := by kernel_rfl
set_option maxHeartbeats 8000000 in
set_option maxRecDepth 100000 in
theorem flagstoneref05_Put.calls (k : Nat) (A0 : Option Addr) (c0 : Nat) (l0 : List (S24)) (a1_0 : Int) (a1_1 : Int) (a1_2 : Int) (r1 : List (S24)) (r2 : Int) (w : World) (hr0 : Kd.C k24 w A0 l0.length l0) (hc0 : l0.length ≤ c0) (h : flagstoneref05_Put.f k l0 a1_0 a1_1 a1_2 = some (r1, r2)) :
 Calls Try.prog 28 #[.slice A0 l0.length c0, .agg #[.int .i64 a1_0, .int .i64 a1_1, .int .i64 a1_2]] w fun e w' => ∃ v0_ : Value, e = .returned (.tuple #[v0_, .int .i64 r2]) ∧ Kd.R k24 24 w' w.heap.size (fun _ => True) v0_ r1 ∧ Below w.heap.size w w' := by
 have hu24 := Try.underlying24
 have HR0 := Aside0.mk hr0
 have HC0 := Aside0.mk hc0
 clear hr0 hc0
 have HB := Aside0.mk (Below.refl w.heap.size w)
 have H : ((flagstoneref05_Check.f k l0).bind fun t102 => (if t102 = 0 then (if a1_2 < 1 then (some (([] : List (S24)), 4)) else ((flagstoneref05_fits.f a1_0 a1_2).bind fun t103 => (if t103 = true then ((flagstoneref05_fits.f a1_1 a1_2).bind fun t104 => (if t104 = true then ((flagstoneref05_without.f k l0 a1_0 a1_2).bind fun t105 => ((flagstoneref05_merged.f k t105 (([(⟨a1_0, a1_1, a1_2⟩ : S24)] : List (S24)))).bind fun t111 => (if (t111.length : Int) > 1024 then (some (([] : List (S24)), 51)) else (some (t111, 0))))) else (some (([] : List (S24)), 4)))) else (some (([] : List (S24)), 4))))) else (some (([] : List (S24)), 9)))) = some (r1, r2) := h
 clear h
 replace H := Option.bind_eq_some_iff.mp H
 obtain ⟨t102, A30, H⟩ := H
 replace H : (if t102 = 0 then (if a1_2 < 1 then (some (([] : List (S24)), 4)) else ((flagstoneref05_fits.f a1_0 a1_2).bind fun t103 => (if t103 = true then ((flagstoneref05_fits.f a1_1 a1_2).bind fun t104 => (if t104 = true then ((flagstoneref05_without.f k l0 a1_0 a1_2).bind fun t105 => ((flagstoneref05_merged.f k t105 (([(⟨a1_0, a1_1, a1_2⟩ : S24)] : List (S24)))).bind fun t111 => (if (t111.length : Int) > 1024 then (some (([] : List (S24)), 51)) else (some (t111, 0))))) else (some (([] : List (S24)), 4)))) else (some (([] : List (S24)), 4))))) else (some (([] : List (S24)), 9))) = some (r1, r2) := H
 have A3 := Aside0.mk A30
 clear A30
 by_cases c4 : t102 = 0
 ·rw [if_pos c4] at H
  have c4b0 : (t102 == 0) = true := beq_iff_eq.mpr c4
  have c4b1 : (t102 != 0) = false := bne_eq_false_iff_eq.mpr c4
  clear c4
  by_cases c5 : a1_2 < 1
  ·rw [if_pos c5] at H
   have c5b0 : decide (a1_2 < 1) = true := decide_eq_true c5
   clear c5
   simp only [Option.some.injEq, Prod.mk.injEq] at H
   obtain ⟨rfl, rfl⟩ := H
   go_enter Try.func28, Try.ntmps28
   go_wp2_with (first | ((with_reducible refine gate_dst (N := 3) rfl ?_); refine box_event ?hg (N := 3) ?hd (cs := #[.int .i64 a1_0, .int .i64 a1_1, .int .i64 a1_2]) (t := 24) ?hr ?_; (case hd => rfl); (case hg => rfl); (case hr => first | (go_simp; done) | (go_simp; rfl)); intro gb101 hg w6 hbox hb; have n0_ := Aside0.mk (below_step (by repeat (first | (with_reducible first | exact HB.out | apply below_alloc | apply pw_below_drewN | apply below_drew1) | exact HB.out)) hb); have n1_ := Aside0.mk (hbox); have n2_ := Aside0.mk ((by rw [hg]; exact (below_size (by repeat (first | (with_reducible first | exact HB.out | apply below_alloc | apply pw_below_drewN | apply below_drew1) | exact HB.out))) : w.heap.size ≤ gb101)); have n3_ := Aside0.mk ((by rw [hg]; exact (below_size (by repeat (first | (with_reducible first | exact HB.out | apply below_alloc | apply pw_below_drewN | apply below_drew1) | exact HB.out))) : w.heap.size ≤ gb101)); clear HB; have HB := n0_; have BK101 := n1_; have GW101 := n2_; have GE101 := n3_; clear n0_ n1_ n2_ n3_; clear hb hbox hg) | ((with_reducible refine gate_callee (f := 40) rfl ?_); refine goesL_ (some 9) rfl rfl Try.func40 (by kernel_rfl) rfl #[.slice A0 l0.length c0] rfl (by (try simp only [List.map_toArray, List.map_cons, List.map_nil]); first | done | rfl | (simp only [List.length_drop, List.length_take]; rfl)) ?_; (with_reducible refine (flagstoneref05_Check.calls k _ _ l0 t102 _ ?side1 ?side2 A3.out).mono ?_); (case side1 => repeat (first | exact (Kd.C_below HR0.out HB.out) | (with_reducible refine Kd.C_alloc ?_ _) | (with_reducible refine Kd.C_drewN ?_ _) | (with_reducible refine Kd.C_drew ?_))); (case side2 => exact HC0.out); rintro e w7 ⟨rfl, hb⟩; refine ⟨_, rfl, ?_⟩; have n0_ := Aside0.mk (blk_below (g := gb101) (o := .cells #[.int .i64 a1_0, .int .i64 a1_1, .int .i64 a1_2] 24 (0, 0)) (by (with_reducible repeat (first | refine blk_drewN ?_ _ | refine blk_drew ?_ | refine blk_alloc ?_ _)); exact BK101.out) hb); have n1_ := Aside0.mk (below_step (by repeat (first | (with_reducible first | exact HB.out | apply below_alloc | apply pw_below_drewN | apply below_drew1 | refine below_set ?_ GE101.out) | exact HB.out)) hb); clear BK101; clear HB; have BK101 := n0_; have HB := n1_; clear n0_ n1_; (try clear hb); (try clear hb2); (try clear hk); (try clear hi); have hcz8_0 : w7.cell? ⟨gb101, 0, none⟩ = some (.int .i64 a1_0) := (blk_cell BK101.out 0).trans rfl; have hcz8_1 : w7.cell? ⟨gb101, 1, none⟩ = some (.int .i64 a1_1) := (blk_cell BK101.out 1).trans rfl; have hcz8_2 : w7.cell? ⟨gb101, 2, none⟩ = some (.int .i64 a1_2) := (blk_cell BK101.out 2).trans rfl; have hfz8_0 := blk_frozen BK101.out 0; have hfz8_1 := blk_frozen BK101.out 1; have hfz8_2 := blk_frozen BK101.out 2))
   go_ret2
   exact ⟨_, by first | rfl | (simp [errW_none, errW_some] <;> rfl) | (simp [*, errW_none, errW_some] <;> rfl), by first | exact Kd.R_nil _ _ _ _ _ | exact Kd.N_nil _ _ _ _ _ | exact Kd.V_nil _ _ _ _ _ | exact Kd.Q_nil _ _ _ _ _ | exact Kd.S_nil _ _ _ _ _, by repeat (first | (with_reducible first | exact HB.out | apply below_alloc | apply pw_below_drewN | apply below_drew1 | refine below_set ?_ GE101.out) | exact HB.out)⟩
  ·rw [if_neg c5] at H
   have c5b0 : decide (a1_2 < 1) = false := decide_eq_false c5
   clear c5
   replace H := Option.bind_eq_some_iff.mp H
   obtain ⟨t103, A90, H⟩ := H
   replace H : (if t103 = true then ((flagstoneref05_fits.f a1_1 a1_2).bind fun t104 => (if t104 = true then ((flagstoneref05_without.f k l0 a1_0 a1_2).bind fun t105 => ((flagstoneref05_merged.f k t105 (([(⟨a1_0, a1_1, a1_2⟩ : S24)] : List (S24)))).bind fun t111 => (if (t111.length : Int) > 1024 then (some (([] : List (S24)), 51)) else (some (t111, 0))))) else (some (([] : List (S24)), 4)))) else (some (([] : List (S24)), 4))) = some (r1, r2) := H
   have A9 := Aside0.mk A90
   clear A90
   by_cases c10 : t103 = true
   ·subst c10
    have H1 : ((flagstoneref05_fits.f a1_1 a1_2).bind fun t104 => (if t104 = true then ((flagstoneref05_without.f k l0 a1_0 a1_2).bind fun t105 => ((flagstoneref05_merged.f k t105 (([(⟨a1_0, a1_1, a1_2⟩ : S24)] : List (S24)))).bind fun t111 => (if (t111.length : Int) > 1024 then (some (([] : List (S24)), 51)) else (some (t111, 0))))) else (some (([] : List (S24)), 4)))) = some (r1, r2) := by rw [if_pos rfl] at H; exact H
    clear H
    have H := H1
    clear H1
    replace H := Option.bind_eq_some_iff.mp H
    obtain ⟨t104, A110, H⟩ := H
    replace H : (if t104 = true then ((flagstoneref05_without.f k l0 a1_0 a1_2).bind fun t105 => ((flagstoneref05_merged.f k t105 (([(⟨a1_0, a1_1, a1_2⟩ : S24)] : List (S24)))).bind fun t111 => (if (t111.length : Int) > 1024 then (some (([] : List (S24)), 51)) else (some (t111, 0))))) else (some (([] : List (S24)), 4))) = some (r1, r2) := H
    have A11 := Aside0.mk A110
    clear A110
    by_cases c12 : t104 = true
    ·subst c12
     have H1 : ((flagstoneref05_without.f k l0 a1_0 a1_2).bind fun t105 => ((flagstoneref05_merged.f k t105 (([(⟨a1_0, a1_1, a1_2⟩ : S24)] : List (S24)))).bind fun t111 => (if (t111.length : Int) > 1024 then (some (([] : List (S24)), 51)) else (some (t111, 0))))) = some (r1, r2) := by rw [if_pos rfl] at H; exact H
     clear H
     have H := H1
     clear H1
     replace H := Option.bind_eq_some_iff.mp H
     obtain ⟨t105, A130, H⟩ := H
     replace H : ((flagstoneref05_merged.f k t105 (([(⟨a1_0, a1_1, a1_2⟩ : S24)] : List (S24)))).bind fun t111 => (if (t111.length : Int) > 1024 then (some (([] : List (S24)), 51)) else (some (t111, 0)))) = some (r1, r2) := H
     have A13 := Aside0.mk A130
     clear A130
     obtain ⟨y108, hy108⟩ : ∃ y_ : List (S24), y_ = (([(⟨a1_0, a1_1, a1_2⟩ : S24)] : List (S24))) := ⟨_, rfl⟩
     replace H : ((flagstoneref05_merged.f k t105 y108).bind fun t111 => (if (t111.length : Int) > 1024 then (some (([] : List (S24)), 51)) else (some (t111, 0)))) = some (r1, r2) := by first | (rw [hy108]; with_reducible exact H) | (have H2_ := (Option.bind_some _ _).symm.trans H; rw [hy108]; with_reducible exact H2_) | (have H2_ := (Option.bind_some _ _).symm.trans H; with_reducible exact H2_) | with_reducible exact H | (rw [hy108]; exact H) | exact H
     have Ny108 := Aside0.mk hy108
     clear hy108
     replace H := Option.bind_eq_some_iff.mp H
     obtain ⟨t111, A140, H⟩ := H
     replace H : (if (t111.length : Int) > 1024 then (some (([] : List (S24)), 51)) else (some (t111, 0))) = some (r1, r2) := H
     have A14 := Aside0.mk A140
     clear A140
     by_cases c15 : (t111.length : Int) > 1024
     ·rw [if_pos c15] at H
      have c15b0 : decide (1024 < (t111.length : Int)) = true := decide_eq_true c15
      have c15b1 : decide (1024 < t111.length) = true := decide_eq_true (by omega)
      clear c15
      simp only [Option.some.injEq, Prod.mk.injEq] at H
      obtain ⟨rfl, rfl⟩ := H
      go_enter Try.func28, Try.ntmps28
      try go_wp2_with (first | ((with_reducible refine gate_dst (N := 3) rfl ?_); refine box_event ?hg (N := 3) ?hd (cs := #[.int .i64 a1_0, .int .i64 a1_1, .int .i64 a1_2]) (t := 24) ?hr ?_; (case hd => rfl); (case hg => rfl); (case hr => first | (go_simp; done) | (go_simp; rfl)); intro gb101 hg w16 hbox hb; have n0_ := Aside0.mk (below_step (by repeat (first | (with_reducible first | exact HB.out | apply below_alloc | apply pw_below_drewN | apply below_drew1) | exact HB.out)) hb); have n1_ := Aside0.mk (hbox); have n2_ := Aside0.mk ((by rw [hg]; exact (below_size (by repeat (first | (with_reducible first | exact HB.out | apply below_alloc | apply pw_below_drewN | apply below_drew1) | exact HB.out))) : w.heap.size ≤ gb101)); have n3_ := Aside0.mk ((by rw [hg]; exact (below_size (by repeat (first | (with_reducible first | exact HB.out | apply below_alloc | apply pw_below_drewN | apply below_drew1) | exact HB.out))) : w.heap.size ≤ gb101)); clear HB; have HB := n0_; have BK101 := n1_; have GW101 := n2_; have GE101 := n3_; clear n0_ n1_ n2_ n3_; clear hb hbox hg) | ((with_reducible refine gate_callee (f := 40) rfl ?_); refine goesL_ (some 9) rfl rfl Try.func40 (by kernel_rfl) rfl #[.slice A0 l0.length c0] rfl (by (try simp only [List.map_toArray, List.map_cons, List.map_nil]); first | done | rfl | (simp only [List.length_drop, List.length_take]; rfl)) ?_; (with_reducible refine (flagstoneref05_Check.calls k _ _ l0 t102 _ ?side1 ?side2 A3.out).mono ?_); (case side1 => repeat (first | exact (Kd.C_below HR0.out HB.out) | (with_reducible refine Kd.C_alloc ?_ _) | (with_reducible refine Kd.C_drewN ?_ _) | (with_reducible refine Kd.C_drew ?_))); (case side2 => exact HC0.out); rintro e w17 ⟨rfl, hb⟩; refine ⟨_, rfl, ?_⟩; have n0_ := Aside0.mk (blk_below (g := gb101) (o := .cells #[.int .i64 a1_0, .int .i64 a1_1, .int .i64 a1_2] 24 (0, 0)) (by (with_reducible repeat (first | refine blk_drewN ?_ _ | refine blk_drew ?_ | refine blk_alloc ?_ _)); exact BK101.out) hb); have n1_ := Aside0.mk (below_step (by repeat (first | (with_reducible first | exact HB.out | apply below_alloc | apply pw_below_drewN | apply below_drew1 | refine below_set ?_ GE101.out) | exact HB.out)) hb); clear BK101; clear HB; have BK101 := n0_; have HB := n1_; clear n0_ n1_; (try clear hb); (try clear hb2); (try clear hk); (try clear hi); have hcz18_0 : w17.cell? ⟨gb101, 0, none⟩ = some (.int .i64 a1_0) := (blk_cell BK101.out 0).trans rfl; have hcz18_1 : w17.cell? ⟨gb101, 1, none⟩ = some (.int .i64 a1_1) := (blk_cell BK101.out 1).trans rfl; have hcz18_2 : w17.cell? ⟨gb101, 2, none⟩ = some (.int .i64 a1_2) := (blk_cell BK101.out 2).trans rfl; have hfz18_0 := blk_frozen BK101.out 0; have hfz18_1 := blk_frozen BK101.out 1; have hfz18_2 := blk_frozen BK101.out 2) | (go_at_call 89; (with_reducible refine (flagstoneref05_fits.calls a1_0 a1_2 true _ A9.out).mono ?_); rintro e w' ⟨rfl, ⟨nd, rfl⟩⟩) | (go_at_call 89; (with_reducible refine (flagstoneref05_fits.calls a1_1 a1_2 true _ A11.out).mono ?_); rintro e w' ⟨rfl, ⟨nd, rfl⟩⟩))
      (try (rw [drewN_self w17]; generalize hq_ : World.drewN w17 _ = w17; have n0_ : Aside0 (w17.heap[gb101]? = some (.cells #[.int .i64 a1_0, .int .i64 a1_1, .int .i64 a1_2] 24 (0, 0))) := ⟨by rw [← hq_]; exact (by (with_reducible repeat (first | refine blk_drewN ?_ _ | refine blk_drew ?_ | refine blk_alloc ?_ _)); exact BK101.out)⟩; have n1_ : Aside0 (Below w.heap.size w w17) := ⟨by rw [← hq_]; exact (by repeat (first | (with_reducible first | exact HB.out | apply below_alloc | apply pw_below_drewN | apply below_drew1 | refine below_set ?_ GE101.out) | exact HB.out))⟩; clear BK101 HB hq_; have BK101 := n0_; have HB := n1_; clear n0_ n1_))
      have n0_ := Aside0.mk (blk_drew BK101.out)
      have n1_ := Aside0.mk (below_drew1 HB.out)
      clear BK101
      clear HB
      have BK101 := n0_
      have HB := n1_
      clear n0_ n1_
      refine start_ (n := 10) (S := fun w' => True) (ds := []) #[yF,yF,yF,yF,yF,yF,yF,yF,yF,yF] (by kernel_rfl) rfl rfl trivial (fun hHeld => ?_); refine with_tabW flagstoneref05_Put.tab5 flagstoneref05_Put.bits5 (fun HT_ HW_ => ?_)
      generalize w17.drew = w19 at BK101 HB hHeld ⊢
      refine pu_ 0 31 10 1 ?_
      refine pu_ 1 32 10 3 ?_
      refine pu_ 3 34 10 11 ?_
      refine inv_at [2, 4, 5, 6, 7, 8, 9] (fun a0_ b a w' => ∃ (v106 : Value) (v109 : Value) (v112 : Value) (m9_ : Value), a = putSel a0_ b [(2, 33, .int .i64 a1_0), (4, 35, .int .i64 a1_2), (5, 36, v106), (6, 37, .agg #[.int .i64 a1_0, .int .i64 a1_1, .int .i64 a1_2]), (7, 38, v109), (8, 39, v112), (9, 6, m9_)] ∧ (w'.heap[gb101]? = some (.cells #[.int .i64 a1_0, .int .i64 a1_1, .int .i64 a1_2] 24 (0, 0))) ∧ (Below w.heap.size w w') ∧ (b 5 = true → Kd.R k24 24 w' w.heap.size (fun k_ => k_ ≠ gb101) v106 t105) ∧ (b 7 = true → Kd.R k24 24 w' w.heap.size (fun k_ => k_ ≠ gb101) v109 y108) ∧ (b 8 = true → Kd.R k24 24 w' w.heap.size (fun k_ => k_ ≠ gb101) v112 t111) ∧ (b 9 = true → (m9_ : Value) = v112)) HT_.out HW_.out (by kernel_rfl) (by kernel_rfl) ?_ ?_ ?_
      ·exact ⟨.bool false, .bool false, .bool false, .bool false, by simp only [putSel, Bool.false_eq_true, if_false], BK101.out, HB.out, fun h_ => absurd h_ (by decide), fun h_ => absurd h_ (by decide), fun h_ => absurd h_ (by decide), fun h_ => absurd h_ (by decide)⟩
      ·skip
       clear BK101 HB
       refine steps_cons ?_ ?_
       ·rintro b a w' ⟨v106, v109, v112, m9_, ha, Q_BK101, Q_HB, Q_HO107, Q_HO110, Q_HO113, Q_X9_⟩ hb_ hon hoff
        refine ⟨_, rfl, fun K hK => ?_⟩
        have e32 : a.tmps[32]? = some (.pointer (some ⟨gb101, 0, none⟩)) := by rw [ha]; exact (putSel_off rfl).trans rfl
        replace ha := Aside0.mk ha
        have BK101 := Aside0.mk Q_BK101
        have HB := Aside0.mk Q_HB
        have hc0_ : w'.cell? ⟨gb101, 0, none⟩ = some (.int .i64 a1_0) := (blk_cell BK101.out 0).trans rfl
        have hc1_ : w'.cell? ⟨gb101, 1, none⟩ = some (.int .i64 a1_1) := (blk_cell BK101.out 1).trans rfl
        have hc2_ : w'.cell? ⟨gb101, 2, none⟩ = some (.int .i64 a1_2) := (blk_cell BK101.out 2).trans rfl
        refine value_ (w1 := w') (v := .int .i64 a1_0) (by rfl) rfl ?_ ?_
        ·go_simp
         (try simp only [i64_w])
         try rfl
        refine hK.out _ _ ⟨v106, v109, v112, m9_, (by rw [ha.out]; exact putSel_upk 0 hb_ rfl rfl rfl), Q_BK101, Q_HB, fun h0_ => absurd ((hoff 5 (by kernel_rfl)).symm.trans h0_) (by decide), Q_HO110, fun h0_ => absurd ((hoff 8 (by kernel_rfl)).symm.trans h0_) (by decide), fun h0_ => absurd ((hoff 9 (by kernel_rfl)).symm.trans h0_) (by decide)⟩
       refine steps_cons ?_ ?_
       ·rintro b a w' ⟨v106, v109, v112, m9_, ha, Q_BK101, Q_HB, Q_HO107, Q_HO110, Q_HO113, Q_X9_⟩ hb_ hon hoff
        refine ⟨_, rfl, fun K hK => ?_⟩
        have e34 : a.tmps[34]? = some (.pointer (some ⟨gb101, 2, none⟩)) := by rw [ha]; exact (putSel_off rfl).trans rfl
        replace ha := Aside0.mk ha
        have BK101 := Aside0.mk Q_BK101
        have HB := Aside0.mk Q_HB
        have hc0_ : w'.cell? ⟨gb101, 0, none⟩ = some (.int .i64 a1_0) := (blk_cell BK101.out 0).trans rfl
        have hc1_ : w'.cell? ⟨gb101, 1, none⟩ = some (.int .i64 a1_1) := (blk_cell BK101.out 1).trans rfl
        have hc2_ : w'.cell? ⟨gb101, 2, none⟩ = some (.int .i64 a1_2) := (blk_cell BK101.out 2).trans rfl
        refine value_ (w1 := w') (v := .int .i64 a1_2) (by rfl) rfl ?_ ?_
        ·go_simp
         (try simp only [i64_w])
         try rfl
        refine hK.out _ _ ⟨v106, v109, v112, m9_, (by rw [ha.out]; exact putSel_upk 1 hb_ rfl rfl rfl), Q_BK101, Q_HB, fun h0_ => absurd ((hoff 5 (by kernel_rfl)).symm.trans h0_) (by decide), Q_HO110, fun h0_ => absurd ((hoff 8 (by kernel_rfl)).symm.trans h0_) (by decide), fun h0_ => absurd ((hoff 9 (by kernel_rfl)).symm.trans h0_) (by decide)⟩
       refine steps_cons ?_ ?_
       ·rintro b a w' ⟨v106, v109, v112, m9_, ha, Q_BK101, Q_HB, Q_HO107, Q_HO110, Q_HO113, Q_X9_⟩ hb_ hon hoff
        refine ⟨_, rfl, fun K hK => ?_⟩
        have e31 : a.tmps[31]? = some (.slice A0 l0.length c0) := by rw [ha]; exact (putSel_off rfl).trans rfl
        have e33 : a.tmps[33]? = some (.int .i64 a1_0) := by rw [ha]; exact putSel_on (e := (2, 33, .int .i64 a1_0)) 0 rfl rfl (hon 2 (by kernel_rfl)) rfl
        have e35 : a.tmps[35]? = some (.int .i64 a1_2) := by rw [ha]; exact putSel_on (e := (4, 35, .int .i64 a1_2)) 1 rfl rfl (hon 4 (by kernel_rfl)) rfl
        replace ha := Aside0.mk ha
        have BK101 := Aside0.mk Q_BK101
        have HB := Aside0.mk Q_HB
        refine goes_ Try.func91 (by kernel_rfl) rfl #[.slice A0 l0.length c0, .int .i64 a1_0, .int .i64 a1_2] (by rfl) rfl rfl (by first | (simp only [List.map_toArray, List.map_cons, List.map_nil, Act.eval, Array.getD_eq_getD_getElem?, Option.getD_some, e31, e33, e35]; done) | (simp only [List.map_toArray, List.map_cons, List.map_nil, Act.eval, Array.getD_eq_getD_getElem?, Option.getD_some, e31, e33, e35]; rfl)) ?_
        with_reducible refine (flagstoneref05_without.calls k _ _ l0 a1_0 a1_2 t105 _ ?side1 ?side2 A13.out).mono ?_
        (case side1 => repeat (first | exact (Kd.C_below HR0.out HB.out) | (with_reducible refine Kd.C_alloc ?_ _) | (with_reducible refine Kd.C_drewN ?_ _) | (with_reducible refine Kd.C_drew ?_)))
        (case side2 => exact HC0.out)
        rintro e w20 ⟨v106, rfl, ho0, hb⟩
        refine ⟨_, rfl, ?_⟩
        have n0_ := Aside0.mk (Kd.R_lower (Kd.R_newB ho0 (g := gb101) (o := .cells #[.int .i64 a1_0, .int .i64 a1_1, .int .i64 a1_2] 24 (0, 0)) (by (with_reducible repeat (first | refine blk_drewN ?_ _ | refine blk_drew ?_ | refine blk_alloc ?_ _)); exact BK101.out)) (below_size (by repeat (first | (with_reducible first | exact HB.out | apply below_alloc | apply pw_below_drewN | apply below_drew1 | refine below_set ?_ GE101.out) | exact HB.out))))
        have n1_ := Aside0.mk (blk_below (g := gb101) (o := .cells #[.int .i64 a1_0, .int .i64 a1_1, .int .i64 a1_2] 24 (0, 0)) (by (with_reducible repeat (first | refine blk_drewN ?_ _ | refine blk_drew ?_ | refine blk_alloc ?_ _)); exact BK101.out) hb)
        have n2_ := Aside0.mk (below_step (by repeat (first | (with_reducible first | exact HB.out | apply below_alloc | apply pw_below_drewN | apply below_drew1 | refine below_set ?_ GE101.out) | exact HB.out)) hb)
        have z_HO110 := fun (h0_ : b 7 = true) => (show Kd.R k24 24 w20 w.heap.size (fun k_ => k_ ≠ gb101) v109 y108 from by first | exact (Kd.R_elder' (by (with_reducible repeat (first | apply Kd.R_alloc | apply Kd.R_drewN | apply Kd.R_drew)); exact (Q_HO110 h0_)) (Kd.R_base ho0) hb) | exact Kd.R_mono (Kd.R_elder' (by (with_reducible repeat (first | apply Kd.R_alloc | apply Kd.R_drewN | apply Kd.R_drew)); exact (Q_HO110 h0_)) (Kd.R_base ho0) hb) (fun _ h_ => by first | trivial | exact h_ | exact h_.1))
        clear BK101
        clear HB
        have HO107 := n0_
        have BK101 := n1_
        have HB := n2_
        clear n0_ n1_ n2_
        (try clear hb)
        (try clear hb2)
        (try clear hk)
        (try clear hi)
        (try clear ho0)
        refine hK.out _ _ ⟨v106, v109, v112, m9_, (by rw [ha.out]; exact putSel_upk 2 hb_ rfl rfl rfl), (by (with_reducible repeat (first | refine blk_drewN ?_ _ | refine blk_drew ?_ | refine blk_alloc ?_ _)); exact BK101.out), (by repeat (first | (with_reducible first | exact HB.out | apply below_alloc | apply pw_below_drewN | apply below_drew1 | refine below_set ?_ GE101.out) | exact HB.out)), fun _ => (by (with_reducible repeat (first | apply Kd.R_alloc | apply Kd.R_drewN | apply Kd.R_drew)); exact Kd.R_mono HO107.out (fun _ hk => hk.2)), z_HO110, fun h0_ => absurd ((hoff 8 (by kernel_rfl)).symm.trans h0_) (by decide), fun h0_ => absurd ((hoff 9 (by kernel_rfl)).symm.trans h0_) (by decide)⟩
       refine steps_cons ?_ ?_
       ·rintro b a w' ⟨v106, v109, v112, m9_, ha, Q_BK101, Q_HB, Q_HO107, Q_HO110, Q_HO113, Q_X9_⟩ hb_ hon hoff
        refine ⟨_, rfl, fun K hK => ?_⟩
        have e3 : a.tmps[3]? = some (.pointer (some ⟨gb101, 0, none⟩)) := by rw [ha]; exact (putSel_off rfl).trans rfl
        replace ha := Aside0.mk ha
        have BK101 := Aside0.mk Q_BK101
        have HB := Aside0.mk Q_HB
        have hc0_ : w'.cell? ⟨gb101, 0, none⟩ = some (.int .i64 a1_0) := (blk_cell BK101.out 0).trans rfl
        have hc1_ : w'.cell? ⟨gb101, 1, none⟩ = some (.int .i64 a1_1) := (blk_cell BK101.out 1).trans rfl
        have hc2_ : w'.cell? ⟨gb101, 2, none⟩ = some (.int .i64 a1_2) := (blk_cell BK101.out 2).trans rfl
        refine value_ (w1 := w') (v := .agg #[.int .i64 a1_0, .int .i64 a1_1, .int .i64 a1_2]) (by rfl) rfl ?_ ?_
        ·go_simp
         (try simp only [i64_w])
         try rfl
        refine hK.out _ _ ⟨v106, v109, v112, m9_, (by rw [ha.out]; exact putSel_upk 3 hb_ rfl rfl rfl), Q_BK101, Q_HB, Q_HO107, fun h0_ => absurd ((hoff 7 (by kernel_rfl)).symm.trans h0_) (by decide), fun h0_ => absurd ((hoff 8 (by kernel_rfl)).symm.trans h0_) (by decide), fun h0_ => absurd ((hoff 9 (by kernel_rfl)).symm.trans h0_) (by decide)⟩
       refine steps_cons ?_ ?_
       ·rintro b a w' ⟨v106, v109, v112, m9_, ha, Q_BK101, Q_HB, Q_HO107, Q_HO110, Q_HO113, Q_X9_⟩ hb_ hon hoff
        refine ⟨_, rfl, fun K hK => ?_⟩
        have e37 : a.tmps[37]? = some (.agg #[.int .i64 a1_0, .int .i64 a1_1, .int .i64 a1_2]) := by rw [ha]; exact putSel_on (e := (6, 37, .agg #[.int .i64 a1_0, .int .i64 a1_1, .int .i64 a1_2])) 3 rfl rfl (hon 6 (by kernel_rfl)) rfl
        replace ha := Aside0.mk ha
        have BK101 := Aside0.mk Q_BK101
        have HB := Aside0.mk Q_HB
        refine Kd.R_lit_step k24 _ 24 ?hg (N := 38) ?hd (xs := ([(⟨a1_0, a1_1, a1_2⟩ : S24)] : List (S24))) (inner := [.int .i64 a1_0, .int .i64 a1_1, .int .i64 a1_2]) (ok := fun _ => True) (okp := fun _ => True) ?hr ?hp (fun _ hk => hk) trivial (Below.refl _ _) (Nat.le_refl _) (by simp) ?_; (case hd => rfl); (case hg => rfl); (case hr => first | (go_simp; done) | (go_simp; rfl)); (case hp => exact (Reps.c3 (show Kd.M k24 _ _ _ (⟨a1_0, a1_1, a1_2⟩ : S24) [.int .i64 a1_0, .int .i64 a1_1, .int .i64 a1_2] from (k24_mkM _ _ _ (⟨a1_0, a1_1, a1_2⟩ : S24) )) (Reps.none _ _)))
        intro v109 w20 ho21 hb hg_ hnew_
        clear hg_ hnew_
        (first | rw [← Ny108.out] at ho21 | (simp only [Int.reduceToNat] at ho21; rw [← Ny108.out] at ho21))
        have n0_ := Aside0.mk (Kd.R_lower (Kd.R_newB ho21 (g := gb101) (o := .cells #[.int .i64 a1_0, .int .i64 a1_1, .int .i64 a1_2] 24 (0, 0)) (by (with_reducible repeat (first | refine blk_drewN ?_ _ | refine blk_drew ?_ | refine blk_alloc ?_ _)); exact BK101.out)) (below_size (by repeat (first | (with_reducible first | exact HB.out | apply below_alloc | apply pw_below_drewN | apply below_drew1 | refine below_set ?_ GE101.out) | exact HB.out))))
        have n1_ := Aside0.mk (blk_below (g := gb101) (o := .cells #[.int .i64 a1_0, .int .i64 a1_1, .int .i64 a1_2] 24 (0, 0)) (by (with_reducible repeat (first | refine blk_drewN ?_ _ | refine blk_drew ?_ | refine blk_alloc ?_ _)); exact BK101.out) hb)
        have n2_ := Aside0.mk (below_step (by repeat (first | (with_reducible first | exact HB.out | apply below_alloc | apply pw_below_drewN | apply below_drew1 | refine below_set ?_ GE101.out) | exact HB.out)) hb)
        have z_HO107 := fun (h0_ : b 5 = true) => (show Kd.R k24 24 w20 w.heap.size (fun k_ => k_ ≠ gb101) v106 t105 from by first | exact (Kd.R_elder' (by (with_reducible repeat (first | apply Kd.R_alloc | apply Kd.R_drewN | apply Kd.R_drew)); exact (Q_HO107 h0_)) (Kd.R_base ho21) hb) | exact Kd.R_mono (Kd.R_elder' (by (with_reducible repeat (first | apply Kd.R_alloc | apply Kd.R_drewN | apply Kd.R_drew)); exact (Q_HO107 h0_)) (Kd.R_base ho21) hb) (fun _ h_ => by first | trivial | exact h_ | exact h_.1))
        clear BK101
        clear HB
        have HO110 := n0_
        have BK101 := n1_
        have HB := n2_
        clear n0_ n1_ n2_
        clear hb ho21
        refine hK.out _ _ ⟨v106, v109, v112, m9_, (by rw [ha.out]; exact putSel_upk 4 hb_ rfl rfl rfl), (by (with_reducible repeat (first | refine blk_drewN ?_ _ | refine blk_drew ?_ | refine blk_alloc ?_ _)); exact BK101.out), (by repeat (first | (with_reducible first | exact HB.out | apply below_alloc | apply pw_below_drewN | apply below_drew1 | refine below_set ?_ GE101.out) | exact HB.out)), z_HO107, fun _ => (by (with_reducible repeat (first | apply Kd.R_alloc | apply Kd.R_drewN | apply Kd.R_drew)); exact Kd.R_mono HO110.out (fun _ hk => hk.2)), fun h0_ => absurd ((hoff 8 (by kernel_rfl)).symm.trans h0_) (by decide), fun h0_ => absurd ((hoff 9 (by kernel_rfl)).symm.trans h0_) (by decide)⟩
       refine steps_cons ?_ ?_
       ·rintro b a w' ⟨v106, v109, v112, m9_, ha, Q_BK101, Q_HB, Q_HO107, Q_HO110, Q_HO113, Q_X9_⟩ hb_ hon hoff
        refine ⟨_, rfl, fun K hK => ?_⟩
        have e36 : a.tmps[36]? = some (v106) := by rw [ha]; exact putSel_on (e := (5, 36, v106)) 2 rfl rfl (hon 5 (by kernel_rfl)) rfl
        have e38 : a.tmps[38]? = some (v109) := by rw [ha]; exact putSel_on (e := (7, 38, v109)) 4 rfl rfl (hon 7 (by kernel_rfl)) rfl
        replace ha := Aside0.mk ha
        have BK101 := Aside0.mk Q_BK101
        have HB := Aside0.mk Q_HB
        have HO107 := Aside0.mk (Q_HO107 (hon 5 (by kernel_rfl)))
        have HO110 := Aside0.mk (Q_HO110 (hon 7 (by kernel_rfl)))
        obtain ⟨Ao24, co24, eo24⟩ := Kd.R_slice HO107.out
        (first | subst eo24 | (injection eo24 with f1_ f2_ f3_; have f4_ := f1_.symm; have f5_ := f3_.symm; clear f1_ f2_ f3_; subst f4_; subst f5_))
        obtain ⟨Ao25, co25, eo25⟩ := Kd.R_slice HO110.out
        (first | subst eo25 | (injection eo25 with f1_ f2_ f3_; have f4_ := f1_.symm; have f5_ := f3_.symm; clear f1_ f2_ f3_; subst f4_; subst f5_))
        refine goes_ Try.func90 (by kernel_rfl) rfl #[.slice Ao24 t105.length co24, .slice Ao25 y108.length co25] (by rfl) rfl rfl (by first | (simp only [List.map_toArray, List.map_cons, List.map_nil, Act.eval, Array.getD_eq_getD_getElem?, Option.getD_some, e36, e38]; done) | (simp only [List.map_toArray, List.map_cons, List.map_nil, Act.eval, Array.getD_eq_getD_getElem?, Option.getD_some, e36, e38]; rfl)) ?_
        with_reducible refine (flagstoneref05_merged.calls k _ _ t105 _ _ y108 t111 _ ?side1 ?side2 ?side3 ?side4 A14.out).mono ?_
        (case side1 => repeat (first | exact (Kd.R_reads' HO107.out).2.2 | (with_reducible refine Kd.C_alloc ?_ _) | (with_reducible refine Kd.C_drewN ?_ _) | (with_reducible refine Kd.C_drew ?_)))
        (case side2 => exact (Kd.R_reads' HO107.out).2.1)
        (case side3 => repeat (first | exact (Kd.R_reads' HO110.out).2.2 | (with_reducible refine Kd.C_alloc ?_ _) | (with_reducible refine Kd.C_drewN ?_ _) | (with_reducible refine Kd.C_drew ?_)))
        (case side4 => exact (Kd.R_reads' HO110.out).2.1)
        rintro e w26 ⟨v112, rfl, ho0, hb⟩
        refine ⟨_, rfl, ?_⟩
        have n0_ := Aside0.mk (Kd.R_elder' (by (with_reducible repeat (first | apply Kd.R_alloc | apply Kd.R_drewN | apply Kd.R_drew)); exact HO107.out) (Kd.R_base ho0) hb)
        have n1_ := Aside0.mk (Kd.R_elder' (by (with_reducible repeat (first | apply Kd.R_alloc | apply Kd.R_drewN | apply Kd.R_drew)); exact HO110.out) (Kd.R_base ho0) hb)
        have n2_ := Aside0.mk (Kd.R_lower (Kd.R_newB (Kd.R_new' (Kd.R_new' ho0 (Kd.R_lt (by (with_reducible repeat (first | apply Kd.R_alloc | apply Kd.R_drewN | apply Kd.R_drew)); exact HO107.out))) (Kd.R_lt (by (with_reducible repeat (first | apply Kd.R_alloc | apply Kd.R_drewN | apply Kd.R_drew)); exact HO110.out))) (g := gb101) (o := .cells #[.int .i64 a1_0, .int .i64 a1_1, .int .i64 a1_2] 24 (0, 0)) (by (with_reducible repeat (first | refine blk_drewN ?_ _ | refine blk_drew ?_ | refine blk_alloc ?_ _)); exact BK101.out)) (below_size (by repeat (first | (with_reducible first | exact HB.out | apply below_alloc | apply pw_below_drewN | apply below_drew1 | refine below_set ?_ GE101.out) | exact HB.out))))
        have n3_ := Aside0.mk (blk_below (g := gb101) (o := .cells #[.int .i64 a1_0, .int .i64 a1_1, .int .i64 a1_2] 24 (0, 0)) (by (with_reducible repeat (first | refine blk_drewN ?_ _ | refine blk_drew ?_ | refine blk_alloc ?_ _)); exact BK101.out) hb)
        have n4_ := Aside0.mk (below_step (by repeat (first | (with_reducible first | exact HB.out | apply below_alloc | apply pw_below_drewN | apply below_drew1 | refine below_set ?_ GE101.out) | exact HB.out)) hb)
        clear HO107
        clear HO110
        clear BK101
        clear HB
        have HO107 := n0_
        have HO110 := n1_
        have HO113 := n2_
        have BK101 := n3_
        have HB := n4_
        clear n0_ n1_ n2_ n3_ n4_
        (try clear hb)
        (try clear hb2)
        (try clear hk)
        (try clear hi)
        (try clear ho0)
        refine hK.out _ _ ⟨.slice Ao24 t105.length co24, .slice Ao25 y108.length co25, v112, m9_, (by rw [ha.out]; exact putSel_upk 5 hb_ rfl rfl rfl), (by (with_reducible repeat (first | refine blk_drewN ?_ _ | refine blk_drew ?_ | refine blk_alloc ?_ _)); exact BK101.out), (by repeat (first | (with_reducible first | exact HB.out | apply below_alloc | apply pw_below_drewN | apply below_drew1 | refine below_set ?_ GE101.out) | exact HB.out)), fun _ => (by (with_reducible repeat (first | apply Kd.R_alloc | apply Kd.R_drewN | apply Kd.R_drew)); exact Kd.R_mono HO107.out (fun _ hk => by first | exact ⟨hk.1.1, ⟨hk.2, hk.1.2⟩⟩ | exact hk | exact hk.1 | exact hk.2 | exact hk.1.1 | exact hk.1.2 | exact hk.1.1.1 | exact hk.1.1.2)), fun _ => (by (with_reducible repeat (first | apply Kd.R_alloc | apply Kd.R_drewN | apply Kd.R_drew)); exact Kd.R_mono HO110.out (fun _ hk => by first | exact ⟨hk.1.1, ⟨hk.2, hk.1.2⟩⟩ | exact hk | exact hk.1 | exact hk.2 | exact hk.1.1 | exact hk.1.2 | exact hk.1.1.1 | exact hk.1.1.2)), fun _ => (by (with_reducible repeat (first | apply Kd.R_alloc | apply Kd.R_drewN | apply Kd.R_drew)); exact Kd.R_mono HO113.out (fun _ hk => by first | exact ⟨hk.1.1.2, ⟨hk.1.2, hk.2⟩⟩ | exact hk | exact hk.1 | exact hk.2 | exact hk.1.1 | exact hk.1.2 | exact hk.1.1.1 | exact hk.1.1.2)), fun h0_ => absurd ((hoff 9 (by kernel_rfl)).symm.trans h0_) (by decide)⟩
       refine steps_cons ?_ ?_
       ·rintro b a w' ⟨v106, v109, v112, m9_, ha, Q_BK101, Q_HB, Q_HO107, Q_HO110, Q_HO113, Q_X9_⟩ hb_ hon hoff
        refine ⟨_, rfl, fun K hK => ?_⟩
        have e39 : a.tmps[39]? = some (v112) := by rw [ha]; exact putSel_on (e := (8, 39, v112)) 5 rfl rfl (hon 8 (by kernel_rfl)) rfl
        replace ha := Aside0.mk ha
        have BK101 := Aside0.mk Q_BK101
        have HB := Aside0.mk Q_HB
        have HO107 := Aside0.mk (Q_HO107 (hon 5 (by kernel_rfl)))
        have HO110 := Aside0.mk (Q_HO110 (hon 7 (by kernel_rfl)))
        have HO113 := Aside0.mk (Q_HO113 (hon 8 (by kernel_rfl)))
        refine value_ (w1 := w') (v := v112) (by rfl) rfl ?_ ?_
        ·go_simp
         (try simp only [i64_w])
         try rfl
        refine hK.out _ _ ⟨v106, v109, v112, (v112), (by rw [ha.out]; exact putSel_upk 6 hb_ rfl rfl rfl), Q_BK101, Q_HB, Q_HO107, Q_HO110, Q_HO113, fun _ => rfl⟩
       exact steps_nil
      rintro b a w26 hall ⟨v106, v109, v112, m9_, ha, Q_BK101, Q_HB, Q_HO107, Q_HO110, Q_HO113, Q_X9_⟩
      clear BK101 HB
      have hb2_ := hall 2 (by kernel_rfl)
      have hb4_ := hall 4 (by kernel_rfl)
      have hb5_ := hall 5 (by kernel_rfl)
      have hb6_ := hall 6 (by kernel_rfl)
      have hb7_ := hall 7 (by kernel_rfl)
      have hb8_ := hall 8 (by kernel_rfl)
      have hb9_ := hall 9 (by kernel_rfl)
      subst ha
      obtain rfl := Q_X9_ hb9_
      simp only [putSel, hb2_, hb4_, hb5_, hb6_, hb7_, hb8_, hb9_, if_true, Act.put, List.setIfInBounds_toArray, List.set_cons_zero, List.set_cons_succ]
      have BK101 := Aside0.mk Q_BK101
      clear Q_BK101
      have HB := Aside0.mk Q_HB
      clear Q_HB
      have HO107 := Aside0.mk (Q_HO107 hb5_)
      clear Q_HO107
      have HO110 := Aside0.mk (Q_HO110 hb7_)
      clear Q_HO110
      have HO113 := Aside0.mk (Q_HO113 hb8_)
      clear Q_HO113
      clear hall hb2_ hb4_ hb5_ hb6_ hb7_ hb8_ hb9_
      obtain ⟨Ao27, co27, eo27⟩ := Kd.R_slice HO113.out
      subst eo27
      try go_wp2
      go_ret2
      exact ⟨_, by first | rfl | (simp [errW_none, errW_some] <;> rfl) | (simp [*, errW_none, errW_some] <;> rfl), by first | exact Kd.R_nil _ _ _ _ _ | exact Kd.N_nil _ _ _ _ _ | exact Kd.V_nil _ _ _ _ _ | exact Kd.Q_nil _ _ _ _ _ | exact Kd.S_nil _ _ _ _ _, by repeat (first | (with_reducible first | exact HB.out | apply below_alloc | apply pw_below_drewN | apply below_drew1 | refine below_set ?_ GE101.out) | exact HB.out)⟩
     ·rw [if_neg c15] at H
      have c15b0 : decide (1024 < (t111.length : Int)) = false := decide_eq_false c15
      have c15b1 : decide (1024 < t111.length) = false := decide_eq_false (by omega)
      clear c15
      simp only [Option.some.injEq, Prod.mk.injEq] at H
      obtain ⟨rfl, rfl⟩ := H
      go_enter Try.func28, Try.ntmps28
      try go_wp2_with (first | ((with_reducible refine gate_dst (N := 3) rfl ?_); refine box_event ?hg (N := 3) ?hd (cs := #[.int .i64 a1_0, .int .i64 a1_1, .int .i64 a1_2]) (t := 24) ?hr ?_; (case hd => rfl); (case hg => rfl); (case hr => first | (go_simp; done) | (go_simp; rfl)); intro gb101 hg w28 hbox hb; have n0_ := Aside0.mk (below_step (by repeat (first | (with_reducible first | exact HB.out | apply below_alloc | apply pw_below_drewN | apply below_drew1) | exact HB.out)) hb); have n1_ := Aside0.mk (hbox); have n2_ := Aside0.mk ((by rw [hg]; exact (below_size (by repeat (first | (with_reducible first | exact HB.out | apply below_alloc | apply pw_below_drewN | apply below_drew1) | exact HB.out))) : w.heap.size ≤ gb101)); have n3_ := Aside0.mk ((by rw [hg]; exact (below_size (by repeat (first | (with_reducible first | exact HB.out | apply below_alloc | apply pw_below_drewN | apply below_drew1) | exact HB.out))) : w.heap.size ≤ gb101)); clear HB; have HB := n0_; have BK101 := n1_; have GW101 := n2_; have GE101 := n3_; clear n0_ n1_ n2_ n3_; clear hb hbox hg) | ((with_reducible refine gate_callee (f := 40) rfl ?_); refine goesL_ (some 9) rfl rfl Try.func40 (by kernel_rfl) rfl #[.slice A0 l0.length c0] rfl (by (try simp only [List.map_toArray, List.map_cons, List.map_nil]); first | done | rfl | (simp only [List.length_drop, List.length_take]; rfl)) ?_; (with_reducible refine (flagstoneref05_Check.calls k _ _ l0 t102 _ ?side1 ?side2 A3.out).mono ?_); (case side1 => repeat (first | exact (Kd.C_below HR0.out HB.out) | (with_reducible refine Kd.C_alloc ?_ _) | (with_reducible refine Kd.C_drewN ?_ _) | (with_reducible refine Kd.C_drew ?_))); (case side2 => exact HC0.out); rintro e w29 ⟨rfl, hb⟩; refine ⟨_, rfl, ?_⟩; have n0_ := Aside0.mk (blk_below (g := gb101) (o := .cells #[.int .i64 a1_0, .int .i64 a1_1, .int .i64 a1_2] 24 (0, 0)) (by (with_reducible repeat (first | refine blk_drewN ?_ _ | refine blk_drew ?_ | refine blk_alloc ?_ _)); exact BK101.out) hb); have n1_ := Aside0.mk (below_step (by repeat (first | (with_reducible first | exact HB.out | apply below_alloc | apply pw_below_drewN | apply below_drew1 | refine below_set ?_ GE101.out) | exact HB.out)) hb); clear BK101; clear HB; have BK101 := n0_; have HB := n1_; clear n0_ n1_; (try clear hb); (try clear hb2); (try clear hk); (try clear hi); have hcz30_0 : w29.cell? ⟨gb101, 0, none⟩ = some (.int .i64 a1_0) := (blk_cell BK101.out 0).trans rfl; have hcz30_1 : w29.cell? ⟨gb101, 1, none⟩ = some (.int .i64 a1_1) := (blk_cell BK101.out 1).trans rfl; have hcz30_2 : w29.cell? ⟨gb101, 2, none⟩ = some (.int .i64 a1_2) := (blk_cell BK101.out 2).trans rfl; have hfz30_0 := blk_frozen BK101.out 0; have hfz30_1 := blk_frozen BK101.out 1; have hfz30_2 := blk_frozen BK101.out 2) | (go_at_call 89; (with_reducible refine (flagstoneref05_fits.calls a1_0 a1_2 true _ A9.out).mono ?_); rintro e w' ⟨rfl, ⟨nd, rfl⟩⟩) | (go_at_call 89; (with_reducible refine (flagstoneref05_fits.calls a1_1 a1_2 true _ A11.out).mono ?_); rintro e w' ⟨rfl, ⟨nd, rfl⟩⟩))
      (try (rw [drewN_self w29]; generalize hq_ : World.drewN w29 _ = w29; have n0_ : Aside0 (w29.heap[gb101]? = some (.cells #[.int .i64 a1_0, .int .i64 a1_1, .int .i64 a1_2] 24 (0, 0))) := ⟨by rw [← hq_]; exact (by (with_reducible repeat (first | refine blk_drewN ?_ _ | refine blk_drew ?_ | refine blk_alloc ?_ _)); exact BK101.out)⟩; have n1_ : Aside0 (Below w.heap.size w w29) := ⟨by rw [← hq_]; exact (by repeat (first | (with_reducible first | exact HB.out | apply below_alloc | apply pw_below_drewN | apply below_drew1 | refine below_set ?_ GE101.out) | exact HB.out))⟩; clear BK101 HB hq_; have BK101 := n0_; have HB := n1_; clear n0_ n1_))
      have n0_ := Aside0.mk (blk_drew BK101.out)
      have n1_ := Aside0.mk (below_drew1 HB.out)
      clear BK101
      clear HB
      have BK101 := n0_
      have HB := n1_
      clear n0_ n1_
      refine start_ (n := 10) (S := fun w' => True) (ds := []) #[yF,yF,yF,yF,yF,yF,yF,yF,yF,yF] (by kernel_rfl) rfl rfl trivial (fun hHeld => ?_); refine with_tabW flagstoneref05_Put.tab5 flagstoneref05_Put.bits5 (fun HT_ HW_ => ?_)
      generalize w29.drew = w31 at BK101 HB hHeld ⊢
      refine pu_ 0 31 10 1 ?_
      refine pu_ 1 32 10 3 ?_
      refine pu_ 3 34 10 11 ?_
      refine inv_at [2, 4, 5, 6, 7, 8, 9] (fun a0_ b a w' => ∃ (v106 : Value) (v109 : Value) (v112 : Value) (m9_ : Value), a = putSel a0_ b [(2, 33, .int .i64 a1_0), (4, 35, .int .i64 a1_2), (5, 36, v106), (6, 37, .agg #[.int .i64 a1_0, .int .i64 a1_1, .int .i64 a1_2]), (7, 38, v109), (8, 39, v112), (9, 6, m9_)] ∧ (w'.heap[gb101]? = some (.cells #[.int .i64 a1_0, .int .i64 a1_1, .int .i64 a1_2] 24 (0, 0))) ∧ (Below w.heap.size w w') ∧ (b 5 = true → Kd.R k24 24 w' w.heap.size (fun k_ => k_ ≠ gb101) v106 t105) ∧ (b 7 = true → Kd.R k24 24 w' w.heap.size (fun k_ => k_ ≠ gb101) v109 y108) ∧ (b 8 = true → Kd.R k24 24 w' w.heap.size (fun k_ => k_ ≠ gb101) v112 t111) ∧ (b 9 = true → (m9_ : Value) = v112)) HT_.out HW_.out (by kernel_rfl) (by kernel_rfl) ?_ ?_ ?_
      ·exact ⟨.bool false, .bool false, .bool false, .bool false, by simp only [putSel, Bool.false_eq_true, if_false], BK101.out, HB.out, fun h_ => absurd h_ (by decide), fun h_ => absurd h_ (by decide), fun h_ => absurd h_ (by decide), fun h_ => absurd h_ (by decide)⟩
      ·skip
       clear BK101 HB
       refine steps_cons ?_ ?_
       ·rintro b a w' ⟨v106, v109, v112, m9_, ha, Q_BK101, Q_HB, Q_HO107, Q_HO110, Q_HO113, Q_X9_⟩ hb_ hon hoff
        refine ⟨_, rfl, fun K hK => ?_⟩
        have e32 : a.tmps[32]? = some (.pointer (some ⟨gb101, 0, none⟩)) := by rw [ha]; exact (putSel_off rfl).trans rfl
        replace ha := Aside0.mk ha
        have BK101 := Aside0.mk Q_BK101
        have HB := Aside0.mk Q_HB
        have hc0_ : w'.cell? ⟨gb101, 0, none⟩ = some (.int .i64 a1_0) := (blk_cell BK101.out 0).trans rfl
        have hc1_ : w'.cell? ⟨gb101, 1, none⟩ = some (.int .i64 a1_1) := (blk_cell BK101.out 1).trans rfl
        have hc2_ : w'.cell? ⟨gb101, 2, none⟩ = some (.int .i64 a1_2) := (blk_cell BK101.out 2).trans rfl
        refine value_ (w1 := w') (v := .int .i64 a1_0) (by rfl) rfl ?_ ?_
        ·go_simp
         (try simp only [i64_w])
         try rfl
        refine hK.out _ _ ⟨v106, v109, v112, m9_, (by rw [ha.out]; exact putSel_upk 0 hb_ rfl rfl rfl), Q_BK101, Q_HB, fun h0_ => absurd ((hoff 5 (by kernel_rfl)).symm.trans h0_) (by decide), Q_HO110, fun h0_ => absurd ((hoff 8 (by kernel_rfl)).symm.trans h0_) (by decide), fun h0_ => absurd ((hoff 9 (by kernel_rfl)).symm.trans h0_) (by decide)⟩
       refine steps_cons ?_ ?_
       ·rintro b a w' ⟨v106, v109, v112, m9_, ha, Q_BK101, Q_HB, Q_HO107, Q_HO110, Q_HO113, Q_X9_⟩ hb_ hon hoff
        refine ⟨_, rfl, fun K hK => ?_⟩
        have e34 : a.tmps[34]? = some (.pointer (some ⟨gb101, 2, none⟩)) := by rw [ha]; exact (putSel_off rfl).trans rfl
        replace ha := Aside0.mk ha
        have BK101 := Aside0.mk Q_BK101
        have HB := Aside0.mk Q_HB
        have hc0_ : w'.cell? ⟨gb101, 0, none⟩ = some (.int .i64 a1_0) := (blk_cell BK101.out 0).trans rfl
        have hc1_ : w'.cell? ⟨gb101, 1, none⟩ = some (.int .i64 a1_1) := (blk_cell BK101.out 1).trans rfl
        have hc2_ : w'.cell? ⟨gb101, 2, none⟩ = some (.int .i64 a1_2) := (blk_cell BK101.out 2).trans rfl
        refine value_ (w1 := w') (v := .int .i64 a1_2) (by rfl) rfl ?_ ?_
        ·go_simp
         (try simp only [i64_w])
         try rfl
        refine hK.out _ _ ⟨v106, v109, v112, m9_, (by rw [ha.out]; exact putSel_upk 1 hb_ rfl rfl rfl), Q_BK101, Q_HB, fun h0_ => absurd ((hoff 5 (by kernel_rfl)).symm.trans h0_) (by decide), Q_HO110, fun h0_ => absurd ((hoff 8 (by kernel_rfl)).symm.trans h0_) (by decide), fun h0_ => absurd ((hoff 9 (by kernel_rfl)).symm.trans h0_) (by decide)⟩
       refine steps_cons ?_ ?_
       ·rintro b a w' ⟨v106, v109, v112, m9_, ha, Q_BK101, Q_HB, Q_HO107, Q_HO110, Q_HO113, Q_X9_⟩ hb_ hon hoff
        refine ⟨_, rfl, fun K hK => ?_⟩
        have e31 : a.tmps[31]? = some (.slice A0 l0.length c0) := by rw [ha]; exact (putSel_off rfl).trans rfl
        have e33 : a.tmps[33]? = some (.int .i64 a1_0) := by rw [ha]; exact putSel_on (e := (2, 33, .int .i64 a1_0)) 0 rfl rfl (hon 2 (by kernel_rfl)) rfl
        have e35 : a.tmps[35]? = some (.int .i64 a1_2) := by rw [ha]; exact putSel_on (e := (4, 35, .int .i64 a1_2)) 1 rfl rfl (hon 4 (by kernel_rfl)) rfl
        replace ha := Aside0.mk ha
        have BK101 := Aside0.mk Q_BK101
        have HB := Aside0.mk Q_HB
        refine goes_ Try.func91 (by kernel_rfl) rfl #[.slice A0 l0.length c0, .int .i64 a1_0, .int .i64 a1_2] (by rfl) rfl rfl (by first | (simp only [List.map_toArray, List.map_cons, List.map_nil, Act.eval, Array.getD_eq_getD_getElem?, Option.getD_some, e31, e33, e35]; done) | (simp only [List.map_toArray, List.map_cons, List.map_nil, Act.eval, Array.getD_eq_getD_getElem?, Option.getD_some, e31, e33, e35]; rfl)) ?_
        with_reducible refine (flagstoneref05_without.calls k _ _ l0 a1_0 a1_2 t105 _ ?side1 ?side2 A13.out).mono ?_
        (case side1 => repeat (first | exact (Kd.C_below HR0.out HB.out) | (with_reducible refine Kd.C_alloc ?_ _) | (with_reducible refine Kd.C_drewN ?_ _) | (with_reducible refine Kd.C_drew ?_)))
        (case side2 => exact HC0.out)
        rintro e w32 ⟨v106, rfl, ho0, hb⟩
        refine ⟨_, rfl, ?_⟩
        have n0_ := Aside0.mk (Kd.R_lower (Kd.R_newB ho0 (g := gb101) (o := .cells #[.int .i64 a1_0, .int .i64 a1_1, .int .i64 a1_2] 24 (0, 0)) (by (with_reducible repeat (first | refine blk_drewN ?_ _ | refine blk_drew ?_ | refine blk_alloc ?_ _)); exact BK101.out)) (below_size (by repeat (first | (with_reducible first | exact HB.out | apply below_alloc | apply pw_below_drewN | apply below_drew1 | refine below_set ?_ GE101.out) | exact HB.out))))
        have n1_ := Aside0.mk (blk_below (g := gb101) (o := .cells #[.int .i64 a1_0, .int .i64 a1_1, .int .i64 a1_2] 24 (0, 0)) (by (with_reducible repeat (first | refine blk_drewN ?_ _ | refine blk_drew ?_ | refine blk_alloc ?_ _)); exact BK101.out) hb)
        have n2_ := Aside0.mk (below_step (by repeat (first | (with_reducible first | exact HB.out | apply below_alloc | apply pw_below_drewN | apply below_drew1 | refine below_set ?_ GE101.out) | exact HB.out)) hb)
        have z_HO110 := fun (h0_ : b 7 = true) => (show Kd.R k24 24 w32 w.heap.size (fun k_ => k_ ≠ gb101) v109 y108 from by first | exact (Kd.R_elder' (by (with_reducible repeat (first | apply Kd.R_alloc | apply Kd.R_drewN | apply Kd.R_drew)); exact (Q_HO110 h0_)) (Kd.R_base ho0) hb) | exact Kd.R_mono (Kd.R_elder' (by (with_reducible repeat (first | apply Kd.R_alloc | apply Kd.R_drewN | apply Kd.R_drew)); exact (Q_HO110 h0_)) (Kd.R_base ho0) hb) (fun _ h_ => by first | trivial | exact h_ | exact h_.1))
        clear BK101
        clear HB
        have HO107 := n0_
        have BK101 := n1_
        have HB := n2_
        clear n0_ n1_ n2_
        (try clear hb)
        (try clear hb2)
        (try clear hk)
        (try clear hi)
        (try clear ho0)
        refine hK.out _ _ ⟨v106, v109, v112, m9_, (by rw [ha.out]; exact putSel_upk 2 hb_ rfl rfl rfl), (by (with_reducible repeat (first | refine blk_drewN ?_ _ | refine blk_drew ?_ | refine blk_alloc ?_ _)); exact BK101.out), (by repeat (first | (with_reducible first | exact HB.out | apply below_alloc | apply pw_below_drewN | apply below_drew1 | refine below_set ?_ GE101.out) | exact HB.out)), fun _ => (by (with_reducible repeat (first | apply Kd.R_alloc | apply Kd.R_drewN | apply Kd.R_drew)); exact Kd.R_mono HO107.out (fun _ hk => hk.2)), z_HO110, fun h0_ => absurd ((hoff 8 (by kernel_rfl)).symm.trans h0_) (by decide), fun h0_ => absurd ((hoff 9 (by kernel_rfl)).symm.trans h0_) (by decide)⟩
       refine steps_cons ?_ ?_
       ·rintro b a w' ⟨v106, v109, v112, m9_, ha, Q_BK101, Q_HB, Q_HO107, Q_HO110, Q_HO113, Q_X9_⟩ hb_ hon hoff
        refine ⟨_, rfl, fun K hK => ?_⟩
        have e3 : a.tmps[3]? = some (.pointer (some ⟨gb101, 0, none⟩)) := by rw [ha]; exact (putSel_off rfl).trans rfl
        replace ha := Aside0.mk ha
        have BK101 := Aside0.mk Q_BK101
        have HB := Aside0.mk Q_HB
        have hc0_ : w'.cell? ⟨gb101, 0, none⟩ = some (.int .i64 a1_0) := (blk_cell BK101.out 0).trans rfl
        have hc1_ : w'.cell? ⟨gb101, 1, none⟩ = some (.int .i64 a1_1) := (blk_cell BK101.out 1).trans rfl
        have hc2_ : w'.cell? ⟨gb101, 2, none⟩ = some (.int .i64 a1_2) := (blk_cell BK101.out 2).trans rfl
        refine value_ (w1 := w') (v := .agg #[.int .i64 a1_0, .int .i64 a1_1, .int .i64 a1_2]) (by rfl) rfl ?_ ?_
        ·go_simp
         (try simp only [i64_w])
         try rfl
        refine hK.out _ _ ⟨v106, v109, v112, m9_, (by rw [ha.out]; exact putSel_upk 3 hb_ rfl rfl rfl), Q_BK101, Q_HB, Q_HO107, fun h0_ => absurd ((hoff 7 (by kernel_rfl)).symm.trans h0_) (by decide), fun h0_ => absurd ((hoff 8 (by kernel_rfl)).symm.trans h0_) (by decide), fun h0_ => absurd ((hoff 9 (by kernel_rfl)).symm.trans h0_) (by decide)⟩
       refine steps_cons ?_ ?_
       ·rintro b a w' ⟨v106, v109, v112, m9_, ha, Q_BK101, Q_HB, Q_HO107, Q_HO110, Q_HO113, Q_X9_⟩ hb_ hon hoff
        refine ⟨_, rfl, fun K hK => ?_⟩
        have e37 : a.tmps[37]? = some (.agg #[.int .i64 a1_0, .int .i64 a1_1, .int .i64 a1_2]) := by rw [ha]; exact putSel_on (e := (6, 37, .agg #[.int .i64 a1_0, .int .i64 a1_1, .int .i64 a1_2])) 3 rfl rfl (hon 6 (by kernel_rfl)) rfl
        replace ha := Aside0.mk ha
        have BK101 := Aside0.mk Q_BK101
        have HB := Aside0.mk Q_HB
        refine Kd.R_lit_step k24 _ 24 ?hg (N := 38) ?hd (xs := ([(⟨a1_0, a1_1, a1_2⟩ : S24)] : List (S24))) (inner := [.int .i64 a1_0, .int .i64 a1_1, .int .i64 a1_2]) (ok := fun _ => True) (okp := fun _ => True) ?hr ?hp (fun _ hk => hk) trivial (Below.refl _ _) (Nat.le_refl _) (by simp) ?_; (case hd => rfl); (case hg => rfl); (case hr => first | (go_simp; done) | (go_simp; rfl)); (case hp => exact (Reps.c3 (show Kd.M k24 _ _ _ (⟨a1_0, a1_1, a1_2⟩ : S24) [.int .i64 a1_0, .int .i64 a1_1, .int .i64 a1_2] from (k24_mkM _ _ _ (⟨a1_0, a1_1, a1_2⟩ : S24) )) (Reps.none _ _)))
        intro v109 w32 ho33 hb hg_ hnew_
        clear hg_ hnew_
        (first | rw [← Ny108.out] at ho33 | (simp only [Int.reduceToNat] at ho33; rw [← Ny108.out] at ho33))
        have n0_ := Aside0.mk (Kd.R_lower (Kd.R_newB ho33 (g := gb101) (o := .cells #[.int .i64 a1_0, .int .i64 a1_1, .int .i64 a1_2] 24 (0, 0)) (by (with_reducible repeat (first | refine blk_drewN ?_ _ | refine blk_drew ?_ | refine blk_alloc ?_ _)); exact BK101.out)) (below_size (by repeat (first | (with_reducible first | exact HB.out | apply below_alloc | apply pw_below_drewN | apply below_drew1 | refine below_set ?_ GE101.out) | exact HB.out))))
        have n1_ := Aside0.mk (blk_below (g := gb101) (o := .cells #[.int .i64 a1_0, .int .i64 a1_1, .int .i64 a1_2] 24 (0, 0)) (by (with_reducible repeat (first | refine blk_drewN ?_ _ | refine blk_drew ?_ | refine blk_alloc ?_ _)); exact BK101.out) hb)
        have n2_ := Aside0.mk (below_step (by repeat (first | (with_reducible first | exact HB.out | apply below_alloc | apply pw_below_drewN | apply below_drew1 | refine below_set ?_ GE101.out) | exact HB.out)) hb)
        have z_HO107 := fun (h0_ : b 5 = true) => (show Kd.R k24 24 w32 w.heap.size (fun k_ => k_ ≠ gb101) v106 t105 from by first | exact (Kd.R_elder' (by (with_reducible repeat (first | apply Kd.R_alloc | apply Kd.R_drewN | apply Kd.R_drew)); exact (Q_HO107 h0_)) (Kd.R_base ho33) hb) | exact Kd.R_mono (Kd.R_elder' (by (with_reducible repeat (first | apply Kd.R_alloc | apply Kd.R_drewN | apply Kd.R_drew)); exact (Q_HO107 h0_)) (Kd.R_base ho33) hb) (fun _ h_ => by first | trivial | exact h_ | exact h_.1))
        clear BK101
        clear HB
        have HO110 := n0_
        have BK101 := n1_
        have HB := n2_
        clear n0_ n1_ n2_
        clear hb ho33
        refine hK.out _ _ ⟨v106, v109, v112, m9_, (by rw [ha.out]; exact putSel_upk 4 hb_ rfl rfl rfl), (by (with_reducible repeat (first | refine blk_drewN ?_ _ | refine blk_drew ?_ | refine blk_alloc ?_ _)); exact BK101.out), (by repeat (first | (with_reducible first | exact HB.out | apply below_alloc | apply pw_below_drewN | apply below_drew1 | refine below_set ?_ GE101.out) | exact HB.out)), z_HO107, fun _ => (by (with_reducible repeat (first | apply Kd.R_alloc | apply Kd.R_drewN | apply Kd.R_drew)); exact Kd.R_mono HO110.out (fun _ hk => hk.2)), fun h0_ => absurd ((hoff 8 (by kernel_rfl)).symm.trans h0_) (by decide), fun h0_ => absurd ((hoff 9 (by kernel_rfl)).symm.trans h0_) (by decide)⟩
       refine steps_cons ?_ ?_
       ·rintro b a w' ⟨v106, v109, v112, m9_, ha, Q_BK101, Q_HB, Q_HO107, Q_HO110, Q_HO113, Q_X9_⟩ hb_ hon hoff
        refine ⟨_, rfl, fun K hK => ?_⟩
        have e36 : a.tmps[36]? = some (v106) := by rw [ha]; exact putSel_on (e := (5, 36, v106)) 2 rfl rfl (hon 5 (by kernel_rfl)) rfl
        have e38 : a.tmps[38]? = some (v109) := by rw [ha]; exact putSel_on (e := (7, 38, v109)) 4 rfl rfl (hon 7 (by kernel_rfl)) rfl
        replace ha := Aside0.mk ha
        have BK101 := Aside0.mk Q_BK101
        have HB := Aside0.mk Q_HB
        have HO107 := Aside0.mk (Q_HO107 (hon 5 (by kernel_rfl)))
        have HO110 := Aside0.mk (Q_HO110 (hon 7 (by kernel_rfl)))
        obtain ⟨Ao36, co36, eo36⟩ := Kd.R_slice HO107.out
        (first | subst eo36 | (injection eo36 with f1_ f2_ f3_; have f4_ := f1_.symm; have f5_ := f3_.symm; clear f1_ f2_ f3_; subst f4_; subst f5_))
        obtain ⟨Ao37, co37, eo37⟩ := Kd.R_slice HO110.out
        (first | subst eo37 | (injection eo37 with f1_ f2_ f3_; have f4_ := f1_.symm; have f5_ := f3_.symm; clear f1_ f2_ f3_; subst f4_; subst f5_))
        refine goes_ Try.func90 (by kernel_rfl) rfl #[.slice Ao36 t105.length co36, .slice Ao37 y108.length co37] (by rfl) rfl rfl (by first | (simp only [List.map_toArray, List.map_cons, List.map_nil, Act.eval, Array.getD_eq_getD_getElem?, Option.getD_some, e36, e38]; done) | (simp only [List.map_toArray, List.map_cons, List.map_nil, Act.eval, Array.getD_eq_getD_getElem?, Option.getD_some, e36, e38]; rfl)) ?_
        with_reducible refine (flagstoneref05_merged.calls k _ _ t105 _ _ y108 t111 _ ?side1 ?side2 ?side3 ?side4 A14.out).mono ?_
        (case side1 => repeat (first | exact (Kd.R_reads' HO107.out).2.2 | (with_reducible refine Kd.C_alloc ?_ _) | (with_reducible refine Kd.C_drewN ?_ _) | (with_reducible refine Kd.C_drew ?_)))
        (case side2 => exact (Kd.R_reads' HO107.out).2.1)
        (case side3 => repeat (first | exact (Kd.R_reads' HO110.out).2.2 | (with_reducible refine Kd.C_alloc ?_ _) | (with_reducible refine Kd.C_drewN ?_ _) | (with_reducible refine Kd.C_drew ?_)))
        (case side4 => exact (Kd.R_reads' HO110.out).2.1)
        rintro e w38 ⟨v112, rfl, ho0, hb⟩
        refine ⟨_, rfl, ?_⟩
        have n0_ := Aside0.mk (Kd.R_elder' (by (with_reducible repeat (first | apply Kd.R_alloc | apply Kd.R_drewN | apply Kd.R_drew)); exact HO107.out) (Kd.R_base ho0) hb)
        have n1_ := Aside0.mk (Kd.R_elder' (by (with_reducible repeat (first | apply Kd.R_alloc | apply Kd.R_drewN | apply Kd.R_drew)); exact HO110.out) (Kd.R_base ho0) hb)
        have n2_ := Aside0.mk (Kd.R_lower (Kd.R_newB (Kd.R_new' (Kd.R_new' ho0 (Kd.R_lt (by (with_reducible repeat (first | apply Kd.R_alloc | apply Kd.R_drewN | apply Kd.R_drew)); exact HO107.out))) (Kd.R_lt (by (with_reducible repeat (first | apply Kd.R_alloc | apply Kd.R_drewN | apply Kd.R_drew)); exact HO110.out))) (g := gb101) (o := .cells #[.int .i64 a1_0, .int .i64 a1_1, .int .i64 a1_2] 24 (0, 0)) (by (with_reducible repeat (first | refine blk_drewN ?_ _ | refine blk_drew ?_ | refine blk_alloc ?_ _)); exact BK101.out)) (below_size (by repeat (first | (with_reducible first | exact HB.out | apply below_alloc | apply pw_below_drewN | apply below_drew1 | refine below_set ?_ GE101.out) | exact HB.out))))
        have n3_ := Aside0.mk (blk_below (g := gb101) (o := .cells #[.int .i64 a1_0, .int .i64 a1_1, .int .i64 a1_2] 24 (0, 0)) (by (with_reducible repeat (first | refine blk_drewN ?_ _ | refine blk_drew ?_ | refine blk_alloc ?_ _)); exact BK101.out) hb)
        have n4_ := Aside0.mk (below_step (by repeat (first | (with_reducible first | exact HB.out | apply below_alloc | apply pw_below_drewN | apply below_drew1 | refine below_set ?_ GE101.out) | exact HB.out)) hb)
        clear HO107
        clear HO110
        clear BK101
        clear HB
        have HO107 := n0_
        have HO110 := n1_
        have HO113 := n2_
        have BK101 := n3_
        have HB := n4_
        clear n0_ n1_ n2_ n3_ n4_
        (try clear hb)
        (try clear hb2)
        (try clear hk)
        (try clear hi)
        (try clear ho0)
        refine hK.out _ _ ⟨.slice Ao36 t105.length co36, .slice Ao37 y108.length co37, v112, m9_, (by rw [ha.out]; exact putSel_upk 5 hb_ rfl rfl rfl), (by (with_reducible repeat (first | refine blk_drewN ?_ _ | refine blk_drew ?_ | refine blk_alloc ?_ _)); exact BK101.out), (by repeat (first | (with_reducible first | exact HB.out | apply below_alloc | apply pw_below_drewN | apply below_drew1 | refine below_set ?_ GE101.out) | exact HB.out)), fun _ => (by (with_reducible repeat (first | apply Kd.R_alloc | apply Kd.R_drewN | apply Kd.R_drew)); exact Kd.R_mono HO107.out (fun _ hk => by first | exact ⟨hk.1.1, ⟨hk.2, hk.1.2⟩⟩ | exact hk | exact hk.1 | exact hk.2 | exact hk.1.1 | exact hk.1.2 | exact hk.1.1.1 | exact hk.1.1.2)), fun _ => (by (with_reducible repeat (first | apply Kd.R_alloc | apply Kd.R_drewN | apply Kd.R_drew)); exact Kd.R_mono HO110.out (fun _ hk => by first | exact ⟨hk.1.1, ⟨hk.2, hk.1.2⟩⟩ | exact hk | exact hk.1 | exact hk.2 | exact hk.1.1 | exact hk.1.2 | exact hk.1.1.1 | exact hk.1.1.2)), fun _ => (by (with_reducible repeat (first | apply Kd.R_alloc | apply Kd.R_drewN | apply Kd.R_drew)); exact Kd.R_mono HO113.out (fun _ hk => by first | exact ⟨hk.1.1.2, ⟨hk.1.2, hk.2⟩⟩ | exact hk | exact hk.1 | exact hk.2 | exact hk.1.1 | exact hk.1.2 | exact hk.1.1.1 | exact hk.1.1.2)), fun h0_ => absurd ((hoff 9 (by kernel_rfl)).symm.trans h0_) (by decide)⟩
       refine steps_cons ?_ ?_
       ·rintro b a w' ⟨v106, v109, v112, m9_, ha, Q_BK101, Q_HB, Q_HO107, Q_HO110, Q_HO113, Q_X9_⟩ hb_ hon hoff
        refine ⟨_, rfl, fun K hK => ?_⟩
        have e39 : a.tmps[39]? = some (v112) := by rw [ha]; exact putSel_on (e := (8, 39, v112)) 5 rfl rfl (hon 8 (by kernel_rfl)) rfl
        replace ha := Aside0.mk ha
        have BK101 := Aside0.mk Q_BK101
        have HB := Aside0.mk Q_HB
        have HO107 := Aside0.mk (Q_HO107 (hon 5 (by kernel_rfl)))
        have HO110 := Aside0.mk (Q_HO110 (hon 7 (by kernel_rfl)))
        have HO113 := Aside0.mk (Q_HO113 (hon 8 (by kernel_rfl)))
        refine value_ (w1 := w') (v := v112) (by rfl) rfl ?_ ?_
        ·go_simp
         (try simp only [i64_w])
         try rfl
        refine hK.out _ _ ⟨v106, v109, v112, (v112), (by rw [ha.out]; exact putSel_upk 6 hb_ rfl rfl rfl), Q_BK101, Q_HB, Q_HO107, Q_HO110, Q_HO113, fun _ => rfl⟩
       exact steps_nil
      rintro b a w38 hall ⟨v106, v109, v112, m9_, ha, Q_BK101, Q_HB, Q_HO107, Q_HO110, Q_HO113, Q_X9_⟩
      clear BK101 HB
      have hb2_ := hall 2 (by kernel_rfl)
      have hb4_ := hall 4 (by kernel_rfl)
      have hb5_ := hall 5 (by kernel_rfl)
      have hb6_ := hall 6 (by kernel_rfl)
      have hb7_ := hall 7 (by kernel_rfl)
      have hb8_ := hall 8 (by kernel_rfl)
      have hb9_ := hall 9 (by kernel_rfl)
      subst ha
      obtain rfl := Q_X9_ hb9_
      simp only [putSel, hb2_, hb4_, hb5_, hb6_, hb7_, hb8_, hb9_, if_true, Act.put, List.setIfInBounds_toArray, List.set_cons_zero, List.set_cons_succ]
      have BK101 := Aside0.mk Q_BK101
      clear Q_BK101
      have HB := Aside0.mk Q_HB
      clear Q_HB
      have HO107 := Aside0.mk (Q_HO107 hb5_)
      clear Q_HO107
      have HO110 := Aside0.mk (Q_HO110 hb7_)
      clear Q_HO110
      have HO113 := Aside0.mk (Q_HO113 hb8_)
      clear Q_HO113
      clear hall hb2_ hb4_ hb5_ hb6_ hb7_ hb8_ hb9_
      obtain ⟨Ao39, co39, eo39⟩ := Kd.R_slice HO113.out
      subst eo39
      try go_wp2
      go_ret2
      exact ⟨_, by first | rfl | (simp [errW_none, errW_some] <;> rfl) | (simp [*, errW_none, errW_some] <;> rfl), by (with_reducible repeat (first | apply Kd.R_alloc | apply Kd.R_drewN | apply Kd.R_drew)); exact Kd.R_mono HO113.out (fun _ hk => trivial), by repeat (first | (with_reducible first | exact HB.out | apply below_alloc | apply pw_below_drewN | apply below_drew1 | refine below_set ?_ GE101.out) | exact HB.out)⟩
    ·replace c12 := Bool.eq_false_iff.mpr c12
     subst c12
     have H1 : (some (([] : List (S24)), 4)) = some (r1, r2) := by rw [if_neg (show ¬ (false = true) by decide)] at H; exact H
     clear H
     have H := H1
     clear H1
     simp only [Option.some.injEq, Prod.mk.injEq] at H
     obtain ⟨rfl, rfl⟩ := H
     go_enter Try.func28, Try.ntmps28
     go_wp2_with (first | ((with_reducible refine gate_dst (N := 3) rfl ?_); refine box_event ?hg (N := 3) ?hd (cs := #[.int .i64 a1_0, .int .i64 a1_1, .int .i64 a1_2]) (t := 24) ?hr ?_; (case hd => rfl); (case hg => rfl); (case hr => first | (go_simp; done) | (go_simp; rfl)); intro gb101 hg w40 hbox hb; have n0_ := Aside0.mk (below_step (by repeat (first | (with_reducible first | exact HB.out | apply below_alloc | apply pw_below_drewN | apply below_drew1) | exact HB.out)) hb); have n1_ := Aside0.mk (hbox); have n2_ := Aside0.mk ((by rw [hg]; exact (below_size (by repeat (first | (with_reducible first | exact HB.out | apply below_alloc | apply pw_below_drewN | apply below_drew1) | exact HB.out))) : w.heap.size ≤ gb101)); have n3_ := Aside0.mk ((by rw [hg]; exact (below_size (by repeat (first | (with_reducible first | exact HB.out | apply below_alloc | apply pw_below_drewN | apply below_drew1) | exact HB.out))) : w.heap.size ≤ gb101)); clear HB; have HB := n0_; have BK101 := n1_; have GW101 := n2_; have GE101 := n3_; clear n0_ n1_ n2_ n3_; clear hb hbox hg) | ((with_reducible refine gate_callee (f := 40) rfl ?_); refine goesL_ (some 9) rfl rfl Try.func40 (by kernel_rfl) rfl #[.slice A0 l0.length c0] rfl (by (try simp only [List.map_toArray, List.map_cons, List.map_nil]); first | done | rfl | (simp only [List.length_drop, List.length_take]; rfl)) ?_; (with_reducible refine (flagstoneref05_Check.calls k _ _ l0 t102 _ ?side1 ?side2 A3.out).mono ?_); (case side1 => repeat (first | exact (Kd.C_below HR0.out HB.out) | (with_reducible refine Kd.C_alloc ?_ _) | (with_reducible refine Kd.C_drewN ?_ _) | (with_reducible refine Kd.C_drew ?_))); (case side2 => exact HC0.out); rintro e w41 ⟨rfl, hb⟩; refine ⟨_, rfl, ?_⟩; have n0_ := Aside0.mk (blk_below (g := gb101) (o := .cells #[.int .i64 a1_0, .int .i64 a1_1, .int .i64 a1_2] 24 (0, 0)) (by (with_reducible repeat (first | refine blk_drewN ?_ _ | refine blk_drew ?_ | refine blk_alloc ?_ _)); exact BK101.out) hb); have n1_ := Aside0.mk (below_step (by repeat (first | (with_reducible first | exact HB.out | apply below_alloc | apply pw_below_drewN | apply below_drew1 | refine below_set ?_ GE101.out) | exact HB.out)) hb); clear BK101; clear HB; have BK101 := n0_; have HB := n1_; clear n0_ n1_; (try clear hb); (try clear hb2); (try clear hk); (try clear hi); have hcz42_0 : w41.cell? ⟨gb101, 0, none⟩ = some (.int .i64 a1_0) := (blk_cell BK101.out 0).trans rfl; have hcz42_1 : w41.cell? ⟨gb101, 1, none⟩ = some (.int .i64 a1_1) := (blk_cell BK101.out 1).trans rfl; have hcz42_2 : w41.cell? ⟨gb101, 2, none⟩ = some (.int .i64 a1_2) := (blk_cell BK101.out 2).trans rfl; have hfz42_0 := blk_frozen BK101.out 0; have hfz42_1 := blk_frozen BK101.out 1; have hfz42_2 := blk_frozen BK101.out 2) | (go_at_call 89; (with_reducible refine (flagstoneref05_fits.calls a1_0 a1_2 true _ A9.out).mono ?_); rintro e w' ⟨rfl, ⟨nd, rfl⟩⟩) | (go_at_call 89; (with_reducible refine (flagstoneref05_fits.calls a1_1 a1_2 false _ A11.out).mono ?_); rintro e w' ⟨rfl, ⟨nd, rfl⟩⟩))
     go_ret2
     exact ⟨_, by first | rfl | (simp [errW_none, errW_some] <;> rfl) | (simp [*, errW_none, errW_some] <;> rfl), by first | exact Kd.R_nil _ _ _ _ _ | exact Kd.N_nil _ _ _ _ _ | exact Kd.V_nil _ _ _ _ _ | exact Kd.Q_nil _ _ _ _ _ | exact Kd.S_nil _ _ _ _ _, by repeat (first | (with_reducible first | exact HB.out | apply below_alloc | apply pw_below_drewN | apply below_drew1 | refine below_set ?_ GE101.out) | exact HB.out)⟩
   ·replace c10 := Bool.eq_false_iff.mpr c10
    subst c10
    have H1 : (some (([] : List (S24)), 4)) = some (r1, r2) := by rw [if_neg (show ¬ (false = true) by decide)] at H; exact H
    clear H
    have H := H1
    clear H1
    simp only [Option.some.injEq, Prod.mk.injEq] at H
    obtain ⟨rfl, rfl⟩ := H
    go_enter Try.func28, Try.ntmps28
    go_wp2_with (first | ((with_reducible refine gate_dst (N := 3) rfl ?_); refine box_event ?hg (N := 3) ?hd (cs := #[.int .i64 a1_0, .int .i64 a1_1, .int .i64 a1_2]) (t := 24) ?hr ?_; (case hd => rfl); (case hg => rfl); (case hr => first | (go_simp; done) | (go_simp; rfl)); intro gb101 hg w43 hbox hb; have n0_ := Aside0.mk (below_step (by repeat (first | (with_reducible first | exact HB.out | apply below_alloc | apply pw_below_drewN | apply below_drew1) | exact HB.out)) hb); have n1_ := Aside0.mk (hbox); have n2_ := Aside0.mk ((by rw [hg]; exact (below_size (by repeat (first | (with_reducible first | exact HB.out | apply below_alloc | apply pw_below_drewN | apply below_drew1) | exact HB.out))) : w.heap.size ≤ gb101)); have n3_ := Aside0.mk ((by rw [hg]; exact (below_size (by repeat (first | (with_reducible first | exact HB.out | apply below_alloc | apply pw_below_drewN | apply below_drew1) | exact HB.out))) : w.heap.size ≤ gb101)); clear HB; have HB := n0_; have BK101 := n1_; have GW101 := n2_; have GE101 := n3_; clear n0_ n1_ n2_ n3_; clear hb hbox hg) | ((with_reducible refine gate_callee (f := 40) rfl ?_); refine goesL_ (some 9) rfl rfl Try.func40 (by kernel_rfl) rfl #[.slice A0 l0.length c0] rfl (by (try simp only [List.map_toArray, List.map_cons, List.map_nil]); first | done | rfl | (simp only [List.length_drop, List.length_take]; rfl)) ?_; (with_reducible refine (flagstoneref05_Check.calls k _ _ l0 t102 _ ?side1 ?side2 A3.out).mono ?_); (case side1 => repeat (first | exact (Kd.C_below HR0.out HB.out) | (with_reducible refine Kd.C_alloc ?_ _) | (with_reducible refine Kd.C_drewN ?_ _) | (with_reducible refine Kd.C_drew ?_))); (case side2 => exact HC0.out); rintro e w44 ⟨rfl, hb⟩; refine ⟨_, rfl, ?_⟩; have n0_ := Aside0.mk (blk_below (g := gb101) (o := .cells #[.int .i64 a1_0, .int .i64 a1_1, .int .i64 a1_2] 24 (0, 0)) (by (with_reducible repeat (first | refine blk_drewN ?_ _ | refine blk_drew ?_ | refine blk_alloc ?_ _)); exact BK101.out) hb); have n1_ := Aside0.mk (below_step (by repeat (first | (with_reducible first | exact HB.out | apply below_alloc | apply pw_below_drewN | apply below_drew1 | refine below_set ?_ GE101.out) | exact HB.out)) hb); clear BK101; clear HB; have BK101 := n0_; have HB := n1_; clear n0_ n1_; (try clear hb); (try clear hb2); (try clear hk); (try clear hi); have hcz45_0 : w44.cell? ⟨gb101, 0, none⟩ = some (.int .i64 a1_0) := (blk_cell BK101.out 0).trans rfl; have hcz45_1 : w44.cell? ⟨gb101, 1, none⟩ = some (.int .i64 a1_1) := (blk_cell BK101.out 1).trans rfl; have hcz45_2 : w44.cell? ⟨gb101, 2, none⟩ = some (.int .i64 a1_2) := (blk_cell BK101.out 2).trans rfl; have hfz45_0 := blk_frozen BK101.out 0; have hfz45_1 := blk_frozen BK101.out 1; have hfz45_2 := blk_frozen BK101.out 2) | (go_at_call 89; (with_reducible refine (flagstoneref05_fits.calls a1_0 a1_2 false _ A9.out).mono ?_); rintro e w' ⟨rfl, ⟨nd, rfl⟩⟩))
    go_ret2
    exact ⟨_, by first | rfl | (simp [errW_none, errW_some] <;> rfl) | (simp [*, errW_none, errW_some] <;> rfl), by first | exact Kd.R_nil _ _ _ _ _ | exact Kd.N_nil _ _ _ _ _ | exact Kd.V_nil _ _ _ _ _ | exact Kd.Q_nil _ _ _ _ _ | exact Kd.S_nil _ _ _ _ _, by repeat (first | (with_reducible first | exact HB.out | apply below_alloc | apply pw_below_drewN | apply below_drew1 | refine below_set ?_ GE101.out) | exact HB.out)⟩
 ·rw [if_neg c4] at H
  have c4b0 : (t102 == 0) = false := beq_eq_false_iff_ne.mpr c4
  have c4b1 : (t102 != 0) = true := bne_iff_ne.mpr c4
  simp only [Option.some.injEq, Prod.mk.injEq] at H
  obtain ⟨rfl, rfl⟩ := H
  go_enter Try.func28, Try.ntmps28
  go_wp2_with (first | ((with_reducible refine gate_dst (N := 3) rfl ?_); refine box_event ?hg (N := 3) ?hd (cs := #[.int .i64 a1_0, .int .i64 a1_1, .int .i64 a1_2]) (t := 24) ?hr ?_; (case hd => rfl); (case hg => rfl); (case hr => first | (go_simp; done) | (go_simp; rfl)); intro gb101 hg w46 hbox hb; have n0_ := Aside0.mk (below_step (by repeat (first | (with_reducible first | exact HB.out | apply below_alloc | apply pw_below_drewN | apply below_drew1) | exact HB.out)) hb); have n1_ := Aside0.mk (hbox); have n2_ := Aside0.mk ((by rw [hg]; exact (below_size (by repeat (first | (with_reducible first | exact HB.out | apply below_alloc | apply pw_below_drewN | apply below_drew1) | exact HB.out))) : w.heap.size ≤ gb101)); have n3_ := Aside0.mk ((by rw [hg]; exact (below_size (by repeat (first | (with_reducible first | exact HB.out | apply below_alloc | apply pw_below_drewN | apply below_drew1) | exact HB.out))) : w.heap.size ≤ gb101)); clear HB; have HB := n0_; have BK101 := n1_; have GW101 := n2_; have GE101 := n3_; clear n0_ n1_ n2_ n3_; clear hb hbox hg) | ((with_reducible refine gate_callee (f := 40) rfl ?_); refine goesL_ (some 9) rfl rfl Try.func40 (by kernel_rfl) rfl #[.slice A0 l0.length c0] rfl (by (try simp only [List.map_toArray, List.map_cons, List.map_nil]); first | done | rfl | (simp only [List.length_drop, List.length_take]; rfl)) ?_; (with_reducible refine (flagstoneref05_Check.calls k _ _ l0 t102 _ ?side1 ?side2 A3.out).mono ?_); (case side1 => repeat (first | exact (Kd.C_below HR0.out HB.out) | (with_reducible refine Kd.C_alloc ?_ _) | (with_reducible refine Kd.C_drewN ?_ _) | (with_reducible refine Kd.C_drew ?_))); (case side2 => exact HC0.out); rintro e w47 ⟨rfl, hb⟩; refine ⟨_, rfl, ?_⟩; have n0_ := Aside0.mk (blk_below (g := gb101) (o := .cells #[.int .i64 a1_0, .int .i64 a1_1, .int .i64 a1_2] 24 (0, 0)) (by (with_reducible repeat (first | refine blk_drewN ?_ _ | refine blk_drew ?_ | refine blk_alloc ?_ _)); exact BK101.out) hb); have n1_ := Aside0.mk (below_step (by repeat (first | (with_reducible first | exact HB.out | apply below_alloc | apply pw_below_drewN | apply below_drew1 | refine below_set ?_ GE101.out) | exact HB.out)) hb); clear BK101; clear HB; have BK101 := n0_; have HB := n1_; clear n0_ n1_; (try clear hb); (try clear hb2); (try clear hk); (try clear hi)))
  go_ret2
  exact ⟨_, by first | rfl | (simp [errW_none, errW_some] <;> rfl) | (simp [*, errW_none, errW_some] <;> rfl), by first | exact Kd.R_nil _ _ _ _ _ | exact Kd.N_nil _ _ _ _ _ | exact Kd.V_nil _ _ _ _ _ | exact Kd.Q_nil _ _ _ _ _ | exact Kd.S_nil _ _ _ _ _, by repeat (first | (with_reducible first | exact HB.out | apply below_alloc | apply pw_below_drewN | apply below_drew1 | refine below_set ?_ GE101.out) | exact HB.out)⟩
theorem repl_x {l : List S24} {v n : Int} {by_ : List S24} (h : l.length ≤ 1024) (hb : by_.length ≤ 1024) : extent_replaced.f l v n by_ = some (replG l v n by_) := by
  unfold extent_replaced.f; rw [if_pos ⟨h, hb⟩]
def putS (l : List S24) (x : S24) : List S24 × Int :=
  if Flag.checkE (l.map toE) = 0 then (if Flag.mayE (toE x) = true then fullS (replG l x.f0 x.f2 [x]) else ([], 4)) else ([], 9)
theorem put_x {l : List S24} {x : S24} {k : Nat} (hk : l.length < k) : extent_Put.f k l x.f0 x.f1 x.f2 = some (putS l x) := by
  unfold extent_Put.f putS
  rw [check_x l hk, Option.bind_some, may_x]
  have e : (⟨x.f0, x.f1, x.f2⟩ : Flag.Ex) = toE x := rfl
  rw [e, Option.bind_some]
  rcases Flag.checkE_or (l.map toE) with h | h
  · have hm := Flag.checkE_ok.1 h
    have hl : l.length ≤ 1024 := by have := hm.len; simpa using this
    rw [if_pos h, if_pos h]
    by_cases h1 : Flag.mayE (toE x) = true
    · rw [if_pos h1, if_pos h1, repl_x hl (by simp), Option.bind_some, full_x, Option.bind_some]
      rfl
    · rw [if_neg h1, if_neg h1]
  · rw [h]; rfl
theorem replG_look {l : List S24} {v n : Int} {by_ : List S24} (hm : Flag.Map5 (l.map toE)) (hv : 0 ≤ v) (hn : 0 ≤ n) (he : v + n ≤ 65536) (hb : ∀ y ∈ by_, y.f2 ≤ 0 ∨ InM y)
    (hr : Flag.Rising (by_.map toE)) (hin : ∀ x ∈ by_.map toE, v ≤ x.v ∧ x.v + x.n ≤ v + n) :
    Flag.NF ((replG l v n by_).map toE) ∧ ∀ i, Flag.lookE ((replG l v n by_).map toE) i = if v ≤ i ∧ i < v + n then Flag.lookE (by_.map toE) i else Flag.lookE (l.map toE) i := by
  obtain ⟨h1, h2⟩ := replG_put hm hv hn he hb
  rw [h1]
  exact Flag.put3_spec hm (by omega) hr hin
theorem look_one (x : Flag.Ex) (i : Int) : Flag.lookE [x] i = if x.v ≤ i ∧ i < x.v + x.n then some (Flag.valAt x i) else none := rfl
theorem replG_one {l : List S24} {x : S24} (hm : Flag.Map5 (l.map toE)) (hx : Flag.okMap (toE x)) :
    Flag.NF ((replG l x.f0 x.f2 [x]).map toE) ∧ ∀ i, Flag.lookE ((replG l x.f0 x.f2 [x]).map toE) i = if x.f0 ≤ i ∧ i < x.f0 + x.f2 then some (Flag.valAt (toE x) i) else Flag.lookE (l.map toE) i := by
  have hin := okIn hx
  obtain ⟨h1, h2, h3, h4, h5⟩ := hx
  simp only [toE] at h1 h2 h3 h4 h5
  obtain ⟨g1, g2⟩ := replG_look (by_ := [x]) hm h2 (by omega) h3 (fun y hy => by
    have : y = x := by simpa using hy
    rw [this]; exact .inr hin) ⟨fun _ y hy => (by cases hy), trivial⟩ (fun y hy => by
    have : y = toE x := by simpa using hy
    rw [this]; exact ⟨Int.le_refl _, Int.le_refl _⟩)
  refine ⟨g1, fun i => ?_⟩
  rw [g2]
  split
  · rename_i h
    exact (look_one (toE x) i).trans (if_pos h)
  · rfl
theorem merge_spec {a b : List S24} (ha : Flag.NF (a.map toE)) (hb : Flag.NF (b.map toE)) (ia : ∀ y ∈ a, InM y) (ib : ∀ y ∈ b, InM y) (h : Flag.Apart (a.map toE) (b.map toE)) :
    Flag.NF (((mergeS a b).foldl addG []).map toE) ∧ (∀ i, Flag.lookE (((mergeS a b).foldl addG []).map toE) i = match Flag.lookE (a.map toE) i with | some r => some r | none => Flag.lookE (b.map toE) i) ∧ ∀ y ∈ (mergeS a b).foldl addG [], InM y := by
  obtain ⟨h1, h2⟩ := fold_join (ps := mergeS a b) (fun y hy => by
    rcases mergeS_mem hy with hy | hy
    · exact .inr (ia y hy)
    · exact .inr (ib y hy))
  rw [mergeS_toE] at h1
  obtain ⟨h3, h4⟩ := Flag.joinE_spec (Flag.mergeE_rising ha.rising hb.rising ha.all hb.all h)
  rw [h1]
  exact ⟨h3, fun i => by rw [h4, Flag.mergeE_look i h]; cases Flag.lookE (a.map toE) i <;> rfl, h2⟩
theorem putG_eq {l : List S24} {x : S24} (hm : Flag.Map5 (l.map toE)) (hx : Flag.okMap (toE x)) : (mergeS (cutG l x.f0 x.f2) [x]).foldl addG [] = replG l x.f0 x.f2 [x] := by
  have hin := okIn hx
  have hx0 := hx
  obtain ⟨h1, h2, h3, h4, h5⟩ := hx0
  simp only [toE] at h1 h2 h3 h4 h5
  obtain ⟨c1, c2, c3⟩ := cutG_spec hm h2 (by omega) h3
  have hap : Flag.Apart ((cutG l x.f0 x.f2).map toE) ([x].map toE) := Flag.apart_of c1 (fun y hy => by
    have : y = toE x := by simpa using hy
    rw [this]; exact h1) (fun y hy i a b => by
    have : y = toE x := by simpa using hy
    subst this
    rw [c2, if_pos ⟨a, b⟩])
  obtain ⟨m1, m2, _⟩ := merge_spec (b := [x]) c1 h1 c3 (fun y hy => by
    have : y = x := by simpa using hy
    rw [this]; exact hin) hap
  obtain ⟨r1, r2⟩ := replG_one hm hx
  refine mapE_inj (Flag.NF.ext m1 r1 (fun i => ?_))
  rw [m2, r2, c2, List.map_cons, List.map_nil, look_one]
  show (match (if x.f0 ≤ i ∧ i < x.f0 + x.f2 then none else Flag.lookE (l.map toE) i) with | some r => some r | none => if x.f0 ≤ i ∧ i < x.f0 + x.f2 then some (Flag.valAt (toE x) i) else none) = _
  by_cases h0 : x.f0 ≤ i ∧ i < x.f0 + x.f2
  · simp only [if_pos h0]
  · simp only [if_neg h0]
    cases Flag.lookE (l.map toE) i <;> rfl
theorem put_r {l : List S24} {x : S24} {k : Nat} (hk : 4 * l.length + 10000 < k) : flagstoneref05_Put.f k l x.f0 x.f1 x.f2 = some (putS l x) := by
  unfold flagstoneref05_Put.f putS
  rw [check_r l (by omega), Option.bind_some, fits_rB, Option.bind_some, fits_rB, Option.bind_some]
  rcases Flag.checkE_or (l.map toE) with h | h
  · have hm := Flag.checkE_ok.1 h
    have hl : l.length ≤ 1024 := by have := hm.len; simpa using this
    rw [if_pos h, if_pos h]
    by_cases h1 : Flag.mayE (toE x) = true
    · rw [if_pos h1]
      have hx := Flag.mayE_iff.1 h1
      have hx0 := hx
      obtain ⟨g1, g2, g3, g4, g5⟩ := hx0
      simp only [toE] at g1 g2 g3 g4 g5
      rw [if_neg (by omega), if_pos (fitsB_iff.2 ⟨g2, by omega, g3⟩), if_pos (fitsB_iff.2 ⟨g4, by omega, g5⟩), without_x hl _ _ (by omega), Option.bind_some]
      have hc := cutG_len l x.f0 x.f2
      rw [merged_x (cutG l x.f0 x.f2) [x] (by simp; omega) (by simp; omega), Option.bind_some, putG_eq hm hx]
      unfold fullS
      by_cases h2 : (replG l x.f0 x.f2 [x]).length > 1024
      · rw [if_pos (by omega), if_pos h2]
      · rw [if_neg (by omega), if_neg h2]
    · rw [if_neg h1]
      by_cases a1 : x.f2 < 1
      · rw [if_pos a1]
      · rw [if_neg a1]
        by_cases a2 : fitsB x.f0 x.f2 = true
        · rw [if_pos a2]
          by_cases a3 : fitsB x.f1 x.f2 = true
          · exact absurd (by
              obtain ⟨b1, b2, b3⟩ := fitsB_iff.1 a2
              obtain ⟨c1, c2, c3⟩ := fitsB_iff.1 a3
              exact Flag.mayE_iff.2 ⟨show 0 < x.f2 by omega, b1, b3, c1, c3⟩) h1
          · rw [if_neg a3]
        · rw [if_neg a2]
  · rw [h]; rfl
structure PutOk (l : List S24) (x : S24) : Prop where
  map : Flag.Map5 (l.map toE)
  ok : Flag.okMap (toE x)
  len : (replG l x.f0 x.f2 [x]).length ≤ 1024
  is : putS l x = (replG l x.f0 x.f2 [x], 0)
theorem putS_ok {l : List S24} {x : S24} (h : (putS l x).2 = 0) : PutOk l x := by
  unfold putS at h
  split at h
  · rename_i hc
    split at h
    · rename_i hm
      unfold fullS at h
      split at h
      · cases h
      · rename_i hf
        refine ⟨Flag.checkE_ok.1 hc, Flag.mayE_iff.1 hm, by omega, ?_⟩
        unfold putS fullS
        rw [if_pos hc, if_pos hm, if_neg hf]
    · cases h
  · cases h
theorem PutOk.map2 {l : List S24} {x : S24} (h : PutOk l x) : Flag.Map5 ((replG l x.f0 x.f2 [x]).map toE) := by
  obtain ⟨h1, h2⟩ := replG_one h.map h.ok
  refine ⟨by have := h.len; simpa using this, Flag.okMap_of h1 (fun i r hi => ?_), h1⟩
  rw [h2] at hi
  obtain ⟨g1, g2, g3, g4, g5⟩ := h.ok
  simp only [toE] at g1 g2 g3 g4 g5
  split at hi
  · have hr := Option.some.inj hi
    unfold Flag.valAt toE at hr
    rw [if_neg (show ¬ x.f1 < 0 by omega)] at hr
    dsimp only at hr
    omega
  · exact Flag.okMap_look h.map.ok hi
end Go.Proofs.Ytkkfkdncddbaeaa.Fn
namespace Go.Proofs.Ytkkfkdncddbaeaa.Fn
open Go.RowKit Go.Proofs.YtkkfkdncddbaeaaW.PrintWords Go.Proofs.YtkkfkdncddbaeaaW.PrintLast Go.Proofs.YtkkfkdncddbaeaaW.PrintMore
attribute [local go_sem] max2_int min2_int max_two min_two max_three min_three max_four min_four
set_option linter.unusedVariables false
set_option linter.unusedSimpArgs false
attribute [local go_sem high] eqA24
def lookStep (e : Int) (s : List S24 × Int) (x : S24) : List S24 × Int :=
  if (partG x s.2 e).f2 ≤ 0 then s else (addG (addG s.1 ⟨s.2, -1, wrap64 ((partG x s.2 e).f0 - s.2)⟩) (partG x s.2 e), wrap64 ((partG x s.2 e).f0 + (partG x s.2 e).f2))
theorem lookStep_length (e : Int) (s : List S24 × Int) (x : S24) : (lookStep e s x).1.length ≤ s.1.length + 2 := by
  unfold lookStep
  split
  · omega
  · exact Nat.le_trans (addG_length _ _) (by have := addG_length s.1 ⟨s.2, -1, wrap64 ((partG x s.2 e).f0 - s.2)⟩; omega)
theorem lookFold_length (e : Int) (l : List S24) : ∀ s : List S24 × Int, (l.foldl (lookStep e) s).1.length ≤ s.1.length + 2 * l.length := by
  induction l with
  | nil => intro s; simp
  | cons x u ih =>
    intro s
    have h1 := ih (lookStep e s x)
    have h2 := lookStep_length e s x
    simp only [List.foldl_cons, List.length_cons]
    omega
def lookL (l : List S24) (v n : Int) : List S24 :=
  addG (l.foldl (lookStep (wrap64 (v + n))) ([], v)).1 ⟨(l.foldl (lookStep (wrap64 (v + n))) ([], v)).2, -1, wrap64 (wrap64 (v + n) - (l.foldl (lookStep (wrap64 (v + n))) ([], v)).2)⟩
def lookS (l : List S24) (v n : Int) : List S24 × Int :=
  if Flag.checkE (l.map toE) = 0 then (if fitsB v n = true then (lookL l v n, 0) else ([], 4)) else ([], 9)
def extent_Look.f (l0 : List (S24)) (a1 : Int) (a2 : Int) : Option ((List (S24)) × Int) := some (lookS l0 a1 a2)
set_option maxHeartbeats 4000000 in
set_option maxRecDepth 100000 in
theorem extent_Look.calls (A0 : Option Addr) (c0 : Nat) (l0 : List (S24)) (a1 : Int) (a2 : Int) (r1 : List (S24)) (r2 : Int) (w : World) (hr0 : Kd.C k24 w A0 l0.length l0) (hc0 : l0.length ≤ c0) (h : extent_Look.f l0 a1 a2 = some (r1, r2)) :
    Calls Try.prog 37 #[.slice A0 l0.length c0, .int .i64 a1, .int .i64 a2] w fun e w' => ∃ v0_ : Value, e = .returned (.tuple #[v0_, .int .i64 r2]) ∧ Kd.R k24 24 w' w.heap.size (fun _ => True) v0_ r1 ∧ Below w.heap.size w w' := by
  have hu24 := Try.underlying24
  have hcx : extent_Check.f (l0.length + 1) l0 = some (Flag.checkE (l0.map toE)) := check_x l0 (by omega)
  unfold extent_Look.f at h
  have h := Option.some.inj h
  unfold lookS at h
  have HR0 := Aside0.mk hr0
  have HC0 := Aside0.mk hc0
  clear hr0 hc0
  go_enter Try.func37, Try.ntmps37
  go_wp2_with fail
  refine (extent_Check.calls (l0.length + 1) A0 c0 l0 _ w HR0.out HC0.out hcx).mono ?_
  rintro e w1 ⟨rfl, hb1⟩
  have HBEL := Aside0.mk (below_step (Below.refl w.heap.size w) hb1)
  clear hb1
  rcases Flag.checkE_or (l0.map toE) with h0 | h0
  · rw [if_pos h0] at h
    have hl0 : l0.length ≤ 1024 := by have := (Flag.checkE_ok.1 h0).len; simpa using this
    rw [h0]
    clear h0 hcx
    go_wp2_with fail
    refine (extent_fits.calls a1 a2 _ w1 fits_xB).mono ?_
    rintro e w3 ⟨rfl, hb2⟩
    have HBEL3 := Aside0.mk (below_step HBEL.out hb2)
    clear hb2
    by_cases hf1 : fitsB a1 a2 = true
    · rw [if_pos hf1] at h
      rw [hf1]
      have HH := Aside0.mk h
      clear h hf1
      go_wp2_with fail
      obtain ⟨W4, hW4⟩ : ∃ W, W = w3.alloc (.cells #[.slice none 0 0] 140) := ⟨_, rfl⟩
      rw [← hW4]
      obtain ⟨b9, hb9⟩ : ∃ b, b = w3.heap.size := ⟨_, rfl⟩
      rw [← hb9]
      have hp9 : W4.heap[b9]? = some (.cells #[.slice none 0 0] 140 (0, 0)) := by rw [hW4, hb9]; exact blk_new w3 _
      have hge : w.heap.size ≤ w3.heap.size := HBEL3.out.size
      have hbel4 : Below w.heap.size w W4 := by rw [hW4]; exact HBEL3.out.alloc hge _
      have hsz4 : W4.heap.size = w3.heap.size + 1 := by rw [hW4]; simp
      have hrs : RS w w.heap.size [b9] b9 [] W4 := RS.of_nil hp9 hbel4 (by omega) (by simp) (by intro k hk; simp at hk; rcases hk with rfl; omega)
      have HRS := Aside0.mk hrs
      clear hW4 hp9 hge hbel4 hsz4 hrs hb9
      obtain ⟨e_, he_⟩ : ∃ e, e = wrap64 (a1 + a2) := ⟨_, rfl⟩
      rw [← he_]
      have HE := Aside0.mk he_
      clear he_
      go_loopg [10, 30] l0.length (fun gk v10 v30 W => ∃ i at_ : Int, v10 = .int .i64 at_ ∧ v30 = .int .i64 i ∧ Aside0 (0 ≤ i ∧ i + gk = l0.length) ∧ Aside0 (at_ = ((l0.take i.toNat).foldl (lookStep e_) ([], a1)).2) ∧ Aside0 (RS w w.heap.size [b9] b9 ((l0.take i.toNat).foldl (lookStep e_) ([], a1)).1 W))
      case atStart => exact ⟨0, a1, rfl, rfl, ⟨Int.le_refl _, by simp⟩, ⟨by simp⟩, ⟨by simpa using HRS.out⟩⟩
      case round =>
        obtain ⟨i, at_, rfl, rfl, HI, HAT, HS⟩ := hrel
        obtain ⟨o, ho⟩ : ∃ o, o = ((l0.take i.toNat).foldl (lookStep e_) ([], a1)).1 := ⟨_, rfl⟩
        have hol : o.length ≤ 4096 := by
          have h1 := lookFold_length e_ (l0.take i.toNat) ([], a1)
          rw [← ho] at h1
          have h2 : (l0.take i.toNat).length ≤ 1024 := by rw [List.length_take]; omega
          simp only [List.length_nil] at h1
          omega
        rw [← ho] at HS
        have HOL := Aside0.mk hol
        have HO := Aside0.mk ho
        clear ho hol
        cases gk with
        | zero =>
          have hi : i = l0.length := by have := HI.out.2; omega
          have hd : decide (i < (l0.length : Int)) = false := decide_eq_false (by omega)
          have hres : addG o ⟨at_, -1, wrap64 (e_ - at_)⟩ = r1 ∧ 0 = r2 := by
            have h1 := HH.out
            have h2 := HO.out
            have h3 := HAT.out
            rw [hi, Int.toNat_natCast, List.take_length] at h2 h3
            rw [h2, h3]
            simp only [Prod.mk.injEq] at h1
            rw [HE.out]
            exact h1
          have HRES := Aside0.mk hres
          clear hi hres
          go_wp2_with fail
          refine (HS.out.add ⟨at_, -1, wrap64 (e_ - at_)⟩ (by have := HOL.out; omega)).mono ?_
          rintro e w5 ⟨rfl, h5, _, _⟩
          obtain ⟨A, c, hcc9, hR⟩ := h5.cell
          have H5 := Aside0.mk h5
          have HRR := Aside0.mk hR
          clear h5 hR
          go_wp2
          go_ret2
          refine ⟨_, by rw [← HRES.out.2]; rfl, ?_, H5.out.old⟩
          rw [← HRES.out.1]
          exact Kd.R_mono HRR.out (fun _ _ => trivial)
        | succ k1 =>
          have hp0 : 0 ≤ i := HI.out.1
          have hp1 : i < (l0.length : Int) := by have := HI.out.2; omega
          have hd : decide (i < (l0.length : Int)) = true := decide_eq_true hp1
          have hC : Kd.C k24 wr A0 l0.length l0 := Kd.C_below HR0.out HS.out.old
          obtain ⟨ad, e3, g0, g1, g2⟩ := at_T24 hC i hp0 hp1
          cases e3
          obtain ⟨x, hx⟩ : ∃ x, x = rd_T24 l0 i := ⟨_, rfl⟩
          rw [← hx] at g0 g1 g2
          have hst : (l0.take (i + 1).toNat).foldl (lookStep e_) ([], a1) = lookStep e_ (o, at_) x := by
            have h3 : (i + 1).toNat = i.toNat + 1 := by omega
            have h4 : i.toNat < l0.length := by omega
            have h5 : x = l0[i.toNat] := by rw [hx]; unfold rd_T24; rw [List.getD_eq_getElem?_getD, List.getElem?_eq_getElem h4]; rfl
            rw [h3, List.take_succ_eq_append_getElem h4, List.foldl_append, ← h5, HO.out, HAT.out]
            rfl
          have HST := Aside0.mk hst
          have HP := Aside0.mk (And.intro hp0 hp1)
          clear hx hC hst
          go_wp2_with fail
          refine (partG_calls x at_ e_ _).mono ?_
          rintro e w2' ⟨rfl, hb2⟩
          have hb1 : Below wr.heap.size wr (wr.alloc (.cells #[.int .i64 x.f0, .int .i64 x.f1, .int .i64 x.f2] 24)) := (Below.refl _ _).alloc (Nat.le_refl _) _
          have H2 := Aside0.mk ((HS.out.below hb1).below hb2)
          clear hb1 hb2 g0 g1 g2
          obtain ⟨p, hp⟩ : ∃ p, p = partG x at_ e_ := ⟨_, rfl⟩
          rw [← hp]
          have HPP := Aside0.mk hp
          clear hp
          by_cases hpp : p.f2 ≤ 0
          · have hdp : decide (p.f2 ≤ 0) = true := decide_eq_true hpp
            have hstp : lookStep e_ (o, at_) x = (o, at_) := by unfold lookStep; rw [← HPP.out, if_pos hpp]
            have HSTP := Aside0.mk hstp
            clear hstp
            go_wp2_with fail
            go_roundg k1
            case measure => omega
            case rel =>
              refine ⟨i + 1, at_, by first | rfl | (simp; done), by first | rfl | (simp; done), ⟨by have := HP.out.1; omega, by have := HI.out.2; omega⟩, ⟨?_⟩, ⟨?_⟩⟩
              · rw [HST.out, HSTP.out]
              · rw [HST.out, HSTP.out]
                exact H2.out.below ((Below.refl _ _).alloc (Nat.le_refl _) _)
          · have hdp : decide (p.f2 ≤ 0) = false := decide_eq_false hpp
            have hstp : lookStep e_ (o, at_) x = (addG (addG o ⟨at_, -1, wrap64 (p.f0 - at_)⟩) p, wrap64 (p.f0 + p.f2)) := by unfold lookStep; rw [← HPP.out, if_neg hpp]
            have HSTP := Aside0.mk hstp
            clear hstp hpp
            go_wp2_with fail
            obtain ⟨W5, hW5⟩ : ∃ W, W = w2'.alloc (.cells #[.int .i64 p.f0, .int .i64 p.f1, .int .i64 p.f2] 24) := ⟨_, rfl⟩
            obtain ⟨bp, hbp⟩ : ∃ b, b = w2'.heap.size := ⟨_, rfl⟩
            have hb5 : Below w2'.heap.size w2' W5 := by rw [hW5]; exact (Below.refl _ _).alloc (Nat.le_refl _) _
            have hx5 : W5.heap[bp]? = some (.cells #[.int .i64 p.f0, .int .i64 p.f1, .int .i64 p.f2] 24 (0, 0)) := by rw [hW5, hbp]; exact blk_new w2' _
            rw [← hW5, ← hbp]
            have H5 := Aside0.mk (H2.out.push hb5 (Nat.le_of_eq hbp.symm) (blk_lt hx5))
            have nb : bp ≠ b9 := by
              have h9 := H2.out
              obtain ⟨_, _, _, _, _, _, h6⟩ := h9
              have q1 := h6 b9 (by simp)
              omega
            have NB := Aside0.mk nb
            have HX5 := Aside0.mk hx5
            clear hW5 hbp hb5 hx5 nb
            refine (H5.out.add ⟨at_, -1, wrap64 (p.f0 - at_)⟩ (by have := HOL.out; omega)).mono ?_
            rintro e w6 ⟨rfl, h6, hs6, hk6⟩
            have HX6 := Aside0.mk ((hk6 bp (by simp) NB.out).trans HX5.out)
            have H6 := Aside0.mk h6
            have HL6 := Aside0.mk (addG_length o ⟨at_, -1, wrap64 (p.f0 - at_)⟩)
            clear h6 hs6 hk6
            have y0 : w6.cell? ⟨bp, 0, none⟩ = some (.int .i64 p.f0) := (blk_cell HX6.out 0).trans rfl
            have y1 : w6.cell? ⟨bp, 1, none⟩ = some (.int .i64 p.f1) := (blk_cell HX6.out 1).trans rfl
            have y2 : w6.cell? ⟨bp, 2, none⟩ = some (.int .i64 p.f2) := (blk_cell HX6.out 2).trans rfl
            go_wp2_with fail
            clear y0 y1 y2
            refine (H6.out.add p (by have := HOL.out; have := HL6.out; omega)).mono ?_
            rintro e w7 ⟨rfl, h7, hs7, hk7⟩
            have HX7 := Aside0.mk ((hk7 bp (by simp) NB.out).trans HX6.out)
            have H7 := Aside0.mk h7
            clear h7 hs7 hk7
            have y0 : w7.cell? ⟨bp, 0, none⟩ = some (.int .i64 p.f0) := (blk_cell HX7.out 0).trans rfl
            have y2 : w7.cell? ⟨bp, 2, none⟩ = some (.int .i64 p.f2) := (blk_cell HX7.out 2).trans rfl
            go_wp2
            go_roundg k1
            case measure => omega
            case rel =>
              refine ⟨i + 1, wrap64 (p.f0 + p.f2), by first | rfl | (simp; done), by first | rfl | (simp; done), ⟨by have := HP.out.1; omega, by have := HI.out.2; omega⟩, ⟨?_⟩, ⟨?_⟩⟩
              · rw [HST.out, HSTP.out]
              · rw [HST.out, HSTP.out]
                exact H7.out.drop (by simp)
    · rw [if_neg hf1] at h
      simp only [Bool.not_eq_true] at hf1
      rw [hf1]
      simp only [Prod.mk.injEq] at h
      obtain ⟨rfl, rfl⟩ := h
      go_wp2
      go_ret2
      exact ⟨_, rfl, Kd.R_nil _ _ _ _ _, HBEL3.out⟩
  · rw [h0] at h ⊢
    rw [if_neg (by omega)] at h
    simp only [Prod.mk.injEq] at h
    obtain ⟨rfl, rfl⟩ := h
    go_wp2
    go_ret2
    exact ⟨_, rfl, Kd.R_nil _ _ _ _ _, HBEL.out⟩
end Go.Proofs.Ytkkfkdncddbaeaa.Fn
namespace Go.Proofs.Ytkkfkdncddbaeaa.Fn
open Go.RowKit Go.Proofs.YtkkfkdncddbaeaaW.PrintWords Go.Proofs.YtkkfkdncddbaeaaW.PrintLast Go.Proofs.YtkkfkdncddbaeaaW.PrintMore
attribute [local go_sem] max2_int min2_int max_two min_two max_three min_three max_four min_four
set_option linter.unusedVariables false
set_option linter.unusedSimpArgs false
def flagstoneref05_Look.l0 : Nat → List (S24) → List (S24) → Int → Int → Int → Option ((List (S24)) × Int)
 | 0, _, _, _, _, _ => none
 | k + 1, x0, x8, x9, x10, x11 => if x11 < (x0.length : Int) then (if 0 ≤ x11 then (if (mx ((rd_T24 x0 x11).f0) x9) ≥ (mn (wrap64 (((rd_T24 x0 x11).f0) + ((rd_T24 x0 x11).f2))) x10) then (flagstoneref05_Look.l0 k x0 x8 x9 x10 (wrap64 (x11 + 1))) else ((flagstoneref05_Add.f x8 x9 (-1) (wrap64 ((mx ((rd_T24 x0 x11).f0) x9) - x9))).bind fun t109 => ((flagstoneref05_Add.f t109 (mx ((rd_T24 x0 x11).f0) x9) (wrap64 ((wrap64 (((rd_T24 x0 x11).f1) + (mx ((rd_T24 x0 x11).f0) x9))) - ((rd_T24 x0 x11).f0))) (wrap64 ((mn (wrap64 (((rd_T24 x0 x11).f0) + ((rd_T24 x0 x11).f2))) x10) - (mx ((rd_T24 x0 x11).f0) x9)))).bind fun t114 => (flagstoneref05_Look.l0 k x0 t114 (mn (wrap64 (((rd_T24 x0 x11).f0) + ((rd_T24 x0 x11).f2))) x10) x10 (wrap64 (x11 + 1)))))) else (none)) else ((flagstoneref05_Add.f x8 x9 (-1) (wrap64 (x10 - x9))).bind fun t103 => (some (t103, 0)))
def flagstoneref05_Look.f (k : Nat) (l0 : List (S24)) (a1 : Int) (a2 : Int) : Option ((List (S24)) × Int) := (flagstoneref05_Check.f k l0).bind fun t101 => (if t101 = 0 then ((flagstoneref05_fits.f a1 a2).bind fun t102 => (if t102 = true then (flagstoneref05_Look.l0 k l0 ([] : List (S24)) a1 (wrap64 (a1 + a2)) 0) else (some (([] : List (S24)), 4)))) else (some (([] : List (S24)), 9)))
theorem flagstoneref05_Look.mono_l : ∀ k, (∀ y0 y1 y2 y3 y4, LeO (flagstoneref05_Look.l0 k y0 y1 y2 y3 y4) (flagstoneref05_Look.l0 (k + 1) y0 y1 y2 y3 y4))
 | 0 => fun _ _ _ _ _ r h => by simp [flagstoneref05_Look.l0] at h
 | k + 1 => by
  have ih0 := flagstoneref05_Look.mono_l k
  ·intro y0 y1 y2 y3 y4
   unfold flagstoneref05_Look.l0
   repeat' first
   | (with_reducible exact ih0 _ _ _ _ _)
   | (with_reducible exact flagstoneref05_Check.mono _ _)
   | (with_reducible exact LeO.refl _)
   | (with_reducible exact LeO.none _)
   | (with_reducible refine LeO.ite ?_ ?_)
   | (with_reducible refine LeO.bind ?_ (fun _ => ?_))
   | exact ih0 _ _ _ _ _
   | exact flagstoneref05_Check.mono _ _
   | exact LeO.none _
   | refine LeO.ite ?_ ?_
   | refine LeO.bind ?_ (fun _ => ?_)
theorem flagstoneref05_Look.mono : ∀ a0 a1 a2 k, LeO (flagstoneref05_Look.f k a0 a1 a2) (flagstoneref05_Look.f (k + 1) a0 a1 a2) := by
 intro a0 a1 a2 k
 have ih0 := flagstoneref05_Look.mono_l k
 unfold flagstoneref05_Look.f
 repeat' first
  | (with_reducible exact ih0 _ _ _ _ _)
  | (with_reducible exact flagstoneref05_Check.mono _ _)
  | (with_reducible exact LeO.refl _)
  | (with_reducible exact LeO.none _)
  | (with_reducible refine LeO.ite ?_ ?_)
  | (with_reducible refine LeO.bind ?_ (fun _ => ?_))
  | exact ih0 _ _ _ _ _
  | exact flagstoneref05_Check.mono _ _
  | exact LeO.none _
  | refine LeO.ite ?_ ?_
  | refine LeO.bind ?_ (fun _ => ?_)
def flagstoneref05_Look.T10 : Bool × List (List Nat × List Nat) := (true, [([], []), ([], []), ([0, 1], [0, 1]), ([2], [2]), ([3], [3]), ([], []), ([4, 5], [4, 5]), ([], []), ([], []), ([7, 8], [7, 8]), ([9], [9]), ([10], [10]), ([], []), ([], []), ([12, 13], [12, 13]), ([14], [14]), ([15], [15]), ([11, 16], [11, 16]), ([], []), ([17, 18], [17, 18]), ([6, 0, 1, 2, 3, 4, 5, 6], [6]), ([19, 20, 0, 1, 2, 3, 4, 5, 6, 7, 8, 9, 10, 11, 12, 13, 14, 15, 16, 17, 18, 19, 20], [19])])
def flagstoneref05_Look.B10 : List Nat := [0, 0, 3, 7, 15, 0, 63, 0, 0, 384, 896, 1920, 0, 0, 12288, 28672, 61440, 130944, 0, 524160, 127, 2097151]
theorem flagstoneref05_Look.tab10 : rtab .any (opsOf Try.f39 10) = flagstoneref05_Look.T10 := by kernel_rfl
theorem flagstoneref05_Look.bits10 : waitsOk flagstoneref05_Look.T10.2 flagstoneref05_Look.B10 = true := by kernel_rfl
def flagstoneref05_Look.T13 : Bool × List (List Nat × List Nat) := (true, [([], []), ([], []), ([], []), ([], []), ([2, 3], [2, 3]), ([4], [4]), ([5], [5]), ([], []), ([6, 7], [6, 7]), ([], []), ([], []), ([9, 10], [9, 10]), ([11], [11]), ([12], [12]), ([8, 13], [8, 13]), ([], []), ([], []), ([15, 16], [15, 16]), ([1, 14, 17], [1, 14, 17]), ([0, 18], [0, 18]), ([19, 19, 0, 1, 2, 3, 4, 5, 6, 7, 8, 9, 10, 11, 12, 13, 14, 15, 16, 17, 18, 19], [0, 19])])
def flagstoneref05_Look.B13 : List Nat := [0, 0, 0, 0, 12, 28, 60, 0, 252, 0, 0, 1536, 3584, 7680, 16380, 0, 0, 98304, 262142, 524287, 1048575]
theorem flagstoneref05_Look.tab13 : rtab .any (opsOf Try.f39 13) = flagstoneref05_Look.T13 := by kernel_rfl
theorem flagstoneref05_Look.bits13 : waitsOk flagstoneref05_Look.T13.2 flagstoneref05_Look.B13 = true := by kernel_rfl
set_option maxHeartbeats 8000000 in
set_option maxRecDepth 100000 in
theorem flagstoneref05_Look.calls (k : Nat) (A0 : Option Addr) (c0 : Nat) (l0 : List (S24)) (a1 : Int) (a2 : Int) (r1 : List (S24)) (r2 : Int) (w : World) (hr0 : Kd.C k24 w A0 l0.length l0) (hc0 : l0.length ≤ c0) (h : flagstoneref05_Look.f k l0 a1 a2 = some (r1, r2)) :
 Calls Try.prog 39 #[.slice A0 l0.length c0, .int .i64 a1, .int .i64 a2] w fun e w' => ∃ v0_ : Value, e = .returned (.tuple #[v0_, .int .i64 r2]) ∧ Kd.R k24 24 w' w.heap.size (fun _ => True) v0_ r1 ∧ Below w.heap.size w w' := by
 have hu24 := Try.underlying24
 have HR0 := Aside0.mk hr0
 have HC0 := Aside0.mk hc0
 clear hr0 hc0
 have HB := Aside0.mk (Below.refl w.heap.size w)
 have H : ((flagstoneref05_Check.f k l0).bind fun t101 => (if t101 = 0 then ((flagstoneref05_fits.f a1 a2).bind fun t102 => (if t102 = true then (flagstoneref05_Look.l0 k l0 ([] : List (S24)) a1 (wrap64 (a1 + a2)) 0) else (some (([] : List (S24)), 4)))) else (some (([] : List (S24)), 9)))) = some (r1, r2) := h
 clear h
 replace H := Option.bind_eq_some_iff.mp H
 obtain ⟨t101, A40, H⟩ := H
 replace H : (if t101 = 0 then ((flagstoneref05_fits.f a1 a2).bind fun t102 => (if t102 = true then (flagstoneref05_Look.l0 k l0 ([] : List (S24)) a1 (wrap64 (a1 + a2)) 0) else (some (([] : List (S24)), 4)))) else (some (([] : List (S24)), 9))) = some (r1, r2) := H
 have A4 := Aside0.mk A40
 clear A40
 by_cases c5 : t101 = 0
 ·rw [if_pos c5] at H
  have c5b0 : (t101 == 0) = true := beq_iff_eq.mpr c5
  have c5b1 : (t101 != 0) = false := bne_eq_false_iff_eq.mpr c5
  clear c5
  replace H := Option.bind_eq_some_iff.mp H
  obtain ⟨t102, A60, H⟩ := H
  replace H : (if t102 = true then (flagstoneref05_Look.l0 k l0 ([] : List (S24)) a1 (wrap64 (a1 + a2)) 0) else (some (([] : List (S24)), 4))) = some (r1, r2) := H
  have A6 := Aside0.mk A60
  clear A60
  by_cases c7 : t102 = true
  ·subst c7
   have H1 : (flagstoneref05_Look.l0 k l0 ([] : List (S24)) a1 (wrap64 (a1 + a2)) 0) = some (r1, r2) := by rw [if_pos rfl] at H; exact H
   clear H
   have H := H1
   clear H1
   have H' := Aside0.mk H
   clear H
   go_enter Try.func39, Try.ntmps39
   go_wp2_with (first | ((with_reducible refine gate_callee (f := 40) rfl ?_); refine goesL_ (some 16) rfl rfl Try.func40 (by kernel_rfl) rfl #[.slice A0 l0.length c0] rfl (by (try simp only [List.map_toArray, List.map_cons, List.map_nil]); first | done | rfl | (simp only [List.length_drop, List.length_take]; rfl)) ?_; (with_reducible refine (flagstoneref05_Check.calls k _ _ l0 t101 _ ?side1 ?side2 A4.out).mono ?_); (case side1 => repeat (first | exact HR0.out | (with_reducible refine Kd.C_alloc ?_ _) | (with_reducible refine Kd.C_drewN ?_ _) | (with_reducible refine Kd.C_drew ?_))); (case side2 => exact HC0.out); rintro e w8 ⟨rfl, hb⟩; refine ⟨_, rfl, ?_⟩; have n0_ := Aside0.mk (below_step (by repeat (first | (with_reducible first | exact HB.out | apply below_alloc | apply pw_below_drewN | apply below_drew1) | exact HB.out)) hb); clear HB; have HB := n0_; clear n0_; (try clear hb); (try clear hb2); (try clear hk); (try clear hi)) | ((with_reducible refine gate_callee (f := 89) rfl ?_); refine goesL_ (some 21) rfl rfl Try.func89 (by kernel_rfl) rfl #[.int .i64 a1, .int .i64 a2] rfl (by (try simp only [List.map_toArray, List.map_cons, List.map_nil]); first | done | rfl | (simp only [List.length_drop, List.length_take]; rfl)) ?_; (with_reducible refine (flagstoneref05_fits.calls a1 a2 true _ A6.out).mono ?_); rintro e w' ⟨rfl, ⟨nd, rfl⟩⟩; refine ⟨_, rfl, ?_⟩))
   go_loopg [8, 9, 11] k (fun kq v8 v9 v11 w' => ∃ (x8_1 : List (S24)) (x9_1 : Int) (x11_1 : Int), v9 = .int .i64 x9_1 ∧ v11 = .int .i64 x11_1 ∧ Aside0 (flagstoneref05_Look.l0 kq l0 x8_1 x9_1 (wrap64 (a1 + a2)) x11_1 = some (r1, r2)) ∧ Aside0 (kq ≤ k) ∧ Aside0 (Kd.R k24 24 w' w.heap.size (fun _ => True) v8 x8_1) ∧ Aside0 (Below w.heap.size w w'))
   case atStart => exact ⟨(([] : List (S24))), (a1), (0), (by first | rfl | (simp; done) | (simp [*]; done)), (by first | rfl | (simp; done) | (simp [*]; done)), H', ⟨Nat.le_refl _⟩, ⟨by first | exact Kd.R_nil _ _ _ _ _ | exact Kd.N_nil _ _ _ _ _ | exact Kd.V_nil _ _ _ _ _ | exact Kd.Q_nil _ _ _ _ _ | exact Kd.S_nil _ _ _ _ _⟩, ⟨by repeat (first | (with_reducible first | exact HB.out | apply below_alloc | apply pw_below_drewN | apply below_drew1) | exact HB.out)⟩⟩
   case round =>
    clear H'
    try clear p2
    try clear c3
    try clear c4
    try clear c5
    try clear c5b0
    try clear c5b1
    try clear p6
    try clear c7
    try clear c8
    obtain ⟨x8_1, x9_1, x11_1, rfl, rfl, HA, HK1, HO_8, HB⟩ := hrel
    cases gk with
    | zero => exact absurd HA.out (by simp [flagstoneref05_Look.l0])
    | succ k1 =>
     have H := HA.out
     clear HA
     simp only [flagstoneref05_Look.l0] at H
     by_cases c9 : x11_1 < (l0.length : Int)
     ·rw [if_pos c9] at H
      have c9b0 : decide (x11_1 < (l0.length : Int)) = true := decide_eq_true c9
      clear c9
      by_cases c10 : 0 ≤ x11_1
      ·rw [if_pos c10] at H
       have c10b0 : decide (0 ≤ x11_1) = true := decide_eq_true c10
       clear c10
       obtain ⟨ji11, hji11⟩ : ∃ j_ : Int, (mx ((rd_T24 l0 x11_1).f0) x9_1) = j_ := ⟨_, rfl⟩
       replace H : (if (ji11) ≥ (mn (wrap64 (((rd_T24 l0 x11_1).f0) + ((rd_T24 l0 x11_1).f2))) (wrap64 (a1 + a2))) then (flagstoneref05_Look.l0 k1 l0 x8_1 x9_1 (wrap64 (a1 + a2)) (wrap64 (x11_1 + 1))) else ((flagstoneref05_Add.f x8_1 x9_1 (-1) (wrap64 ((ji11) - x9_1))).bind fun t109 => ((flagstoneref05_Add.f t109 (ji11) (wrap64 ((wrap64 (((rd_T24 l0 x11_1).f1) + (ji11))) - ((rd_T24 l0 x11_1).f0))) (wrap64 ((mn (wrap64 (((rd_T24 l0 x11_1).f0) + ((rd_T24 l0 x11_1).f2))) (wrap64 (a1 + a2))) - (ji11)))).bind fun t114 => (flagstoneref05_Look.l0 k1 l0 t114 (mn (wrap64 (((rd_T24 l0 x11_1).f0) + ((rd_T24 l0 x11_1).f2))) (wrap64 (a1 + a2))) (wrap64 (a1 + a2)) (wrap64 (x11_1 + 1)))))) = some (r1, r2) := by first | (rw [hji11] at H; exact H) | (simp only [hji11] at H ⊢; exact H)
       have hji11_ : (if ((rd_T24 l0 x11_1).f0) < x9_1 then x9_1 else ((rd_T24 l0 x11_1).f0)) = ji11 := hji11
       obtain ⟨ji12, hji12⟩ : ∃ j_ : Int, (mn (wrap64 (((rd_T24 l0 x11_1).f0) + ((rd_T24 l0 x11_1).f2))) (wrap64 (a1 + a2))) = j_ := ⟨_, rfl⟩
       replace H : (if (ji11) ≥ (ji12) then (flagstoneref05_Look.l0 k1 l0 x8_1 x9_1 (wrap64 (a1 + a2)) (wrap64 (x11_1 + 1))) else ((flagstoneref05_Add.f x8_1 x9_1 (-1) (wrap64 ((ji11) - x9_1))).bind fun t109 => ((flagstoneref05_Add.f t109 (ji11) (wrap64 ((wrap64 (((rd_T24 l0 x11_1).f1) + (ji11))) - ((rd_T24 l0 x11_1).f0))) (wrap64 ((ji12) - (ji11)))).bind fun t114 => (flagstoneref05_Look.l0 k1 l0 t114 ji12 (wrap64 (a1 + a2)) (wrap64 (x11_1 + 1)))))) = some (r1, r2) := by first | (rw [hji12] at H; exact H) | (simp only [hji12] at H ⊢; exact H)
       have hji12_ : (if (wrap64 (a1 + a2)) < (wrap64 (((rd_T24 l0 x11_1).f0) + ((rd_T24 l0 x11_1).f2))) then (wrap64 (a1 + a2)) else (wrap64 (((rd_T24 l0 x11_1).f0) + ((rd_T24 l0 x11_1).f2)))) = ji12 := hji12
       by_cases c13 : (ji11) ≥ (ji12)
       ·rw [if_pos c13] at H
        have c13b0 : decide ((ji12) ≤ (ji11)) = true := decide_eq_true c13
        clear c13
        have H' := Aside0.mk H
        clear H
        try go_wp2
        have n0_ := Aside0.mk (Kd.R_drew HO_8.out)
        have n1_ := Aside0.mk (below_drew1 HB.out)
        clear HO_8
        clear HB
        have HO_8 := n0_
        have HB := n1_
        clear n0_ n1_
        have p106 : 0 ≤ (x11_1 : Int) := of_decide_eq_true (by first | (with_reducible assumption) | assumption)
        have q106 : x11_1 < (l0.length : Int) := of_decide_eq_true (by first | (with_reducible assumption) | assumption)
        obtain ⟨ad106, e106, hx106_0, hx106_1, hx106_2⟩ := at_T24 HR0.out x11_1 p106 q106
        have hw106_2 := hx106_2
        have hw106_1 := hx106_1
        have hw106_0 := hx106_0
        cases e106
        replace hx106_0 := (HB.out.cell (World.block_lt_of_cell? w _ hx106_0)).trans hx106_0
        replace hx106_1 := (HB.out.cell (World.block_lt_of_cell? w _ hx106_1)).trans hx106_1
        replace hx106_2 := (HB.out.cell (World.block_lt_of_cell? w _ hx106_2)).trans hx106_2
        replace p106 := eq_true p106
        replace q106 := eq_true q106
        have p107 : 0 ≤ (x11_1 : Int) := of_decide_eq_true (by first | (with_reducible assumption) | assumption)
        have q107 : x11_1 < (l0.length : Int) := of_decide_eq_true (by first | (with_reducible assumption) | assumption)
        obtain ⟨ad107, e107, hx107_0, hx107_1, hx107_2⟩ := at_T24 HR0.out x11_1 p107 q107
        have hw107_2 := hx107_2
        have hw107_1 := hx107_1
        have hw107_0 := hx107_0
        obtain rfl : ad106 = ad107 := (by injection e107)
        replace hx107_0 := (HB.out.cell (World.block_lt_of_cell? w _ hx107_0)).trans hx107_0
        replace hx107_1 := (HB.out.cell (World.block_lt_of_cell? w _ hx107_1)).trans hx107_1
        replace hx107_2 := (HB.out.cell (World.block_lt_of_cell? w _ hx107_2)).trans hx107_2
        replace p107 := eq_true p107
        replace q107 := eq_true q107
        have p108 : 0 ≤ (x11_1 : Int) := of_decide_eq_true (by first | (with_reducible assumption) | assumption)
        have q108 : x11_1 < (l0.length : Int) := of_decide_eq_true (by first | (with_reducible assumption) | assumption)
        obtain ⟨ad108, e108, hx108_0, hx108_1, hx108_2⟩ := at_T24 HR0.out x11_1 p108 q108
        have hw108_2 := hx108_2
        have hw108_1 := hx108_1
        have hw108_0 := hx108_0
        obtain rfl : ad106 = ad108 := (by injection e108)
        replace hx108_0 := (HB.out.cell (World.block_lt_of_cell? w _ hx108_0)).trans hx108_0
        replace hx108_1 := (HB.out.cell (World.block_lt_of_cell? w _ hx108_1)).trans hx108_1
        replace hx108_2 := (HB.out.cell (World.block_lt_of_cell? w _ hx108_2)).trans hx108_2
        replace p108 := eq_true p108
        replace q108 := eq_true q108
        refine start_ (n := 22) (S := fun w' => w'.cell? (ad106.add ((x11_1).toNat * 3)) = some (.int .i64 ((rd_T24 l0 x11_1).f0)) ∧ w'.cell? ⟨(ad106.add ((x11_1).toNat * 3)).block, (ad106.add ((x11_1).toNat * 3)).off + 1, none⟩ = some (.int .i64 ((rd_T24 l0 x11_1).f1)) ∧ w'.cell? ⟨(ad106.add ((x11_1).toNat * 3)).block, (ad106.add ((x11_1).toNat * 3)).off + 2, none⟩ = some (.int .i64 ((rd_T24 l0 x11_1).f2)) ∧ w'.cell? (ad106.add ((x11_1).toNat * 3)) = some (.int .i64 ((rd_T24 l0 x11_1).f0)) ∧ w'.cell? ⟨(ad106.add ((x11_1).toNat * 3)).block, (ad106.add ((x11_1).toNat * 3)).off + 1, none⟩ = some (.int .i64 ((rd_T24 l0 x11_1).f1)) ∧ w'.cell? ⟨(ad106.add ((x11_1).toNat * 3)).block, (ad106.add ((x11_1).toNat * 3)).off + 2, none⟩ = some (.int .i64 ((rd_T24 l0 x11_1).f2)) ∧ w'.cell? (ad106.add ((x11_1).toNat * 3)) = some (.int .i64 ((rd_T24 l0 x11_1).f0)) ∧ w'.cell? ⟨(ad106.add ((x11_1).toNat * 3)).block, (ad106.add ((x11_1).toNat * 3)).off + 1, none⟩ = some (.int .i64 ((rd_T24 l0 x11_1).f1)) ∧ w'.cell? ⟨(ad106.add ((x11_1).toNat * 3)).block, (ad106.add ((x11_1).toNat * 3)).off + 2, none⟩ = some (.int .i64 ((rd_T24 l0 x11_1).f2))) (ds := []) #[yF,yF,yF,yF,yF,yF,yF,yF,yF,yF,yF,yF,yF,yF,yF,yF,yF,yF,yF,yF,yF,yF] (by kernel_rfl) rfl rfl ⟨((HB.out.cell (World.block_lt_of_cell? w _ hw106_0)).trans hw106_0), ((HB.out.cell (World.block_lt_of_cell? w _ hw106_1)).trans hw106_1), ((HB.out.cell (World.block_lt_of_cell? w _ hw106_2)).trans hw106_2), ((HB.out.cell (World.block_lt_of_cell? w _ hw107_0)).trans hw107_0), ((HB.out.cell (World.block_lt_of_cell? w _ hw107_1)).trans hw107_1), ((HB.out.cell (World.block_lt_of_cell? w _ hw107_2)).trans hw107_2), ((HB.out.cell (World.block_lt_of_cell? w _ hw108_0)).trans hw108_0), ((HB.out.cell (World.block_lt_of_cell? w _ hw108_1)).trans hw108_1), ((HB.out.cell (World.block_lt_of_cell? w _ hw108_2)).trans hw108_2)⟩ (fun hHeld => ?_); refine with_tabW flagstoneref05_Look.tab10 flagstoneref05_Look.bits10 (fun HT_ HW_ => ?_)
        generalize wr.drew = w14 at HO_8 HB hx106_0 hx106_1 hx106_2 hx107_0 hx107_1 hx107_2 hx108_0 hx108_1 hx108_2 hHeld ⊢
        refine pu_ 0 33 22 1 ?_
        refine pu_ 1 34 22 3 ?_
        refine pu_ 2 35 22 7 ?_
        refine pu_ 3 36 22 15 ?_
        refine pu_ 5 38 22 47 ?_
        refine pu_ 7 40 22 175 ?_
        refine pu_ 8 41 22 431 ?_
        refine pu_ 9 42 22 943 ?_
        refine pu_ 10 43 22 1967 ?_
        refine pu_ 12 45 22 6063 ?_
        refine pu_ 13 46 22 14255 ?_
        refine pu_ 14 47 22 30639 ?_
        refine pu_ 15 48 22 63407 ?_
        refine pu_ 18 51 22 325551 ?_
        refine tk_ 4 37 22 325567 ?_
        refine pu_ 6 39 22 325631 ?_
        refine pu_ 20 12 22 1374207 ?_
        refine tk_ 11 44 22 1376255 ?_
        refine tk_ 16 49 22 1441791 ?_
        refine pu_ 17 50 22 1572863 ?_
        refine pu_ 19 52 22 2097151 ?_
        refine pu_ 21 13 22 4194303 ?_
        refine done_ (done_of HT_.out (by kernel_rfl)) ?_
        try go_wp2
        go_roundg k1
        case measure => have := HK1.out; omega
        case rel => exact ⟨(x8_1), (x9_1), (wrap64 (x11_1 + 1)), (by first | rfl | (simp; done) | (simp [*]; done)), (by first | rfl | (simp; done) | (simp [*]; done)), H', ⟨by have := HK1.out; omega⟩, ⟨by (with_reducible repeat (first | apply Kd.R_alloc | apply Kd.R_drewN | apply Kd.R_drew)); exact HO_8.out⟩, ⟨by repeat (first | (with_reducible first | exact HB.out | apply below_alloc | apply pw_below_drewN | apply below_drew1) | exact HB.out)⟩⟩
       ·rw [if_neg c13] at H
        have c13b0 : decide ((ji12) ≤ (ji11)) = false := decide_eq_false c13
        clear c13
        replace H := Option.bind_eq_some_iff.mp H
        obtain ⟨t109, A150, H⟩ := H
        replace H : ((flagstoneref05_Add.f t109 (ji11) (wrap64 ((wrap64 (((rd_T24 l0 x11_1).f1) + (ji11))) - ((rd_T24 l0 x11_1).f0))) (wrap64 ((ji12) - (ji11)))).bind fun t114 => (flagstoneref05_Look.l0 k1 l0 t114 ji12 (wrap64 (a1 + a2)) (wrap64 (x11_1 + 1)))) = some (r1, r2) := H
        have A15 := Aside0.mk A150
        clear A150
        replace H := Option.bind_eq_some_iff.mp H
        obtain ⟨t114, A160, H⟩ := H
        replace H : (flagstoneref05_Look.l0 k1 l0 t114 ji12 (wrap64 (a1 + a2)) (wrap64 (x11_1 + 1))) = some (r1, r2) := H
        have A16 := Aside0.mk A160
        clear A160
        have H' := Aside0.mk H
        clear H
        try go_wp2
        have n0_ := Aside0.mk (Kd.R_drew HO_8.out)
        have n1_ := Aside0.mk (below_drew1 HB.out)
        clear HO_8
        clear HB
        have HO_8 := n0_
        have HB := n1_
        clear n0_ n1_
        have p106 : 0 ≤ (x11_1 : Int) := of_decide_eq_true (by first | (with_reducible assumption) | assumption)
        have q106 : x11_1 < (l0.length : Int) := of_decide_eq_true (by first | (with_reducible assumption) | assumption)
        obtain ⟨ad106, e106, hx106_0, hx106_1, hx106_2⟩ := at_T24 HR0.out x11_1 p106 q106
        have hw106_2 := hx106_2
        have hw106_1 := hx106_1
        have hw106_0 := hx106_0
        cases e106
        replace hx106_0 := (HB.out.cell (World.block_lt_of_cell? w _ hx106_0)).trans hx106_0
        replace hx106_1 := (HB.out.cell (World.block_lt_of_cell? w _ hx106_1)).trans hx106_1
        replace hx106_2 := (HB.out.cell (World.block_lt_of_cell? w _ hx106_2)).trans hx106_2
        replace p106 := eq_true p106
        replace q106 := eq_true q106
        have p107 : 0 ≤ (x11_1 : Int) := of_decide_eq_true (by first | (with_reducible assumption) | assumption)
        have q107 : x11_1 < (l0.length : Int) := of_decide_eq_true (by first | (with_reducible assumption) | assumption)
        obtain ⟨ad107, e107, hx107_0, hx107_1, hx107_2⟩ := at_T24 HR0.out x11_1 p107 q107
        have hw107_2 := hx107_2
        have hw107_1 := hx107_1
        have hw107_0 := hx107_0
        obtain rfl : ad106 = ad107 := (by injection e107)
        replace hx107_0 := (HB.out.cell (World.block_lt_of_cell? w _ hx107_0)).trans hx107_0
        replace hx107_1 := (HB.out.cell (World.block_lt_of_cell? w _ hx107_1)).trans hx107_1
        replace hx107_2 := (HB.out.cell (World.block_lt_of_cell? w _ hx107_2)).trans hx107_2
        replace p107 := eq_true p107
        replace q107 := eq_true q107
        have p108 : 0 ≤ (x11_1 : Int) := of_decide_eq_true (by first | (with_reducible assumption) | assumption)
        have q108 : x11_1 < (l0.length : Int) := of_decide_eq_true (by first | (with_reducible assumption) | assumption)
        obtain ⟨ad108, e108, hx108_0, hx108_1, hx108_2⟩ := at_T24 HR0.out x11_1 p108 q108
        have hw108_2 := hx108_2
        have hw108_1 := hx108_1
        have hw108_0 := hx108_0
        obtain rfl : ad106 = ad108 := (by injection e108)
        replace hx108_0 := (HB.out.cell (World.block_lt_of_cell? w _ hx108_0)).trans hx108_0
        replace hx108_1 := (HB.out.cell (World.block_lt_of_cell? w _ hx108_1)).trans hx108_1
        replace hx108_2 := (HB.out.cell (World.block_lt_of_cell? w _ hx108_2)).trans hx108_2
        replace p108 := eq_true p108
        replace q108 := eq_true q108
        refine start_ (n := 22) (S := fun w' => w'.cell? (ad106.add ((x11_1).toNat * 3)) = some (.int .i64 ((rd_T24 l0 x11_1).f0)) ∧ w'.cell? ⟨(ad106.add ((x11_1).toNat * 3)).block, (ad106.add ((x11_1).toNat * 3)).off + 1, none⟩ = some (.int .i64 ((rd_T24 l0 x11_1).f1)) ∧ w'.cell? ⟨(ad106.add ((x11_1).toNat * 3)).block, (ad106.add ((x11_1).toNat * 3)).off + 2, none⟩ = some (.int .i64 ((rd_T24 l0 x11_1).f2)) ∧ w'.cell? (ad106.add ((x11_1).toNat * 3)) = some (.int .i64 ((rd_T24 l0 x11_1).f0)) ∧ w'.cell? ⟨(ad106.add ((x11_1).toNat * 3)).block, (ad106.add ((x11_1).toNat * 3)).off + 1, none⟩ = some (.int .i64 ((rd_T24 l0 x11_1).f1)) ∧ w'.cell? ⟨(ad106.add ((x11_1).toNat * 3)).block, (ad106.add ((x11_1).toNat * 3)).off + 2, none⟩ = some (.int .i64 ((rd_T24 l0 x11_1).f2)) ∧ w'.cell? (ad106.add ((x11_1).toNat * 3)) = some (.int .i64 ((rd_T24 l0 x11_1).f0)) ∧ w'.cell? ⟨(ad106.add ((x11_1).toNat * 3)).block, (ad106.add ((x11_1).toNat * 3)).off + 1, none⟩ = some (.int .i64 ((rd_T24 l0 x11_1).f1)) ∧ w'.cell? ⟨(ad106.add ((x11_1).toNat * 3)).block, (ad106.add ((x11_1).toNat * 3)).off + 2, none⟩ = some (.int .i64 ((rd_T24 l0 x11_1).f2))) (ds := []) #[yF,yF,yF,yF,yF,yF,yF,yF,yF,yF,yF,yF,yF,yF,yF,yF,yF,yF,yF,yF,yF,yF] (by kernel_rfl) rfl rfl ⟨((HB.out.cell (World.block_lt_of_cell? w _ hw106_0)).trans hw106_0), ((HB.out.cell (World.block_lt_of_cell? w _ hw106_1)).trans hw106_1), ((HB.out.cell (World.block_lt_of_cell? w _ hw106_2)).trans hw106_2), ((HB.out.cell (World.block_lt_of_cell? w _ hw107_0)).trans hw107_0), ((HB.out.cell (World.block_lt_of_cell? w _ hw107_1)).trans hw107_1), ((HB.out.cell (World.block_lt_of_cell? w _ hw107_2)).trans hw107_2), ((HB.out.cell (World.block_lt_of_cell? w _ hw108_0)).trans hw108_0), ((HB.out.cell (World.block_lt_of_cell? w _ hw108_1)).trans hw108_1), ((HB.out.cell (World.block_lt_of_cell? w _ hw108_2)).trans hw108_2)⟩ (fun hHeld => ?_); refine with_tabW flagstoneref05_Look.tab10 flagstoneref05_Look.bits10 (fun HT_ HW_ => ?_)
        generalize wr.drew = w17 at HO_8 HB hx106_0 hx106_1 hx106_2 hx107_0 hx107_1 hx107_2 hx108_0 hx108_1 hx108_2 hHeld ⊢
        refine pu_ 0 33 22 1 ?_
        refine pu_ 1 34 22 3 ?_
        refine pu_ 2 35 22 7 ?_
        refine pu_ 3 36 22 15 ?_
        refine pu_ 5 38 22 47 ?_
        refine pu_ 7 40 22 175 ?_
        refine pu_ 8 41 22 431 ?_
        refine pu_ 9 42 22 943 ?_
        refine pu_ 10 43 22 1967 ?_
        refine pu_ 12 45 22 6063 ?_
        refine pu_ 13 46 22 14255 ?_
        refine pu_ 14 47 22 30639 ?_
        refine pu_ 15 48 22 63407 ?_
        refine pu_ 18 51 22 325551 ?_
        refine tk_ 4 37 22 325567 ?_
        refine pu_ 6 39 22 325631 ?_
        refine pu_ 20 12 22 1374207 ?_
        refine tk_ 11 44 22 1376255 ?_
        refine tk_ 16 49 22 1441791 ?_
        refine pu_ 17 50 22 1572863 ?_
        refine pu_ 19 52 22 2097151 ?_
        refine pu_ 21 13 22 4194303 ?_
        refine done_ (done_of HT_.out (by kernel_rfl)) ?_
        obtain ⟨Ao18, co18, eo18⟩ := Kd.R_slice HO_8.out
        subst eo18
        try go_wp2_with (first | ((with_reducible refine gate_callee (f := 99) rfl ?_); refine goesL_ (some 62) rfl rfl Try.func99 (by kernel_rfl) rfl #[.slice Ao18 x8_1.length co18, .agg #[.int .i64 x9_1, .int .i64 (-1), .int .i64 (wrap64 ((ji11) - x9_1))]] rfl (by (try simp only [List.map_toArray, List.map_cons, List.map_nil]); first | done | (simp only [hji11]; rfl) | rfl | (simp only [List.length_drop, List.length_take]; rfl)) ?_; (with_reducible refine (flagstoneref05_Add.calls (fun k_ => some k_ = (.slice Ao18 x8_1.length co18 : Value).ownBlock) (.slice Ao18 x8_1.length co18) x8_1 x9_1 (-1) (wrap64 ((ji11) - x9_1)) t109 w _ ?side1 ?side2 A15.out).mono ?_); (case side1 => repeat (first | (with_reducible first | exact HB.out | apply below_alloc | apply pw_below_drewN | apply below_drew1) | exact HB.out)); (case side2 => exact Kd.R_tight rfl HO_8.out); rintro e w19 ⟨v110, rfl, ho0, hb, hkp⟩; refine ⟨_, rfl, ?_⟩; have n0_ := Aside0.mk (Kd.R_mono (ok' := fun k_ => True) ho0 (fun k_ hk_ => trivial)); have n1_ := Aside0.mk (hb); clear HB; clear HO_8; have HO111 := n0_; have HB := n1_; clear n0_ n1_; (try clear hb); (try clear hkp); (try clear ho0)))
        have n0_ := Aside0.mk (Kd.R_drew HO111.out)
        have n1_ := Aside0.mk (below_drew1 HB.out)
        clear HO111
        clear HB
        have HO111 := n0_
        have HB := n1_
        clear n0_ n1_
        have p112 : 0 ≤ (x11_1 : Int) := of_decide_eq_true (by first | (with_reducible assumption) | assumption)
        have q112 : x11_1 < (l0.length : Int) := of_decide_eq_true (by first | (with_reducible assumption) | assumption)
        obtain ⟨ad112, e112, hx112_0, hx112_1, hx112_2⟩ := at_T24 HR0.out x11_1 p112 q112
        have hw112_2 := hx112_2
        have hw112_1 := hx112_1
        have hw112_0 := hx112_0
        obtain rfl : ad106 = ad112 := (by injection e112)
        replace hx112_0 := (HB.out.cell (World.block_lt_of_cell? w _ hx112_0)).trans hx112_0
        replace hx112_1 := (HB.out.cell (World.block_lt_of_cell? w _ hx112_1)).trans hx112_1
        replace hx112_2 := (HB.out.cell (World.block_lt_of_cell? w _ hx112_2)).trans hx112_2
        replace p112 := eq_true p112
        replace q112 := eq_true q112
        have p113 : 0 ≤ (x11_1 : Int) := of_decide_eq_true (by first | (with_reducible assumption) | assumption)
        have q113 : x11_1 < (l0.length : Int) := of_decide_eq_true (by first | (with_reducible assumption) | assumption)
        obtain ⟨ad113, e113, hx113_0, hx113_1, hx113_2⟩ := at_T24 HR0.out x11_1 p113 q113
        have hw113_2 := hx113_2
        have hw113_1 := hx113_1
        have hw113_0 := hx113_0
        obtain rfl : ad106 = ad113 := (by injection e113)
        replace hx113_0 := (HB.out.cell (World.block_lt_of_cell? w _ hx113_0)).trans hx113_0
        replace hx113_1 := (HB.out.cell (World.block_lt_of_cell? w _ hx113_1)).trans hx113_1
        replace hx113_2 := (HB.out.cell (World.block_lt_of_cell? w _ hx113_2)).trans hx113_2
        replace p113 := eq_true p113
        replace q113 := eq_true q113
        obtain ⟨Ao21, co21, eo21⟩ := Kd.R_slice HO111.out
        (first | subst eo21 | (injection eo21 with f1_ f2_ f3_; have f4_ := f1_.symm; have f5_ := f3_.symm; clear f1_ f2_ f3_; subst f4_; subst f5_))
        refine start_ (n := 21) (S := fun w' => w'.cell? (ad106.add ((x11_1).toNat * 3)) = some (.int .i64 ((rd_T24 l0 x11_1).f0)) ∧ w'.cell? ⟨(ad106.add ((x11_1).toNat * 3)).block, (ad106.add ((x11_1).toNat * 3)).off + 1, none⟩ = some (.int .i64 ((rd_T24 l0 x11_1).f1)) ∧ w'.cell? ⟨(ad106.add ((x11_1).toNat * 3)).block, (ad106.add ((x11_1).toNat * 3)).off + 2, none⟩ = some (.int .i64 ((rd_T24 l0 x11_1).f2)) ∧ w'.cell? (ad106.add ((x11_1).toNat * 3)) = some (.int .i64 ((rd_T24 l0 x11_1).f0)) ∧ w'.cell? ⟨(ad106.add ((x11_1).toNat * 3)).block, (ad106.add ((x11_1).toNat * 3)).off + 1, none⟩ = some (.int .i64 ((rd_T24 l0 x11_1).f1)) ∧ w'.cell? ⟨(ad106.add ((x11_1).toNat * 3)).block, (ad106.add ((x11_1).toNat * 3)).off + 2, none⟩ = some (.int .i64 ((rd_T24 l0 x11_1).f2))) (ds := []) #[yF,yF,yF,yF,yF,yF,yF,yF,yF,yF,yF,yF,yF,yF,yF,yF,yF,yF,yF,yF,yF] (by kernel_rfl) rfl rfl ⟨((HB.out.cell (World.block_lt_of_cell? w _ hw112_0)).trans hw112_0), ((HB.out.cell (World.block_lt_of_cell? w _ hw112_1)).trans hw112_1), ((HB.out.cell (World.block_lt_of_cell? w _ hw112_2)).trans hw112_2), ((HB.out.cell (World.block_lt_of_cell? w _ hw113_0)).trans hw113_0), ((HB.out.cell (World.block_lt_of_cell? w _ hw113_1)).trans hw113_1), ((HB.out.cell (World.block_lt_of_cell? w _ hw113_2)).trans hw113_2)⟩ (fun hHeld => ?_); refine with_tabW flagstoneref05_Look.tab13 flagstoneref05_Look.bits13 (fun HT_ HW_ => ?_)
        generalize w19.drew = w20 at HO111 HB hx112_0 hx112_1 hx112_2 hx113_0 hx113_1 hx113_2 hHeld ⊢
        refine pu_ 0 63 21 1 ?_
        refine pu_ 1 64 21 3 ?_
        refine pu_ 2 65 21 7 ?_
        refine pu_ 3 66 21 15 ?_
        refine pu_ 4 67 21 31 ?_
        refine pu_ 5 68 21 63 ?_
        refine pu_ 7 70 21 191 ?_
        refine pu_ 9 72 21 703 ?_
        refine pu_ 10 73 21 1727 ?_
        refine pu_ 11 74 21 3775 ?_
        refine pu_ 12 75 21 7871 ?_
        refine pu_ 15 78 21 40639 ?_
        refine pu_ 16 79 21 106175 ?_
        refine pu_ 17 80 21 237247 ?_
        refine tk_ 6 69 21 237311 ?_
        refine pu_ 8 71 21 237567 ?_
        refine tk_ 13 76 21 245759 ?_
        refine pu_ 14 77 21 262143 ?_
        refine pu_ 18 81 21 524287 ?_
        refine on_ 19 82 21 1048575 (fun K hK => ?_)
        refine goes_ Try.func99 (by kernel_rfl) rfl #[.slice Ao21 t109.length co21, .agg #[.int .i64 ji11, .int .i64 (wrap64 ((wrap64 (((rd_T24 l0 x11_1).f1) + (ji11))) - ((rd_T24 l0 x11_1).f0))), .int .i64 (wrap64 ((ji12) - (ji11)))]] (by rfl) rfl rfl (by (try simp only [List.map_toArray, List.map_cons, List.map_nil]); first | done | (simp only [hji11, hji12]; rfl) | rfl | (simp only [List.length_drop, List.length_take]; rfl)) ?_
        with_reducible refine (flagstoneref05_Add.calls (fun k_ => some k_ = (.slice Ao21 t109.length co21 : Value).ownBlock) (.slice Ao21 t109.length co21) t109 ji11 (wrap64 ((wrap64 (((rd_T24 l0 x11_1).f1) + (ji11))) - ((rd_T24 l0 x11_1).f0))) (wrap64 ((ji12) - (ji11))) t114 w _ ?side1 ?side2 A16.out).mono ?_
        (case side1 => repeat (first | (with_reducible first | exact HB.out | apply below_alloc | apply pw_below_drewN | apply below_drew1) | exact HB.out))
        (case side2 => exact Kd.R_tight rfl HO111.out)
        rintro e w22 ⟨v115, rfl, ho0, hb, hkp⟩
        refine ⟨_, rfl, ?_⟩
        have n0_ := Aside0.mk (Kd.R_mono (ok' := fun k_ => True) ho0 (fun k_ hk_ => trivial))
        have n1_ := Aside0.mk (hb)
        clear HB
        clear HO111
        have HO116 := n0_
        have HB := n1_
        clear n0_ n1_
        (try clear hb)
        (try clear hkp)
        (try clear ho0)
        refine hK.out _ _ ⟨((HB.out.cell (World.block_lt_of_cell? w _ hw112_0)).trans hw112_0), ((HB.out.cell (World.block_lt_of_cell? w _ hw112_1)).trans hw112_1), ((HB.out.cell (World.block_lt_of_cell? w _ hw112_2)).trans hw112_2), ((HB.out.cell (World.block_lt_of_cell? w _ hw113_0)).trans hw113_0), ((HB.out.cell (World.block_lt_of_cell? w _ hw113_1)).trans hw113_1), ((HB.out.cell (World.block_lt_of_cell? w _ hw113_2)).trans hw113_2)⟩ (fun hHeld => ?_)
        clear hK K
        refine nm_ 82 ?_
        refine pu_ 20 8 21 2097151 ?_
        refine done_ (done_of HT_.out (by kernel_rfl)) ?_
        try go_wp2
        go_roundg k1
        case measure => have := HK1.out; omega
        case rel => exact ⟨(t114), (ji12), (wrap64 (x11_1 + 1)), (by first | rfl | (simp; done) | (simp only [← hji12] <;> (first | rfl | simp)) | (simp [*]; done)), (by first | rfl | (simp; done) | (simp [*]; done)), H', ⟨by have := HK1.out; omega⟩, ⟨by (with_reducible repeat (first | apply Kd.R_alloc | apply Kd.R_drewN | apply Kd.R_drew)); exact HO116.out⟩, ⟨by repeat (first | (with_reducible first | exact HB.out | apply below_alloc | apply pw_below_drewN | apply below_drew1) | exact HB.out)⟩⟩
      ·rw [if_neg c10] at H
       exact absurd H (by simp)
     ·rw [if_neg c9] at H
      have c9b0 : decide (x11_1 < (l0.length : Int)) = false := decide_eq_false c9
      clear c9
      replace H := Option.bind_eq_some_iff.mp H
      obtain ⟨t103, A230, H⟩ := H
      replace H : (some (t103, 0)) = some (r1, r2) := H
      have A23 := Aside0.mk A230
      clear A230
      simp only [Option.some.injEq, Prod.mk.injEq] at H
      obtain ⟨rfl, rfl⟩ := H
      obtain ⟨Ao24, co24, eo24⟩ := Kd.R_slice HO_8.out
      subst eo24
      go_wp2_with (first | ((with_reducible refine gate_callee (f := 99) rfl ?_); refine goesL_ (some 90) rfl rfl Try.func99 (by kernel_rfl) rfl #[.slice Ao24 x8_1.length co24, .agg #[.int .i64 x9_1, .int .i64 (-1), .int .i64 (wrap64 ((wrap64 (a1 + a2)) - x9_1))]] rfl (by (try simp only [List.map_toArray, List.map_cons, List.map_nil]); first | done | rfl | (simp only [List.length_drop, List.length_take]; rfl)) ?_; (with_reducible refine (flagstoneref05_Add.calls (fun k_ => some k_ = (.slice Ao24 x8_1.length co24 : Value).ownBlock) (.slice Ao24 x8_1.length co24) x8_1 x9_1 (-1) (wrap64 ((wrap64 (a1 + a2)) - x9_1)) t103 w _ ?side1 ?side2 A23.out).mono ?_); (case side1 => repeat (first | (with_reducible first | exact HB.out | apply below_alloc | apply pw_below_drewN | apply below_drew1) | exact HB.out)); (case side2 => exact Kd.R_tight rfl HO_8.out); rintro e w25 ⟨v104, rfl, ho0, hb, hkp⟩; refine ⟨_, rfl, ?_⟩; have n0_ := Aside0.mk (Kd.R_mono (ok' := fun k_ => True) ho0 (fun k_ hk_ => trivial)); have n1_ := Aside0.mk (hb); clear HB; clear HO_8; have HO105 := n0_; have HB := n1_; clear n0_ n1_; (try clear hb); (try clear hkp); (try clear ho0)))
      go_ret2
      exact ⟨_, by first | rfl | (simp [errW_none, errW_some] <;> rfl) | (simp [*, errW_none, errW_some] <;> rfl), by (with_reducible repeat (first | apply Kd.R_alloc | apply Kd.R_drewN | apply Kd.R_drew)); exact HO105.out, by repeat (first | (with_reducible first | exact HB.out | apply below_alloc | apply pw_below_drewN | apply below_drew1) | exact HB.out)⟩
  ·replace c7 := Bool.eq_false_iff.mpr c7
   subst c7
   have H1 : (some (([] : List (S24)), 4)) = some (r1, r2) := by rw [if_neg (show ¬ (false = true) by decide)] at H; exact H
   clear H
   have H := H1
   clear H1
   simp only [Option.some.injEq, Prod.mk.injEq] at H
   obtain ⟨rfl, rfl⟩ := H
   go_enter Try.func39, Try.ntmps39
   go_wp2_with (first | ((with_reducible refine gate_callee (f := 40) rfl ?_); refine goesL_ (some 16) rfl rfl Try.func40 (by kernel_rfl) rfl #[.slice A0 l0.length c0] rfl (by (try simp only [List.map_toArray, List.map_cons, List.map_nil]); first | done | rfl | (simp only [List.length_drop, List.length_take]; rfl)) ?_; (with_reducible refine (flagstoneref05_Check.calls k _ _ l0 t101 _ ?side1 ?side2 A4.out).mono ?_); (case side1 => repeat (first | exact HR0.out | (with_reducible refine Kd.C_alloc ?_ _) | (with_reducible refine Kd.C_drewN ?_ _) | (with_reducible refine Kd.C_drew ?_))); (case side2 => exact HC0.out); rintro e w26 ⟨rfl, hb⟩; refine ⟨_, rfl, ?_⟩; have n0_ := Aside0.mk (below_step (by repeat (first | (with_reducible first | exact HB.out | apply below_alloc | apply pw_below_drewN | apply below_drew1) | exact HB.out)) hb); clear HB; have HB := n0_; clear n0_; (try clear hb); (try clear hb2); (try clear hk); (try clear hi)) | ((with_reducible refine gate_callee (f := 89) rfl ?_); refine goesL_ (some 21) rfl rfl Try.func89 (by kernel_rfl) rfl #[.int .i64 a1, .int .i64 a2] rfl (by (try simp only [List.map_toArray, List.map_cons, List.map_nil]); first | done | rfl | (simp only [List.length_drop, List.length_take]; rfl)) ?_; (with_reducible refine (flagstoneref05_fits.calls a1 a2 false _ A6.out).mono ?_); rintro e w' ⟨rfl, ⟨nd, rfl⟩⟩; refine ⟨_, rfl, ?_⟩))
   go_ret2
   exact ⟨_, by first | rfl | (simp [errW_none, errW_some] <;> rfl) | (simp [*, errW_none, errW_some] <;> rfl), by first | exact Kd.R_nil _ _ _ _ _ | exact Kd.N_nil _ _ _ _ _ | exact Kd.V_nil _ _ _ _ _ | exact Kd.Q_nil _ _ _ _ _ | exact Kd.S_nil _ _ _ _ _, by repeat (first | (with_reducible first | exact HB.out | apply below_alloc | apply pw_below_drewN | apply below_drew1) | exact HB.out)⟩
 ·rw [if_neg c5] at H
  have c5b0 : (t101 == 0) = false := beq_eq_false_iff_ne.mpr c5
  have c5b1 : (t101 != 0) = true := bne_iff_ne.mpr c5
  simp only [Option.some.injEq, Prod.mk.injEq] at H
  obtain ⟨rfl, rfl⟩ := H
  go_enter Try.func39, Try.ntmps39
  go_wp2_with (first | ((with_reducible refine gate_callee (f := 40) rfl ?_); refine goesL_ (some 16) rfl rfl Try.func40 (by kernel_rfl) rfl #[.slice A0 l0.length c0] rfl (by (try simp only [List.map_toArray, List.map_cons, List.map_nil]); first | done | rfl | (simp only [List.length_drop, List.length_take]; rfl)) ?_; (with_reducible refine (flagstoneref05_Check.calls k _ _ l0 t101 _ ?side1 ?side2 A4.out).mono ?_); (case side1 => repeat (first | exact HR0.out | (with_reducible refine Kd.C_alloc ?_ _) | (with_reducible refine Kd.C_drewN ?_ _) | (with_reducible refine Kd.C_drew ?_))); (case side2 => exact HC0.out); rintro e w27 ⟨rfl, hb⟩; refine ⟨_, rfl, ?_⟩; have n0_ := Aside0.mk (below_step (by repeat (first | (with_reducible first | exact HB.out | apply below_alloc | apply pw_below_drewN | apply below_drew1) | exact HB.out)) hb); clear HB; have HB := n0_; clear n0_; (try clear hb); (try clear hb2); (try clear hk); (try clear hi)))
  go_ret2
  exact ⟨_, by first | rfl | (simp [errW_none, errW_some] <;> rfl) | (simp [*, errW_none, errW_some] <;> rfl), by first | exact Kd.R_nil _ _ _ _ _ | exact Kd.N_nil _ _ _ _ _ | exact Kd.V_nil _ _ _ _ _ | exact Kd.Q_nil _ _ _ _ _ | exact Kd.S_nil _ _ _ _ _, by repeat (first | (with_reducible first | exact HB.out | apply below_alloc | apply pw_below_drewN | apply below_drew1) | exact HB.out)⟩
def looksG (e : Int) : List S24 → Int → List S24
  | [], at_ => [⟨at_, -1, wrap64 (e - at_)⟩]
  | x :: t, at_ => if (partG x at_ e).f2 ≤ 0 then looksG e t at_ else ⟨at_, -1, wrap64 ((partG x at_ e).f0 - at_)⟩ :: partG x at_ e :: looksG e t (wrap64 ((partG x at_ e).f0 + (partG x at_ e).f2))
theorem looks_pieces (e : Int) (l : List S24) : ∀ s : List S24 × Int, addG (l.foldl (lookStep e) s).1 ⟨(l.foldl (lookStep e) s).2, -1, wrap64 (e - (l.foldl (lookStep e) s).2)⟩ = (looksG e l s.2).foldl addG s.1 := by
  induction l with
  | nil => intro s; rfl
  | cons x t ih =>
    intro s
    rw [List.foldl_cons, ih, looksG]
    unfold lookStep
    split
    · rfl
    · rfl
theorem lookL_pieces (l : List S24) (v n : Int) : lookL l v n = (looksG (wrap64 (v + n)) l v).foldl addG [] := looks_pieces _ l ([], v)
theorem lookL_length (l : List S24) (v n : Int) : (lookL l v n).length ≤ 2 * l.length + 1 := by
  unfold lookL
  have h1 := lookFold_length (wrap64 (v + n)) l ([], v)
  have h2 := addG_length (l.foldl (lookStep (wrap64 (v + n))) ([], v)).1 ⟨(l.foldl (lookStep (wrap64 (v + n))) ([], v)).2, -1, wrap64 (wrap64 (v + n) - (l.foldl (lookStep (wrap64 (v + n))) ([], v)).2)⟩
  simp only [List.length_nil] at h1
  omega
theorem look_r_loop (l : List S24) (hl : l.length ≤ 1024) (hok : ∀ x ∈ l, Flag.okMap (toE x)) {e : Int} (he : 0 ≤ e ∧ e ≤ 65536) (t : List S24) : ∀ (pre acc : List S24) (at_ : Int) (k : Nat), l = pre ++ t → t.length < k → acc.length ≤ 2 * pre.length → 0 ≤ at_ → at_ ≤ 65536 →
    flagstoneref05_Look.l0 k l acc at_ e (pre.length : Int) = some ((looksG e t at_).foldl addG acc, 0) := by
  induction t with
  | nil =>
    intro pre acc a k h hk hacc h0 h1
    obtain ⟨k, rfl⟩ : ∃ k', k = k' + 1 := ⟨k - 1, by simp at hk; omega⟩
    have hlen : l.length = pre.length := by rw [h]; simp
    have := add_r (l := acc) (x := ⟨a, -1, wrap64 (e - a)⟩) (by omega)
    dsimp only at this
    rw [flagstoneref05_Look.l0, if_neg (by omega), this]
    rfl
  | cons x t ih =>
    intro pre acc a k h hk hacc h0 h1
    obtain ⟨k, rfl⟩ : ∃ k', k = k' + 1 := ⟨k - 1, by simp at hk; omega⟩
    have hlen : l.length = pre.length + t.length + 1 := by rw [h]; simp; omega
    have hr : rd_T24 l (pre.length : Int) = x := by rw [h]; exact rd_at pre x t rfl
    have hx := hok x (by rw [h]; simp)
    obtain ⟨g1, g2, g3, g4, g5⟩ := hx
    simp only [toE] at g1 g2 g3 g4 g5
    have e1 : wrap64 ((pre.length : Int) + 1) = ((pre ++ [x]).length : Int) := by rw [w64 (by omega)]; simp
    rw [flagstoneref05_Look.l0, if_pos (by omega), if_pos (by omega), hr, e1, mx_max, mn_min, w64 (n := x.f0 + x.f2) (by omega), looksG]
    have hp : partG x a e = ⟨max x.f0 a, x.f1 + (max x.f0 a - x.f0), min (x.f0 + x.f2) e - max x.f0 a⟩ := by
      unfold partG
      rw [mx_max, mn_min, w64 (n := x.f0 + x.f2) (by omega), Int.max_comm, Int.min_comm, if_neg (by omega), w64 (n := max x.f0 a - x.f0) (by omega), w64 (n := x.f1 + (max x.f0 a - x.f0)) (by omega), w64 (n := min (x.f0 + x.f2) e - max x.f0 a) (by omega)]
    rw [hp]
    dsimp only
    by_cases hc : max x.f0 a ≥ min (x.f0 + x.f2) e
    · rw [if_pos hc, if_pos (by omega)]
      exact ih (pre ++ [x]) acc a k (by rw [h]; simp) (by simp at hk; omega) (by simp; omega) h0 h1
    · have a1 := add_r (l := acc) (x := ⟨a, -1, wrap64 (max x.f0 a - a)⟩) (by omega)
      have l1 := addG_length acc ⟨a, -1, wrap64 (max x.f0 a - a)⟩
      have a2 := add_r (l := addG acc ⟨a, -1, wrap64 (max x.f0 a - a)⟩) (x := ⟨max x.f0 a, x.f1 + (max x.f0 a - x.f0), min (x.f0 + x.f2) e - max x.f0 a⟩) (by omega)
      have l2 := addG_length (addG acc ⟨a, -1, wrap64 (max x.f0 a - a)⟩) ⟨max x.f0 a, x.f1 + (max x.f0 a - x.f0), min (x.f0 + x.f2) e - max x.f0 a⟩
      dsimp only at a1 a2
      have w1 : wrap64 (wrap64 (x.f1 + max x.f0 a) - x.f0) = x.f1 + (max x.f0 a - x.f0) := by rw [w64 (n := x.f1 + max x.f0 a) (by omega), w64 (by omega)]; omega
      have w2 : wrap64 (min (x.f0 + x.f2) e - max x.f0 a) = min (x.f0 + x.f2) e - max x.f0 a := w64 (by omega)
      have w3 : wrap64 (max x.f0 a + (min (x.f0 + x.f2) e - max x.f0 a)) = min (x.f0 + x.f2) e := by rw [w64 (by omega)]; omega
      rw [if_neg hc, if_neg (by omega), a1, Option.bind_some, w1, w2, a2, Option.bind_some, w3]
      exact ih (pre ++ [x]) _ _ k (by rw [h]; simp) (by simp at hk; omega) (by simp; omega) (by omega) (by omega)
theorem look_r {l : List S24} {v n : Int} {k : Nat} (hk : 2 * l.length < k) : flagstoneref05_Look.f k l v n = some (lookS l v n) := by
  unfold flagstoneref05_Look.f lookS
  rw [check_r l hk, Option.bind_some, fits_rB, Option.bind_some]
  rcases Flag.checkE_or (l.map toE) with h | h
  · rw [if_pos h, if_pos h]
    have hm := Flag.checkE_ok.1 h
    by_cases hf : fitsB v n = true
    · rw [if_pos hf, if_pos hf]
      obtain ⟨f1, f2, f3⟩ := fitsB_iff.1 hf
      have hl : l.length ≤ 1024 := by simpa using hm.len
      rw [lookL_pieces, w64 (by omega)]
      exact look_r_loop l hl (fun x hx => hm.ok _ (List.mem_map_of_mem hx)) ⟨by omega, f3⟩ l [] [] v k rfl (by omega) (by simp) f1 (by omega)
    · rw [if_neg hf, if_neg hf]
  · rw [if_neg (by omega), if_neg (by omega)]
theorem lookS_len (l : List S24) (v n : Int) (h : l.length ≤ 1024 ∨ Flag.checkE (l.map toE) ≠ 0) : (lookS l v n).1.length ≤ 4096 := by
  unfold lookS
  split
  · rename_i hc
    have := lookL_length l v n
    split
    · have hl : l.length ≤ 1024 := by simpa using (Flag.checkE_ok.1 hc).len
      show (lookL l v n).length ≤ 4096
      omega
    · simp
  · simp
def getM (o : Int) : List S94 → List S24
  | [] => []
  | x :: t => if x.f0 < o then getM o t else if x.f0 = o then x.f1 else []
def putM (o : Int) (m : List S24) : List S94 → List S94
  | [] => [⟨o, m⟩]
  | x :: t => if x.f0 < o then x :: putM o m t else if x.f0 = o then ⟨o, m⟩ :: t else ⟨o, m⟩ :: x :: t
def hasX (l : List S24) : Bool := l.any fun x => x.f1 != -1
def backG : List S88 → List S94 → Bool → List S94 × Int
  | [], o, tw => if tw = true then ([], 6) else if 9 < o.length then ([], 3) else (o, 0)
  | r :: t, o, tw => if r.f2 < 0 ∨ 255 < r.f2 then ([], 4) else
    if (putS (getM r.f2 o) ⟨r.f3, r.f0, r.f1⟩).2 = 0 then backG t (putM r.f2 (putS (getM r.f2 o) ⟨r.f3, r.f0, r.f1⟩).1 o) (tw || hasX (lookS (getM r.f2 o) r.f3 r.f1).1) else ([], 4)
def backF (l : List S88) : List S94 × Int := if 4096 < l.length then ([], 3) else backG l [] false
section
variable {o : Int} {m : List S24} {l pre t : List S94} {x : S94}
theorem getM_pre (h : ∀ y ∈ pre, y.f0 < o) : getM o (pre ++ t) = getM o t := by
  induction pre with
  | nil => rfl
  | cons y p ih => rw [List.cons_append, getM, if_pos (h y List.mem_cons_self)]; exact ih fun z hz => h z (List.mem_cons_of_mem _ hz)
theorem putM_pre (h : ∀ y ∈ pre, y.f0 < o) : putM o m (pre ++ t) = pre ++ putM o m t := by
  induction pre with
  | nil => rfl
  | cons y p ih => rw [List.cons_append, putM, if_pos (h y List.mem_cons_self), ih fun z hz => h z (List.mem_cons_of_mem _ hz)]; rfl
theorem putM_len : (putM o m l).length ≤ l.length + 1 := by
  induction l with
  | nil => exact Nat.le_refl _
  | cons y p ih => unfold putM; split <;> try split
                   all_goals simp only [List.length_cons]; omega
theorem putM_mem (h : x ∈ putM o m l) : x = ⟨o, m⟩ ∨ x ∈ l := by
  induction l with
  | nil => exact .inl (by simpa [putM] using h)
  | cons y p ih =>
    unfold putM at h
    split at h
    · rcases List.mem_cons.1 h with h | h
      · exact .inr (by rw [h]; exact List.mem_cons_self)
      · exact (ih h).imp id (List.mem_cons_of_mem _)
    · split at h
      · rcases List.mem_cons.1 h with h | h
        · exact .inl h
        · exact .inr (List.mem_cons_of_mem _ h)
      · rcases List.mem_cons.1 h with h | h
        · exact .inl h
        · exact .inr h
def SortM (l : List S94) : Prop := l.Pairwise fun a b => a.f0 < b.f0
theorem putM_sort (h : SortM l) : SortM (putM o m l) := by
  unfold SortM at *
  induction l with
  | nil => simp [putM]
  | cons y p ih =>
    obtain ⟨h1, h2⟩ := List.pairwise_cons.1 h
    unfold putM
    split
    · rename_i c
      refine List.pairwise_cons.2 ⟨fun z hz => ?_, ih h2⟩
      rcases putM_mem hz with rfl | hz
      · exact c
      · exact h1 z hz
    · split
      · rename_i c
        exact List.pairwise_cons.2 ⟨fun z hz => by have := h1 z hz; show o < z.f0; omega, h2⟩
      · refine List.pairwise_cons.2 ⟨fun z hz => ?_, h⟩
        show o < z.f0
        rcases List.mem_cons.1 hz with rfl | hz
        · omega
        · have := h1 z hz; omega
structure Maps9 (l : List S94) : Prop where
  sort : SortM l
  own : ∀ x ∈ l, 0 ≤ x.f0 ∧ x.f0 ≤ 255
  map : ∀ x ∈ l, Flag.checkE (x.f1.map toE) = 0
theorem maps9_nil : Maps9 [] := ⟨List.Pairwise.nil, fun _ h => (by cases h), fun _ h => (by cases h)⟩
theorem getM_map (h : Maps9 l) : Flag.checkE ((getM o l).map toE) = 0 := by
  replace h := h.map
  induction l with
  | nil => rfl
  | cons y p ih =>
    unfold getM
    split
    · exact ih fun z hz => h z (List.mem_cons_of_mem _ hz)
    · split
      · exact h y List.mem_cons_self
      · rfl
theorem getM_len (h : Maps9 l) : (getM o l).length ≤ 1024 := by simpa using (Flag.checkE_ok.1 (getM_map (o := o) h)).len
theorem putS_map {l : List S24} {x : S24} (h : (putS l x).2 = 0) : Flag.checkE ((putS l x).1.map toE) = 0 := by
  have hp := putS_ok h
  rw [hp.is]
  exact Flag.checkE_ok.2 hp.map2
theorem Maps9.put (h : Maps9 l) (ho : ¬ (o < 0 ∨ 255 < o)) {x : S24} (hp : (putS (getM o l) x).2 = 0) : Maps9 (putM o (putS (getM o l) x).1 l) := by
  refine ⟨putM_sort h.sort, fun y hy => ?_, fun y hy => ?_⟩
  · rcases putM_mem hy with rfl | hy
    · show 0 ≤ o ∧ o ≤ 255; omega
    · exact h.own y hy
  · rcases putM_mem hy with rfl | hy
    · exact putS_map hp
    · exact h.map y hy
end
structure AtM (o : Int) (l : List S94) (i : Nat) : Prop where
  le : i ≤ l.length
  low : ∀ y ∈ l.take i, y.f0 < o
  up : ∀ y ∈ l.drop i, o ≤ y.f0
section
variable {o : Int} {m : List S24} {l : List S94} {i : Nat}
theorem AtM.hit (h : AtM o l i) (hi : i < l.length) (he : l[i].f0 = o) : getM o l = l[i].f1 ∧ putM o m l = l.set i ⟨o, m⟩ := by
  have e1 : l.drop i = l[i] :: l.drop (i + 1) := (List.getElem_cons_drop hi).symm
  have e2 : l = l.take i ++ (l[i] :: l.drop (i + 1)) := by rw [← e1, List.take_append_drop]
  have g : getM o (l[i] :: l.drop (i + 1)) = l[i].f1 := by rw [getM, if_neg (by omega), if_pos he]
  have p : putM o m (l[i] :: l.drop (i + 1)) = ⟨o, m⟩ :: l.drop (i + 1) := by rw [putM, if_neg (by omega), if_pos he]
  refine ⟨?_, ?_⟩
  · conv => lhs; rw [e2]
    rw [getM_pre h.low, g]
  · conv => lhs; rw [e2]
    rw [putM_pre h.low, p, List.set_eq_take_append_cons_drop, if_pos hi]
theorem AtM.miss (h : AtM o l i) (hm : ∀ hi : i < l.length, l[i].f0 ≠ o) : getM o l = [] ∧ putM o m l = (l.take i ++ [(⟨o, []⟩ : S94)] ++ l.drop i).set i ⟨o, m⟩ := by
  have e2 : l = l.take i ++ l.drop i := (List.take_append_drop i l).symm
  have hl : (l.take i).length = i := by rw [List.length_take]; have := h.le; omega
  have gp : getM o (l.drop i) = [] ∧ putM o m (l.drop i) = ⟨o, m⟩ :: l.drop i := by
    by_cases hi : i < l.length
    · have e1 : l.drop i = l[i] :: l.drop (i + 1) := (List.getElem_cons_drop hi).symm
      have h1 := h.up l[i] (by rw [e1]; exact List.mem_cons_self)
      have h2 := hm hi
      rw [e1]
      exact ⟨by rw [getM, if_neg (by omega), if_neg h2], by rw [putM, if_neg (by omega), if_neg h2]⟩
    · rw [List.drop_of_length_le (by omega)]
      exact ⟨rfl, rfl⟩
  refine ⟨?_, ?_⟩
  · conv => lhs; rw [e2]
    rw [getM_pre h.low, gp.1]
  · conv => lhs; rw [e2]
    rw [putM_pre h.low, gp.2, List.append_assoc, List.set_append_right _ _ (by omega), hl, Nat.sub_self]
    rfl
end
end Go.Proofs.Ytkkfkdncddbaeaa.Fn
