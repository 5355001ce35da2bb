/- Part 7 of the walk: printed by programs of this session (by way of the kit's print) or told by hand. -/
import Derived.Test.YtkkfkdncddbaeaaM6
namespace Go.Proofs.Ytkkfkdncddbaeaa.Fn
open Go.RowKit Go.Proofs.YtkkfkdncddbaeaaW.PrintWords Go.Proofs.YtkkfkdncddbaeaaW.PrintLast Go.Proofs.YtkkfkdncddbaeaaW.PrintMore
attribute [local go_sem] max2_int min2_int max_two min_two max_three min_three max_four min_four
set_option linter.unusedVariables false
set_option linter.unusedSimpArgs false
def flagstoneref06_Without.l0 : Nat → Int → List (S40) → Int → Int → List (S40) → Option (Int × (List (S40)) × Int)
 | 0, _, _, _, _, _ => none
 | k + 1, x0, x1, x8, x108000, x108001 => if x8 < (x1.length : Int) then (if 0 ≤ x8 then ((flagstoneref06_inside.f ((rd_T40 x1 x8).f0) ((rd_T40 x1 x8).f1) x0).bind fun t109 => (if t109 = true then ((flagstoneref06_without.f x108001 ((rd_T40 x1 x8).f0) ((rd_T40 x1 x8).f1)).bind fun t111 => (flagstoneref06_Without.l0 k x0 x1 (wrap64 (x8 + 1)) x108000 t111)) else (some (0, ([] : List (S40)), 4)))) else (none)) else (if (x108001.length : Int) > 1024 then (some (0, ([] : List (S40)), 51)) else (some (x108000, x108001, 0)))
def flagstoneref06_Without.f (k : Nat) (a0 : Int) (l1 : List (S40)) : Option (Int × (List (S40)) × Int) := (flagstoneref06_New.f k a0).bind fun bt102 => (if bt102.2.2 = 0 then (if (l1.length : Int) > 1024 then (some (0, ([] : List (S40)), 3)) else (flagstoneref06_Without.l0 k a0 l1 0 bt102.1 bt102.2.1)) else (some (0, ([] : List (S40)), bt102.2.2)))
theorem flagstoneref06_Without.mono_l : ∀ k, (∀ y0 y1 y2 y3 y4, LeO (flagstoneref06_Without.l0 k y0 y1 y2 y3 y4) (flagstoneref06_Without.l0 (k + 1) y0 y1 y2 y3 y4))
 | 0 => fun _ _ _ _ _ r h => by simp [flagstoneref06_Without.l0] at h
 | k + 1 => by
  have ih0 := flagstoneref06_Without.mono_l k
  ·intro y0 y1 y2 y3 y4
   unfold flagstoneref06_Without.l0
   repeat' first
   | (with_reducible exact ih0 _ _ _ _ _)
   | (with_reducible exact flagstoneref06_New.mono _ _)
   | (with_reducible exact LeO.refl _)
   | (with_reducible exact LeO.none _)
   | (with_reducible refine LeO.ite ?_ ?_)
   | (with_reducible refine LeO.bind ?_ (fun _ => ?_))
   | exact ih0 _ _ _ _ _
   | exact flagstoneref06_New.mono _ _
   | exact LeO.none _
   | refine LeO.ite ?_ ?_
   | refine LeO.bind ?_ (fun _ => ?_)
theorem flagstoneref06_Without.mono : ∀ a0 a1 k, LeO (flagstoneref06_Without.f k a0 a1) (flagstoneref06_Without.f (k + 1) a0 a1) := by
 intro a0 a1 k
 have ih0 := flagstoneref06_Without.mono_l k
 unfold flagstoneref06_Without.f
 repeat' first
  | (with_reducible exact ih0 _ _ _ _ _)
  | (with_reducible exact flagstoneref06_New.mono _ _)
  | (with_reducible exact LeO.refl _)
  | (with_reducible exact LeO.none _)
  | (with_reducible refine LeO.ite ?_ ?_)
  | (with_reducible refine LeO.bind ?_ (fun _ => ?_))
  | exact ih0 _ _ _ _ _
  | exact flagstoneref06_New.mono _ _
  | exact LeO.none _
  | refine LeO.ite ?_ ?_
  | refine LeO.bind ?_ (fun _ => ?_)
def flagstoneref06_Without.T11 : Bool × List (List Nat × List Nat) := (true, [([], []), ([0], [0]), ([], []), ([], []), ([2, 3], [2, 3]), ([4], [4]), ([1, 5], [1, 5]), ([0, 1, 2, 3, 4, 5, 6], []), ([7, 6, 6, 0, 1, 2, 3, 4, 5, 6], [6, 7])])
def flagstoneref06_Without.B11 : List Nat := [0, 1, 0, 0, 12, 28, 63, 127, 255]
theorem flagstoneref06_Without.tab11 : rtab .any (opsOf Try.f85 11) = flagstoneref06_Without.T11 := by kernel_rfl
theorem flagstoneref06_Without.bits11 : waitsOk flagstoneref06_Without.T11.2 flagstoneref06_Without.B11 = true := by kernel_rfl
set_option maxHeartbeats 8000000 in
set_option maxRecDepth 100000 in
theorem flagstoneref06_Without.calls (k : Nat) (a0 : Int) (A1 : Option Addr) (c1 : Nat) (l1 : List (S40)) (r1 : Int) (r2 : List (S40)) (r3 : Int) (w : World) (hr1 : Kd.C k40 w A1 l1.length l1) (hc1 : l1.length ≤ c1) (h : flagstoneref06_Without.f k a0 l1 = some (r1, r2, r3)) :
 Calls Try.prog 85 #[.int .i64 a0, .slice A1 l1.length c1] w fun e w' => ∃ v1_ : Value, e = .returned (.tuple #[.agg #[.int .i64 r1, v1_], .int .i64 r3]) ∧ Kd.R k40 40 w' w.heap.size (fun _ => True) v1_ r2 ∧ Below w.heap.size w w' := by
 have hu56 := Try.underlying56
 have hu40 := Try.underlying40
 have HR1 := Aside0.mk hr1
 have HC1 := Aside0.mk hc1
 clear hr1 hc1
 have HB := Aside0.mk (Below.refl w.heap.size w)
 have H : ((flagstoneref06_New.f k a0).bind fun bt102 => (if bt102.2.2 = 0 then (if (l1.length : Int) > 1024 then (some (0, ([] : List (S40)), 3)) else (flagstoneref06_Without.l0 k a0 l1 0 bt102.1 bt102.2.1)) else (some (0, ([] : List (S40)), bt102.2.2)))) = some (r1, r2, r3) := h
 clear h
 replace H := Option.bind_eq_some_iff.mp H
 obtain ⟨⟨t102, t103, t106⟩, A30, H⟩ := H
 replace H : (if t106 = 0 then (if (l1.length : Int) > 1024 then (some (0, ([] : List (S40)), 3)) else (flagstoneref06_Without.l0 k a0 l1 0 t102 t103)) else (some (0, ([] : List (S40)), t106))) = some (r1, r2, r3) := H
 have A3 := Aside0.mk A30
 clear A30
 by_cases c4 : t106 = 0
 ·rw [if_pos c4] at H
  have c4b0 : (t106 == 0) = true := beq_iff_eq.mpr c4
  have c4b1 : (t106 != 0) = false := bne_eq_false_iff_eq.mpr c4
  clear c4
  by_cases c5 : (l1.length : Int) > 1024
  ·rw [if_pos c5] at H
   have c5b0 : decide (1024 < (l1.length : Int)) = true := decide_eq_true c5
   have c5b1 : decide (1024 < l1.length) = true := decide_eq_true (by omega)
   clear c5
   simp only [Option.some.injEq, Prod.mk.injEq] at H
   obtain ⟨rfl, rfl, rfl⟩ := H
   go_enter Try.func85, Try.ntmps85
   go_wp2_with (first | ((with_reducible refine gate_dst (N := 4) rfl ?_); refine box_event ?hg (N := 4) ?hd (cs := #[.int .i64 0, .slice none 0 0]) (t := 56) ?hr ?_; (case hd => rfl); (case hg => rfl); (case hr => first | (go_simp; done) | (go_simp; rfl)); intro gb101 hg w6 hbox hb; have n0_ := Aside0.mk (below_step (by repeat (first | (with_reducible first | exact HB.out | apply below_alloc | apply pw_below_drewN | apply below_drew1) | exact HB.out)) hb); have n1_ := Aside0.mk (hbox); have n2_ := Aside0.mk ((by rw [hg]; exact (below_size (by repeat (first | (with_reducible first | exact HB.out | apply below_alloc | apply pw_below_drewN | apply below_drew1) | exact HB.out))) : w.heap.size ≤ gb101)); have n3_ := Aside0.mk ((by rw [hg]; exact (below_size (by repeat (first | (with_reducible first | exact HB.out | apply below_alloc | apply pw_below_drewN | apply below_drew1) | exact HB.out))) : w.heap.size ≤ gb101)); clear HB; have HB := n0_; have BK101 := n1_; have GW101 := n2_; have GE101 := n3_; clear n0_ n1_ n2_ n3_; clear hb hbox hg) | ((with_reducible refine gate_callee (f := 84) rfl ?_); refine goesL_ (some 11) rfl rfl Try.func84 (by kernel_rfl) rfl #[.int .i64 a0] rfl (by (try simp only [List.map_toArray, List.map_cons, List.map_nil]); first | done | rfl | (simp only [List.length_drop, List.length_take]; rfl)) ?_; (with_reducible refine (flagstoneref06_New.calls k a0 t102 t103 t106 _ A3.out).mono ?_); rintro e w7 ⟨v104, rfl, ho0, hb⟩; refine ⟨_, rfl, ?_⟩; have n0_ := Aside0.mk (Kd.R_lower ho0 (below_size (by repeat (first | (with_reducible first | exact HB.out | apply below_alloc | apply pw_below_drewN | apply below_drew1 | refine below_set ?_ GE101.out) | exact HB.out)))); have n1_ := Aside0.mk (blk_below (g := gb101) (o := .cells #[.int .i64 0, .slice none 0 0] 56 (0, 0)) (by (with_reducible repeat (first | refine blk_drewN ?_ _ | refine blk_drew ?_ | refine blk_alloc ?_ _)); exact BK101.out) hb); have n2_ := Aside0.mk (below_step (by repeat (first | (with_reducible first | exact HB.out | apply below_alloc | apply pw_below_drewN | apply below_drew1 | refine below_set ?_ GE101.out) | exact HB.out)) hb); clear BK101; clear HB; have HO105 := n0_; have BK101 := n1_; have HB := n2_; clear n0_ n1_ n2_; (try clear hb); (try clear hb2); (try clear hk); (try clear hi); (try clear ho0)) | ((with_reducible refine gate_dst (N := 6) rfl ?_); refine box_event ?hg (N := 6) ?hd (cs := #[.int .i64 0, .slice none 0 0]) (t := 56) ?hr ?_; (case hd => rfl); (case hg => rfl); (case hr => first | (go_simp; done) | (go_simp; rfl)); intro gb107 hg w8 hbox hb; have n0_ := Aside0.mk (Kd.R_below (by (with_reducible repeat (first | apply Kd.R_alloc | apply Kd.R_drewN | apply Kd.R_drew)); exact HO105.out) hb); have n1_ := Aside0.mk (blk_below (g := gb101) (o := .cells #[.int .i64 0, .slice none 0 0] 56 (0, 0)) (by (with_reducible repeat (first | refine blk_drewN ?_ _ | refine blk_drew ?_ | refine blk_alloc ?_ _)); exact BK101.out) hb); have n2_ := Aside0.mk (below_step (by repeat (first | (with_reducible first | exact HB.out | apply below_alloc | apply pw_below_drewN | apply below_drew1 | refine below_set ?_ GE101.out) | exact HB.out)) hb); have n3_ := Aside0.mk (hbox); have n4_ := Aside0.mk ((by rw [hg]; exact (below_size (by repeat (first | (with_reducible first | exact HB.out | apply below_alloc | apply pw_below_drewN | apply below_drew1 | refine below_set ?_ GE101.out) | exact HB.out))) : w.heap.size ≤ gb107)); have n5_ := Aside0.mk ((by rw [hg]; exact (below_size (by repeat (first | (with_reducible first | exact HB.out | apply below_alloc | apply pw_below_drewN | apply below_drew1 | refine below_set ?_ GE101.out) | exact HB.out))) : w.heap.size ≤ gb107)); have n6_ := Aside0.mk ((by rw [hg]; exact Nat.ne_of_lt (blk_lt (g := gb101) (o := .cells #[.int .i64 0, .slice none 0 0] 56 (0, 0)) (by (with_reducible repeat (first | refine blk_drewN ?_ _ | refine blk_drew ?_ | refine blk_alloc ?_ _)); exact BK101.out)) : gb101 ≠ gb107)); have n7_ := Aside0.mk ((by rw [hg]; exact Nat.ne_of_gt (blk_lt (g := gb101) (o := .cells #[.int .i64 0, .slice none 0 0] 56 (0, 0)) (by (with_reducible repeat (first | refine blk_drewN ?_ _ | refine blk_drew ?_ | refine blk_alloc ?_ _)); exact BK101.out)) : gb107 ≠ gb101)); clear HO105; clear BK101; clear HB; have HO105 := n0_; have BK101 := n1_; have HB := n2_; have BK107 := n3_; have GW107 := n4_; have GE107 := n5_; have NB101_107 := n6_; have NB107_101 := n7_; clear n0_ n1_ n2_ n3_ n4_ n5_ n6_ n7_; clear hb hbox hg; have hnb9 := NB107_101.out; have hnc9 := NB101_107.out; have hcz10_0 : w8.cell? ⟨gb107, 0, none⟩ = some (.int .i64 0) := (blk_cell BK107.out 0).trans rfl; have hcz10_1 : w8.cell? ⟨gb107, 1, none⟩ = some (.slice none 0 0) := (blk_cell BK107.out 1).trans rfl; have hfz10_0 := blk_frozen BK107.out 0; have hfz10_1 := blk_frozen BK107.out 1; obtain ⟨Ao11, co11, eo11⟩ := Kd.R_slice HO105.out; subst eo11; have hcz12_0 : w8.cell? ⟨gb101, 0, none⟩ = some (.int .i64 0) := (blk_cell BK101.out 0).trans rfl; have hcz12_1 : w8.cell? ⟨gb101, 1, none⟩ = some (.slice none 0 0) := (blk_cell BK101.out 1).trans rfl; have hfz12_0 := blk_frozen BK101.out 0; have hfz12_1 := blk_frozen BK101.out 1))
   refine bodyPost_ret (results_ct rfl _ _ gb101 56 #[.int .i64 0, .slice none 0 0] (0, 0) _ rfl (by (with_reducible repeat (first | refine blk_drewN ?_ _ | refine blk_drew ?_ | refine blk_alloc ?_ _)); refine blk_put (cs := #[.int .i64 0, .slice none 0 0]) ?_ 1 _ rfl; (with_reducible repeat (first | refine blk_drewN ?_ _ | refine blk_drew ?_ | refine blk_alloc ?_ _)); refine blk_put (cs := #[.int .i64 0, .slice none 0 0]) ?_ 0 _ rfl; (with_reducible repeat (first | refine blk_drewN ?_ _ | refine blk_drew ?_ | refine blk_alloc ?_ _)); refine blk_far ?_ NB101_107.out _; (with_reducible repeat (first | refine blk_drewN ?_ _ | refine blk_drew ?_ | refine blk_alloc ?_ _)); refine blk_far ?_ NB101_107.out _; (with_reducible repeat (first | refine blk_drewN ?_ _ | refine blk_drew ?_ | refine blk_alloc ?_ _)); exact BK101.out) Try.underlying56 rfl (by kernel_rfl)) rfl ?_
   exact ⟨_, by first | rfl | (simp [errW_none, errW_some] <;> rfl) | (simp [*, errW_none, errW_some] <;> rfl), by first | exact Kd.R_nil _ _ _ _ _ | exact Kd.N_nil _ _ _ _ _ | exact Kd.V_nil _ _ _ _ _ | exact Kd.Q_nil _ _ _ _ _ | exact Kd.S_nil _ _ _ _ _, by repeat (first | (with_reducible first | exact HB.out | apply below_alloc | apply pw_below_drewN | apply below_drew1 | refine below_set ?_ GE101.out | refine below_set ?_ GE107.out) | exact HB.out)⟩
  ·rw [if_neg c5] at H
   have c5b0 : decide (1024 < (l1.length : Int)) = false := decide_eq_false c5
   have c5b1 : decide (1024 < l1.length) = false := decide_eq_false (by omega)
   clear c5
   have H' := Aside0.mk H
   clear H
   go_enter Try.func85, Try.ntmps85
   go_wp2_with (first | ((with_reducible refine gate_dst (N := 4) rfl ?_); refine box_event ?hg (N := 4) ?hd (cs := #[.int .i64 0, .slice none 0 0]) (t := 56) ?hr ?_; (case hd => rfl); (case hg => rfl); (case hr => first | (go_simp; done) | (go_simp; rfl)); intro gb101 hg w13 hbox hb; have n0_ := Aside0.mk (below_step (by repeat (first | (with_reducible first | exact HB.out | apply below_alloc | apply pw_below_drewN | apply below_drew1) | exact HB.out)) hb); have n1_ := Aside0.mk (hbox); have n2_ := Aside0.mk ((by rw [hg]; exact (below_size (by repeat (first | (with_reducible first | exact HB.out | apply below_alloc | apply pw_below_drewN | apply below_drew1) | exact HB.out))) : w.heap.size ≤ gb101)); have n3_ := Aside0.mk ((by rw [hg]; exact (below_size (by repeat (first | (with_reducible first | exact HB.out | apply below_alloc | apply pw_below_drewN | apply below_drew1) | exact HB.out))) : w.heap.size ≤ gb101)); clear HB; have HB := n0_; have BK101 := n1_; have GW101 := n2_; have GE101 := n3_; clear n0_ n1_ n2_ n3_; clear hb hbox hg) | ((with_reducible refine gate_callee (f := 84) rfl ?_); refine goesL_ (some 11) rfl rfl Try.func84 (by kernel_rfl) rfl #[.int .i64 a0] rfl (by (try simp only [List.map_toArray, List.map_cons, List.map_nil]); first | done | rfl | (simp only [List.length_drop, List.length_take]; rfl)) ?_; (with_reducible refine (flagstoneref06_New.calls k a0 t102 t103 t106 _ A3.out).mono ?_); rintro e w14 ⟨v104, rfl, ho0, hb⟩; refine ⟨_, rfl, ?_⟩; have n0_ := Aside0.mk (Kd.R_lower ho0 (below_size (by repeat (first | (with_reducible first | exact HB.out | apply below_alloc | apply pw_below_drewN | apply below_drew1 | refine below_set ?_ GE101.out) | exact HB.out)))); have n1_ := Aside0.mk (blk_below (g := gb101) (o := .cells #[.int .i64 0, .slice none 0 0] 56 (0, 0)) (by (with_reducible repeat (first | refine blk_drewN ?_ _ | refine blk_drew ?_ | refine blk_alloc ?_ _)); exact BK101.out) hb); have n2_ := Aside0.mk (below_step (by repeat (first | (with_reducible first | exact HB.out | apply below_alloc | apply pw_below_drewN | apply below_drew1 | refine below_set ?_ GE101.out) | exact HB.out)) hb); clear BK101; clear HB; have HO105 := n0_; have BK101 := n1_; have HB := n2_; clear n0_ n1_ n2_; (try clear hb); (try clear hb2); (try clear hk); (try clear hi); (try clear ho0)) | ((with_reducible refine gate_dst (N := 6) rfl ?_); refine box_event ?hg (N := 6) ?hd (cs := #[.int .i64 0, .slice none 0 0]) (t := 56) ?hr ?_; (case hd => rfl); (case hg => rfl); (case hr => first | (go_simp; done) | (go_simp; rfl)); intro gb107 hg w15 hbox hb; have n0_ := Aside0.mk (Kd.R_below (by (with_reducible repeat (first | apply Kd.R_alloc | apply Kd.R_drewN | apply Kd.R_drew)); exact HO105.out) hb); have n1_ := Aside0.mk (blk_below (g := gb101) (o := .cells #[.int .i64 0, .slice none 0 0] 56 (0, 0)) (by (with_reducible repeat (first | refine blk_drewN ?_ _ | refine blk_drew ?_ | refine blk_alloc ?_ _)); exact BK101.out) hb); have n2_ := Aside0.mk (below_step (by repeat (first | (with_reducible first | exact HB.out | apply below_alloc | apply pw_below_drewN | apply below_drew1 | refine below_set ?_ GE101.out) | exact HB.out)) hb); have n3_ := Aside0.mk (hbox); have n4_ := Aside0.mk ((by rw [hg]; exact (below_size (by repeat (first | (with_reducible first | exact HB.out | apply below_alloc | apply pw_below_drewN | apply below_drew1 | refine below_set ?_ GE101.out) | exact HB.out))) : w.heap.size ≤ gb107)); have n5_ := Aside0.mk ((by rw [hg]; exact (below_size (by repeat (first | (with_reducible first | exact HB.out | apply below_alloc | apply pw_below_drewN | apply below_drew1 | refine below_set ?_ GE101.out) | exact HB.out))) : w.heap.size ≤ gb107)); have n6_ := Aside0.mk ((by rw [hg]; exact Nat.ne_of_lt (blk_lt (g := gb101) (o := .cells #[.int .i64 0, .slice none 0 0] 56 (0, 0)) (by (with_reducible repeat (first | refine blk_drewN ?_ _ | refine blk_drew ?_ | refine blk_alloc ?_ _)); exact BK101.out)) : gb101 ≠ gb107)); have n7_ := Aside0.mk ((by rw [hg]; exact Nat.ne_of_gt (blk_lt (g := gb101) (o := .cells #[.int .i64 0, .slice none 0 0] 56 (0, 0)) (by (with_reducible repeat (first | refine blk_drewN ?_ _ | refine blk_drew ?_ | refine blk_alloc ?_ _)); exact BK101.out)) : gb107 ≠ gb101)); clear HO105; clear BK101; clear HB; have HO105 := n0_; have BK101 := n1_; have HB := n2_; have BK107 := n3_; have GW107 := n4_; have GE107 := n5_; have NB101_107 := n6_; have NB107_101 := n7_; clear n0_ n1_ n2_ n3_ n4_ n5_ n6_ n7_; clear hb hbox hg; have hnb16 := NB107_101.out; have hnc16 := NB101_107.out; have hcz17_0 : w15.cell? ⟨gb107, 0, none⟩ = some (.int .i64 0) := (blk_cell BK107.out 0).trans rfl; have hcz17_1 : w15.cell? ⟨gb107, 1, none⟩ = some (.slice none 0 0) := (blk_cell BK107.out 1).trans rfl; have hfz17_0 := blk_frozen BK107.out 0; have hfz17_1 := blk_frozen BK107.out 1; obtain ⟨Ao18, co18, eo18⟩ := Kd.R_slice HO105.out; subst eo18))
   go_loopg [8] k (fun kq v8 w' => ∃ (x8_1 : Int) (x102000_1 : Int) (x108001_1 : List (S40)) (u108001 : Value), v8 = .int .i64 x8_1 ∧ Aside0 (flagstoneref06_Without.l0 kq a0 l1 x8_1 t102 x108001_1 = some (r1, r2, r3)) ∧ Aside0 (kq ≤ k) ∧ Aside0 (Kd.R k40 40 w' w.heap.size (fun _ => True) u108001 x108001_1) ∧ Aside0 (w'.heap[gb101]? = some (.cells #[.int .i64 x102000_1, (.slice none 0 0)] 56 (0, 0))) ∧ Aside0 (w'.heap[gb107]? = some (.cells #[.int .i64 t102, u108001] 56 (0, 0))) ∧ Aside0 (Below w.heap.size w w'))
   case atStart => exact ⟨(0), (0), (t103), (.slice Ao18 t103.length co18), (by first | rfl | (simp; done) | (simp [*]; done)), H', ⟨Nat.le_refl _⟩, ⟨by (with_reducible repeat (first | apply Kd.R_alloc | apply Kd.R_drewN | apply Kd.R_drew)); exact Kd.R_mono (Kd.R_far (p := ⟨gb107, 1, none⟩) (Kd.R_far (p := ⟨gb107, 0, none⟩) (Kd.R_types HO105.out BK107.out (by decide)) (fun _ hk => hk.2) (.int .i64 t102)) (fun _ hk => hk.2) (.slice Ao18 t103.length co18)) (fun _ hk => trivial)⟩, ⟨by (with_reducible repeat (first | refine blk_drewN ?_ _ | refine blk_drew ?_ | refine blk_alloc ?_ _)); refine blk_far ?_ NB101_107.out _; (with_reducible repeat (first | refine blk_drewN ?_ _ | refine blk_drew ?_ | refine blk_alloc ?_ _)); refine blk_far ?_ NB101_107.out _; (with_reducible repeat (first | refine blk_drewN ?_ _ | refine blk_drew ?_ | refine blk_alloc ?_ _)); exact BK101.out⟩, ⟨by (with_reducible repeat (first | refine blk_drewN ?_ _ | refine blk_drew ?_ | refine blk_alloc ?_ _)); refine blk_put (cs := #[.int .i64 t102, .slice none 0 0]) ?_ 1 _ rfl; (with_reducible repeat (first | refine blk_drewN ?_ _ | refine blk_drew ?_ | refine blk_alloc ?_ _)); refine blk_put (cs := #[.int .i64 0, .slice none 0 0]) ?_ 0 _ rfl; (with_reducible repeat (first | refine blk_drewN ?_ _ | refine blk_drew ?_ | refine blk_alloc ?_ _)); exact BK107.out⟩, ⟨by repeat (first | (with_reducible first | exact HB.out | apply below_alloc | apply pw_below_drewN | apply below_drew1 | refine below_set ?_ GE101.out | refine below_set ?_ GE107.out) | exact HB.out)⟩⟩
   case round =>
    clear H'
    try clear c1
    try clear p2
    try clear c4
    try clear c4b0
    try clear c4b1
    try clear c5
    try clear c5b0
    try clear c5b1
    try clear c8
    try clear c9
    try clear c16
    try clear hcz10_0
    try clear hcz10_1
    try clear hcz12_0
    try clear hcz12_1
    try clear hcz17_0
    try clear hcz17_1
    try clear hfz10_0
    try clear hfz10_1
    try clear hfz12_0
    try clear hfz12_1
    try clear hfz17_0
    try clear hfz17_1
    obtain ⟨x8_1, x102000_1, x108001_1, u108001, rfl, HA, HK1, HO_108001, BK101, BK107, HB⟩ := hrel
    cases gk with
    | zero => exact absurd HA.out (by simp [flagstoneref06_Without.l0])
    | succ k1 =>
     have H := HA.out
     clear HA
     simp only [flagstoneref06_Without.l0] at H
     by_cases c19 : x8_1 < (l1.length : Int)
     ·rw [if_pos c19] at H
      have c19b0 : decide (x8_1 < (l1.length : Int)) = true := decide_eq_true c19
      clear c19
      by_cases c20 : 0 ≤ x8_1
      ·rw [if_pos c20] at H
       have c20b0 : decide (0 ≤ x8_1) = true := decide_eq_true c20
       clear c20
       replace H := Option.bind_eq_some_iff.mp H
       obtain ⟨t109, A210, H⟩ := H
       replace H : (if t109 = true then ((flagstoneref06_without.f x108001_1 ((rd_T40 l1 x8_1).f0) ((rd_T40 l1 x8_1).f1)).bind fun t111 => (flagstoneref06_Without.l0 k1 a0 l1 (wrap64 (x8_1 + 1)) t102 t111)) else (some (0, ([] : List (S40)), 4))) = some (r1, r2, r3) := H
       have A21 := Aside0.mk A210
       clear A210
       by_cases c22 : t109 = true
       ·subst c22
        have H1 : ((flagstoneref06_without.f x108001_1 ((rd_T40 l1 x8_1).f0) ((rd_T40 l1 x8_1).f1)).bind fun t111 => (flagstoneref06_Without.l0 k1 a0 l1 (wrap64 (x8_1 + 1)) t102 t111)) = some (r1, r2, r3) := by rw [if_pos rfl] at H; exact H
        clear H
        have H := H1
        clear H1
        replace H := Option.bind_eq_some_iff.mp H
        obtain ⟨t111, A230, H⟩ := H
        replace H : (flagstoneref06_Without.l0 k1 a0 l1 (wrap64 (x8_1 + 1)) t102 t111) = some (r1, r2, r3) := H
        have A23 := Aside0.mk A230
        clear A230
        have H' := Aside0.mk H
        clear H
        have p108 : 0 ≤ (x8_1 : Int) := of_decide_eq_true (by first | (with_reducible assumption) | assumption)
        have q108 : x8_1 < (l1.length : Int) := of_decide_eq_true (by first | (with_reducible assumption) | assumption)
        obtain ⟨ad108, e108, hx108_0, hx108_1⟩ := at_T40 HR1.out x8_1 p108 q108
        cases e108
        replace hx108_0 := (HB.out.cell (World.block_lt_of_cell? w _ hx108_0)).trans hx108_0
        replace hx108_1 := (HB.out.cell (World.block_lt_of_cell? w _ hx108_1)).trans hx108_1
        replace p108 := eq_true p108
        replace q108 := eq_true q108
        try go_wp2_with (first | ((with_reducible refine gate_callee (f := 110) rfl ?_); refine goesL_ (some 35) rfl rfl Try.func110 (by kernel_rfl) rfl #[.agg #[.int .i64 ((rd_T40 l1 x8_1).f0), .int .i64 ((rd_T40 l1 x8_1).f1)], .int .i64 a0] rfl (by (try simp only [List.map_toArray, List.map_cons, List.map_nil]); first | done | rfl | (simp only [List.length_drop, List.length_take]; rfl)) ?_; (with_reducible refine (flagstoneref06_inside.calls ((rd_T40 l1 x8_1).f0) ((rd_T40 l1 x8_1).f1) a0 true _ A21.out).mono ?_); rintro e w24 ⟨rfl, hb⟩; refine ⟨_, rfl, ?_⟩; have n0_ := Aside0.mk (Kd.R_below (by (with_reducible repeat (first | apply Kd.R_alloc | apply Kd.R_drewN | apply Kd.R_drew)); exact HO_108001.out) hb); have n1_ := Aside0.mk (blk_below (g := gb101) (o := .cells #[.int .i64 x102000_1, .slice none 0 0] 56 (0, 0)) (by (with_reducible repeat (first | refine blk_drewN ?_ _ | refine blk_drew ?_ | refine blk_alloc ?_ _)); exact BK101.out) hb); have n2_ := Aside0.mk (blk_below (g := gb107) (o := .cells #[.int .i64 t102, u108001] 56 (0, 0)) (by (with_reducible repeat (first | refine blk_drewN ?_ _ | refine blk_drew ?_ | refine blk_alloc ?_ _)); exact BK107.out) hb); have n3_ := Aside0.mk (below_step (by repeat (first | (with_reducible first | exact HB.out | apply below_alloc | apply pw_below_drewN | apply below_drew1 | refine below_set ?_ GE101.out | refine below_set ?_ GE107.out) | exact HB.out)) hb); clear HO_108001; clear BK101; clear BK107; clear HB; have HO_108001 := n0_; have BK101 := n1_; have BK107 := n2_; have HB := n3_; clear n0_ n1_ n2_ n3_; (try clear hb); (try clear hb2); (try clear hk); (try clear hi)))
        have n0_ := Aside0.mk (Kd.R_drew HO_108001.out)
        have n1_ := Aside0.mk (blk_drew BK101.out)
        have n2_ := Aside0.mk (blk_drew BK107.out)
        have n3_ := Aside0.mk (below_drew1 HB.out)
        clear HO_108001
        clear BK101
        clear BK107
        clear HB
        have HO_108001 := n0_
        have BK101 := n1_
        have BK107 := n2_
        have HB := n3_
        clear n0_ n1_ n2_ n3_
        have p110 : 0 ≤ (x8_1 : Int) := of_decide_eq_true (by first | (with_reducible assumption) | assumption)
        have q110 : x8_1 < (l1.length : Int) := of_decide_eq_true (by first | (with_reducible assumption) | assumption)
        obtain ⟨ad110, e110, hx110_0, hx110_1⟩ := at_T40 HR1.out x8_1 p110 q110
        have hw110_1 := hx110_1
        have hw110_0 := hx110_0
        obtain rfl : ad108 = ad110 := (by injection e110)
        replace hx110_0 := (HB.out.cell (World.block_lt_of_cell? w _ hx110_0)).trans hx110_0
        replace hx110_1 := (HB.out.cell (World.block_lt_of_cell? w _ hx110_1)).trans hx110_1
        replace p110 := eq_true p110
        replace q110 := eq_true q110
        obtain ⟨Ao26, co26, eo26⟩ := Kd.R_slice HO_108001.out
        (first | subst eo26 | (injection eo26 with f1_ f2_ f3_; have f4_ := f1_.symm; have f5_ := f3_.symm; clear f1_ f2_ f3_; subst f4_; subst f5_))
        refine start_ (n := 9) (S := fun w' => w'.cell? ⟨gb107, 0, none⟩ = some (.int .i64 t102) ∧ w'.cell? ⟨gb107, 1, none⟩ = some (.slice Ao26 x108001_1.length co26) ∧ w'.cell? (ad108.add ((x8_1).toNat * 2)) = some (.int .i64 ((rd_T40 l1 x8_1).f0)) ∧ w'.cell? ⟨(ad108.add ((x8_1).toNat * 2)).block, (ad108.add ((x8_1).toNat * 2)).off + 1, none⟩ = some (.int .i64 ((rd_T40 l1 x8_1).f1))) (ds := [8]) #[yF,yF,yF,yF,yF,yF,yF,yF,yF] (by kernel_rfl) rfl rfl ⟨(blk_cell BK107.out 0).trans rfl, (blk_cell BK107.out 1).trans rfl, ((HB.out.cell (World.block_lt_of_cell? w _ hw110_0)).trans hw110_0), ((HB.out.cell (World.block_lt_of_cell? w _ hw110_1)).trans hw110_1)⟩ (fun hHeld => ?_); refine with_tabW flagstoneref06_Without.tab11 flagstoneref06_Without.bits11 (fun HT_ HW_ => ?_)
        generalize w24.drew = w25 at HO_108001 BK101 BK107 HB hx110_0 hx110_1 hHeld ⊢
        refine pu_ 0 38 9 1 ?_
        refine pu_ 2 40 9 5 ?_
        refine pu_ 3 41 9 13 ?_
        refine pu_ 4 42 9 29 ?_
        refine tk_ 1 39 9 31 ?_
        refine tk_ 5 43 9 63 ?_
        refine on_ 6 44 9 127 (fun K hK => ?_)
        refine goes_ Try.func134 (by kernel_rfl) rfl #[.slice Ao26 x108001_1.length co26, .agg #[.int .i64 ((rd_T40 l1 x8_1).f0), .int .i64 ((rd_T40 l1 x8_1).f1)]] (by rfl) rfl rfl (by (try simp only [List.map_toArray, List.map_cons, List.map_nil]); first | done | rfl | (simp only [List.length_drop, List.length_take]; rfl)) ?_
        with_reducible refine (flagstoneref06_without.calls _ _ x108001_1 ((rd_T40 l1 x8_1).f0) ((rd_T40 l1 x8_1).f1) t111 _ ?side1 ?side2 A23.out).mono ?_
        (case side1 => repeat (first | exact (Kd.R_reads' HO_108001.out).2.2 | (with_reducible refine Kd.C_alloc ?_ _) | (with_reducible refine Kd.C_drewN ?_ _) | (with_reducible refine Kd.C_drew ?_)))
        (case side2 => exact (Kd.R_reads' HO_108001.out).2.1)
        rintro e w27 ⟨v112, rfl, ho0, hb⟩
        refine ⟨_, rfl, ?_⟩
        have n0_ := Aside0.mk (Kd.R_elder' (by (with_reducible repeat (first | apply Kd.R_alloc | apply Kd.R_drewN | apply Kd.R_drew)); exact HO_108001.out) (Kd.R_base ho0) hb)
        have n1_ := Aside0.mk (Kd.R_lower (Kd.R_new' ho0 (Kd.R_lt (by (with_reducible repeat (first | apply Kd.R_alloc | apply Kd.R_drewN | apply Kd.R_drew)); exact HO_108001.out))) (below_size (by repeat (first | (with_reducible first | exact HB.out | apply below_alloc | apply pw_below_drewN | apply below_drew1 | refine below_set ?_ GE101.out | refine below_set ?_ GE107.out) | exact HB.out))))
        have n2_ := Aside0.mk (blk_below (g := gb101) (o := .cells #[.int .i64 x102000_1, .slice none 0 0] 56 (0, 0)) (by (with_reducible repeat (first | refine blk_drewN ?_ _ | refine blk_drew ?_ | refine blk_alloc ?_ _)); exact BK101.out) hb)
        have n3_ := Aside0.mk (blk_below (g := gb107) (o := .cells #[.int .i64 t102, .slice Ao26 x108001_1.length co26] 56 (0, 0)) (by (with_reducible repeat (first | refine blk_drewN ?_ _ | refine blk_drew ?_ | refine blk_alloc ?_ _)); exact BK107.out) hb)
        have n4_ := Aside0.mk (below_step (by repeat (first | (with_reducible first | exact HB.out | apply below_alloc | apply pw_below_drewN | apply below_drew1 | refine below_set ?_ GE101.out | refine below_set ?_ GE107.out) | exact HB.out)) hb)
        clear HO_108001
        clear BK101
        clear BK107
        clear HB
        have HO_108001 := n0_
        have HO113 := n1_
        have BK101 := n2_
        have BK107 := n3_
        have HB := n4_
        clear n0_ n1_ n2_ n3_ n4_
        (try clear hb)
        (try clear hb2)
        (try clear hk)
        (try clear hi)
        (try clear ho0)
        obtain ⟨Ao28, co28, eo28⟩ := Kd.R_slice HO113.out
        (first | subst eo28 | (injection eo28 with f1_ f2_ f3_; have f4_ := f1_.symm; have f5_ := f3_.symm; clear f1_ f2_ f3_; subst f4_; subst f5_))
        refine hK.out _ _ ⟨(blk_cell BK107.out 0).trans rfl, (blk_cell BK107.out 1).trans rfl, ((HB.out.cell (World.block_lt_of_cell? w _ hw110_0)).trans hw110_0), ((HB.out.cell (World.block_lt_of_cell? w _ hw110_1)).trans hw110_1)⟩ (fun hHeld => ?_)
        clear hK K
        refine nm_ 44 ?_
        refine pu_ 7 45 9 255 ?_
        refine last_ (i := 8) (N := none) #[yT,yT,yT,yT,yT,yT,yT,yT,yT] rfl rfl (one_of HT_.out (by kernel_rfl)) (by decide) (fun K hK => ?_)
        have hs29 : w27.cell? ⟨gb107, 1, none⟩ = some (.slice Ao26 x108001_1.length co26) := (blk_cell BK107.out 1).trans rfl
        have hfs29 := blk_frozen BK107.out 1
        have hns29_0 := NB101_107.out
        have hms29_0 := NB107_101.out
        refine skip_ (w1 := ?_) (by rfl) rfl ?_ ?_
        rotate_left
        ·go_simp
         rfl
        refine hK.out _ _ ?_
        clear hK K
        refine done_ (done_of HT_.out (by kernel_rfl)) ?_
        try go_wp2
        go_roundg k1
        case measure => have := HK1.out; omega
        case rel => exact ⟨(wrap64 (x8_1 + 1)), (x102000_1), (t111), (.slice Ao28 t111.length co28), (by first | rfl | (simp; done) | (simp [*]; done)), H', ⟨by have := HK1.out; omega⟩, ⟨by (with_reducible repeat (first | apply Kd.R_alloc | apply Kd.R_drewN | apply Kd.R_drew)); exact Kd.R_mono (Kd.R_far (p := ⟨gb107, 1, none⟩) (Kd.R_types HO113.out BK107.out (by decide)) (fun _ hk => hk.2) (.slice Ao28 t111.length co28)) (fun _ hk => trivial)⟩, ⟨by (with_reducible repeat (first | refine blk_drewN ?_ _ | refine blk_drew ?_ | refine blk_alloc ?_ _)); refine blk_far ?_ NB101_107.out _; (with_reducible repeat (first | refine blk_drewN ?_ _ | refine blk_drew ?_ | refine blk_alloc ?_ _)); exact BK101.out⟩, ⟨by (with_reducible repeat (first | refine blk_drewN ?_ _ | refine blk_drew ?_ | refine blk_alloc ?_ _)); refine blk_put (cs := #[.int .i64 t102, .slice Ao26 x108001_1.length co26]) ?_ 1 _ rfl; (with_reducible repeat (first | refine blk_drewN ?_ _ | refine blk_drew ?_ | refine blk_alloc ?_ _)); exact BK107.out⟩, ⟨by repeat (first | (with_reducible first | exact HB.out | apply below_alloc | apply pw_below_drewN | apply below_drew1 | refine below_set ?_ GE101.out | refine below_set ?_ GE107.out) | exact HB.out)⟩⟩
       ·replace c22 := Bool.eq_false_iff.mpr c22
        subst c22
        have H1 : (some (0, ([] : List (S40)), 4)) = some (r1, r2, r3) := by rw [if_neg (show ¬ (false = true) by decide)] at H; exact H
        clear H
        have H := H1
        clear H1
        simp only [Option.some.injEq, Prod.mk.injEq] at H
        obtain ⟨rfl, rfl, rfl⟩ := H
        have p108 : 0 ≤ (x8_1 : Int) := of_decide_eq_true (by first | (with_reducible assumption) | assumption)
        have q108 : x8_1 < (l1.length : Int) := of_decide_eq_true (by first | (with_reducible assumption) | assumption)
        obtain ⟨ad108, e108, hx108_0, hx108_1⟩ := at_T40 HR1.out x8_1 p108 q108
        cases e108
        replace hx108_0 := (HB.out.cell (World.block_lt_of_cell? w _ hx108_0)).trans hx108_0
        replace hx108_1 := (HB.out.cell (World.block_lt_of_cell? w _ hx108_1)).trans hx108_1
        replace p108 := eq_true p108
        replace q108 := eq_true q108
        go_wp2_with (first | ((with_reducible refine gate_callee (f := 110) rfl ?_); refine goesL_ (some 35) rfl rfl Try.func110 (by kernel_rfl) rfl #[.agg #[.int .i64 ((rd_T40 l1 x8_1).f0), .int .i64 ((rd_T40 l1 x8_1).f1)], .int .i64 a0] rfl (by (try simp only [List.map_toArray, List.map_cons, List.map_nil]); first | done | rfl | (simp only [List.length_drop, List.length_take]; rfl)) ?_; (with_reducible refine (flagstoneref06_inside.calls ((rd_T40 l1 x8_1).f0) ((rd_T40 l1 x8_1).f1) a0 false _ A21.out).mono ?_); rintro e w30 ⟨rfl, hb⟩; refine ⟨_, rfl, ?_⟩; have n0_ := Aside0.mk (Kd.R_below (by (with_reducible repeat (first | apply Kd.R_alloc | apply Kd.R_drewN | apply Kd.R_drew)); exact HO_108001.out) hb); have n1_ := Aside0.mk (blk_below (g := gb101) (o := .cells #[.int .i64 x102000_1, .slice none 0 0] 56 (0, 0)) (by (with_reducible repeat (first | refine blk_drewN ?_ _ | refine blk_drew ?_ | refine blk_alloc ?_ _)); exact BK101.out) hb); have n2_ := Aside0.mk (blk_below (g := gb107) (o := .cells #[.int .i64 t102, u108001] 56 (0, 0)) (by (with_reducible repeat (first | refine blk_drewN ?_ _ | refine blk_drew ?_ | refine blk_alloc ?_ _)); exact BK107.out) hb); have n3_ := Aside0.mk (below_step (by repeat (first | (with_reducible first | exact HB.out | apply below_alloc | apply pw_below_drewN | apply below_drew1 | refine below_set ?_ GE101.out | refine below_set ?_ GE107.out) | exact HB.out)) hb); clear HO_108001; clear BK101; clear BK107; clear HB; have HO_108001 := n0_; have BK101 := n1_; have BK107 := n2_; have HB := n3_; clear n0_ n1_ n2_ n3_; (try clear hb); (try clear hb2); (try clear hk); (try clear hi); have hnb31 := NB101_107.out; have hnc31 := NB107_101.out; have hcz32_0 : w30.cell? ⟨gb101, 0, none⟩ = some (.int .i64 x102000_1) := (blk_cell BK101.out 0).trans rfl; have hcz32_1 : w30.cell? ⟨gb101, 1, none⟩ = some (.slice none 0 0) := (blk_cell BK101.out 1).trans rfl; have hfz32_0 := blk_frozen BK101.out 0; have hfz32_1 := blk_frozen BK101.out 1))
        refine bodyPost_ret (results_ct rfl _ _ gb101 56 #[.int .i64 0, .slice none 0 0] (0, 0) _ rfl (by (with_reducible repeat (first | refine blk_drewN ?_ _ | refine blk_drew ?_ | refine blk_alloc ?_ _)); refine blk_put (cs := #[.int .i64 0, .slice none 0 0]) ?_ 1 _ rfl; (with_reducible repeat (first | refine blk_drewN ?_ _ | refine blk_drew ?_ | refine blk_alloc ?_ _)); refine blk_put (cs := #[.int .i64 x102000_1, .slice none 0 0]) ?_ 0 _ rfl; (with_reducible repeat (first | refine blk_drewN ?_ _ | refine blk_drew ?_ | refine blk_alloc ?_ _)); exact BK101.out) Try.underlying56 rfl (by kernel_rfl)) rfl ?_
        exact ⟨_, by first | rfl | (simp [errW_none, errW_some] <;> rfl) | (simp [*, errW_none, errW_some] <;> rfl), by first | exact Kd.R_nil _ _ _ _ _ | exact Kd.N_nil _ _ _ _ _ | exact Kd.V_nil _ _ _ _ _ | exact Kd.Q_nil _ _ _ _ _ | exact Kd.S_nil _ _ _ _ _, by repeat (first | (with_reducible first | exact HB.out | apply below_alloc | apply pw_below_drewN | apply below_drew1 | refine below_set ?_ GE101.out | refine below_set ?_ GE107.out) | exact HB.out)⟩
      ·rw [if_neg c20] at H
       exact absurd H (by simp)
     ·rw [if_neg c19] at H
      have c19b0 : decide (x8_1 < (l1.length : Int)) = false := decide_eq_false c19
      clear c19
      by_cases c33 : (x108001_1.length : Int) > 1024
      ·rw [if_pos c33] at H
       have c33b0 : decide (1024 < (x108001_1.length : Int)) = true := decide_eq_true c33
       have c33b1 : decide (1024 < x108001_1.length) = true := decide_eq_true (by omega)
       clear c33
       simp only [Option.some.injEq, Prod.mk.injEq] at H
       obtain ⟨rfl, rfl, rfl⟩ := H
       have hnb34 := NB107_101.out
       have hnc34 := NB101_107.out
       have hcz35_0 : wr.cell? ⟨gb107, 0, none⟩ = some (.int .i64 t102) := (blk_cell BK107.out 0).trans rfl
       have hcz35_1 : wr.cell? ⟨gb107, 1, none⟩ = some (u108001) := (blk_cell BK107.out 1).trans rfl
       have hfz35_0 := blk_frozen BK107.out 0
       have hfz35_1 := blk_frozen BK107.out 1
       obtain ⟨Ao36, co36, eo36⟩ := Kd.R_slice HO_108001.out
       subst eo36
       have hcz37_0 : wr.cell? ⟨gb101, 0, none⟩ = some (.int .i64 x102000_1) := (blk_cell BK101.out 0).trans rfl
       have hcz37_1 : wr.cell? ⟨gb101, 1, none⟩ = some (.slice none 0 0) := (blk_cell BK101.out 1).trans rfl
       have hfz37_0 := blk_frozen BK101.out 0
       have hfz37_1 := blk_frozen BK101.out 1
       go_wp2
       refine bodyPost_ret (results_ct rfl _ _ gb101 56 #[.int .i64 0, .slice none 0 0] (0, 0) _ rfl (by (with_reducible repeat (first | refine blk_drewN ?_ _ | refine blk_drew ?_ | refine blk_alloc ?_ _)); refine blk_put (cs := #[.int .i64 0, .slice none 0 0]) ?_ 1 _ rfl; (with_reducible repeat (first | refine blk_drewN ?_ _ | refine blk_drew ?_ | refine blk_alloc ?_ _)); refine blk_put (cs := #[.int .i64 x102000_1, .slice none 0 0]) ?_ 0 _ rfl; (with_reducible repeat (first | refine blk_drewN ?_ _ | refine blk_drew ?_ | refine blk_alloc ?_ _)); exact BK101.out) Try.underlying56 rfl (by kernel_rfl)) rfl ?_
       exact ⟨_, by first | rfl | (simp [errW_none, errW_some] <;> rfl) | (simp [*, errW_none, errW_some] <;> rfl), by first | exact Kd.R_nil _ _ _ _ _ | exact Kd.N_nil _ _ _ _ _ | exact Kd.V_nil _ _ _ _ _ | exact Kd.Q_nil _ _ _ _ _ | exact Kd.S_nil _ _ _ _ _, by repeat (first | (with_reducible first | exact HB.out | apply below_alloc | apply pw_below_drewN | apply below_drew1 | refine below_set ?_ GE101.out | refine below_set ?_ GE107.out) | exact HB.out)⟩
      ·rw [if_neg c33] at H
       have c33b0 : decide (1024 < (x108001_1.length : Int)) = false := decide_eq_false c33
       have c33b1 : decide (1024 < x108001_1.length) = false := decide_eq_false (by omega)
       clear c33
       simp only [Option.some.injEq, Prod.mk.injEq] at H
       obtain ⟨rfl, rfl, rfl⟩ := H
       have hnb38 := NB107_101.out
       have hnc38 := NB101_107.out
       have hcz39_0 : wr.cell? ⟨gb107, 0, none⟩ = some (.int .i64 t102) := (blk_cell BK107.out 0).trans rfl
       have hcz39_1 : wr.cell? ⟨gb107, 1, none⟩ = some (u108001) := (blk_cell BK107.out 1).trans rfl
       have hfz39_0 := blk_frozen BK107.out 0
       have hfz39_1 := blk_frozen BK107.out 1
       obtain ⟨Ao40, co40, eo40⟩ := Kd.R_slice HO_108001.out
       subst eo40
       have hcz41_0 : wr.cell? ⟨gb101, 0, none⟩ = some (.int .i64 x102000_1) := (blk_cell BK101.out 0).trans rfl
       have hcz41_1 : wr.cell? ⟨gb101, 1, none⟩ = some (.slice none 0 0) := (blk_cell BK101.out 1).trans rfl
       have hfz41_0 := blk_frozen BK101.out 0
       have hfz41_1 := blk_frozen BK101.out 1
       go_wp2
       refine bodyPost_ret (results_ct rfl _ _ gb101 56 #[.int .i64 t102, .slice Ao40 x108001_1.length co40] (0, 0) _ rfl (by (with_reducible repeat (first | refine blk_drewN ?_ _ | refine blk_drew ?_ | refine blk_alloc ?_ _)); refine blk_put (cs := #[.int .i64 t102, .slice none 0 0]) ?_ 1 _ rfl; (with_reducible repeat (first | refine blk_drewN ?_ _ | refine blk_drew ?_ | refine blk_alloc ?_ _)); refine blk_put (cs := #[.int .i64 x102000_1, .slice none 0 0]) ?_ 0 _ rfl; (with_reducible repeat (first | refine blk_drewN ?_ _ | refine blk_drew ?_ | refine blk_alloc ?_ _)); exact BK101.out) Try.underlying56 rfl (by kernel_rfl)) rfl ?_
       exact ⟨_, by first | rfl | (simp [errW_none, errW_some] <;> rfl) | (simp [*, errW_none, errW_some] <;> rfl), by (with_reducible repeat (first | apply Kd.R_alloc | apply Kd.R_drewN | apply Kd.R_drew)); exact Kd.R_mono (Kd.R_far (p := ⟨gb101, 1, none⟩) (Kd.R_far (p := ⟨gb101, 0, none⟩) (Kd.R_types HO_108001.out BK101.out (by decide)) (fun _ hk => hk.2) (.int .i64 t102)) (fun _ hk => hk.2) (.slice Ao40 x108001_1.length co40)) (fun _ hk => trivial), by repeat (first | (with_reducible first | exact HB.out | apply below_alloc | apply pw_below_drewN | apply below_drew1 | refine below_set ?_ GE101.out | refine below_set ?_ GE107.out) | exact HB.out)⟩
 ·rw [if_neg c4] at H
  have c4b0 : (t106 == 0) = false := beq_eq_false_iff_ne.mpr c4
  have c4b1 : (t106 != 0) = true := bne_iff_ne.mpr c4
  simp only [Option.some.injEq, Prod.mk.injEq] at H
  obtain ⟨rfl, rfl, rfl⟩ := H
  go_enter Try.func85, Try.ntmps85
  go_wp2_with (first | ((with_reducible refine gate_dst (N := 4) rfl ?_); refine box_event ?hg (N := 4) ?hd (cs := #[.int .i64 0, .slice none 0 0]) (t := 56) ?hr ?_; (case hd => rfl); (case hg => rfl); (case hr => first | (go_simp; done) | (go_simp; rfl)); intro gb101 hg w42 hbox hb; have n0_ := Aside0.mk (below_step (by repeat (first | (with_reducible first | exact HB.out | apply below_alloc | apply pw_below_drewN | apply below_drew1) | exact HB.out)) hb); have n1_ := Aside0.mk (hbox); have n2_ := Aside0.mk ((by rw [hg]; exact (below_size (by repeat (first | (with_reducible first | exact HB.out | apply below_alloc | apply pw_below_drewN | apply below_drew1) | exact HB.out))) : w.heap.size ≤ gb101)); have n3_ := Aside0.mk ((by rw [hg]; exact (below_size (by repeat (first | (with_reducible first | exact HB.out | apply below_alloc | apply pw_below_drewN | apply below_drew1) | exact HB.out))) : w.heap.size ≤ gb101)); clear HB; have HB := n0_; have BK101 := n1_; have GW101 := n2_; have GE101 := n3_; clear n0_ n1_ n2_ n3_; clear hb hbox hg) | ((with_reducible refine gate_callee (f := 84) rfl ?_); refine goesL_ (some 11) rfl rfl Try.func84 (by kernel_rfl) rfl #[.int .i64 a0] rfl (by (try simp only [List.map_toArray, List.map_cons, List.map_nil]); first | done | rfl | (simp only [List.length_drop, List.length_take]; rfl)) ?_; (with_reducible refine (flagstoneref06_New.calls k a0 t102 t103 t106 _ A3.out).mono ?_); rintro e w43 ⟨v104, rfl, ho0, hb⟩; refine ⟨_, rfl, ?_⟩; have n0_ := Aside0.mk (Kd.R_lower ho0 (below_size (by repeat (first | (with_reducible first | exact HB.out | apply below_alloc | apply pw_below_drewN | apply below_drew1 | refine below_set ?_ GE101.out) | exact HB.out)))); have n1_ := Aside0.mk (blk_below (g := gb101) (o := .cells #[.int .i64 0, .slice none 0 0] 56 (0, 0)) (by (with_reducible repeat (first | refine blk_drewN ?_ _ | refine blk_drew ?_ | refine blk_alloc ?_ _)); exact BK101.out) hb); have n2_ := Aside0.mk (below_step (by repeat (first | (with_reducible first | exact HB.out | apply below_alloc | apply pw_below_drewN | apply below_drew1 | refine below_set ?_ GE101.out) | exact HB.out)) hb); clear BK101; clear HB; have HO105 := n0_; have BK101 := n1_; have HB := n2_; clear n0_ n1_ n2_; (try clear hb); (try clear hb2); (try clear hk); (try clear hi); (try clear ho0)) | ((with_reducible refine gate_dst (N := 6) rfl ?_); refine box_event ?hg (N := 6) ?hd (cs := #[.int .i64 0, .slice none 0 0]) (t := 56) ?hr ?_; (case hd => rfl); (case hg => rfl); (case hr => first | (go_simp; done) | (go_simp; rfl)); intro gb107 hg w44 hbox hb; have n0_ := Aside0.mk (Kd.R_below (by (with_reducible repeat (first | apply Kd.R_alloc | apply Kd.R_drewN | apply Kd.R_drew)); exact HO105.out) hb); have n1_ := Aside0.mk (blk_below (g := gb101) (o := .cells #[.int .i64 0, .slice none 0 0] 56 (0, 0)) (by (with_reducible repeat (first | refine blk_drewN ?_ _ | refine blk_drew ?_ | refine blk_alloc ?_ _)); exact BK101.out) hb); have n2_ := Aside0.mk (below_step (by repeat (first | (with_reducible first | exact HB.out | apply below_alloc | apply pw_below_drewN | apply below_drew1 | refine below_set ?_ GE101.out) | exact HB.out)) hb); have n3_ := Aside0.mk (hbox); have n4_ := Aside0.mk ((by rw [hg]; exact (below_size (by repeat (first | (with_reducible first | exact HB.out | apply below_alloc | apply pw_below_drewN | apply below_drew1 | refine below_set ?_ GE101.out) | exact HB.out))) : w.heap.size ≤ gb107)); have n5_ := Aside0.mk ((by rw [hg]; exact (below_size (by repeat (first | (with_reducible first | exact HB.out | apply below_alloc | apply pw_below_drewN | apply below_drew1 | refine below_set ?_ GE101.out) | exact HB.out))) : w.heap.size ≤ gb107)); have n6_ := Aside0.mk ((by rw [hg]; exact Nat.ne_of_lt (blk_lt (g := gb101) (o := .cells #[.int .i64 0, .slice none 0 0] 56 (0, 0)) (by (with_reducible repeat (first | refine blk_drewN ?_ _ | refine blk_drew ?_ | refine blk_alloc ?_ _)); exact BK101.out)) : gb101 ≠ gb107)); have n7_ := Aside0.mk ((by rw [hg]; exact Nat.ne_of_gt (blk_lt (g := gb101) (o := .cells #[.int .i64 0, .slice none 0 0] 56 (0, 0)) (by (with_reducible repeat (first | refine blk_drewN ?_ _ | refine blk_drew ?_ | refine blk_alloc ?_ _)); exact BK101.out)) : gb107 ≠ gb101)); clear HO105; clear BK101; clear HB; have HO105 := n0_; have BK101 := n1_; have HB := n2_; have BK107 := n3_; have GW107 := n4_; have GE107 := n5_; have NB101_107 := n6_; have NB107_101 := n7_; clear n0_ n1_ n2_ n3_ n4_ n5_ n6_ n7_; clear hb hbox hg; have hnb45 := NB107_101.out; have hnc45 := NB101_107.out; have hcz46_0 : w44.cell? ⟨gb107, 0, none⟩ = some (.int .i64 0) := (blk_cell BK107.out 0).trans rfl; have hcz46_1 : w44.cell? ⟨gb107, 1, none⟩ = some (.slice none 0 0) := (blk_cell BK107.out 1).trans rfl; have hfz46_0 := blk_frozen BK107.out 0; have hfz46_1 := blk_frozen BK107.out 1; obtain ⟨Ao47, co47, eo47⟩ := Kd.R_slice HO105.out; subst eo47; have hcz48_0 : w44.cell? ⟨gb101, 0, none⟩ = some (.int .i64 0) := (blk_cell BK101.out 0).trans rfl; have hcz48_1 : w44.cell? ⟨gb101, 1, none⟩ = some (.slice none 0 0) := (blk_cell BK101.out 1).trans rfl; have hfz48_0 := blk_frozen BK101.out 0; have hfz48_1 := blk_frozen BK101.out 1))
  refine bodyPost_ret (results_ct rfl _ _ gb101 56 #[.int .i64 0, .slice none 0 0] (0, 0) _ rfl (by (with_reducible repeat (first | refine blk_drewN ?_ _ | refine blk_drew ?_ | refine blk_alloc ?_ _)); refine blk_put (cs := #[.int .i64 0, .slice none 0 0]) ?_ 1 _ rfl; (with_reducible repeat (first | refine blk_drewN ?_ _ | refine blk_drew ?_ | refine blk_alloc ?_ _)); refine blk_put (cs := #[.int .i64 0, .slice none 0 0]) ?_ 0 _ rfl; (with_reducible repeat (first | refine blk_drewN ?_ _ | refine blk_drew ?_ | refine blk_alloc ?_ _)); refine blk_far ?_ NB101_107.out _; (with_reducible repeat (first | refine blk_drewN ?_ _ | refine blk_drew ?_ | refine blk_alloc ?_ _)); refine blk_far ?_ NB101_107.out _; (with_reducible repeat (first | refine blk_drewN ?_ _ | refine blk_drew ?_ | refine blk_alloc ?_ _)); exact BK101.out) Try.underlying56 rfl (by kernel_rfl)) rfl ?_
  exact ⟨_, by first | rfl | (simp [errW_none, errW_some] <;> rfl) | (simp [*, errW_none, errW_some] <;> rfl), by first | exact Kd.R_nil _ _ _ _ _ | exact Kd.N_nil _ _ _ _ _ | exact Kd.V_nil _ _ _ _ _ | exact Kd.Q_nil _ _ _ _ _ | exact Kd.S_nil _ _ _ _ _, by repeat (first | (with_reducible first | exact HB.out | apply below_alloc | apply pw_below_drewN | apply below_drew1 | refine below_set ?_ GE101.out | refine below_set ?_ GE107.out) | exact HB.out)⟩
end Go.Proofs.Ytkkfkdncddbaeaa.Fn
namespace Go.Proofs.Ytkkfkdncddbaeaa.Fn
open Go.RowKit Go.Proofs.YtkkfkdncddbaeaaW.PrintWords Go.Proofs.YtkkfkdncddbaeaaW.PrintLast Go.Proofs.YtkkfkdncddbaeaaW.PrintMore
attribute [local go_sem] max2_int min2_int max_two min_two max_three min_three max_four min_four
set_option linter.unusedVariables false
set_option linter.unusedSimpArgs false
def flagstonelaw06_FreeSizes.j0 : Nat → List (S40) → List (S40) → Bool → Int → List (S40) → Int → List (S40) → Option (Bool)
 | 0, _, _, _, _, _, _, _ => none
 | k + 1, x2, x8, x151, x102000, x102001, x110000, x110001 => if x151 = true then (none) else ((flagstonelaw06_Alike.f k x110000 x110001 x102000 x102001).bind fun t164 => (if t164 = 0 then ((flagstoneplain_SameSpans.f k x8 x2).bind fun t165 => (if t165 = true then ((flagstonelaw06_alive.f k).bind fun t166 => (some t166)) else (none))) else (none)))
def flagstonelaw06_FreeSizes.f (k : Nat) (a0_0 : Int) (l0_1 : List (S40)) (a1 : Int) (l2 : List (S40)) : Option (Bool) := (flagstonelaw06_Of.f a0_0 l0_1).bind fun bt102 => ((flagstoneplain_CopySpans.f l2).bind fun t106 => ((free_Highest.f k bt102.1 bt102.2).bind fun bt110 => ((flagstoneref06_Highest.f k a0_0 l0_1).bind fun bt112 => ((free_Room.f k bt102.1 bt102.2).bind fun bt114 => ((flagstoneref06_Room.f k a0_0 l0_1).bind fun bt117 => ((free_Resize.f bt102.1 bt102.2 a1).bind fun bt120 => ((flagstoneref06_Resize.f k a0_0 l0_1 a1).bind fun bt126 => ((free_New.f k a1).bind fun bt132 => ((flagstoneref06_New.f k a1).bind fun bt138 => ((free_Without.f a1 t106).bind fun bt144 => ((flagstoneref06_Without.f k a1 l2).bind fun bt150 => (if bt110.1 = bt112.1 then ((flagstonelaw06_num.f bt110.2).bind fun t156 => (if t156 = bt112.2 then (if bt114.1 = bt117.1 then (if bt114.2.1 = bt117.2.1 then ((flagstonelaw06_num.f bt114.2.2).bind fun t157 => (if t157 = bt117.2.2 then ((flagstonelaw06_Alike.f k bt120.1 bt120.2.1 bt126.1 bt126.2.1).bind fun t158 => (if t158 = 0 then ((flagstonelaw06_num.f bt120.2.2).bind fun t159 => (if t159 = bt126.2.2 then ((flagstonelaw06_Alike.f k bt132.1 bt132.2.1 bt138.1 bt138.2.1).bind fun t160 => (if t160 = 0 then ((flagstonelaw06_num.f bt132.2.2).bind fun t161 => (if t161 = bt138.2.2 then ((flagstonelaw06_Alike.f k bt144.1 bt144.2.1 bt150.1 bt150.2.1).bind fun t162 => (if t162 = 0 then ((flagstonelaw06_num.f bt144.2.2).bind fun t163 => (flagstonelaw06_FreeSizes.j0 k l2 t106 (t163 != bt150.2.2) a0_0 l0_1 bt102.1 bt102.2)) else (none))) else (none))) else (none))) else (none))) else (none))) else (none))) else (none)) else (none)) else (none))) else (none)))))))))))))
theorem flagstonelaw06_FreeSizes.mono_l : ∀ k, (∀ y0 y1 y2 y3 y4 y5 y6, LeO (flagstonelaw06_FreeSizes.j0 k y0 y1 y2 y3 y4 y5 y6) (flagstonelaw06_FreeSizes.j0 (k + 1) y0 y1 y2 y3 y4 y5 y6))
 | 0 => fun _ _ _ _ _ _ _ r h => by simp [flagstonelaw06_FreeSizes.j0] at h
 | k + 1 => by
  have ih0 := flagstonelaw06_FreeSizes.mono_l k
  ·intro y0 y1 y2 y3 y4 y5 y6
   unfold flagstonelaw06_FreeSizes.j0
   repeat' first
   | (with_reducible exact ih0 _ _ _ _ _ _ _)
   | (with_reducible exact flagstonelaw06_Alike.mono _ _ _ _ _)
   | (with_reducible exact flagstonelaw06_alive.mono _)
   | (with_reducible exact flagstoneplain_SameSpans.mono _ _ _)
   | (with_reducible exact flagstoneref06_Highest.mono _ _ _)
   | (with_reducible exact flagstoneref06_New.mono _ _)
   | (with_reducible exact flagstoneref06_Resize.mono _ _ _ _)
   | (with_reducible exact flagstoneref06_Room.mono _ _ _)
   | (with_reducible exact flagstoneref06_Without.mono _ _ _)
   | (with_reducible exact free_Highest.mono _ _ _)
   | (with_reducible exact free_New.mono _ _)
   | (with_reducible exact free_Room.mono _ _ _)
   | (with_reducible exact LeO.refl _)
   | (with_reducible exact LeO.none _)
   | (with_reducible refine LeO.ite ?_ ?_)
   | (with_reducible refine LeO.bind ?_ (fun _ => ?_))
   | exact ih0 _ _ _ _ _ _ _
   | exact flagstonelaw06_Alike.mono _ _ _ _ _
   | exact flagstonelaw06_alive.mono _
   | exact flagstoneplain_SameSpans.mono _ _ _
   | exact flagstoneref06_Highest.mono _ _ _
   | exact flagstoneref06_New.mono _ _
   | exact flagstoneref06_Resize.mono _ _ _ _
   | exact flagstoneref06_Room.mono _ _ _
   | exact flagstoneref06_Without.mono _ _ _
   | exact free_Highest.mono _ _ _
   | exact free_New.mono _ _
   | exact free_Room.mono _ _ _
   | exact LeO.none _
   | refine LeO.ite ?_ ?_
   | refine LeO.bind ?_ (fun _ => ?_)
theorem flagstonelaw06_FreeSizes.mono : ∀ a0 a1 a2 a3 k, LeO (flagstonelaw06_FreeSizes.f k a0 a1 a2 a3) (flagstonelaw06_FreeSizes.f (k + 1) a0 a1 a2 a3) := by
 intro a0 a1 a2 a3 k
 have ih0 := flagstonelaw06_FreeSizes.mono_l k
 unfold flagstonelaw06_FreeSizes.f
 repeat' first
  | (with_reducible exact ih0 _ _ _ _ _ _ _)
  | (with_reducible exact flagstonelaw06_Alike.mono _ _ _ _ _)
  | (with_reducible exact flagstonelaw06_alive.mono _)
  | (with_reducible exact flagstoneplain_SameSpans.mono _ _ _)
  | (with_reducible exact flagstoneref06_Highest.mono _ _ _)
  | (with_reducible exact flagstoneref06_New.mono _ _)
  | (with_reducible exact flagstoneref06_Resize.mono _ _ _ _)
  | (with_reducible exact flagstoneref06_Room.mono _ _ _)
  | (with_reducible exact flagstoneref06_Without.mono _ _ _)
  | (with_reducible exact free_Highest.mono _ _ _)
  | (with_reducible exact free_New.mono _ _)
  | (with_reducible exact free_Room.mono _ _ _)
  | (with_reducible exact LeO.refl _)
  | (with_reducible exact LeO.none _)
  | (with_reducible refine LeO.ite ?_ ?_)
  | (with_reducible refine LeO.bind ?_ (fun _ => ?_))
  | exact ih0 _ _ _ _ _ _ _
  | exact flagstonelaw06_Alike.mono _ _ _ _ _
  | exact flagstonelaw06_alive.mono _
  | exact flagstoneplain_SameSpans.mono _ _ _
  | exact flagstoneref06_Highest.mono _ _ _
  | exact flagstoneref06_New.mono _ _
  | exact flagstoneref06_Resize.mono _ _ _ _
  | exact flagstoneref06_Room.mono _ _ _
  | exact flagstoneref06_Without.mono _ _ _
  | exact free_Highest.mono _ _ _
  | exact free_New.mono _ _
  | exact free_Room.mono _ _ _
  | exact LeO.none _
  | refine LeO.ite ?_ ?_
  | refine LeO.bind ?_ (fun _ => ?_)
set_option maxHeartbeats 8000000 in
set_option maxRecDepth 100000 in
theorem flagstonelaw06_FreeSizes.calls (k : Nat) (a0_0 : Int) (A0_1 : Option Addr) (c0_1 : Nat) (l0_1 : List (S40)) (a1 : Int) (A2 : Option Addr) (c2 : Nat) (l2 : List (S40)) (r : Bool) (w : World) (hr0_1 : Kd.C k40 w A0_1 l0_1.length l0_1) (hc0_1 : l0_1.length ≤ c0_1) (hr2 : Kd.C k40 w A2 l2.length l2) (hc2 : l2.length ≤ c2) (h : flagstonelaw06_FreeSizes.f k a0_0 l0_1 a1 l2 = some r) :
 Calls Try.prog 24 #[.agg #[.int .i64 a0_0, .slice A0_1 l0_1.length c0_1], .int .i64 a1, .slice A2 l2.length c2] w fun e w' => e = .returned (.bool r) ∧ Below w.heap.size w w' := by
 have hu56 := Try.underlying56
 have hu58 := Try.underlying58
 have HR0_1 := Aside0.mk hr0_1
 have HC0_1 := Aside0.mk hc0_1
 clear hr0_1 hc0_1
 have HR2 := Aside0.mk hr2
 have HC2 := Aside0.mk hc2
 clear hr2 hc2
 have HB := Aside0.mk (Below.refl w.heap.size w)
 have H : ((flagstonelaw06_Of.f a0_0 l0_1).bind fun bt102 => ((flagstoneplain_CopySpans.f l2).bind fun t106 => ((free_Highest.f k bt102.1 bt102.2).bind fun bt110 => ((flagstoneref06_Highest.f k a0_0 l0_1).bind fun bt112 => ((free_Room.f k bt102.1 bt102.2).bind fun bt114 => ((flagstoneref06_Room.f k a0_0 l0_1).bind fun bt117 => ((free_Resize.f bt102.1 bt102.2 a1).bind fun bt120 => ((flagstoneref06_Resize.f k a0_0 l0_1 a1).bind fun bt126 => ((free_New.f k a1).bind fun bt132 => ((flagstoneref06_New.f k a1).bind fun bt138 => ((free_Without.f a1 t106).bind fun bt144 => ((flagstoneref06_Without.f k a1 l2).bind fun bt150 => (if bt110.1 = bt112.1 then ((flagstonelaw06_num.f bt110.2).bind fun t156 => (if t156 = bt112.2 then (if bt114.1 = bt117.1 then (if bt114.2.1 = bt117.2.1 then ((flagstonelaw06_num.f bt114.2.2).bind fun t157 => (if t157 = bt117.2.2 then ((flagstonelaw06_Alike.f k bt120.1 bt120.2.1 bt126.1 bt126.2.1).bind fun t158 => (if t158 = 0 then ((flagstonelaw06_num.f bt120.2.2).bind fun t159 => (if t159 = bt126.2.2 then ((flagstonelaw06_Alike.f k bt132.1 bt132.2.1 bt138.1 bt138.2.1).bind fun t160 => (if t160 = 0 then ((flagstonelaw06_num.f bt132.2.2).bind fun t161 => (if t161 = bt138.2.2 then ((flagstonelaw06_Alike.f k bt144.1 bt144.2.1 bt150.1 bt150.2.1).bind fun t162 => (if t162 = 0 then ((flagstonelaw06_num.f bt144.2.2).bind fun t163 => (flagstonelaw06_FreeSizes.j0 k l2 t106 (t163 != bt150.2.2) a0_0 l0_1 bt102.1 bt102.2)) else (none))) else (none))) else (none))) else (none))) else (none))) else (none))) else (none)) else (none)) else (none))) else (none)))))))))))))) = some r := h
 clear h
 replace H := Option.bind_eq_some_iff.mp H
 obtain ⟨⟨t102, t103⟩, A40, H⟩ := H
 replace H : ((flagstoneplain_CopySpans.f l2).bind fun t106 => ((free_Highest.f k t102 t103).bind fun bt110 => ((flagstoneref06_Highest.f k a0_0 l0_1).bind fun bt112 => ((free_Room.f k t102 t103).bind fun bt114 => ((flagstoneref06_Room.f k a0_0 l0_1).bind fun bt117 => ((free_Resize.f t102 t103 a1).bind fun bt120 => ((flagstoneref06_Resize.f k a0_0 l0_1 a1).bind fun bt126 => ((free_New.f k a1).bind fun bt132 => ((flagstoneref06_New.f k a1).bind fun bt138 => ((free_Without.f a1 t106).bind fun bt144 => ((flagstoneref06_Without.f k a1 l2).bind fun bt150 => (if bt110.1 = bt112.1 then ((flagstonelaw06_num.f bt110.2).bind fun t156 => (if t156 = bt112.2 then (if bt114.1 = bt117.1 then (if bt114.2.1 = bt117.2.1 then ((flagstonelaw06_num.f bt114.2.2).bind fun t157 => (if t157 = bt117.2.2 then ((flagstonelaw06_Alike.f k bt120.1 bt120.2.1 bt126.1 bt126.2.1).bind fun t158 => (if t158 = 0 then ((flagstonelaw06_num.f bt120.2.2).bind fun t159 => (if t159 = bt126.2.2 then ((flagstonelaw06_Alike.f k bt132.1 bt132.2.1 bt138.1 bt138.2.1).bind fun t160 => (if t160 = 0 then ((flagstonelaw06_num.f bt132.2.2).bind fun t161 => (if t161 = bt138.2.2 then ((flagstonelaw06_Alike.f k bt144.1 bt144.2.1 bt150.1 bt150.2.1).bind fun t162 => (if t162 = 0 then ((flagstonelaw06_num.f bt144.2.2).bind fun t163 => (flagstonelaw06_FreeSizes.j0 k l2 t106 (t163 != bt150.2.2) a0_0 l0_1 t102 t103)) else (none))) else (none))) else (none))) else (none))) else (none))) else (none))) else (none)) else (none)) else (none))) else (none))))))))))))) = some r := H
 have A4 := Aside0.mk A40
 clear A40
 replace H := Option.bind_eq_some_iff.mp H
 obtain ⟨t106, A50, H⟩ := H
 replace H : ((free_Highest.f k t102 t103).bind fun bt110 => ((flagstoneref06_Highest.f k a0_0 l0_1).bind fun bt112 => ((free_Room.f k t102 t103).bind fun bt114 => ((flagstoneref06_Room.f k a0_0 l0_1).bind fun bt117 => ((free_Resize.f t102 t103 a1).bind fun bt120 => ((flagstoneref06_Resize.f k a0_0 l0_1 a1).bind fun bt126 => ((free_New.f k a1).bind fun bt132 => ((flagstoneref06_New.f k a1).bind fun bt138 => ((free_Without.f a1 t106).bind fun bt144 => ((flagstoneref06_Without.f k a1 l2).bind fun bt150 => (if bt110.1 = bt112.1 then ((flagstonelaw06_num.f bt110.2).bind fun t156 => (if t156 = bt112.2 then (if bt114.1 = bt117.1 then (if bt114.2.1 = bt117.2.1 then ((flagstonelaw06_num.f bt114.2.2).bind fun t157 => (if t157 = bt117.2.2 then ((flagstonelaw06_Alike.f k bt120.1 bt120.2.1 bt126.1 bt126.2.1).bind fun t158 => (if t158 = 0 then ((flagstonelaw06_num.f bt120.2.2).bind fun t159 => (if t159 = bt126.2.2 then ((flagstonelaw06_Alike.f k bt132.1 bt132.2.1 bt138.1 bt138.2.1).bind fun t160 => (if t160 = 0 then ((flagstonelaw06_num.f bt132.2.2).bind fun t161 => (if t161 = bt138.2.2 then ((flagstonelaw06_Alike.f k bt144.1 bt144.2.1 bt150.1 bt150.2.1).bind fun t162 => (if t162 = 0 then ((flagstonelaw06_num.f bt144.2.2).bind fun t163 => (flagstonelaw06_FreeSizes.j0 k l2 t106 (t163 != bt150.2.2) a0_0 l0_1 t102 t103)) else (none))) else (none))) else (none))) else (none))) else (none))) else (none))) else (none)) else (none)) else (none))) else (none)))))))))))) = some r := H
 have A5 := Aside0.mk A50
 clear A50
 replace H := Option.bind_eq_some_iff.mp H
 obtain ⟨⟨t110, t111⟩, A60, H⟩ := H
 replace H : ((flagstoneref06_Highest.f k a0_0 l0_1).bind fun bt112 => ((free_Room.f k t102 t103).bind fun bt114 => ((flagstoneref06_Room.f k a0_0 l0_1).bind fun bt117 => ((free_Resize.f t102 t103 a1).bind fun bt120 => ((flagstoneref06_Resize.f k a0_0 l0_1 a1).bind fun bt126 => ((free_New.f k a1).bind fun bt132 => ((flagstoneref06_New.f k a1).bind fun bt138 => ((free_Without.f a1 t106).bind fun bt144 => ((flagstoneref06_Without.f k a1 l2).bind fun bt150 => (if t110 = bt112.1 then ((flagstonelaw06_num.f t111).bind fun t156 => (if t156 = bt112.2 then (if bt114.1 = bt117.1 then (if bt114.2.1 = bt117.2.1 then ((flagstonelaw06_num.f bt114.2.2).bind fun t157 => (if t157 = bt117.2.2 then ((flagstonelaw06_Alike.f k bt120.1 bt120.2.1 bt126.1 bt126.2.1).bind fun t158 => (if t158 = 0 then ((flagstonelaw06_num.f bt120.2.2).bind fun t159 => (if t159 = bt126.2.2 then ((flagstonelaw06_Alike.f k bt132.1 bt132.2.1 bt138.1 bt138.2.1).bind fun t160 => (if t160 = 0 then ((flagstonelaw06_num.f bt132.2.2).bind fun t161 => (if t161 = bt138.2.2 then ((flagstonelaw06_Alike.f k bt144.1 bt144.2.1 bt150.1 bt150.2.1).bind fun t162 => (if t162 = 0 then ((flagstonelaw06_num.f bt144.2.2).bind fun t163 => (flagstonelaw06_FreeSizes.j0 k l2 t106 (t163 != bt150.2.2) a0_0 l0_1 t102 t103)) else (none))) else (none))) else (none))) else (none))) else (none))) else (none))) else (none)) else (none)) else (none))) else (none))))))))))) = some r := H
 have A6 := Aside0.mk A60
 clear A60
 replace H := Option.bind_eq_some_iff.mp H
 obtain ⟨⟨t112, t113⟩, A70, H⟩ := H
 replace H : ((free_Room.f k t102 t103).bind fun bt114 => ((flagstoneref06_Room.f k a0_0 l0_1).bind fun bt117 => ((free_Resize.f t102 t103 a1).bind fun bt120 => ((flagstoneref06_Resize.f k a0_0 l0_1 a1).bind fun bt126 => ((free_New.f k a1).bind fun bt132 => ((flagstoneref06_New.f k a1).bind fun bt138 => ((free_Without.f a1 t106).bind fun bt144 => ((flagstoneref06_Without.f k a1 l2).bind fun bt150 => (if t110 = t112 then ((flagstonelaw06_num.f t111).bind fun t156 => (if t156 = t113 then (if bt114.1 = bt117.1 then (if bt114.2.1 = bt117.2.1 then ((flagstonelaw06_num.f bt114.2.2).bind fun t157 => (if t157 = bt117.2.2 then ((flagstonelaw06_Alike.f k bt120.1 bt120.2.1 bt126.1 bt126.2.1).bind fun t158 => (if t158 = 0 then ((flagstonelaw06_num.f bt120.2.2).bind fun t159 => (if t159 = bt126.2.2 then ((flagstonelaw06_Alike.f k bt132.1 bt132.2.1 bt138.1 bt138.2.1).bind fun t160 => (if t160 = 0 then ((flagstonelaw06_num.f bt132.2.2).bind fun t161 => (if t161 = bt138.2.2 then ((flagstonelaw06_Alike.f k bt144.1 bt144.2.1 bt150.1 bt150.2.1).bind fun t162 => (if t162 = 0 then ((flagstonelaw06_num.f bt144.2.2).bind fun t163 => (flagstonelaw06_FreeSizes.j0 k l2 t106 (t163 != bt150.2.2) a0_0 l0_1 t102 t103)) else (none))) else (none))) else (none))) else (none))) else (none))) else (none))) else (none)) else (none)) else (none))) else (none)))))))))) = some r := H
 have A7 := Aside0.mk A70
 clear A70
 replace H := Option.bind_eq_some_iff.mp H
 obtain ⟨⟨t114, t115, t116⟩, A80, H⟩ := H
 replace H : ((flagstoneref06_Room.f k a0_0 l0_1).bind fun bt117 => ((free_Resize.f t102 t103 a1).bind fun bt120 => ((flagstoneref06_Resize.f k a0_0 l0_1 a1).bind fun bt126 => ((free_New.f k a1).bind fun bt132 => ((flagstoneref06_New.f k a1).bind fun bt138 => ((free_Without.f a1 t106).bind fun bt144 => ((flagstoneref06_Without.f k a1 l2).bind fun bt150 => (if t110 = t112 then ((flagstonelaw06_num.f t111).bind fun t156 => (if t156 = t113 then (if t114 = bt117.1 then (if t115 = bt117.2.1 then ((flagstonelaw06_num.f t116).bind fun t157 => (if t157 = bt117.2.2 then ((flagstonelaw06_Alike.f k bt120.1 bt120.2.1 bt126.1 bt126.2.1).bind fun t158 => (if t158 = 0 then ((flagstonelaw06_num.f bt120.2.2).bind fun t159 => (if t159 = bt126.2.2 then ((flagstonelaw06_Alike.f k bt132.1 bt132.2.1 bt138.1 bt138.2.1).bind fun t160 => (if t160 = 0 then ((flagstonelaw06_num.f bt132.2.2).bind fun t161 => (if t161 = bt138.2.2 then ((flagstonelaw06_Alike.f k bt144.1 bt144.2.1 bt150.1 bt150.2.1).bind fun t162 => (if t162 = 0 then ((flagstonelaw06_num.f bt144.2.2).bind fun t163 => (flagstonelaw06_FreeSizes.j0 k l2 t106 (t163 != bt150.2.2) a0_0 l0_1 t102 t103)) else (none))) else (none))) else (none))) else (none))) else (none))) else (none))) else (none)) else (none)) else (none))) else (none))))))))) = some r := H
 have A8 := Aside0.mk A80
 clear A80
 replace H := Option.bind_eq_some_iff.mp H
 obtain ⟨⟨t117, t118, t119⟩, A90, H⟩ := H
 replace H : ((free_Resize.f t102 t103 a1).bind fun bt120 => ((flagstoneref06_Resize.f k a0_0 l0_1 a1).bind fun bt126 => ((free_New.f k a1).bind fun bt132 => ((flagstoneref06_New.f k a1).bind fun bt138 => ((free_Without.f a1 t106).bind fun bt144 => ((flagstoneref06_Without.f k a1 l2).bind fun bt150 => (if t110 = t112 then ((flagstonelaw06_num.f t111).bind fun t156 => (if t156 = t113 then (if t114 = t117 then (if t115 = t118 then ((flagstonelaw06_num.f t116).bind fun t157 => (if t157 = t119 then ((flagstonelaw06_Alike.f k bt120.1 bt120.2.1 bt126.1 bt126.2.1).bind fun t158 => (if t158 = 0 then ((flagstonelaw06_num.f bt120.2.2).bind fun t159 => (if t159 = bt126.2.2 then ((flagstonelaw06_Alike.f k bt132.1 bt132.2.1 bt138.1 bt138.2.1).bind fun t160 => (if t160 = 0 then ((flagstonelaw06_num.f bt132.2.2).bind fun t161 => (if t161 = bt138.2.2 then ((flagstonelaw06_Alike.f k bt144.1 bt144.2.1 bt150.1 bt150.2.1).bind fun t162 => (if t162 = 0 then ((flagstonelaw06_num.f bt144.2.2).bind fun t163 => (flagstonelaw06_FreeSizes.j0 k l2 t106 (t163 != bt150.2.2) a0_0 l0_1 t102 t103)) else (none))) else (none))) else (none))) else (none))) else (none))) else (none))) else (none)) else (none)) else (none))) else (none)))))))) = some r := H
 have A9 := Aside0.mk A90
 clear A90
 replace H := Option.bind_eq_some_iff.mp H
 obtain ⟨⟨t120, t121, t124⟩, A100, H⟩ := H
 replace H : ((flagstoneref06_Resize.f k a0_0 l0_1 a1).bind fun bt126 => ((free_New.f k a1).bind fun bt132 => ((flagstoneref06_New.f k a1).bind fun bt138 => ((free_Without.f a1 t106).bind fun bt144 => ((flagstoneref06_Without.f k a1 l2).bind fun bt150 => (if t110 = t112 then ((flagstonelaw06_num.f t111).bind fun t156 => (if t156 = t113 then (if t114 = t117 then (if t115 = t118 then ((flagstonelaw06_num.f t116).bind fun t157 => (if t157 = t119 then ((flagstonelaw06_Alike.f k t120 t121 bt126.1 bt126.2.1).bind fun t158 => (if t158 = 0 then ((flagstonelaw06_num.f t124).bind fun t159 => (if t159 = bt126.2.2 then ((flagstonelaw06_Alike.f k bt132.1 bt132.2.1 bt138.1 bt138.2.1).bind fun t160 => (if t160 = 0 then ((flagstonelaw06_num.f bt132.2.2).bind fun t161 => (if t161 = bt138.2.2 then ((flagstonelaw06_Alike.f k bt144.1 bt144.2.1 bt150.1 bt150.2.1).bind fun t162 => (if t162 = 0 then ((flagstonelaw06_num.f bt144.2.2).bind fun t163 => (flagstonelaw06_FreeSizes.j0 k l2 t106 (t163 != bt150.2.2) a0_0 l0_1 t102 t103)) else (none))) else (none))) else (none))) else (none))) else (none))) else (none))) else (none)) else (none)) else (none))) else (none))))))) = some r := H
 have A10 := Aside0.mk A100
 clear A100
 replace H := Option.bind_eq_some_iff.mp H
 obtain ⟨⟨t126, t127, t130⟩, A110, H⟩ := H
 replace H : ((free_New.f k a1).bind fun bt132 => ((flagstoneref06_New.f k a1).bind fun bt138 => ((free_Without.f a1 t106).bind fun bt144 => ((flagstoneref06_Without.f k a1 l2).bind fun bt150 => (if t110 = t112 then ((flagstonelaw06_num.f t111).bind fun t156 => (if t156 = t113 then (if t114 = t117 then (if t115 = t118 then ((flagstonelaw06_num.f t116).bind fun t157 => (if t157 = t119 then ((flagstonelaw06_Alike.f k t120 t121 t126 t127).bind fun t158 => (if t158 = 0 then ((flagstonelaw06_num.f t124).bind fun t159 => (if t159 = t130 then ((flagstonelaw06_Alike.f k bt132.1 bt132.2.1 bt138.1 bt138.2.1).bind fun t160 => (if t160 = 0 then ((flagstonelaw06_num.f bt132.2.2).bind fun t161 => (if t161 = bt138.2.2 then ((flagstonelaw06_Alike.f k bt144.1 bt144.2.1 bt150.1 bt150.2.1).bind fun t162 => (if t162 = 0 then ((flagstonelaw06_num.f bt144.2.2).bind fun t163 => (flagstonelaw06_FreeSizes.j0 k l2 t106 (t163 != bt150.2.2) a0_0 l0_1 t102 t103)) else (none))) else (none))) else (none))) else (none))) else (none))) else (none))) else (none)) else (none)) else (none))) else (none)))))) = some r := H
 have A11 := Aside0.mk A110
 clear A110
 replace H := Option.bind_eq_some_iff.mp H
 obtain ⟨⟨t132, t133, t136⟩, A120, H⟩ := H
 replace H : ((flagstoneref06_New.f k a1).bind fun bt138 => ((free_Without.f a1 t106).bind fun bt144 => ((flagstoneref06_Without.f k a1 l2).bind fun bt150 => (if t110 = t112 then ((flagstonelaw06_num.f t111).bind fun t156 => (if t156 = t113 then (if t114 = t117 then (if t115 = t118 then ((flagstonelaw06_num.f t116).bind fun t157 => (if t157 = t119 then ((flagstonelaw06_Alike.f k t120 t121 t126 t127).bind fun t158 => (if t158 = 0 then ((flagstonelaw06_num.f t124).bind fun t159 => (if t159 = t130 then ((flagstonelaw06_Alike.f k t132 t133 bt138.1 bt138.2.1).bind fun t160 => (if t160 = 0 then ((flagstonelaw06_num.f t136).bind fun t161 => (if t161 = bt138.2.2 then ((flagstonelaw06_Alike.f k bt144.1 bt144.2.1 bt150.1 bt150.2.1).bind fun t162 => (if t162 = 0 then ((flagstonelaw06_num.f bt144.2.2).bind fun t163 => (flagstonelaw06_FreeSizes.j0 k l2 t106 (t163 != bt150.2.2) a0_0 l0_1 t102 t103)) else (none))) else (none))) else (none))) else (none))) else (none))) else (none))) else (none)) else (none)) else (none))) else (none))))) = some r := H
 have A12 := Aside0.mk A120
 clear A120
 replace H := Option.bind_eq_some_iff.mp H
 obtain ⟨⟨t138, t139, t142⟩, A130, H⟩ := H
 replace H : ((free_Without.f a1 t106).bind fun bt144 => ((flagstoneref06_Without.f k a1 l2).bind fun bt150 => (if t110 = t112 then ((flagstonelaw06_num.f t111).bind fun t156 => (if t156 = t113 then (if t114 = t117 then (if t115 = t118 then ((flagstonelaw06_num.f t116).bind fun t157 => (if t157 = t119 then ((flagstonelaw06_Alike.f k t120 t121 t126 t127).bind fun t158 => (if t158 = 0 then ((flagstonelaw06_num.f t124).bind fun t159 => (if t159 = t130 then ((flagstonelaw06_Alike.f k t132 t133 t138 t139).bind fun t160 => (if t160 = 0 then ((flagstonelaw06_num.f t136).bind fun t161 => (if t161 = t142 then ((flagstonelaw06_Alike.f k bt144.1 bt144.2.1 bt150.1 bt150.2.1).bind fun t162 => (if t162 = 0 then ((flagstonelaw06_num.f bt144.2.2).bind fun t163 => (flagstonelaw06_FreeSizes.j0 k l2 t106 (t163 != bt150.2.2) a0_0 l0_1 t102 t103)) else (none))) else (none))) else (none))) else (none))) else (none))) else (none))) else (none)) else (none)) else (none))) else (none)))) = some r := H
 have A13 := Aside0.mk A130
 clear A130
 replace H := Option.bind_eq_some_iff.mp H
 obtain ⟨⟨t144, t145, t148⟩, A140, H⟩ := H
 replace H : ((flagstoneref06_Without.f k a1 l2).bind fun bt150 => (if t110 = t112 then ((flagstonelaw06_num.f t111).bind fun t156 => (if t156 = t113 then (if t114 = t117 then (if t115 = t118 then ((flagstonelaw06_num.f t116).bind fun t157 => (if t157 = t119 then ((flagstonelaw06_Alike.f k t120 t121 t126 t127).bind fun t158 => (if t158 = 0 then ((flagstonelaw06_num.f t124).bind fun t159 => (if t159 = t130 then ((flagstonelaw06_Alike.f k t132 t133 t138 t139).bind fun t160 => (if t160 = 0 then ((flagstonelaw06_num.f t136).bind fun t161 => (if t161 = t142 then ((flagstonelaw06_Alike.f k t144 t145 bt150.1 bt150.2.1).bind fun t162 => (if t162 = 0 then ((flagstonelaw06_num.f t148).bind fun t163 => (flagstonelaw06_FreeSizes.j0 k l2 t106 (t163 != bt150.2.2) a0_0 l0_1 t102 t103)) else (none))) else (none))) else (none))) else (none))) else (none))) else (none))) else (none)) else (none)) else (none))) else (none))) = some r := H
 have A14 := Aside0.mk A140
 clear A140
 replace H := Option.bind_eq_some_iff.mp H
 obtain ⟨⟨t150, t151, t154⟩, A150, H⟩ := H
 replace H : (if t110 = t112 then ((flagstonelaw06_num.f t111).bind fun t156 => (if t156 = t113 then (if t114 = t117 then (if t115 = t118 then ((flagstonelaw06_num.f t116).bind fun t157 => (if t157 = t119 then ((flagstonelaw06_Alike.f k t120 t121 t126 t127).bind fun t158 => (if t158 = 0 then ((flagstonelaw06_num.f t124).bind fun t159 => (if t159 = t130 then ((flagstonelaw06_Alike.f k t132 t133 t138 t139).bind fun t160 => (if t160 = 0 then ((flagstonelaw06_num.f t136).bind fun t161 => (if t161 = t142 then ((flagstonelaw06_Alike.f k t144 t145 t150 t151).bind fun t162 => (if t162 = 0 then ((flagstonelaw06_num.f t148).bind fun t163 => (flagstonelaw06_FreeSizes.j0 k l2 t106 (t163 != t154) a0_0 l0_1 t102 t103)) else (none))) else (none))) else (none))) else (none))) else (none))) else (none))) else (none)) else (none)) else (none))) else (none)) = some r := H
 have A15 := Aside0.mk A150
 clear A150
 have HC16 := Aside0.mk H
 clear H
 go_enter Try.func24, Try.ntmps24
 go_upto_region 12 with (first | ((with_reducible refine gate_dst (N := 3) rfl ?_); refine box_event ?hg (N := 3) ?hd (cs := #[.int .i64 a0_0, .slice A0_1 l0_1.length c0_1]) (t := 56) ?hr ?_; (case hd => rfl); (case hg => rfl); (case hr => first | (go_simp; done) | (go_simp; rfl)); intro gb101 hg w17 hbox hb; have n0_ := Aside0.mk (below_step (by repeat (first | (with_reducible first | exact HB.out | apply below_alloc | apply pw_below_drewN | apply below_drew1) | exact HB.out)) hb); have n1_ := Aside0.mk (hbox); have n2_ := Aside0.mk ((by rw [hg]; exact (below_size (by repeat (first | (with_reducible first | exact HB.out | apply below_alloc | apply pw_below_drewN | apply below_drew1) | exact HB.out))) : w.heap.size ≤ gb101)); have n3_ := Aside0.mk ((by rw [hg]; exact (below_size (by repeat (first | (with_reducible first | exact HB.out | apply below_alloc | apply pw_below_drewN | apply below_drew1) | exact HB.out))) : w.heap.size ≤ gb101)); clear HB; have HB := n0_; have BK101 := n1_; have GW101 := n2_; have GE101 := n3_; clear n0_ n1_ n2_ n3_; clear hb hbox hg; have hcz18_0 : w17.cell? ⟨gb101, 0, none⟩ = some (.int .i64 a0_0) := (blk_cell BK101.out 0).trans rfl; have hcz18_1 : w17.cell? ⟨gb101, 1, none⟩ = some (.slice A0_1 l0_1.length c0_1) := (blk_cell BK101.out 1).trans rfl; have hfz18_0 := blk_frozen BK101.out 0; have hfz18_1 := blk_frozen BK101.out 1) | ((with_reducible refine gate_callee (f := 43) rfl ?_); refine goesL_ (some 32) rfl rfl Try.func43 (by kernel_rfl) rfl #[.agg #[.int .i64 a0_0, .slice A0_1 l0_1.length c0_1]] rfl (by (try simp only [List.map_toArray, List.map_cons, List.map_nil]); first | done | rfl | (simp only [List.length_drop, List.length_take]; rfl)) ?_; (with_reducible refine (flagstonelaw06_Of.calls a0_0 _ _ l0_1 t102 t103 _ ?side1 ?side2 A4.out).mono ?_); (case side1 => repeat (first | exact (Kd.C_below HR0_1.out HB.out) | (with_reducible refine Kd.C_alloc ?_ _) | (with_reducible refine Kd.C_drewN ?_ _) | (with_reducible refine Kd.C_drew ?_))); (case side2 => exact HC0_1.out); rintro e w19 ⟨v104, rfl, ho0, hb⟩; refine ⟨_, rfl, ?_⟩; have n0_ := Aside0.mk (Kd.R_lower ho0 (below_size (by repeat (first | (with_reducible first | exact HB.out | apply below_alloc | apply pw_below_drewN | apply below_drew1 | refine below_set ?_ GE101.out) | exact HB.out)))); have n1_ := Aside0.mk (blk_below (g := gb101) (o := .cells #[.int .i64 a0_0, .slice A0_1 l0_1.length c0_1] 56 (0, 0)) (by (with_reducible repeat (first | refine blk_drewN ?_ _ | refine blk_drew ?_ | refine blk_alloc ?_ _)); exact BK101.out) hb); have n2_ := Aside0.mk (below_step (by repeat (first | (with_reducible first | exact HB.out | apply below_alloc | apply pw_below_drewN | apply below_drew1 | refine below_set ?_ GE101.out) | exact HB.out)) hb); clear BK101; clear HB; have HO105 := n0_; have BK101 := n1_; have HB := n2_; clear n0_ n1_ n2_; (try clear hb); (try clear hb2); (try clear hk); (try clear hi); (try clear ho0)) | ((with_reducible refine gate_callee (f := 78) rfl ?_); refine goesL_ (some 34) rfl rfl Try.func78 (by kernel_rfl) rfl #[.slice A2 l2.length c2] rfl (by (try simp only [List.map_toArray, List.map_cons, List.map_nil]); first | done | rfl | (simp only [List.length_drop, List.length_take]; rfl)) ?_; (with_reducible refine (flagstoneplain_CopySpans.calls _ _ l2 t106 _ ?side1 ?side2 A5.out).mono ?_); (case side1 => repeat (first | exact (Kd.C_below HR2.out HB.out) | (with_reducible refine Kd.C_alloc ?_ _) | (with_reducible refine Kd.C_drewN ?_ _) | (with_reducible refine Kd.C_drew ?_))); (case side2 => exact HC2.out); rintro e w20 ⟨v107, rfl, ho0, hb⟩; refine ⟨_, rfl, ?_⟩; have n0_ := Aside0.mk (Kd.R_elder' (by (with_reducible repeat (first | apply Kd.R_alloc | apply Kd.R_drewN | apply Kd.R_drew)); exact HO105.out) (Kd.R_base ho0) hb); have n1_ := Aside0.mk (Kd.R_lower (Kd.R_new' ho0 (Kd.R_lt (by (with_reducible repeat (first | apply Kd.R_alloc | apply Kd.R_drewN | apply Kd.R_drew)); exact HO105.out))) (below_size (by repeat (first | (with_reducible first | exact HB.out | apply below_alloc | apply pw_below_drewN | apply below_drew1 | refine below_set ?_ GE101.out) | exact HB.out)))); have n2_ := Aside0.mk (blk_below (g := gb101) (o := .cells #[.int .i64 a0_0, .slice A0_1 l0_1.length c0_1] 56 (0, 0)) (by (with_reducible repeat (first | refine blk_drewN ?_ _ | refine blk_drew ?_ | refine blk_alloc ?_ _)); exact BK101.out) hb); have n3_ := Aside0.mk (below_step (by repeat (first | (with_reducible first | exact HB.out | apply below_alloc | apply pw_below_drewN | apply below_drew1 | refine below_set ?_ GE101.out) | exact HB.out)) hb); clear HO105; clear BK101; clear HB; have HO105 := n0_; have HO108 := n1_; have BK101 := n2_; have HB := n3_; clear n0_ n1_ n2_ n3_; (try clear hb); (try clear hb2); (try clear hk); (try clear hi); (try clear ho0)) | ((with_reducible refine gate_dst (N := 7) rfl ?_); refine box_event ?hg (N := 7) ?hd (cs := #[.int .i64 0, .slice none 0 0]) (t := 58) ?hr ?_; (case hd => rfl); (case hg => rfl); (case hr => first | (go_simp; done) | (go_simp; rfl)); intro gb109 hg w21 hbox hb; have n0_ := Aside0.mk (Kd.R_below (by (with_reducible repeat (first | apply Kd.R_alloc | apply Kd.R_drewN | apply Kd.R_drew)); exact HO105.out) hb); have n1_ := Aside0.mk (Kd.R_below (by (with_reducible repeat (first | apply Kd.R_alloc | apply Kd.R_drewN | apply Kd.R_drew)); exact HO108.out) hb); have n2_ := Aside0.mk (blk_below (g := gb101) (o := .cells #[.int .i64 a0_0, .slice A0_1 l0_1.length c0_1] 56 (0, 0)) (by (with_reducible repeat (first | refine blk_drewN ?_ _ | refine blk_drew ?_ | refine blk_alloc ?_ _)); exact BK101.out) hb); have n3_ := Aside0.mk (below_step (by repeat (first | (with_reducible first | exact HB.out | apply below_alloc | apply pw_below_drewN | apply below_drew1 | refine below_set ?_ GE101.out) | exact HB.out)) hb); have n4_ := Aside0.mk (hbox); have n5_ := Aside0.mk ((by rw [hg]; exact (below_size (by repeat (first | (with_reducible first | exact HB.out | apply below_alloc | apply pw_below_drewN | apply below_drew1 | refine below_set ?_ GE101.out) | exact HB.out))) : w.heap.size ≤ gb109)); have n6_ := Aside0.mk ((by rw [hg]; exact (below_size (by repeat (first | (with_reducible first | exact HB.out | apply below_alloc | apply pw_below_drewN | apply below_drew1 | refine below_set ?_ GE101.out) | exact HB.out))) : w.heap.size ≤ gb109)); have n7_ := Aside0.mk ((by rw [hg]; exact Nat.ne_of_lt (blk_lt (g := gb101) (o := .cells #[.int .i64 a0_0, .slice A0_1 l0_1.length c0_1] 56 (0, 0)) (by (with_reducible repeat (first | refine blk_drewN ?_ _ | refine blk_drew ?_ | refine blk_alloc ?_ _)); exact BK101.out)) : gb101 ≠ gb109)); have n8_ := Aside0.mk ((by rw [hg]; exact Nat.ne_of_gt (blk_lt (g := gb101) (o := .cells #[.int .i64 a0_0, .slice A0_1 l0_1.length c0_1] 56 (0, 0)) (by (with_reducible repeat (first | refine blk_drewN ?_ _ | refine blk_drew ?_ | refine blk_alloc ?_ _)); exact BK101.out)) : gb109 ≠ gb101)); clear HO105; clear HO108; clear BK101; clear HB; have HO105 := n0_; have HO108 := n1_; have BK101 := n2_; have HB := n3_; have BK109 := n4_; have GW109 := n5_; have GE109 := n6_; have NB101_109 := n7_; have NB109_101 := n8_; clear n0_ n1_ n2_ n3_ n4_ n5_ n6_ n7_ n8_; clear hb hbox hg; have hnb22 := NB109_101.out; have hnc22 := NB101_109.out; have hcz23_0 : w21.cell? ⟨gb109, 0, none⟩ = some (.int .i64 0) := (blk_cell BK109.out 0).trans rfl; have hcz23_1 : w21.cell? ⟨gb109, 1, none⟩ = some (.slice none 0 0) := (blk_cell BK109.out 1).trans rfl; have hfz23_0 := blk_frozen BK109.out 0; have hfz23_1 := blk_frozen BK109.out 1; obtain ⟨Ao24, co24, eo24⟩ := Kd.R_slice HO105.out; subst eo24) | ((with_reducible refine gate_callee (f := 79) rfl ?_); refine goesL_ (some 37) rfl rfl Try.func79 (by kernel_rfl) rfl #[.agg #[.int .i64 t102, .slice Ao24 t103.length co24]] rfl (by (try simp only [List.map_toArray, List.map_cons, List.map_nil]); first | done | rfl | (simp only [List.length_drop, List.length_take]; rfl)) ?_; (with_reducible refine (free_Highest.calls k t102 _ _ t103 t110 t111 _ ?side1 ?side2 A6.out).mono ?_); (case side1 => refine (Kd.R_reads' (e := 40) (base := w.heap.size) (ok := fun k_ => (True ∧ some k_ ≠ (v107 : Value).ownBlock)) (n := t103.length) (c := co24) ?_).2.2; exact (by (with_reducible repeat (first | apply Kd.R_alloc | apply Kd.R_drewN | apply Kd.R_drew)); exact (Kd.R_mono (Kd.R_far (p := ⟨gb109, 1, none⟩) (Kd.R_far (p := ⟨gb109, 0, none⟩) (Kd.R_types HO105.out BK109.out (by decide)) (fun _ hk => hk.2) (.int .i64 t102)) (fun _ hk => hk.2) (.slice Ao24 t103.length co24)) (fun _ h_ => h_.1)))); (case side2 => exact (Kd.R_reads' HO105.out).2.1); rintro e w25 ⟨rfl, hb⟩; refine ⟨_, rfl, ?_⟩; have n0_ := Aside0.mk (Kd.R_below (by (with_reducible repeat (first | apply Kd.R_alloc | apply Kd.R_drewN | apply Kd.R_drew)); exact (Kd.R_mono (Kd.R_far (p := ⟨gb109, 1, none⟩) (Kd.R_far (p := ⟨gb109, 0, none⟩) (Kd.R_types HO105.out BK109.out (by decide)) (fun _ hk => hk.2) (.int .i64 t102)) (fun _ hk => hk.2) (.slice Ao24 t103.length co24)) (fun _ h_ => h_.1))) hb); have n1_ := Aside0.mk (Kd.R_below (by (with_reducible repeat (first | apply Kd.R_alloc | apply Kd.R_drewN | apply Kd.R_drew)); exact (Kd.R_mono (Kd.R_far (p := ⟨gb109, 1, none⟩) (Kd.R_far (p := ⟨gb109, 0, none⟩) (Kd.R_types HO108.out BK109.out (by decide)) (fun _ hk => hk.2) (.int .i64 t102)) (fun _ hk => hk.2) (.slice Ao24 t103.length co24)) (fun _ h_ => h_.1))) hb); have n2_ := Aside0.mk (blk_below (g := gb101) (o := .cells #[.int .i64 a0_0, .slice A0_1 l0_1.length c0_1] 56 (0, 0)) (by (with_reducible repeat (first | refine blk_drewN ?_ _ | refine blk_drew ?_ | refine blk_alloc ?_ _)); refine blk_far ?_ NB101_109.out _; (with_reducible repeat (first | refine blk_drewN ?_ _ | refine blk_drew ?_ | refine blk_alloc ?_ _)); refine blk_far ?_ NB101_109.out _; (with_reducible repeat (first | refine blk_drewN ?_ _ | refine blk_drew ?_ | refine blk_alloc ?_ _)); exact BK101.out) hb); have n3_ := Aside0.mk (blk_below (g := gb109) (o := .cells #[.int .i64 t102, .slice Ao24 t103.length co24] 58 (0, 0)) (by (with_reducible repeat (first | refine blk_drewN ?_ _ | refine blk_drew ?_ | refine blk_alloc ?_ _)); refine blk_put (cs := #[.int .i64 t102, .slice none 0 0]) ?_ 1 _ rfl; (with_reducible repeat (first | refine blk_drewN ?_ _ | refine blk_drew ?_ | refine blk_alloc ?_ _)); refine blk_put (cs := #[.int .i64 0, .slice none 0 0]) ?_ 0 _ rfl; (with_reducible repeat (first | refine blk_drewN ?_ _ | refine blk_drew ?_ | refine blk_alloc ?_ _)); exact BK109.out) hb); have n4_ := Aside0.mk (below_step (by repeat (first | (with_reducible first | exact HB.out | apply below_alloc | apply pw_below_drewN | apply below_drew1 | refine below_set ?_ GE101.out | refine below_set ?_ GE109.out) | exact HB.out)) hb); clear HO105; clear HO108; clear BK101; clear BK109; clear HB; have HO105 := n0_; have HO108 := n1_; have BK101 := n2_; have BK109 := n3_; have HB := n4_; clear n0_ n1_ n2_ n3_ n4_; (try clear hb); (try clear hb2); (try clear hk); (try clear hi); have hcz26_0 : w25.cell? ⟨gb101, 0, none⟩ = some (.int .i64 a0_0) := (blk_cell BK101.out 0).trans rfl; have hcz26_1 : w25.cell? ⟨gb101, 1, none⟩ = some (.slice A0_1 l0_1.length c0_1) := (blk_cell BK101.out 1).trans rfl; have hfz26_0 := blk_frozen BK101.out 0; have hfz26_1 := blk_frozen BK101.out 1) | ((with_reducible refine gate_callee (f := 80) rfl ?_); refine goesL_ (some 42) rfl rfl Try.func80 (by kernel_rfl) rfl #[.agg #[.int .i64 a0_0, .slice A0_1 l0_1.length c0_1]] rfl (by (try simp only [List.map_toArray, List.map_cons, List.map_nil]); first | done | rfl | (simp only [List.length_drop, List.length_take]; rfl)) ?_; (with_reducible refine (flagstoneref06_Highest.calls k a0_0 _ _ l0_1 t112 t113 _ ?side1 ?side2 A7.out).mono ?_); (case side1 => repeat (first | exact (Kd.C_below HR0_1.out HB.out) | (with_reducible refine Kd.C_alloc ?_ _) | (with_reducible refine Kd.C_drewN ?_ _) | (with_reducible refine Kd.C_drew ?_))); (case side2 => exact HC0_1.out); rintro e w27 ⟨rfl, hb⟩; refine ⟨_, rfl, ?_⟩; have n0_ := Aside0.mk (Kd.R_below (by (with_reducible repeat (first | apply Kd.R_alloc | apply Kd.R_drewN | apply Kd.R_drew)); exact HO105.out) hb); have n1_ := Aside0.mk (Kd.R_below (by (with_reducible repeat (first | apply Kd.R_alloc | apply Kd.R_drewN | apply Kd.R_drew)); exact HO108.out) hb); have n2_ := Aside0.mk (blk_below (g := gb101) (o := .cells #[.int .i64 a0_0, .slice A0_1 l0_1.length c0_1] 56 (0, 0)) (by (with_reducible repeat (first | refine blk_drewN ?_ _ | refine blk_drew ?_ | refine blk_alloc ?_ _)); exact BK101.out) hb); have n3_ := Aside0.mk (blk_below (g := gb109) (o := .cells #[.int .i64 t102, .slice Ao24 t103.length co24] 58 (0, 0)) (by (with_reducible repeat (first | refine blk_drewN ?_ _ | refine blk_drew ?_ | refine blk_alloc ?_ _)); exact BK109.out) hb); have n4_ := Aside0.mk (below_step (by repeat (first | (with_reducible first | exact HB.out | apply below_alloc | apply pw_below_drewN | apply below_drew1 | refine below_set ?_ GE101.out | refine below_set ?_ GE109.out) | exact HB.out)) hb); clear HO105; clear HO108; clear BK101; clear BK109; clear HB; have HO105 := n0_; have HO108 := n1_; have BK101 := n2_; have BK109 := n3_; have HB := n4_; clear n0_ n1_ n2_ n3_ n4_; (try clear hb); (try clear hb2); (try clear hk); (try clear hi); have hcz28_0 : w27.cell? ⟨gb109, 0, none⟩ = some (.int .i64 t102) := (blk_cell BK109.out 0).trans rfl; have hcz28_1 : w27.cell? ⟨gb109, 1, none⟩ = some (.slice Ao24 t103.length co24) := (blk_cell BK109.out 1).trans rfl; have hfz28_0 := blk_frozen BK109.out 0; have hfz28_1 := blk_frozen BK109.out 1) | ((with_reducible refine gate_callee (f := 53) rfl ?_); refine goesL_ (some 47) rfl rfl Try.func53 (by kernel_rfl) rfl #[.agg #[.int .i64 t102, .slice Ao24 t103.length co24]] rfl (by (try simp only [List.map_toArray, List.map_cons, List.map_nil]); first | done | rfl | (simp only [List.length_drop, List.length_take]; rfl)) ?_; (with_reducible refine (free_Room.calls k t102 _ _ t103 t114 t115 t116 _ ?side1 ?side2 A8.out).mono ?_); (case side1 => repeat (first | exact (Kd.R_reads' HO105.out).2.2 | (with_reducible refine Kd.C_alloc ?_ _) | (with_reducible refine Kd.C_drewN ?_ _) | (with_reducible refine Kd.C_drew ?_))); (case side2 => exact (Kd.R_reads' HO105.out).2.1); rintro e w29 ⟨rfl, hb⟩; refine ⟨_, rfl, ?_⟩; have n0_ := Aside0.mk (Kd.R_below (by (with_reducible repeat (first | apply Kd.R_alloc | apply Kd.R_drewN | apply Kd.R_drew)); exact HO105.out) hb); have n1_ := Aside0.mk (Kd.R_below (by (with_reducible repeat (first | apply Kd.R_alloc | apply Kd.R_drewN | apply Kd.R_drew)); exact HO108.out) hb); have n2_ := Aside0.mk (blk_below (g := gb101) (o := .cells #[.int .i64 a0_0, .slice A0_1 l0_1.length c0_1] 56 (0, 0)) (by (with_reducible repeat (first | refine blk_drewN ?_ _ | refine blk_drew ?_ | refine blk_alloc ?_ _)); exact BK101.out) hb); have n3_ := Aside0.mk (blk_below (g := gb109) (o := .cells #[.int .i64 t102, .slice Ao24 t103.length co24] 58 (0, 0)) (by (with_reducible repeat (first | refine blk_drewN ?_ _ | refine blk_drew ?_ | refine blk_alloc ?_ _)); exact BK109.out) hb); have n4_ := Aside0.mk (below_step (by repeat (first | (with_reducible first | exact HB.out | apply below_alloc | apply pw_below_drewN | apply below_drew1 | refine below_set ?_ GE101.out | refine below_set ?_ GE109.out) | exact HB.out)) hb); clear HO105; clear HO108; clear BK101; clear BK109; clear HB; have HO105 := n0_; have HO108 := n1_; have BK101 := n2_; have BK109 := n3_; have HB := n4_; clear n0_ n1_ n2_ n3_ n4_; (try clear hb); (try clear hb2); (try clear hk); (try clear hi); have hcz30_0 : w29.cell? ⟨gb101, 0, none⟩ = some (.int .i64 a0_0) := (blk_cell BK101.out 0).trans rfl; have hcz30_1 : w29.cell? ⟨gb101, 1, none⟩ = some (.slice A0_1 l0_1.length c0_1) := (blk_cell BK101.out 1).trans rfl; have hfz30_0 := blk_frozen BK101.out 0; have hfz30_1 := blk_frozen BK101.out 1) | ((with_reducible refine gate_callee (f := 81) rfl ?_); refine goesL_ (some 53) rfl rfl Try.func81 (by kernel_rfl) rfl #[.agg #[.int .i64 a0_0, .slice A0_1 l0_1.length c0_1]] rfl (by (try simp only [List.map_toArray, List.map_cons, List.map_nil]); first | done | rfl | (simp only [List.length_drop, List.length_take]; rfl)) ?_; (with_reducible refine (flagstoneref06_Room.calls k a0_0 _ _ l0_1 t117 t118 t119 _ ?side1 ?side2 A9.out).mono ?_); (case side1 => repeat (first | exact (Kd.C_below HR0_1.out HB.out) | (with_reducible refine Kd.C_alloc ?_ _) | (with_reducible refine Kd.C_drewN ?_ _) | (with_reducible refine Kd.C_drew ?_))); (case side2 => exact HC0_1.out); rintro e w31 ⟨rfl, hb⟩; refine ⟨_, rfl, ?_⟩; have n0_ := Aside0.mk (Kd.R_below (by (with_reducible repeat (first | apply Kd.R_alloc | apply Kd.R_drewN | apply Kd.R_drew)); exact HO105.out) hb); have n1_ := Aside0.mk (Kd.R_below (by (with_reducible repeat (first | apply Kd.R_alloc | apply Kd.R_drewN | apply Kd.R_drew)); exact HO108.out) hb); have n2_ := Aside0.mk (blk_below (g := gb101) (o := .cells #[.int .i64 a0_0, .slice A0_1 l0_1.length c0_1] 56 (0, 0)) (by (with_reducible repeat (first | refine blk_drewN ?_ _ | refine blk_drew ?_ | refine blk_alloc ?_ _)); exact BK101.out) hb); have n3_ := Aside0.mk (blk_below (g := gb109) (o := .cells #[.int .i64 t102, .slice Ao24 t103.length co24] 58 (0, 0)) (by (with_reducible repeat (first | refine blk_drewN ?_ _ | refine blk_drew ?_ | refine blk_alloc ?_ _)); exact BK109.out) hb); have n4_ := Aside0.mk (below_step (by repeat (first | (with_reducible first | exact HB.out | apply below_alloc | apply pw_below_drewN | apply below_drew1 | refine below_set ?_ GE101.out | refine below_set ?_ GE109.out) | exact HB.out)) hb); clear HO105; clear HO108; clear BK101; clear BK109; clear HB; have HO105 := n0_; have HO108 := n1_; have BK101 := n2_; have BK109 := n3_; have HB := n4_; clear n0_ n1_ n2_ n3_ n4_; (try clear hb); (try clear hb2); (try clear hk); (try clear hi); have hcz32_0 : w31.cell? ⟨gb109, 0, none⟩ = some (.int .i64 t102) := (blk_cell BK109.out 0).trans rfl; have hcz32_1 : w31.cell? ⟨gb109, 1, none⟩ = some (.slice Ao24 t103.length co24) := (blk_cell BK109.out 1).trans rfl; have hfz32_0 := blk_frozen BK109.out 0; have hfz32_1 := blk_frozen BK109.out 1) | ((with_reducible refine gate_callee (f := 52) rfl ?_); refine goesL_ (some 60) rfl rfl Try.func52 (by kernel_rfl) rfl #[.agg #[.int .i64 t102, .slice Ao24 t103.length co24], .int .i64 a1] rfl (by (try simp only [List.map_toArray, List.map_cons, List.map_nil]); first | done | rfl | (simp only [List.length_drop, List.length_take]; rfl)) ?_; (with_reducible refine (free_Resize.calls t102 _ _ t103 a1 t120 t121 t124 _ ?side1 ?side2 A10.out).mono ?_); (case side1 => repeat (first | exact (Kd.R_reads' HO105.out).2.2 | (with_reducible refine Kd.C_alloc ?_ _) | (with_reducible refine Kd.C_drewN ?_ _) | (with_reducible refine Kd.C_drew ?_))); (case side2 => exact (Kd.R_reads' HO105.out).2.1); rintro e w33 ⟨v122, rfl, ho0, hb⟩; refine ⟨_, rfl, ?_⟩; have n0_ := Aside0.mk (Kd.R_elder' (by (with_reducible repeat (first | apply Kd.R_alloc | apply Kd.R_drewN | apply Kd.R_drew)); exact HO105.out) (Kd.R_base ho0) hb); have n1_ := Aside0.mk (Kd.R_elder' (by (with_reducible repeat (first | apply Kd.R_alloc | apply Kd.R_drewN | apply Kd.R_drew)); exact HO108.out) (Kd.R_base ho0) hb); have n2_ := Aside0.mk (Kd.R_lower (Kd.R_new' (Kd.R_new' ho0 (Kd.R_lt (by (with_reducible repeat (first | apply Kd.R_alloc | apply Kd.R_drewN | apply Kd.R_drew)); exact HO105.out))) (Kd.R_lt (by (with_reducible repeat (first | apply Kd.R_alloc | apply Kd.R_drewN | apply Kd.R_drew)); exact HO108.out))) (below_size (by repeat (first | (with_reducible first | exact HB.out | apply below_alloc | apply pw_below_drewN | apply below_drew1 | refine below_set ?_ GE101.out | refine below_set ?_ GE109.out) | exact HB.out)))); have n3_ := Aside0.mk (blk_below (g := gb101) (o := .cells #[.int .i64 a0_0, .slice A0_1 l0_1.length c0_1] 56 (0, 0)) (by (with_reducible repeat (first | refine blk_drewN ?_ _ | refine blk_drew ?_ | refine blk_alloc ?_ _)); exact BK101.out) hb); have n4_ := Aside0.mk (blk_below (g := gb109) (o := .cells #[.int .i64 t102, .slice Ao24 t103.length co24] 58 (0, 0)) (by (with_reducible repeat (first | refine blk_drewN ?_ _ | refine blk_drew ?_ | refine blk_alloc ?_ _)); exact BK109.out) hb); have n5_ := Aside0.mk (below_step (by repeat (first | (with_reducible first | exact HB.out | apply below_alloc | apply pw_below_drewN | apply below_drew1 | refine below_set ?_ GE101.out | refine below_set ?_ GE109.out) | exact HB.out)) hb); clear HO105; clear HO108; clear BK101; clear BK109; clear HB; have HO105 := n0_; have HO108 := n1_; have HO123 := n2_; have BK101 := n3_; have BK109 := n4_; have HB := n5_; clear n0_ n1_ n2_ n3_ n4_ n5_; (try clear hb); (try clear hb2); (try clear hk); (try clear hi); (try clear ho0)) | ((with_reducible refine gate_dst (N := 19) rfl ?_); refine box_event ?hg (N := 19) ?hd (cs := #[.int .i64 0, .slice none 0 0]) (t := 58) ?hr ?_; (case hd => rfl); (case hg => rfl); (case hr => first | (go_simp; done) | (go_simp; rfl)); intro gb125 hg w34 hbox hb; have n0_ := Aside0.mk (Kd.R_below (by (with_reducible repeat (first | apply Kd.R_alloc | apply Kd.R_drewN | apply Kd.R_drew)); exact HO105.out) hb); have n1_ := Aside0.mk (Kd.R_below (by (with_reducible repeat (first | apply Kd.R_alloc | apply Kd.R_drewN | apply Kd.R_drew)); exact HO108.out) hb); have n2_ := Aside0.mk (Kd.R_below (by (with_reducible repeat (first | apply Kd.R_alloc | apply Kd.R_drewN | apply Kd.R_drew)); exact HO123.out) hb); have n3_ := Aside0.mk (blk_below (g := gb101) (o := .cells #[.int .i64 a0_0, .slice A0_1 l0_1.length c0_1] 56 (0, 0)) (by (with_reducible repeat (first | refine blk_drewN ?_ _ | refine blk_drew ?_ | refine blk_alloc ?_ _)); exact BK101.out) hb); have n4_ := Aside0.mk (blk_below (g := gb109) (o := .cells #[.int .i64 t102, .slice Ao24 t103.length co24] 58 (0, 0)) (by (with_reducible repeat (first | refine blk_drewN ?_ _ | refine blk_drew ?_ | refine blk_alloc ?_ _)); exact BK109.out) hb); have n5_ := Aside0.mk (below_step (by repeat (first | (with_reducible first | exact HB.out | apply below_alloc | apply pw_below_drewN | apply below_drew1 | refine below_set ?_ GE101.out | refine below_set ?_ GE109.out) | exact HB.out)) hb); have n6_ := Aside0.mk (hbox); have n7_ := Aside0.mk ((by rw [hg]; exact (below_size (by repeat (first | (with_reducible first | exact HB.out | apply below_alloc | apply pw_below_drewN | apply below_drew1 | refine below_set ?_ GE101.out | refine below_set ?_ GE109.out) | exact HB.out))) : w.heap.size ≤ gb125)); have n8_ := Aside0.mk ((by rw [hg]; exact (below_size (by repeat (first | (with_reducible first | exact HB.out | apply below_alloc | apply pw_below_drewN | apply below_drew1 | refine below_set ?_ GE101.out | refine below_set ?_ GE109.out) | exact HB.out))) : w.heap.size ≤ gb125)); have n9_ := Aside0.mk ((by rw [hg]; exact Nat.ne_of_lt (blk_lt (g := gb101) (o := .cells #[.int .i64 a0_0, .slice A0_1 l0_1.length c0_1] 56 (0, 0)) (by (with_reducible repeat (first | refine blk_drewN ?_ _ | refine blk_drew ?_ | refine blk_alloc ?_ _)); exact BK101.out)) : gb101 ≠ gb125)); have n10_ := Aside0.mk ((by rw [hg]; exact Nat.ne_of_gt (blk_lt (g := gb101) (o := .cells #[.int .i64 a0_0, .slice A0_1 l0_1.length c0_1] 56 (0, 0)) (by (with_reducible repeat (first | refine blk_drewN ?_ _ | refine blk_drew ?_ | refine blk_alloc ?_ _)); exact BK101.out)) : gb125 ≠ gb101)); have n11_ := Aside0.mk ((by rw [hg]; exact Nat.ne_of_lt (blk_lt (g := gb109) (o := .cells #[.int .i64 t102, .slice Ao24 t103.length co24] 58 (0, 0)) (by (with_reducible repeat (first | refine blk_drewN ?_ _ | refine blk_drew ?_ | refine blk_alloc ?_ _)); exact BK109.out)) : gb109 ≠ gb125)); have n12_ := Aside0.mk ((by rw [hg]; exact Nat.ne_of_gt (blk_lt (g := gb109) (o := .cells #[.int .i64 t102, .slice Ao24 t103.length co24] 58 (0, 0)) (by (with_reducible repeat (first | refine blk_drewN ?_ _ | refine blk_drew ?_ | refine blk_alloc ?_ _)); exact BK109.out)) : gb125 ≠ gb109)); clear HO105; clear HO108; clear HO123; clear BK101; clear BK109; clear HB; have HO105 := n0_; have HO108 := n1_; have HO123 := n2_; have BK101 := n3_; have BK109 := n4_; have HB := n5_; have BK125 := n6_; have GW125 := n7_; have GE125 := n8_; have NB101_125 := n9_; have NB125_101 := n10_; have NB109_125 := n11_; have NB125_109 := n12_; clear n0_ n1_ n2_ n3_ n4_ n5_ n6_ n7_ n8_ n9_ n10_ n11_ n12_; clear hb hbox hg; have hnb35 := NB125_101.out; have hnc35 := NB101_125.out; have hnb36 := NB125_109.out; have hnc36 := NB109_125.out; have hcz37_0 : w34.cell? ⟨gb125, 0, none⟩ = some (.int .i64 0) := (blk_cell BK125.out 0).trans rfl; have hcz37_1 : w34.cell? ⟨gb125, 1, none⟩ = some (.slice none 0 0) := (blk_cell BK125.out 1).trans rfl; have hfz37_0 := blk_frozen BK125.out 0; have hfz37_1 := blk_frozen BK125.out 1; obtain ⟨Ao38, co38, eo38⟩ := Kd.R_slice HO123.out; subst eo38; have hcz39_0 : w34.cell? ⟨gb101, 0, none⟩ = some (.int .i64 a0_0) := (blk_cell BK101.out 0).trans rfl; have hcz39_1 : w34.cell? ⟨gb101, 1, none⟩ = some (.slice A0_1 l0_1.length c0_1) := (blk_cell BK101.out 1).trans rfl; have hfz39_0 := blk_frozen BK101.out 0; have hfz39_1 := blk_frozen BK101.out 1) | ((with_reducible refine gate_callee (f := 82) rfl ?_); refine goesL_ (some 66) rfl rfl Try.func82 (by kernel_rfl) rfl #[.agg #[.int .i64 a0_0, .slice A0_1 l0_1.length c0_1], .int .i64 a1] rfl (by (try simp only [List.map_toArray, List.map_cons, List.map_nil]); first | done | rfl | (simp only [List.length_drop, List.length_take]; rfl)) ?_; (with_reducible refine (flagstoneref06_Resize.calls k a0_0 _ _ l0_1 a1 t126 t127 t130 _ ?side1 ?side2 A11.out).mono ?_); (case side1 => exact Kd.C_below HR0_1.out (by repeat (first | (with_reducible first | exact HB.out | apply below_alloc | apply pw_below_drewN | apply below_drew1 | refine below_set ?_ GE101.out | refine below_set ?_ GE109.out | refine below_set ?_ GE125.out) | exact HB.out))); (case side2 => exact HC0_1.out); rintro e w40 ⟨v128, rfl, ho0, hb⟩; refine ⟨_, rfl, ?_⟩; have n0_ := Aside0.mk (Kd.R_elder' (by (with_reducible repeat (first | apply Kd.R_alloc | apply Kd.R_drewN | apply Kd.R_drew)); exact (Kd.R_mono (Kd.R_far (p := ⟨gb125, 1, none⟩) (Kd.R_far (p := ⟨gb125, 0, none⟩) (Kd.R_types HO105.out BK125.out (by decide)) (fun _ hk => hk.2) (.int .i64 t120)) (fun _ hk => hk.2) (.slice Ao38 t121.length co38)) (fun _ h_ => h_.1))) (Kd.R_base ho0) hb); have n1_ := Aside0.mk (Kd.R_elder' (by (with_reducible repeat (first | apply Kd.R_alloc | apply Kd.R_drewN | apply Kd.R_drew)); exact (Kd.R_mono (Kd.R_far (p := ⟨gb125, 1, none⟩) (Kd.R_far (p := ⟨gb125, 0, none⟩) (Kd.R_types HO108.out BK125.out (by decide)) (fun _ hk => hk.2) (.int .i64 t120)) (fun _ hk => hk.2) (.slice Ao38 t121.length co38)) (fun _ h_ => h_.1))) (Kd.R_base ho0) hb); have n2_ := Aside0.mk (Kd.R_elder' (by (with_reducible repeat (first | apply Kd.R_alloc | apply Kd.R_drewN | apply Kd.R_drew)); exact (Kd.R_mono (Kd.R_far (p := ⟨gb125, 1, none⟩) (Kd.R_far (p := ⟨gb125, 0, none⟩) (Kd.R_types HO123.out BK125.out (by decide)) (fun _ hk => hk.2) (.int .i64 t120)) (fun _ hk => hk.2) (.slice Ao38 t121.length co38)) (fun _ h_ => h_.1))) (Kd.R_base ho0) hb); have n3_ := Aside0.mk (Kd.R_lower (Kd.R_new' (Kd.R_new' (Kd.R_new' ho0 (Kd.R_lt (by (with_reducible repeat (first | apply Kd.R_alloc | apply Kd.R_drewN | apply Kd.R_drew)); exact (Kd.R_mono (Kd.R_far (p := ⟨gb125, 1, none⟩) (Kd.R_far (p := ⟨gb125, 0, none⟩) (Kd.R_types HO105.out BK125.out (by decide)) (fun _ hk => hk.2) (.int .i64 t120)) (fun _ hk => hk.2) (.slice Ao38 t121.length co38)) (fun _ h_ => h_.1))))) (Kd.R_lt (by (with_reducible repeat (first | apply Kd.R_alloc | apply Kd.R_drewN | apply Kd.R_drew)); exact (Kd.R_mono (Kd.R_far (p := ⟨gb125, 1, none⟩) (Kd.R_far (p := ⟨gb125, 0, none⟩) (Kd.R_types HO108.out BK125.out (by decide)) (fun _ hk => hk.2) (.int .i64 t120)) (fun _ hk => hk.2) (.slice Ao38 t121.length co38)) (fun _ h_ => h_.1))))) (Kd.R_lt (by (with_reducible repeat (first | apply Kd.R_alloc | apply Kd.R_drewN | apply Kd.R_drew)); exact (Kd.R_mono (Kd.R_far (p := ⟨gb125, 1, none⟩) (Kd.R_far (p := ⟨gb125, 0, none⟩) (Kd.R_types HO123.out BK125.out (by decide)) (fun _ hk => hk.2) (.int .i64 t120)) (fun _ hk => hk.2) (.slice Ao38 t121.length co38)) (fun _ h_ => h_.1))))) (below_size (by repeat (first | (with_reducible first | exact HB.out | apply below_alloc | apply pw_below_drewN | apply below_drew1 | refine below_set ?_ GE101.out | refine below_set ?_ GE109.out | refine below_set ?_ GE125.out) | exact HB.out)))); have n4_ := Aside0.mk (blk_below (g := gb101) (o := .cells #[.int .i64 a0_0, .slice A0_1 l0_1.length c0_1] 56 (0, 0)) (by (with_reducible repeat (first | refine blk_drewN ?_ _ | refine blk_drew ?_ | refine blk_alloc ?_ _)); refine blk_far ?_ NB101_125.out _; (with_reducible repeat (first | refine blk_drewN ?_ _ | refine blk_drew ?_ | refine blk_alloc ?_ _)); refine blk_far ?_ NB101_125.out _; (with_reducible repeat (first | refine blk_drewN ?_ _ | refine blk_drew ?_ | refine blk_alloc ?_ _)); exact BK101.out) hb); have n5_ := Aside0.mk (blk_below (g := gb109) (o := .cells #[.int .i64 t102, .slice Ao24 t103.length co24] 58 (0, 0)) (by (with_reducible repeat (first | refine blk_drewN ?_ _ | refine blk_drew ?_ | refine blk_alloc ?_ _)); refine blk_far ?_ NB109_125.out _; (with_reducible repeat (first | refine blk_drewN ?_ _ | refine blk_drew ?_ | refine blk_alloc ?_ _)); refine blk_far ?_ NB109_125.out _; (with_reducible repeat (first | refine blk_drewN ?_ _ | refine blk_drew ?_ | refine blk_alloc ?_ _)); exact BK109.out) hb); have n6_ := Aside0.mk (blk_below (g := gb125) (o := .cells #[.int .i64 t120, .slice Ao38 t121.length co38] 58 (0, 0)) (by (with_reducible repeat (first | refine blk_drewN ?_ _ | refine blk_drew ?_ | refine blk_alloc ?_ _)); refine blk_put (cs := #[.int .i64 t120, .slice none 0 0]) ?_ 1 _ rfl; (with_reducible repeat (first | refine blk_drewN ?_ _ | refine blk_drew ?_ | refine blk_alloc ?_ _)); refine blk_put (cs := #[.int .i64 0, .slice none 0 0]) ?_ 0 _ rfl; (with_reducible repeat (first | refine blk_drewN ?_ _ | refine blk_drew ?_ | refine blk_alloc ?_ _)); exact BK125.out) hb); have n7_ := Aside0.mk (below_step (by repeat (first | (with_reducible first | exact HB.out | apply below_alloc | apply pw_below_drewN | apply below_drew1 | refine below_set ?_ GE101.out | refine below_set ?_ GE109.out | refine below_set ?_ GE125.out) | exact HB.out)) hb); clear HO105; clear HO108; clear HO123; clear BK101; clear BK109; clear BK125; clear HB; have HO105 := n0_; have HO108 := n1_; have HO123 := n2_; have HO129 := n3_; have BK101 := n4_; have BK109 := n5_; have BK125 := n6_; have HB := n7_; clear n0_ n1_ n2_ n3_ n4_ n5_ n6_ n7_; (try clear hb); (try clear hb2); (try clear hk); (try clear hi); (try clear ho0)) | ((with_reducible refine gate_dst (N := 21) rfl ?_); refine box_event ?hg (N := 21) ?hd (cs := #[.int .i64 0, .slice none 0 0]) (t := 56) ?hr ?_; (case hd => rfl); (case hg => rfl); (case hr => first | (go_simp; done) | (go_simp; rfl)); intro gb131 hg w41 hbox hb; have n0_ := Aside0.mk (Kd.R_below (by (with_reducible repeat (first | apply Kd.R_alloc | apply Kd.R_drewN | apply Kd.R_drew)); exact HO105.out) hb); have n1_ := Aside0.mk (Kd.R_below (by (with_reducible repeat (first | apply Kd.R_alloc | apply Kd.R_drewN | apply Kd.R_drew)); exact HO108.out) hb); have n2_ := Aside0.mk (Kd.R_below (by (with_reducible repeat (first | apply Kd.R_alloc | apply Kd.R_drewN | apply Kd.R_drew)); exact HO123.out) hb); have n3_ := Aside0.mk (Kd.R_below (by (with_reducible repeat (first | apply Kd.R_alloc | apply Kd.R_drewN | apply Kd.R_drew)); exact HO129.out) hb); have n4_ := Aside0.mk (blk_below (g := gb101) (o := .cells #[.int .i64 a0_0, .slice A0_1 l0_1.length c0_1] 56 (0, 0)) (by (with_reducible repeat (first | refine blk_drewN ?_ _ | refine blk_drew ?_ | refine blk_alloc ?_ _)); exact BK101.out) hb); have n5_ := Aside0.mk (blk_below (g := gb109) (o := .cells #[.int .i64 t102, .slice Ao24 t103.length co24] 58 (0, 0)) (by (with_reducible repeat (first | refine blk_drewN ?_ _ | refine blk_drew ?_ | refine blk_alloc ?_ _)); exact BK109.out) hb); have n6_ := Aside0.mk (blk_below (g := gb125) (o := .cells #[.int .i64 t120, .slice Ao38 t121.length co38] 58 (0, 0)) (by (with_reducible repeat (first | refine blk_drewN ?_ _ | refine blk_drew ?_ | refine blk_alloc ?_ _)); exact BK125.out) hb); have n7_ := Aside0.mk (below_step (by repeat (first | (with_reducible first | exact HB.out | apply below_alloc | apply pw_below_drewN | apply below_drew1 | refine below_set ?_ GE101.out | refine below_set ?_ GE109.out | refine below_set ?_ GE125.out) | exact HB.out)) hb); have n8_ := Aside0.mk (hbox); have n9_ := Aside0.mk ((by rw [hg]; exact (below_size (by repeat (first | (with_reducible first | exact HB.out | apply below_alloc | apply pw_below_drewN | apply below_drew1 | refine below_set ?_ GE101.out | refine below_set ?_ GE109.out | refine below_set ?_ GE125.out) | exact HB.out))) : w.heap.size ≤ gb131)); have n10_ := Aside0.mk ((by rw [hg]; exact (below_size (by repeat (first | (with_reducible first | exact HB.out | apply below_alloc | apply pw_below_drewN | apply below_drew1 | refine below_set ?_ GE101.out | refine below_set ?_ GE109.out | refine below_set ?_ GE125.out) | exact HB.out))) : w.heap.size ≤ gb131)); have n11_ := Aside0.mk ((by rw [hg]; exact Nat.ne_of_lt (blk_lt (g := gb101) (o := .cells #[.int .i64 a0_0, .slice A0_1 l0_1.length c0_1] 56 (0, 0)) (by (with_reducible repeat (first | refine blk_drewN ?_ _ | refine blk_drew ?_ | refine blk_alloc ?_ _)); exact BK101.out)) : gb101 ≠ gb131)); have n12_ := Aside0.mk ((by rw [hg]; exact Nat.ne_of_gt (blk_lt (g := gb101) (o := .cells #[.int .i64 a0_0, .slice A0_1 l0_1.length c0_1] 56 (0, 0)) (by (with_reducible repeat (first | refine blk_drewN ?_ _ | refine blk_drew ?_ | refine blk_alloc ?_ _)); exact BK101.out)) : gb131 ≠ gb101)); have n13_ := Aside0.mk ((by rw [hg]; exact Nat.ne_of_lt (blk_lt (g := gb109) (o := .cells #[.int .i64 t102, .slice Ao24 t103.length co24] 58 (0, 0)) (by (with_reducible repeat (first | refine blk_drewN ?_ _ | refine blk_drew ?_ | refine blk_alloc ?_ _)); exact BK109.out)) : gb109 ≠ gb131)); have n14_ := Aside0.mk ((by rw [hg]; exact Nat.ne_of_gt (blk_lt (g := gb109) (o := .cells #[.int .i64 t102, .slice Ao24 t103.length co24] 58 (0, 0)) (by (with_reducible repeat (first | refine blk_drewN ?_ _ | refine blk_drew ?_ | refine blk_alloc ?_ _)); exact BK109.out)) : gb131 ≠ gb109)); have n15_ := Aside0.mk ((by rw [hg]; exact Nat.ne_of_lt (blk_lt (g := gb125) (o := .cells #[.int .i64 t120, .slice Ao38 t121.length co38] 58 (0, 0)) (by (with_reducible repeat (first | refine blk_drewN ?_ _ | refine blk_drew ?_ | refine blk_alloc ?_ _)); exact BK125.out)) : gb125 ≠ gb131)); have n16_ := Aside0.mk ((by rw [hg]; exact Nat.ne_of_gt (blk_lt (g := gb125) (o := .cells #[.int .i64 t120, .slice Ao38 t121.length co38] 58 (0, 0)) (by (with_reducible repeat (first | refine blk_drewN ?_ _ | refine blk_drew ?_ | refine blk_alloc ?_ _)); exact BK125.out)) : gb131 ≠ gb125)); clear HO105; clear HO108; clear HO123; clear HO129; clear BK101; clear BK109; clear BK125; clear HB; have HO105 := n0_; have HO108 := n1_; have HO123 := n2_; have HO129 := n3_; have BK101 := n4_; have BK109 := n5_; have BK125 := n6_; have HB := n7_; have BK131 := n8_; have GW131 := n9_; have GE131 := n10_; have NB101_131 := n11_; have NB131_101 := n12_; have NB109_131 := n13_; have NB131_109 := n14_; have NB125_131 := n15_; have NB131_125 := n16_; clear n0_ n1_ n2_ n3_ n4_ n5_ n6_ n7_ n8_ n9_ n10_ n11_ n12_ n13_ n14_ n15_ n16_; clear hb hbox hg; have hnb42 := NB131_101.out; have hnc42 := NB101_131.out; have hnb43 := NB131_109.out; have hnc43 := NB109_131.out; have hnb44 := NB131_125.out; have hnc44 := NB125_131.out; have hcz45_0 : w41.cell? ⟨gb131, 0, none⟩ = some (.int .i64 0) := (blk_cell BK131.out 0).trans rfl; have hcz45_1 : w41.cell? ⟨gb131, 1, none⟩ = some (.slice none 0 0) := (blk_cell BK131.out 1).trans rfl; have hfz45_0 := blk_frozen BK131.out 0; have hfz45_1 := blk_frozen BK131.out 1; obtain ⟨Ao46, co46, eo46⟩ := Kd.R_slice HO129.out; subst eo46) | ((with_reducible refine gate_callee (f := 83) rfl ?_); refine goesL_ (some 71) rfl rfl Try.func83 (by kernel_rfl) rfl #[.int .i64 a1] rfl (by (try simp only [List.map_toArray, List.map_cons, List.map_nil]); first | done | rfl | (simp only [List.length_drop, List.length_take]; rfl)) ?_; (with_reducible refine (free_New.calls k a1 t132 t133 t136 _ A12.out).mono ?_); rintro e w47 ⟨v134, rfl, ho0, hb⟩; refine ⟨_, rfl, ?_⟩; have n0_ := Aside0.mk (Kd.R_elder' (by (with_reducible repeat (first | apply Kd.R_alloc | apply Kd.R_drewN | apply Kd.R_drew)); exact (Kd.R_mono (Kd.R_far (p := ⟨gb131, 1, none⟩) (Kd.R_far (p := ⟨gb131, 0, none⟩) (Kd.R_types HO105.out BK131.out (by decide)) (fun _ hk => hk.2) (.int .i64 t126)) (fun _ hk => hk.2) (.slice Ao46 t127.length co46)) (fun _ h_ => h_.1))) (Kd.R_base ho0) hb); have n1_ := Aside0.mk (Kd.R_elder' (by (with_reducible repeat (first | apply Kd.R_alloc | apply Kd.R_drewN | apply Kd.R_drew)); exact (Kd.R_mono (Kd.R_far (p := ⟨gb131, 1, none⟩) (Kd.R_far (p := ⟨gb131, 0, none⟩) (Kd.R_types HO108.out BK131.out (by decide)) (fun _ hk => hk.2) (.int .i64 t126)) (fun _ hk => hk.2) (.slice Ao46 t127.length co46)) (fun _ h_ => h_.1))) (Kd.R_base ho0) hb); have n2_ := Aside0.mk (Kd.R_elder' (by (with_reducible repeat (first | apply Kd.R_alloc | apply Kd.R_drewN | apply Kd.R_drew)); exact (Kd.R_mono (Kd.R_far (p := ⟨gb131, 1, none⟩) (Kd.R_far (p := ⟨gb131, 0, none⟩) (Kd.R_types HO123.out BK131.out (by decide)) (fun _ hk => hk.2) (.int .i64 t126)) (fun _ hk => hk.2) (.slice Ao46 t127.length co46)) (fun _ h_ => h_.1))) (Kd.R_base ho0) hb); have n3_ := Aside0.mk (Kd.R_elder' (by (with_reducible repeat (first | apply Kd.R_alloc | apply Kd.R_drewN | apply Kd.R_drew)); exact (Kd.R_mono (Kd.R_far (p := ⟨gb131, 1, none⟩) (Kd.R_far (p := ⟨gb131, 0, none⟩) (Kd.R_types HO129.out BK131.out (by decide)) (fun _ hk => hk.2) (.int .i64 t126)) (fun _ hk => hk.2) (.slice Ao46 t127.length co46)) (fun _ h_ => h_.1))) (Kd.R_base ho0) hb); have n4_ := Aside0.mk (Kd.R_lower (Kd.R_new' (Kd.R_new' (Kd.R_new' (Kd.R_new' ho0 (Kd.R_lt (by (with_reducible repeat (first | apply Kd.R_alloc | apply Kd.R_drewN | apply Kd.R_drew)); exact (Kd.R_mono (Kd.R_far (p := ⟨gb131, 1, none⟩) (Kd.R_far (p := ⟨gb131, 0, none⟩) (Kd.R_types HO105.out BK131.out (by decide)) (fun _ hk => hk.2) (.int .i64 t126)) (fun _ hk => hk.2) (.slice Ao46 t127.length co46)) (fun _ h_ => h_.1))))) (Kd.R_lt (by (with_reducible repeat (first | apply Kd.R_alloc | apply Kd.R_drewN | apply Kd.R_drew)); exact (Kd.R_mono (Kd.R_far (p := ⟨gb131, 1, none⟩) (Kd.R_far (p := ⟨gb131, 0, none⟩) (Kd.R_types HO108.out BK131.out (by decide)) (fun _ hk => hk.2) (.int .i64 t126)) (fun _ hk => hk.2) (.slice Ao46 t127.length co46)) (fun _ h_ => h_.1))))) (Kd.R_lt (by (with_reducible repeat (first | apply Kd.R_alloc | apply Kd.R_drewN | apply Kd.R_drew)); exact (Kd.R_mono (Kd.R_far (p := ⟨gb131, 1, none⟩) (Kd.R_far (p := ⟨gb131, 0, none⟩) (Kd.R_types HO123.out BK131.out (by decide)) (fun _ hk => hk.2) (.int .i64 t126)) (fun _ hk => hk.2) (.slice Ao46 t127.length co46)) (fun _ h_ => h_.1))))) (Kd.R_lt (by (with_reducible repeat (first | apply Kd.R_alloc | apply Kd.R_drewN | apply Kd.R_drew)); exact (Kd.R_mono (Kd.R_far (p := ⟨gb131, 1, none⟩) (Kd.R_far (p := ⟨gb131, 0, none⟩) (Kd.R_types HO129.out BK131.out (by decide)) (fun _ hk => hk.2) (.int .i64 t126)) (fun _ hk => hk.2) (.slice Ao46 t127.length co46)) (fun _ h_ => h_.1))))) (below_size (by repeat (first | (with_reducible first | exact HB.out | apply below_alloc | apply pw_below_drewN | apply below_drew1 | refine below_set ?_ GE101.out | refine below_set ?_ GE109.out | refine below_set ?_ GE125.out | refine below_set ?_ GE131.out) | exact HB.out)))); have n5_ := Aside0.mk (blk_below (g := gb101) (o := .cells #[.int .i64 a0_0, .slice A0_1 l0_1.length c0_1] 56 (0, 0)) (by (with_reducible repeat (first | refine blk_drewN ?_ _ | refine blk_drew ?_ | refine blk_alloc ?_ _)); refine blk_far ?_ NB101_131.out _; (with_reducible repeat (first | refine blk_drewN ?_ _ | refine blk_drew ?_ | refine blk_alloc ?_ _)); refine blk_far ?_ NB101_131.out _; (with_reducible repeat (first | refine blk_drewN ?_ _ | refine blk_drew ?_ | refine blk_alloc ?_ _)); exact BK101.out) hb); have n6_ := Aside0.mk (blk_below (g := gb109) (o := .cells #[.int .i64 t102, .slice Ao24 t103.length co24] 58 (0, 0)) (by (with_reducible repeat (first | refine blk_drewN ?_ _ | refine blk_drew ?_ | refine blk_alloc ?_ _)); refine blk_far ?_ NB109_131.out _; (with_reducible repeat (first | refine blk_drewN ?_ _ | refine blk_drew ?_ | refine blk_alloc ?_ _)); refine blk_far ?_ NB109_131.out _; (with_reducible repeat (first | refine blk_drewN ?_ _ | refine blk_drew ?_ | refine blk_alloc ?_ _)); exact BK109.out) hb); have n7_ := Aside0.mk (blk_below (g := gb125) (o := .cells #[.int .i64 t120, .slice Ao38 t121.length co38] 58 (0, 0)) (by (with_reducible repeat (first | refine blk_drewN ?_ _ | refine blk_drew ?_ | refine blk_alloc ?_ _)); refine blk_far ?_ NB125_131.out _; (with_reducible repeat (first | refine blk_drewN ?_ _ | refine blk_drew ?_ | refine blk_alloc ?_ _)); refine blk_far ?_ NB125_131.out _; (with_reducible repeat (first | refine blk_drewN ?_ _ | refine blk_drew ?_ | refine blk_alloc ?_ _)); exact BK125.out) hb); have n8_ := Aside0.mk (blk_below (g := gb131) (o := .cells #[.int .i64 t126, .slice Ao46 t127.length co46] 56 (0, 0)) (by (with_reducible repeat (first | refine blk_drewN ?_ _ | refine blk_drew ?_ | refine blk_alloc ?_ _)); refine blk_put (cs := #[.int .i64 t126, .slice none 0 0]) ?_ 1 _ rfl; (with_reducible repeat (first | refine blk_drewN ?_ _ | refine blk_drew ?_ | refine blk_alloc ?_ _)); refine blk_put (cs := #[.int .i64 0, .slice none 0 0]) ?_ 0 _ rfl; (with_reducible repeat (first | refine blk_drewN ?_ _ | refine blk_drew ?_ | refine blk_alloc ?_ _)); exact BK131.out) hb); have n9_ := Aside0.mk (below_step (by repeat (first | (with_reducible first | exact HB.out | apply below_alloc | apply pw_below_drewN | apply below_drew1 | refine below_set ?_ GE101.out | refine below_set ?_ GE109.out | refine below_set ?_ GE125.out | refine below_set ?_ GE131.out) | exact HB.out)) hb); clear HO105; clear HO108; clear HO123; clear HO129; clear BK101; clear BK109; clear BK125; clear BK131; clear HB; have HO105 := n0_; have HO108 := n1_; have HO123 := n2_; have HO129 := n3_; have HO135 := n4_; have BK101 := n5_; have BK109 := n6_; have BK125 := n7_; have BK131 := n8_; have HB := n9_; clear n0_ n1_ n2_ n3_ n4_ n5_ n6_ n7_ n8_ n9_; (try clear hb); (try clear hb2); (try clear hk); (try clear hi); (try clear ho0)) | ((with_reducible refine gate_dst (N := 23) rfl ?_); refine box_event ?hg (N := 23) ?hd (cs := #[.int .i64 0, .slice none 0 0]) (t := 58) ?hr ?_; (case hd => rfl); (case hg => rfl); (case hr => first | (go_simp; done) | (go_simp; rfl)); intro gb137 hg w48 hbox hb; have n0_ := Aside0.mk (Kd.R_below (by (with_reducible repeat (first | apply Kd.R_alloc | apply Kd.R_drewN | apply Kd.R_drew)); exact HO105.out) hb); have n1_ := Aside0.mk (Kd.R_below (by (with_reducible repeat (first | apply Kd.R_alloc | apply Kd.R_drewN | apply Kd.R_drew)); exact HO108.out) hb); have n2_ := Aside0.mk (Kd.R_below (by (with_reducible repeat (first | apply Kd.R_alloc | apply Kd.R_drewN | apply Kd.R_drew)); exact HO123.out) hb); have n3_ := Aside0.mk (Kd.R_below (by (with_reducible repeat (first | apply Kd.R_alloc | apply Kd.R_drewN | apply Kd.R_drew)); exact HO129.out) hb); have n4_ := Aside0.mk (Kd.R_below (by (with_reducible repeat (first | apply Kd.R_alloc | apply Kd.R_drewN | apply Kd.R_drew)); exact HO135.out) hb); have n5_ := Aside0.mk (blk_below (g := gb101) (o := .cells #[.int .i64 a0_0, .slice A0_1 l0_1.length c0_1] 56 (0, 0)) (by (with_reducible repeat (first | refine blk_drewN ?_ _ | refine blk_drew ?_ | refine blk_alloc ?_ _)); exact BK101.out) hb); have n6_ := Aside0.mk (blk_below (g := gb109) (o := .cells #[.int .i64 t102, .slice Ao24 t103.length co24] 58 (0, 0)) (by (with_reducible repeat (first | refine blk_drewN ?_ _ | refine blk_drew ?_ | refine blk_alloc ?_ _)); exact BK109.out) hb); have n7_ := Aside0.mk (blk_below (g := gb125) (o := .cells #[.int .i64 t120, .slice Ao38 t121.length co38] 58 (0, 0)) (by (with_reducible repeat (first | refine blk_drewN ?_ _ | refine blk_drew ?_ | refine blk_alloc ?_ _)); exact BK125.out) hb); have n8_ := Aside0.mk (blk_below (g := gb131) (o := .cells #[.int .i64 t126, .slice Ao46 t127.length co46] 56 (0, 0)) (by (with_reducible repeat (first | refine blk_drewN ?_ _ | refine blk_drew ?_ | refine blk_alloc ?_ _)); exact BK131.out) hb); have n9_ := Aside0.mk (below_step (by repeat (first | (with_reducible first | exact HB.out | apply below_alloc | apply pw_below_drewN | apply below_drew1 | refine below_set ?_ GE101.out | refine below_set ?_ GE109.out | refine below_set ?_ GE125.out | refine below_set ?_ GE131.out) | exact HB.out)) hb); have n10_ := Aside0.mk (hbox); have n11_ := Aside0.mk ((by rw [hg]; exact (below_size (by repeat (first | (with_reducible first | exact HB.out | apply below_alloc | apply pw_below_drewN | apply below_drew1 | refine below_set ?_ GE101.out | refine below_set ?_ GE109.out | refine below_set ?_ GE125.out | refine below_set ?_ GE131.out) | exact HB.out))) : w.heap.size ≤ gb137)); have n12_ := Aside0.mk ((by rw [hg]; exact (below_size (by repeat (first | (with_reducible first | exact HB.out | apply below_alloc | apply pw_below_drewN | apply below_drew1 | refine below_set ?_ GE101.out | refine below_set ?_ GE109.out | refine below_set ?_ GE125.out | refine below_set ?_ GE131.out) | exact HB.out))) : w.heap.size ≤ gb137)); have n13_ := Aside0.mk ((by rw [hg]; exact Nat.ne_of_lt (blk_lt (g := gb101) (o := .cells #[.int .i64 a0_0, .slice A0_1 l0_1.length c0_1] 56 (0, 0)) (by (with_reducible repeat (first | refine blk_drewN ?_ _ | refine blk_drew ?_ | refine blk_alloc ?_ _)); exact BK101.out)) : gb101 ≠ gb137)); have n14_ := Aside0.mk ((by rw [hg]; exact Nat.ne_of_gt (blk_lt (g := gb101) (o := .cells #[.int .i64 a0_0, .slice A0_1 l0_1.length c0_1] 56 (0, 0)) (by (with_reducible repeat (first | refine blk_drewN ?_ _ | refine blk_drew ?_ | refine blk_alloc ?_ _)); exact BK101.out)) : gb137 ≠ gb101)); have n15_ := Aside0.mk ((by rw [hg]; exact Nat.ne_of_lt (blk_lt (g := gb109) (o := .cells #[.int .i64 t102, .slice Ao24 t103.length co24] 58 (0, 0)) (by (with_reducible repeat (first | refine blk_drewN ?_ _ | refine blk_drew ?_ | refine blk_alloc ?_ _)); exact BK109.out)) : gb109 ≠ gb137)); have n16_ := Aside0.mk ((by rw [hg]; exact Nat.ne_of_gt (blk_lt (g := gb109) (o := .cells #[.int .i64 t102, .slice Ao24 t103.length co24] 58 (0, 0)) (by (with_reducible repeat (first | refine blk_drewN ?_ _ | refine blk_drew ?_ | refine blk_alloc ?_ _)); exact BK109.out)) : gb137 ≠ gb109)); have n17_ := Aside0.mk ((by rw [hg]; exact Nat.ne_of_lt (blk_lt (g := gb125) (o := .cells #[.int .i64 t120, .slice Ao38 t121.length co38] 58 (0, 0)) (by (with_reducible repeat (first | refine blk_drewN ?_ _ | refine blk_drew ?_ | refine blk_alloc ?_ _)); exact BK125.out)) : gb125 ≠ gb137)); have n18_ := Aside0.mk ((by rw [hg]; exact Nat.ne_of_gt (blk_lt (g := gb125) (o := .cells #[.int .i64 t120, .slice Ao38 t121.length co38] 58 (0, 0)) (by (with_reducible repeat (first | refine blk_drewN ?_ _ | refine blk_drew ?_ | refine blk_alloc ?_ _)); exact BK125.out)) : gb137 ≠ gb125)); have n19_ := Aside0.mk ((by rw [hg]; exact Nat.ne_of_lt (blk_lt (g := gb131) (o := .cells #[.int .i64 t126, .slice Ao46 t127.length co46] 56 (0, 0)) (by (with_reducible repeat (first | refine blk_drewN ?_ _ | refine blk_drew ?_ | refine blk_alloc ?_ _)); exact BK131.out)) : gb131 ≠ gb137)); have n20_ := Aside0.mk ((by rw [hg]; exact Nat.ne_of_gt (blk_lt (g := gb131) (o := .cells #[.int .i64 t126, .slice Ao46 t127.length co46] 56 (0, 0)) (by (with_reducible repeat (first | refine blk_drewN ?_ _ | refine blk_drew ?_ | refine blk_alloc ?_ _)); exact BK131.out)) : gb137 ≠ gb131)); clear HO105; clear HO108; clear HO123; clear HO129; clear HO135; clear BK101; clear BK109; clear BK125; clear BK131; clear HB; have HO105 := n0_; have HO108 := n1_; have HO123 := n2_; have HO129 := n3_; have HO135 := n4_; have BK101 := n5_; have BK109 := n6_; have BK125 := n7_; have BK131 := n8_; have HB := n9_; have BK137 := n10_; have GW137 := n11_; have GE137 := n12_; have NB101_137 := n13_; have NB137_101 := n14_; have NB109_137 := n15_; have NB137_109 := n16_; have NB125_137 := n17_; have NB137_125 := n18_; have NB131_137 := n19_; have NB137_131 := n20_; clear n0_ n1_ n2_ n3_ n4_ n5_ n6_ n7_ n8_ n9_ n10_ n11_ n12_ n13_ n14_ n15_ n16_ n17_ n18_ n19_ n20_; clear hb hbox hg; have hnb49 := NB137_101.out; have hnc49 := NB101_137.out; have hnb50 := NB137_109.out; have hnc50 := NB109_137.out; have hnb51 := NB137_125.out; have hnc51 := NB125_137.out; have hnb52 := NB137_131.out; have hnc52 := NB131_137.out; have hcz53_0 : w48.cell? ⟨gb137, 0, none⟩ = some (.int .i64 0) := (blk_cell BK137.out 0).trans rfl; have hcz53_1 : w48.cell? ⟨gb137, 1, none⟩ = some (.slice none 0 0) := (blk_cell BK137.out 1).trans rfl; have hfz53_0 := blk_frozen BK137.out 0; have hfz53_1 := blk_frozen BK137.out 1; obtain ⟨Ao54, co54, eo54⟩ := Kd.R_slice HO135.out; subst eo54) | ((with_reducible refine gate_callee (f := 84) rfl ?_); refine goesL_ (some 76) rfl rfl Try.func84 (by kernel_rfl) rfl #[.int .i64 a1] rfl (by (try simp only [List.map_toArray, List.map_cons, List.map_nil]); first | done | rfl | (simp only [List.length_drop, List.length_take]; rfl)) ?_; (with_reducible refine (flagstoneref06_New.calls k a1 t138 t139 t142 _ A13.out).mono ?_); rintro e w55 ⟨v140, rfl, ho0, hb⟩; refine ⟨_, rfl, ?_⟩; have n0_ := Aside0.mk (Kd.R_elder' (by (with_reducible repeat (first | apply Kd.R_alloc | apply Kd.R_drewN | apply Kd.R_drew)); exact (Kd.R_mono (Kd.R_far (p := ⟨gb137, 1, none⟩) (Kd.R_far (p := ⟨gb137, 0, none⟩) (Kd.R_types HO105.out BK137.out (by decide)) (fun _ hk => hk.2) (.int .i64 t132)) (fun _ hk => hk.2) (.slice Ao54 t133.length co54)) (fun _ h_ => h_.1))) (Kd.R_base ho0) hb); have n1_ := Aside0.mk (Kd.R_elder' (by (with_reducible repeat (first | apply Kd.R_alloc | apply Kd.R_drewN | apply Kd.R_drew)); exact (Kd.R_mono (Kd.R_far (p := ⟨gb137, 1, none⟩) (Kd.R_far (p := ⟨gb137, 0, none⟩) (Kd.R_types HO108.out BK137.out (by decide)) (fun _ hk => hk.2) (.int .i64 t132)) (fun _ hk => hk.2) (.slice Ao54 t133.length co54)) (fun _ h_ => h_.1))) (Kd.R_base ho0) hb); have n2_ := Aside0.mk (Kd.R_elder' (by (with_reducible repeat (first | apply Kd.R_alloc | apply Kd.R_drewN | apply Kd.R_drew)); exact (Kd.R_mono (Kd.R_far (p := ⟨gb137, 1, none⟩) (Kd.R_far (p := ⟨gb137, 0, none⟩) (Kd.R_types HO123.out BK137.out (by decide)) (fun _ hk => hk.2) (.int .i64 t132)) (fun _ hk => hk.2) (.slice Ao54 t133.length co54)) (fun _ h_ => h_.1))) (Kd.R_base ho0) hb); have n3_ := Aside0.mk (Kd.R_elder' (by (with_reducible repeat (first | apply Kd.R_alloc | apply Kd.R_drewN | apply Kd.R_drew)); exact (Kd.R_mono (Kd.R_far (p := ⟨gb137, 1, none⟩) (Kd.R_far (p := ⟨gb137, 0, none⟩) (Kd.R_types HO129.out BK137.out (by decide)) (fun _ hk => hk.2) (.int .i64 t132)) (fun _ hk => hk.2) (.slice Ao54 t133.length co54)) (fun _ h_ => h_.1))) (Kd.R_base ho0) hb); have n4_ := Aside0.mk (Kd.R_elder' (by (with_reducible repeat (first | apply Kd.R_alloc | apply Kd.R_drewN | apply Kd.R_drew)); exact (Kd.R_mono (Kd.R_far (p := ⟨gb137, 1, none⟩) (Kd.R_far (p := ⟨gb137, 0, none⟩) (Kd.R_types HO135.out BK137.out (by decide)) (fun _ hk => hk.2) (.int .i64 t132)) (fun _ hk => hk.2) (.slice Ao54 t133.length co54)) (fun _ h_ => h_.1))) (Kd.R_base ho0) hb); have n5_ := Aside0.mk (Kd.R_lower (Kd.R_new' (Kd.R_new' (Kd.R_new' (Kd.R_new' (Kd.R_new' ho0 (Kd.R_lt (by (with_reducible repeat (first | apply Kd.R_alloc | apply Kd.R_drewN | apply Kd.R_drew)); exact (Kd.R_mono (Kd.R_far (p := ⟨gb137, 1, none⟩) (Kd.R_far (p := ⟨gb137, 0, none⟩) (Kd.R_types HO105.out BK137.out (by decide)) (fun _ hk => hk.2) (.int .i64 t132)) (fun _ hk => hk.2) (.slice Ao54 t133.length co54)) (fun _ h_ => h_.1))))) (Kd.R_lt (by (with_reducible repeat (first | apply Kd.R_alloc | apply Kd.R_drewN | apply Kd.R_drew)); exact (Kd.R_mono (Kd.R_far (p := ⟨gb137, 1, none⟩) (Kd.R_far (p := ⟨gb137, 0, none⟩) (Kd.R_types HO108.out BK137.out (by decide)) (fun _ hk => hk.2) (.int .i64 t132)) (fun _ hk => hk.2) (.slice Ao54 t133.length co54)) (fun _ h_ => h_.1))))) (Kd.R_lt (by (with_reducible repeat (first | apply Kd.R_alloc | apply Kd.R_drewN | apply Kd.R_drew)); exact (Kd.R_mono (Kd.R_far (p := ⟨gb137, 1, none⟩) (Kd.R_far (p := ⟨gb137, 0, none⟩) (Kd.R_types HO123.out BK137.out (by decide)) (fun _ hk => hk.2) (.int .i64 t132)) (fun _ hk => hk.2) (.slice Ao54 t133.length co54)) (fun _ h_ => h_.1))))) (Kd.R_lt (by (with_reducible repeat (first | apply Kd.R_alloc | apply Kd.R_drewN | apply Kd.R_drew)); exact (Kd.R_mono (Kd.R_far (p := ⟨gb137, 1, none⟩) (Kd.R_far (p := ⟨gb137, 0, none⟩) (Kd.R_types HO129.out BK137.out (by decide)) (fun _ hk => hk.2) (.int .i64 t132)) (fun _ hk => hk.2) (.slice Ao54 t133.length co54)) (fun _ h_ => h_.1))))) (Kd.R_lt (by (with_reducible repeat (first | apply Kd.R_alloc | apply Kd.R_drewN | apply Kd.R_drew)); exact (Kd.R_mono (Kd.R_far (p := ⟨gb137, 1, none⟩) (Kd.R_far (p := ⟨gb137, 0, none⟩) (Kd.R_types HO135.out BK137.out (by decide)) (fun _ hk => hk.2) (.int .i64 t132)) (fun _ hk => hk.2) (.slice Ao54 t133.length co54)) (fun _ h_ => h_.1))))) (below_size (by repeat (first | (with_reducible first | exact HB.out | apply below_alloc | apply pw_below_drewN | apply below_drew1 | refine below_set ?_ GE101.out | refine below_set ?_ GE109.out | refine below_set ?_ GE125.out | refine below_set ?_ GE131.out | refine below_set ?_ GE137.out) | exact HB.out)))); have n6_ := Aside0.mk (blk_below (g := gb101) (o := .cells #[.int .i64 a0_0, .slice A0_1 l0_1.length c0_1] 56 (0, 0)) (by (with_reducible repeat (first | refine blk_drewN ?_ _ | refine blk_drew ?_ | refine blk_alloc ?_ _)); refine blk_far ?_ NB101_137.out _; (with_reducible repeat (first | refine blk_drewN ?_ _ | refine blk_drew ?_ | refine blk_alloc ?_ _)); refine blk_far ?_ NB101_137.out _; (with_reducible repeat (first | refine blk_drewN ?_ _ | refine blk_drew ?_ | refine blk_alloc ?_ _)); exact BK101.out) hb); have n7_ := Aside0.mk (blk_below (g := gb109) (o := .cells #[.int .i64 t102, .slice Ao24 t103.length co24] 58 (0, 0)) (by (with_reducible repeat (first | refine blk_drewN ?_ _ | refine blk_drew ?_ | refine blk_alloc ?_ _)); refine blk_far ?_ NB109_137.out _; (with_reducible repeat (first | refine blk_drewN ?_ _ | refine blk_drew ?_ | refine blk_alloc ?_ _)); refine blk_far ?_ NB109_137.out _; (with_reducible repeat (first | refine blk_drewN ?_ _ | refine blk_drew ?_ | refine blk_alloc ?_ _)); exact BK109.out) hb); have n8_ := Aside0.mk (blk_below (g := gb125) (o := .cells #[.int .i64 t120, .slice Ao38 t121.length co38] 58 (0, 0)) (by (with_reducible repeat (first | refine blk_drewN ?_ _ | refine blk_drew ?_ | refine blk_alloc ?_ _)); refine blk_far ?_ NB125_137.out _; (with_reducible repeat (first | refine blk_drewN ?_ _ | refine blk_drew ?_ | refine blk_alloc ?_ _)); refine blk_far ?_ NB125_137.out _; (with_reducible repeat (first | refine blk_drewN ?_ _ | refine blk_drew ?_ | refine blk_alloc ?_ _)); exact BK125.out) hb); have n9_ := Aside0.mk (blk_below (g := gb131) (o := .cells #[.int .i64 t126, .slice Ao46 t127.length co46] 56 (0, 0)) (by (with_reducible repeat (first | refine blk_drewN ?_ _ | refine blk_drew ?_ | refine blk_alloc ?_ _)); refine blk_far ?_ NB131_137.out _; (with_reducible repeat (first | refine blk_drewN ?_ _ | refine blk_drew ?_ | refine blk_alloc ?_ _)); refine blk_far ?_ NB131_137.out _; (with_reducible repeat (first | refine blk_drewN ?_ _ | refine blk_drew ?_ | refine blk_alloc ?_ _)); exact BK131.out) hb); have n10_ := Aside0.mk (blk_below (g := gb137) (o := .cells #[.int .i64 t132, .slice Ao54 t133.length co54] 58 (0, 0)) (by (with_reducible repeat (first | refine blk_drewN ?_ _ | refine blk_drew ?_ | refine blk_alloc ?_ _)); refine blk_put (cs := #[.int .i64 t132, .slice none 0 0]) ?_ 1 _ rfl; (with_reducible repeat (first | refine blk_drewN ?_ _ | refine blk_drew ?_ | refine blk_alloc ?_ _)); refine blk_put (cs := #[.int .i64 0, .slice none 0 0]) ?_ 0 _ rfl; (with_reducible repeat (first | refine blk_drewN ?_ _ | refine blk_drew ?_ | refine blk_alloc ?_ _)); exact BK137.out) hb); have n11_ := Aside0.mk (below_step (by repeat (first | (with_reducible first | exact HB.out | apply below_alloc | apply pw_below_drewN | apply below_drew1 | refine below_set ?_ GE101.out | refine below_set ?_ GE109.out | refine below_set ?_ GE125.out | refine below_set ?_ GE131.out | refine below_set ?_ GE137.out) | exact HB.out)) hb); clear HO105; clear HO108; clear HO123; clear HO129; clear HO135; clear BK101; clear BK109; clear BK125; clear BK131; clear BK137; clear HB; have HO105 := n0_; have HO108 := n1_; have HO123 := n2_; have HO129 := n3_; have HO135 := n4_; have HO141 := n5_; have BK101 := n6_; have BK109 := n7_; have BK125 := n8_; have BK131 := n9_; have BK137 := n10_; have HB := n11_; clear n0_ n1_ n2_ n3_ n4_ n5_ n6_ n7_ n8_ n9_ n10_ n11_; (try clear hb); (try clear hb2); (try clear hk); (try clear hi); (try clear ho0)) | ((with_reducible refine gate_dst (N := 25) rfl ?_); refine box_event ?hg (N := 25) ?hd (cs := #[.int .i64 0, .slice none 0 0]) (t := 56) ?hr ?_; (case hd => rfl); (case hg => rfl); (case hr => first | (go_simp; done) | (go_simp; rfl)); intro gb143 hg w56 hbox hb; have n0_ := Aside0.mk (Kd.R_below (by (with_reducible repeat (first | apply Kd.R_alloc | apply Kd.R_drewN | apply Kd.R_drew)); exact HO105.out) hb); have n1_ := Aside0.mk (Kd.R_below (by (with_reducible repeat (first | apply Kd.R_alloc | apply Kd.R_drewN | apply Kd.R_drew)); exact HO108.out) hb); have n2_ := Aside0.mk (Kd.R_below (by (with_reducible repeat (first | apply Kd.R_alloc | apply Kd.R_drewN | apply Kd.R_drew)); exact HO123.out) hb); have n3_ := Aside0.mk (Kd.R_below (by (with_reducible repeat (first | apply Kd.R_alloc | apply Kd.R_drewN | apply Kd.R_drew)); exact HO129.out) hb); have n4_ := Aside0.mk (Kd.R_below (by (with_reducible repeat (first | apply Kd.R_alloc | apply Kd.R_drewN | apply Kd.R_drew)); exact HO135.out) hb); have n5_ := Aside0.mk (Kd.R_below (by (with_reducible repeat (first | apply Kd.R_alloc | apply Kd.R_drewN | apply Kd.R_drew)); exact HO141.out) hb); have n6_ := Aside0.mk (blk_below (g := gb101) (o := .cells #[.int .i64 a0_0, .slice A0_1 l0_1.length c0_1] 56 (0, 0)) (by (with_reducible repeat (first | refine blk_drewN ?_ _ | refine blk_drew ?_ | refine blk_alloc ?_ _)); exact BK101.out) hb); have n7_ := Aside0.mk (blk_below (g := gb109) (o := .cells #[.int .i64 t102, .slice Ao24 t103.length co24] 58 (0, 0)) (by (with_reducible repeat (first | refine blk_drewN ?_ _ | refine blk_drew ?_ | refine blk_alloc ?_ _)); exact BK109.out) hb); have n8_ := Aside0.mk (blk_below (g := gb125) (o := .cells #[.int .i64 t120, .slice Ao38 t121.length co38] 58 (0, 0)) (by (with_reducible repeat (first | refine blk_drewN ?_ _ | refine blk_drew ?_ | refine blk_alloc ?_ _)); exact BK125.out) hb); have n9_ := Aside0.mk (blk_below (g := gb131) (o := .cells #[.int .i64 t126, .slice Ao46 t127.length co46] 56 (0, 0)) (by (with_reducible repeat (first | refine blk_drewN ?_ _ | refine blk_drew ?_ | refine blk_alloc ?_ _)); exact BK131.out) hb); have n10_ := Aside0.mk (blk_below (g := gb137) (o := .cells #[.int .i64 t132, .slice Ao54 t133.length co54] 58 (0, 0)) (by (with_reducible repeat (first | refine blk_drewN ?_ _ | refine blk_drew ?_ | refine blk_alloc ?_ _)); exact BK137.out) hb); have n11_ := Aside0.mk (below_step (by repeat (first | (with_reducible first | exact HB.out | apply below_alloc | apply pw_below_drewN | apply below_drew1 | refine below_set ?_ GE101.out | refine below_set ?_ GE109.out | refine below_set ?_ GE125.out | refine below_set ?_ GE131.out | refine below_set ?_ GE137.out) | exact HB.out)) hb); have n12_ := Aside0.mk (hbox); have n13_ := Aside0.mk ((by rw [hg]; exact (below_size (by repeat (first | (with_reducible first | exact HB.out | apply below_alloc | apply pw_below_drewN | apply below_drew1 | refine below_set ?_ GE101.out | refine below_set ?_ GE109.out | refine below_set ?_ GE125.out | refine below_set ?_ GE131.out | refine below_set ?_ GE137.out) | exact HB.out))) : w.heap.size ≤ gb143)); have n14_ := Aside0.mk ((by rw [hg]; exact (below_size (by repeat (first | (with_reducible first | exact HB.out | apply below_alloc | apply pw_below_drewN | apply below_drew1 | refine below_set ?_ GE101.out | refine below_set ?_ GE109.out | refine below_set ?_ GE125.out | refine below_set ?_ GE131.out | refine below_set ?_ GE137.out) | exact HB.out))) : w.heap.size ≤ gb143)); have n15_ := Aside0.mk ((by rw [hg]; exact Nat.ne_of_lt (blk_lt (g := gb101) (o := .cells #[.int .i64 a0_0, .slice A0_1 l0_1.length c0_1] 56 (0, 0)) (by (with_reducible repeat (first | refine blk_drewN ?_ _ | refine blk_drew ?_ | refine blk_alloc ?_ _)); exact BK101.out)) : gb101 ≠ gb143)); have n16_ := Aside0.mk ((by rw [hg]; exact Nat.ne_of_gt (blk_lt (g := gb101) (o := .cells #[.int .i64 a0_0, .slice A0_1 l0_1.length c0_1] 56 (0, 0)) (by (with_reducible repeat (first | refine blk_drewN ?_ _ | refine blk_drew ?_ | refine blk_alloc ?_ _)); exact BK101.out)) : gb143 ≠ gb101)); have n17_ := Aside0.mk ((by rw [hg]; exact Nat.ne_of_lt (blk_lt (g := gb109) (o := .cells #[.int .i64 t102, .slice Ao24 t103.length co24] 58 (0, 0)) (by (with_reducible repeat (first | refine blk_drewN ?_ _ | refine blk_drew ?_ | refine blk_alloc ?_ _)); exact BK109.out)) : gb109 ≠ gb143)); have n18_ := Aside0.mk ((by rw [hg]; exact Nat.ne_of_gt (blk_lt (g := gb109) (o := .cells #[.int .i64 t102, .slice Ao24 t103.length co24] 58 (0, 0)) (by (with_reducible repeat (first | refine blk_drewN ?_ _ | refine blk_drew ?_ | refine blk_alloc ?_ _)); exact BK109.out)) : gb143 ≠ gb109)); have n19_ := Aside0.mk ((by rw [hg]; exact Nat.ne_of_lt (blk_lt (g := gb125) (o := .cells #[.int .i64 t120, .slice Ao38 t121.length co38] 58 (0, 0)) (by (with_reducible repeat (first | refine blk_drewN ?_ _ | refine blk_drew ?_ | refine blk_alloc ?_ _)); exact BK125.out)) : gb125 ≠ gb143)); have n20_ := Aside0.mk ((by rw [hg]; exact Nat.ne_of_gt (blk_lt (g := gb125) (o := .cells #[.int .i64 t120, .slice Ao38 t121.length co38] 58 (0, 0)) (by (with_reducible repeat (first | refine blk_drewN ?_ _ | refine blk_drew ?_ | refine blk_alloc ?_ _)); exact BK125.out)) : gb143 ≠ gb125)); have n21_ := Aside0.mk ((by rw [hg]; exact Nat.ne_of_lt (blk_lt (g := gb131) (o := .cells #[.int .i64 t126, .slice Ao46 t127.length co46] 56 (0, 0)) (by (with_reducible repeat (first | refine blk_drewN ?_ _ | refine blk_drew ?_ | refine blk_alloc ?_ _)); exact BK131.out)) : gb131 ≠ gb143)); have n22_ := Aside0.mk ((by rw [hg]; exact Nat.ne_of_gt (blk_lt (g := gb131) (o := .cells #[.int .i64 t126, .slice Ao46 t127.length co46] 56 (0, 0)) (by (with_reducible repeat (first | refine blk_drewN ?_ _ | refine blk_drew ?_ | refine blk_alloc ?_ _)); exact BK131.out)) : gb143 ≠ gb131)); have n23_ := Aside0.mk ((by rw [hg]; exact Nat.ne_of_lt (blk_lt (g := gb137) (o := .cells #[.int .i64 t132, .slice Ao54 t133.length co54] 58 (0, 0)) (by (with_reducible repeat (first | refine blk_drewN ?_ _ | refine blk_drew ?_ | refine blk_alloc ?_ _)); exact BK137.out)) : gb137 ≠ gb143)); have n24_ := Aside0.mk ((by rw [hg]; exact Nat.ne_of_gt (blk_lt (g := gb137) (o := .cells #[.int .i64 t132, .slice Ao54 t133.length co54] 58 (0, 0)) (by (with_reducible repeat (first | refine blk_drewN ?_ _ | refine blk_drew ?_ | refine blk_alloc ?_ _)); exact BK137.out)) : gb143 ≠ gb137)); clear HO105; clear HO108; clear HO123; clear HO129; clear HO135; clear HO141; clear BK101; clear BK109; clear BK125; clear BK131; clear BK137; clear HB; have HO105 := n0_; have HO108 := n1_; have HO123 := n2_; have HO129 := n3_; have HO135 := n4_; have HO141 := n5_; have BK101 := n6_; have BK109 := n7_; have BK125 := n8_; have BK131 := n9_; have BK137 := n10_; have HB := n11_; have BK143 := n12_; have GW143 := n13_; have GE143 := n14_; have NB101_143 := n15_; have NB143_101 := n16_; have NB109_143 := n17_; have NB143_109 := n18_; have NB125_143 := n19_; have NB143_125 := n20_; have NB131_143 := n21_; have NB143_131 := n22_; have NB137_143 := n23_; have NB143_137 := n24_; clear n0_ n1_ n2_ n3_ n4_ n5_ n6_ n7_ n8_ n9_ n10_ n11_ n12_ n13_ n14_ n15_ n16_ n17_ n18_ n19_ n20_ n21_ n22_ n23_ n24_; clear hb hbox hg; have hnb57 := NB143_101.out; have hnc57 := NB101_143.out; have hnb58 := NB143_109.out; have hnc58 := NB109_143.out; have hnb59 := NB143_125.out; have hnc59 := NB125_143.out; have hnb60 := NB143_131.out; have hnc60 := NB131_143.out; have hnb61 := NB143_137.out; have hnc61 := NB137_143.out; have hcz62_0 : w56.cell? ⟨gb143, 0, none⟩ = some (.int .i64 0) := (blk_cell BK143.out 0).trans rfl; have hcz62_1 : w56.cell? ⟨gb143, 1, none⟩ = some (.slice none 0 0) := (blk_cell BK143.out 1).trans rfl; have hfz62_0 := blk_frozen BK143.out 0; have hfz62_1 := blk_frozen BK143.out 1; obtain ⟨Ao63, co63, eo63⟩ := Kd.R_slice HO141.out; subst eo63; obtain ⟨Ao64, co64, eo64⟩ := Kd.R_slice HO108.out; subst eo64) | ((with_reducible refine gate_callee (f := 77) rfl ?_); refine goesL_ (some 82) rfl rfl Try.func77 (by kernel_rfl) rfl #[.int .i64 a1, .slice Ao64 t106.length co64] rfl (by (try simp only [List.map_toArray, List.map_cons, List.map_nil]); first | done | rfl | (simp only [List.length_drop, List.length_take]; rfl)) ?_; (with_reducible refine (free_Without.calls a1 _ _ t106 t144 t145 t148 _ ?side1 ?side2 A14.out).mono ?_); (case side1 => refine (Kd.R_reads' (e := 40) (base := w.heap.size) (ok := fun k_ => (((((True ∧ some k_ ≠ (.slice Ao24 t103.length co24 : Value).ownBlock) ∧ some k_ ≠ (.slice Ao38 t121.length co38 : Value).ownBlock) ∧ some k_ ≠ (.slice Ao46 t127.length co46 : Value).ownBlock) ∧ some k_ ≠ (.slice Ao54 t133.length co54 : Value).ownBlock) ∧ some k_ ≠ (.slice Ao63 t139.length co63 : Value).ownBlock)) (n := t106.length) (c := co64) ?_).2.2; exact (by (with_reducible repeat (first | apply Kd.R_alloc | apply Kd.R_drewN | apply Kd.R_drew)); exact (Kd.R_mono (Kd.R_far (p := ⟨gb143, 1, none⟩) (Kd.R_far (p := ⟨gb143, 0, none⟩) (Kd.R_types HO108.out BK143.out (by decide)) (fun _ hk => hk.2) (.int .i64 t138)) (fun _ hk => hk.2) (.slice Ao63 t139.length co63)) (fun _ h_ => h_.1)))); (case side2 => exact (Kd.R_reads' HO108.out).2.1); rintro e w65 ⟨v146, rfl, ho0, hb⟩; refine ⟨_, rfl, ?_⟩; have n0_ := Aside0.mk (Kd.R_elder' (by (with_reducible repeat (first | apply Kd.R_alloc | apply Kd.R_drewN | apply Kd.R_drew)); exact (Kd.R_mono (Kd.R_far (p := ⟨gb143, 1, none⟩) (Kd.R_far (p := ⟨gb143, 0, none⟩) (Kd.R_types HO105.out BK143.out (by decide)) (fun _ hk => hk.2) (.int .i64 t138)) (fun _ hk => hk.2) (.slice Ao63 t139.length co63)) (fun _ h_ => h_.1))) (Kd.R_base ho0) hb); have n1_ := Aside0.mk (Kd.R_elder' (by (with_reducible repeat (first | apply Kd.R_alloc | apply Kd.R_drewN | apply Kd.R_drew)); exact (Kd.R_mono (Kd.R_far (p := ⟨gb143, 1, none⟩) (Kd.R_far (p := ⟨gb143, 0, none⟩) (Kd.R_types HO108.out BK143.out (by decide)) (fun _ hk => hk.2) (.int .i64 t138)) (fun _ hk => hk.2) (.slice Ao63 t139.length co63)) (fun _ h_ => h_.1))) (Kd.R_base ho0) hb); have n2_ := Aside0.mk (Kd.R_elder' (by (with_reducible repeat (first | apply Kd.R_alloc | apply Kd.R_drewN | apply Kd.R_drew)); exact (Kd.R_mono (Kd.R_far (p := ⟨gb143, 1, none⟩) (Kd.R_far (p := ⟨gb143, 0, none⟩) (Kd.R_types HO123.out BK143.out (by decide)) (fun _ hk => hk.2) (.int .i64 t138)) (fun _ hk => hk.2) (.slice Ao63 t139.length co63)) (fun _ h_ => h_.1))) (Kd.R_base ho0) hb); have n3_ := Aside0.mk (Kd.R_elder' (by (with_reducible repeat (first | apply Kd.R_alloc | apply Kd.R_drewN | apply Kd.R_drew)); exact (Kd.R_mono (Kd.R_far (p := ⟨gb143, 1, none⟩) (Kd.R_far (p := ⟨gb143, 0, none⟩) (Kd.R_types HO129.out BK143.out (by decide)) (fun _ hk => hk.2) (.int .i64 t138)) (fun _ hk => hk.2) (.slice Ao63 t139.length co63)) (fun _ h_ => h_.1))) (Kd.R_base ho0) hb); have n4_ := Aside0.mk (Kd.R_elder' (by (with_reducible repeat (first | apply Kd.R_alloc | apply Kd.R_drewN | apply Kd.R_drew)); exact (Kd.R_mono (Kd.R_far (p := ⟨gb143, 1, none⟩) (Kd.R_far (p := ⟨gb143, 0, none⟩) (Kd.R_types HO135.out BK143.out (by decide)) (fun _ hk => hk.2) (.int .i64 t138)) (fun _ hk => hk.2) (.slice Ao63 t139.length co63)) (fun _ h_ => h_.1))) (Kd.R_base ho0) hb); have n5_ := Aside0.mk (Kd.R_elder' (by (with_reducible repeat (first | apply Kd.R_alloc | apply Kd.R_drewN | apply Kd.R_drew)); exact (Kd.R_mono (Kd.R_far (p := ⟨gb143, 1, none⟩) (Kd.R_far (p := ⟨gb143, 0, none⟩) (Kd.R_types HO141.out BK143.out (by decide)) (fun _ hk => hk.2) (.int .i64 t138)) (fun _ hk => hk.2) (.slice Ao63 t139.length co63)) (fun _ h_ => h_.1))) (Kd.R_base ho0) hb); have n6_ := Aside0.mk (Kd.R_lower (Kd.R_new' (Kd.R_new' (Kd.R_new' (Kd.R_new' (Kd.R_new' (Kd.R_new' ho0 (Kd.R_lt (by (with_reducible repeat (first | apply Kd.R_alloc | apply Kd.R_drewN | apply Kd.R_drew)); exact (Kd.R_mono (Kd.R_far (p := ⟨gb143, 1, none⟩) (Kd.R_far (p := ⟨gb143, 0, none⟩) (Kd.R_types HO105.out BK143.out (by decide)) (fun _ hk => hk.2) (.int .i64 t138)) (fun _ hk => hk.2) (.slice Ao63 t139.length co63)) (fun _ h_ => h_.1))))) (Kd.R_lt (by (with_reducible repeat (first | apply Kd.R_alloc | apply Kd.R_drewN | apply Kd.R_drew)); exact (Kd.R_mono (Kd.R_far (p := ⟨gb143, 1, none⟩) (Kd.R_far (p := ⟨gb143, 0, none⟩) (Kd.R_types HO108.out BK143.out (by decide)) (fun _ hk => hk.2) (.int .i64 t138)) (fun _ hk => hk.2) (.slice Ao63 t139.length co63)) (fun _ h_ => h_.1))))) (Kd.R_lt (by (with_reducible repeat (first | apply Kd.R_alloc | apply Kd.R_drewN | apply Kd.R_drew)); exact (Kd.R_mono (Kd.R_far (p := ⟨gb143, 1, none⟩) (Kd.R_far (p := ⟨gb143, 0, none⟩) (Kd.R_types HO123.out BK143.out (by decide)) (fun _ hk => hk.2) (.int .i64 t138)) (fun _ hk => hk.2) (.slice Ao63 t139.length co63)) (fun _ h_ => h_.1))))) (Kd.R_lt (by (with_reducible repeat (first | apply Kd.R_alloc | apply Kd.R_drewN | apply Kd.R_drew)); exact (Kd.R_mono (Kd.R_far (p := ⟨gb143, 1, none⟩) (Kd.R_far (p := ⟨gb143, 0, none⟩) (Kd.R_types HO129.out BK143.out (by decide)) (fun _ hk => hk.2) (.int .i64 t138)) (fun _ hk => hk.2) (.slice Ao63 t139.length co63)) (fun _ h_ => h_.1))))) (Kd.R_lt (by (with_reducible repeat (first | apply Kd.R_alloc | apply Kd.R_drewN | apply Kd.R_drew)); exact (Kd.R_mono (Kd.R_far (p := ⟨gb143, 1, none⟩) (Kd.R_far (p := ⟨gb143, 0, none⟩) (Kd.R_types HO135.out BK143.out (by decide)) (fun _ hk => hk.2) (.int .i64 t138)) (fun _ hk => hk.2) (.slice Ao63 t139.length co63)) (fun _ h_ => h_.1))))) (Kd.R_lt (by (with_reducible repeat (first | apply Kd.R_alloc | apply Kd.R_drewN | apply Kd.R_drew)); exact (Kd.R_mono (Kd.R_far (p := ⟨gb143, 1, none⟩) (Kd.R_far (p := ⟨gb143, 0, none⟩) (Kd.R_types HO141.out BK143.out (by decide)) (fun _ hk => hk.2) (.int .i64 t138)) (fun _ hk => hk.2) (.slice Ao63 t139.length co63)) (fun _ h_ => h_.1))))) (below_size (by repeat (first | (with_reducible first | exact HB.out | apply below_alloc | apply pw_below_drewN | apply below_drew1 | refine below_set ?_ GE101.out | refine below_set ?_ GE109.out | refine below_set ?_ GE125.out | refine below_set ?_ GE131.out | refine below_set ?_ GE137.out | refine below_set ?_ GE143.out) | exact HB.out)))); have n7_ := Aside0.mk (blk_below (g := gb101) (o := .cells #[.int .i64 a0_0, .slice A0_1 l0_1.length c0_1] 56 (0, 0)) (by (with_reducible repeat (first | refine blk_drewN ?_ _ | refine blk_drew ?_ | refine blk_alloc ?_ _)); refine blk_far ?_ NB101_143.out _; (with_reducible repeat (first | refine blk_drewN ?_ _ | refine blk_drew ?_ | refine blk_alloc ?_ _)); refine blk_far ?_ NB101_143.out _; (with_reducible repeat (first | refine blk_drewN ?_ _ | refine blk_drew ?_ | refine blk_alloc ?_ _)); exact BK101.out) hb); have n8_ := Aside0.mk (blk_below (g := gb109) (o := .cells #[.int .i64 t102, .slice Ao24 t103.length co24] 58 (0, 0)) (by (with_reducible repeat (first | refine blk_drewN ?_ _ | refine blk_drew ?_ | refine blk_alloc ?_ _)); refine blk_far ?_ NB109_143.out _; (with_reducible repeat (first | refine blk_drewN ?_ _ | refine blk_drew ?_ | refine blk_alloc ?_ _)); refine blk_far ?_ NB109_143.out _; (with_reducible repeat (first | refine blk_drewN ?_ _ | refine blk_drew ?_ | refine blk_alloc ?_ _)); exact BK109.out) hb); have n9_ := Aside0.mk (blk_below (g := gb125) (o := .cells #[.int .i64 t120, .slice Ao38 t121.length co38] 58 (0, 0)) (by (with_reducible repeat (first | refine blk_drewN ?_ _ | refine blk_drew ?_ | refine blk_alloc ?_ _)); refine blk_far ?_ NB125_143.out _; (with_reducible repeat (first | refine blk_drewN ?_ _ | refine blk_drew ?_ | refine blk_alloc ?_ _)); refine blk_far ?_ NB125_143.out _; (with_reducible repeat (first | refine blk_drewN ?_ _ | refine blk_drew ?_ | refine blk_alloc ?_ _)); exact BK125.out) hb); have n10_ := Aside0.mk (blk_below (g := gb131) (o := .cells #[.int .i64 t126, .slice Ao46 t127.length co46] 56 (0, 0)) (by (with_reducible repeat (first | refine blk_drewN ?_ _ | refine blk_drew ?_ | refine blk_alloc ?_ _)); refine blk_far ?_ NB131_143.out _; (with_reducible repeat (first | refine blk_drewN ?_ _ | refine blk_drew ?_ | refine blk_alloc ?_ _)); refine blk_far ?_ NB131_143.out _; (with_reducible repeat (first | refine blk_drewN ?_ _ | refine blk_drew ?_ | refine blk_alloc ?_ _)); exact BK131.out) hb); have n11_ := Aside0.mk (blk_below (g := gb137) (o := .cells #[.int .i64 t132, .slice Ao54 t133.length co54] 58 (0, 0)) (by (with_reducible repeat (first | refine blk_drewN ?_ _ | refine blk_drew ?_ | refine blk_alloc ?_ _)); refine blk_far ?_ NB137_143.out _; (with_reducible repeat (first | refine blk_drewN ?_ _ | refine blk_drew ?_ | refine blk_alloc ?_ _)); refine blk_far ?_ NB137_143.out _; (with_reducible repeat (first | refine blk_drewN ?_ _ | refine blk_drew ?_ | refine blk_alloc ?_ _)); exact BK137.out) hb); have n12_ := Aside0.mk (blk_below (g := gb143) (o := .cells #[.int .i64 t138, .slice Ao63 t139.length co63] 56 (0, 0)) (by (with_reducible repeat (first | refine blk_drewN ?_ _ | refine blk_drew ?_ | refine blk_alloc ?_ _)); refine blk_put (cs := #[.int .i64 t138, .slice none 0 0]) ?_ 1 _ rfl; (with_reducible repeat (first | refine blk_drewN ?_ _ | refine blk_drew ?_ | refine blk_alloc ?_ _)); refine blk_put (cs := #[.int .i64 0, .slice none 0 0]) ?_ 0 _ rfl; (with_reducible repeat (first | refine blk_drewN ?_ _ | refine blk_drew ?_ | refine blk_alloc ?_ _)); exact BK143.out) hb); have n13_ := Aside0.mk (below_step (by repeat (first | (with_reducible first | exact HB.out | apply below_alloc | apply pw_below_drewN | apply below_drew1 | refine below_set ?_ GE101.out | refine below_set ?_ GE109.out | refine below_set ?_ GE125.out | refine below_set ?_ GE131.out | refine below_set ?_ GE137.out | refine below_set ?_ GE143.out) | exact HB.out)) hb); clear HO105; clear HO108; clear HO123; clear HO129; clear HO135; clear HO141; clear BK101; clear BK109; clear BK125; clear BK131; clear BK137; clear BK143; clear HB; have HO105 := n0_; have HO108 := n1_; have HO123 := n2_; have HO129 := n3_; have HO135 := n4_; have HO141 := n5_; have HO147 := n6_; have BK101 := n7_; have BK109 := n8_; have BK125 := n9_; have BK131 := n10_; have BK137 := n11_; have BK143 := n12_; have HB := n13_; clear n0_ n1_ n2_ n3_ n4_ n5_ n6_ n7_ n8_ n9_ n10_ n11_ n12_ n13_; (try clear hb); (try clear hb2); (try clear hk); (try clear hi); (try clear ho0)) | ((with_reducible refine gate_dst (N := 27) rfl ?_); refine box_event ?hg (N := 27) ?hd (cs := #[.int .i64 0, .slice none 0 0]) (t := 58) ?hr ?_; (case hd => rfl); (case hg => rfl); (case hr => first | (go_simp; done) | (go_simp; rfl)); intro gb149 hg w66 hbox hb; have n0_ := Aside0.mk (Kd.R_below (by (with_reducible repeat (first | apply Kd.R_alloc | apply Kd.R_drewN | apply Kd.R_drew)); exact HO105.out) hb); have n1_ := Aside0.mk (Kd.R_below (by (with_reducible repeat (first | apply Kd.R_alloc | apply Kd.R_drewN | apply Kd.R_drew)); exact HO108.out) hb); have n2_ := Aside0.mk (Kd.R_below (by (with_reducible repeat (first | apply Kd.R_alloc | apply Kd.R_drewN | apply Kd.R_drew)); exact HO123.out) hb); have n3_ := Aside0.mk (Kd.R_below (by (with_reducible repeat (first | apply Kd.R_alloc | apply Kd.R_drewN | apply Kd.R_drew)); exact HO129.out) hb); have n4_ := Aside0.mk (Kd.R_below (by (with_reducible repeat (first | apply Kd.R_alloc | apply Kd.R_drewN | apply Kd.R_drew)); exact HO135.out) hb); have n5_ := Aside0.mk (Kd.R_below (by (with_reducible repeat (first | apply Kd.R_alloc | apply Kd.R_drewN | apply Kd.R_drew)); exact HO141.out) hb); have n6_ := Aside0.mk (Kd.R_below (by (with_reducible repeat (first | apply Kd.R_alloc | apply Kd.R_drewN | apply Kd.R_drew)); exact HO147.out) hb); have n7_ := Aside0.mk (blk_below (g := gb101) (o := .cells #[.int .i64 a0_0, .slice A0_1 l0_1.length c0_1] 56 (0, 0)) (by (with_reducible repeat (first | refine blk_drewN ?_ _ | refine blk_drew ?_ | refine blk_alloc ?_ _)); exact BK101.out) hb); have n8_ := Aside0.mk (blk_below (g := gb109) (o := .cells #[.int .i64 t102, .slice Ao24 t103.length co24] 58 (0, 0)) (by (with_reducible repeat (first | refine blk_drewN ?_ _ | refine blk_drew ?_ | refine blk_alloc ?_ _)); exact BK109.out) hb); have n9_ := Aside0.mk (blk_below (g := gb125) (o := .cells #[.int .i64 t120, .slice Ao38 t121.length co38] 58 (0, 0)) (by (with_reducible repeat (first | refine blk_drewN ?_ _ | refine blk_drew ?_ | refine blk_alloc ?_ _)); exact BK125.out) hb); have n10_ := Aside0.mk (blk_below (g := gb131) (o := .cells #[.int .i64 t126, .slice Ao46 t127.length co46] 56 (0, 0)) (by (with_reducible repeat (first | refine blk_drewN ?_ _ | refine blk_drew ?_ | refine blk_alloc ?_ _)); exact BK131.out) hb); have n11_ := Aside0.mk (blk_below (g := gb137) (o := .cells #[.int .i64 t132, .slice Ao54 t133.length co54] 58 (0, 0)) (by (with_reducible repeat (first | refine blk_drewN ?_ _ | refine blk_drew ?_ | refine blk_alloc ?_ _)); exact BK137.out) hb); have n12_ := Aside0.mk (blk_below (g := gb143) (o := .cells #[.int .i64 t138, .slice Ao63 t139.length co63] 56 (0, 0)) (by (with_reducible repeat (first | refine blk_drewN ?_ _ | refine blk_drew ?_ | refine blk_alloc ?_ _)); exact BK143.out) hb); have n13_ := Aside0.mk (below_step (by repeat (first | (with_reducible first | exact HB.out | apply below_alloc | apply pw_below_drewN | apply below_drew1 | refine below_set ?_ GE101.out | refine below_set ?_ GE109.out | refine below_set ?_ GE125.out | refine below_set ?_ GE131.out | refine below_set ?_ GE137.out | refine below_set ?_ GE143.out) | exact HB.out)) hb); have n14_ := Aside0.mk (hbox); have n15_ := Aside0.mk ((by rw [hg]; exact (below_size (by repeat (first | (with_reducible first | exact HB.out | apply below_alloc | apply pw_below_drewN | apply below_drew1 | refine below_set ?_ GE101.out | refine below_set ?_ GE109.out | refine below_set ?_ GE125.out | refine below_set ?_ GE131.out | refine below_set ?_ GE137.out | refine below_set ?_ GE143.out) | exact HB.out))) : w.heap.size ≤ gb149)); have n16_ := Aside0.mk ((by rw [hg]; exact (below_size (by repeat (first | (with_reducible first | exact HB.out | apply below_alloc | apply pw_below_drewN | apply below_drew1 | refine below_set ?_ GE101.out | refine below_set ?_ GE109.out | refine below_set ?_ GE125.out | refine below_set ?_ GE131.out | refine below_set ?_ GE137.out | refine below_set ?_ GE143.out) | exact HB.out))) : w.heap.size ≤ gb149)); have n17_ := Aside0.mk ((by rw [hg]; exact Nat.ne_of_lt (blk_lt (g := gb101) (o := .cells #[.int .i64 a0_0, .slice A0_1 l0_1.length c0_1] 56 (0, 0)) (by (with_reducible repeat (first | refine blk_drewN ?_ _ | refine blk_drew ?_ | refine blk_alloc ?_ _)); exact BK101.out)) : gb101 ≠ gb149)); have n18_ := Aside0.mk ((by rw [hg]; exact Nat.ne_of_gt (blk_lt (g := gb101) (o := .cells #[.int .i64 a0_0, .slice A0_1 l0_1.length c0_1] 56 (0, 0)) (by (with_reducible repeat (first | refine blk_drewN ?_ _ | refine blk_drew ?_ | refine blk_alloc ?_ _)); exact BK101.out)) : gb149 ≠ gb101)); have n19_ := Aside0.mk ((by rw [hg]; exact Nat.ne_of_lt (blk_lt (g := gb109) (o := .cells #[.int .i64 t102, .slice Ao24 t103.length co24] 58 (0, 0)) (by (with_reducible repeat (first | refine blk_drewN ?_ _ | refine blk_drew ?_ | refine blk_alloc ?_ _)); exact BK109.out)) : gb109 ≠ gb149)); have n20_ := Aside0.mk ((by rw [hg]; exact Nat.ne_of_gt (blk_lt (g := gb109) (o := .cells #[.int .i64 t102, .slice Ao24 t103.length co24] 58 (0, 0)) (by (with_reducible repeat (first | refine blk_drewN ?_ _ | refine blk_drew ?_ | refine blk_alloc ?_ _)); exact BK109.out)) : gb149 ≠ gb109)); have n21_ := Aside0.mk ((by rw [hg]; exact Nat.ne_of_lt (blk_lt (g := gb125) (o := .cells #[.int .i64 t120, .slice Ao38 t121.length co38] 58 (0, 0)) (by (with_reducible repeat (first | refine blk_drewN ?_ _ | refine blk_drew ?_ | refine blk_alloc ?_ _)); exact BK125.out)) : gb125 ≠ gb149)); have n22_ := Aside0.mk ((by rw [hg]; exact Nat.ne_of_gt (blk_lt (g := gb125) (o := .cells #[.int .i64 t120, .slice Ao38 t121.length co38] 58 (0, 0)) (by (with_reducible repeat (first | refine blk_drewN ?_ _ | refine blk_drew ?_ | refine blk_alloc ?_ _)); exact BK125.out)) : gb149 ≠ gb125)); have n23_ := Aside0.mk ((by rw [hg]; exact Nat.ne_of_lt (blk_lt (g := gb131) (o := .cells #[.int .i64 t126, .slice Ao46 t127.length co46] 56 (0, 0)) (by (with_reducible repeat (first | refine blk_drewN ?_ _ | refine blk_drew ?_ | refine blk_alloc ?_ _)); exact BK131.out)) : gb131 ≠ gb149)); have n24_ := Aside0.mk ((by rw [hg]; exact Nat.ne_of_gt (blk_lt (g := gb131) (o := .cells #[.int .i64 t126, .slice Ao46 t127.length co46] 56 (0, 0)) (by (with_reducible repeat (first | refine blk_drewN ?_ _ | refine blk_drew ?_ | refine blk_alloc ?_ _)); exact BK131.out)) : gb149 ≠ gb131)); have n25_ := Aside0.mk ((by rw [hg]; exact Nat.ne_of_lt (blk_lt (g := gb137) (o := .cells #[.int .i64 t132, .slice Ao54 t133.length co54] 58 (0, 0)) (by (with_reducible repeat (first | refine blk_drewN ?_ _ | refine blk_drew ?_ | refine blk_alloc ?_ _)); exact BK137.out)) : gb137 ≠ gb149)); have n26_ := Aside0.mk ((by rw [hg]; exact Nat.ne_of_gt (blk_lt (g := gb137) (o := .cells #[.int .i64 t132, .slice Ao54 t133.length co54] 58 (0, 0)) (by (with_reducible repeat (first | refine blk_drewN ?_ _ | refine blk_drew ?_ | refine blk_alloc ?_ _)); exact BK137.out)) : gb149 ≠ gb137)); have n27_ := Aside0.mk ((by rw [hg]; exact Nat.ne_of_lt (blk_lt (g := gb143) (o := .cells #[.int .i64 t138, .slice Ao63 t139.length co63] 56 (0, 0)) (by (with_reducible repeat (first | refine blk_drewN ?_ _ | refine blk_drew ?_ | refine blk_alloc ?_ _)); exact BK143.out)) : gb143 ≠ gb149)); have n28_ := Aside0.mk ((by rw [hg]; exact Nat.ne_of_gt (blk_lt (g := gb143) (o := .cells #[.int .i64 t138, .slice Ao63 t139.length co63] 56 (0, 0)) (by (with_reducible repeat (first | refine blk_drewN ?_ _ | refine blk_drew ?_ | refine blk_alloc ?_ _)); exact BK143.out)) : gb149 ≠ gb143)); clear HO105; clear HO108; clear HO123; clear HO129; clear HO135; clear HO141; clear HO147; clear BK101; clear BK109; clear BK125; clear BK131; clear BK137; clear BK143; clear HB; have HO105 := n0_; have HO108 := n1_; have HO123 := n2_; have HO129 := n3_; have HO135 := n4_; have HO141 := n5_; have HO147 := n6_; have BK101 := n7_; have BK109 := n8_; have BK125 := n9_; have BK131 := n10_; have BK137 := n11_; have BK143 := n12_; have HB := n13_; have BK149 := n14_; have GW149 := n15_; have GE149 := n16_; have NB101_149 := n17_; have NB149_101 := n18_; have NB109_149 := n19_; have NB149_109 := n20_; have NB125_149 := n21_; have NB149_125 := n22_; have NB131_149 := n23_; have NB149_131 := n24_; have NB137_149 := n25_; have NB149_137 := n26_; have NB143_149 := n27_; have NB149_143 := n28_; clear n0_ n1_ n2_ n3_ n4_ n5_ n6_ n7_ n8_ n9_ n10_ n11_ n12_ n13_ n14_ n15_ n16_ n17_ n18_ n19_ n20_ n21_ n22_ n23_ n24_ n25_ n26_ n27_ n28_; clear hb hbox hg; have hnb67 := NB149_101.out; have hnc67 := NB101_149.out; have hnb68 := NB149_109.out; have hnc68 := NB109_149.out; have hnb69 := NB149_125.out; have hnc69 := NB125_149.out; have hnb70 := NB149_131.out; have hnc70 := NB131_149.out; have hnb71 := NB149_137.out; have hnc71 := NB137_149.out; have hnb72 := NB149_143.out; have hnc72 := NB143_149.out; have hcz73_0 : w66.cell? ⟨gb149, 0, none⟩ = some (.int .i64 0) := (blk_cell BK149.out 0).trans rfl; have hcz73_1 : w66.cell? ⟨gb149, 1, none⟩ = some (.slice none 0 0) := (blk_cell BK149.out 1).trans rfl; have hfz73_0 := blk_frozen BK149.out 0; have hfz73_1 := blk_frozen BK149.out 1; obtain ⟨Ao74, co74, eo74⟩ := Kd.R_slice HO147.out; subst eo74) | ((with_reducible refine gate_callee (f := 85) rfl ?_); refine goesL_ (some 88) rfl rfl Try.func85 (by kernel_rfl) rfl #[.int .i64 a1, .slice A2 l2.length c2] rfl (by (try simp only [List.map_toArray, List.map_cons, List.map_nil]); first | done | rfl | (simp only [List.length_drop, List.length_take]; rfl)) ?_; (with_reducible refine (flagstoneref06_Without.calls k a1 _ _ l2 t150 t151 t154 _ ?side1 ?side2 A15.out).mono ?_); (case side1 => exact Kd.C_below HR2.out (by repeat (first | (with_reducible first | exact HB.out | apply below_alloc | apply pw_below_drewN | apply below_drew1 | refine below_set ?_ GE101.out | refine below_set ?_ GE109.out | refine below_set ?_ GE125.out | refine below_set ?_ GE131.out | refine below_set ?_ GE137.out | refine below_set ?_ GE143.out | refine below_set ?_ GE149.out) | exact HB.out))); (case side2 => exact HC2.out); rintro e w75 ⟨v152, rfl, ho0, hb⟩; refine ⟨_, rfl, ?_⟩; have n0_ := Aside0.mk (Kd.R_elder' (by (with_reducible repeat (first | apply Kd.R_alloc | apply Kd.R_drewN | apply Kd.R_drew)); exact (Kd.R_mono (Kd.R_far (p := ⟨gb149, 1, none⟩) (Kd.R_far (p := ⟨gb149, 0, none⟩) (Kd.R_types HO105.out BK149.out (by decide)) (fun _ hk => hk.2) (.int .i64 t144)) (fun _ hk => hk.2) (.slice Ao74 t145.length co74)) (fun _ h_ => h_.1))) (Kd.R_base ho0) hb); have n1_ := Aside0.mk (Kd.R_elder' (by (with_reducible repeat (first | apply Kd.R_alloc | apply Kd.R_drewN | apply Kd.R_drew)); exact (Kd.R_mono (Kd.R_far (p := ⟨gb149, 1, none⟩) (Kd.R_far (p := ⟨gb149, 0, none⟩) (Kd.R_types HO108.out BK149.out (by decide)) (fun _ hk => hk.2) (.int .i64 t144)) (fun _ hk => hk.2) (.slice Ao74 t145.length co74)) (fun _ h_ => h_.1))) (Kd.R_base ho0) hb); have n2_ := Aside0.mk (Kd.R_elder' (by (with_reducible repeat (first | apply Kd.R_alloc | apply Kd.R_drewN | apply Kd.R_drew)); exact (Kd.R_mono (Kd.R_far (p := ⟨gb149, 1, none⟩) (Kd.R_far (p := ⟨gb149, 0, none⟩) (Kd.R_types HO123.out BK149.out (by decide)) (fun _ hk => hk.2) (.int .i64 t144)) (fun _ hk => hk.2) (.slice Ao74 t145.length co74)) (fun _ h_ => h_.1))) (Kd.R_base ho0) hb); have n3_ := Aside0.mk (Kd.R_elder' (by (with_reducible repeat (first | apply Kd.R_alloc | apply Kd.R_drewN | apply Kd.R_drew)); exact (Kd.R_mono (Kd.R_far (p := ⟨gb149, 1, none⟩) (Kd.R_far (p := ⟨gb149, 0, none⟩) (Kd.R_types HO129.out BK149.out (by decide)) (fun _ hk => hk.2) (.int .i64 t144)) (fun _ hk => hk.2) (.slice Ao74 t145.length co74)) (fun _ h_ => h_.1))) (Kd.R_base ho0) hb); have n4_ := Aside0.mk (Kd.R_elder' (by (with_reducible repeat (first | apply Kd.R_alloc | apply Kd.R_drewN | apply Kd.R_drew)); exact (Kd.R_mono (Kd.R_far (p := ⟨gb149, 1, none⟩) (Kd.R_far (p := ⟨gb149, 0, none⟩) (Kd.R_types HO135.out BK149.out (by decide)) (fun _ hk => hk.2) (.int .i64 t144)) (fun _ hk => hk.2) (.slice Ao74 t145.length co74)) (fun _ h_ => h_.1))) (Kd.R_base ho0) hb); have n5_ := Aside0.mk (Kd.R_elder' (by (with_reducible repeat (first | apply Kd.R_alloc | apply Kd.R_drewN | apply Kd.R_drew)); exact (Kd.R_mono (Kd.R_far (p := ⟨gb149, 1, none⟩) (Kd.R_far (p := ⟨gb149, 0, none⟩) (Kd.R_types HO141.out BK149.out (by decide)) (fun _ hk => hk.2) (.int .i64 t144)) (fun _ hk => hk.2) (.slice Ao74 t145.length co74)) (fun _ h_ => h_.1))) (Kd.R_base ho0) hb); have n6_ := Aside0.mk (Kd.R_elder' (by (with_reducible repeat (first | apply Kd.R_alloc | apply Kd.R_drewN | apply Kd.R_drew)); exact (Kd.R_mono (Kd.R_far (p := ⟨gb149, 1, none⟩) (Kd.R_far (p := ⟨gb149, 0, none⟩) (Kd.R_types HO147.out BK149.out (by decide)) (fun _ hk => hk.2) (.int .i64 t144)) (fun _ hk => hk.2) (.slice Ao74 t145.length co74)) (fun _ h_ => h_.1))) (Kd.R_base ho0) hb); have n7_ := Aside0.mk (Kd.R_lower (Kd.R_new' (Kd.R_new' (Kd.R_new' (Kd.R_new' (Kd.R_new' (Kd.R_new' (Kd.R_new' ho0 (Kd.R_lt (by (with_reducible repeat (first | apply Kd.R_alloc | apply Kd.R_drewN | apply Kd.R_drew)); exact (Kd.R_mono (Kd.R_far (p := ⟨gb149, 1, none⟩) (Kd.R_far (p := ⟨gb149, 0, none⟩) (Kd.R_types HO105.out BK149.out (by decide)) (fun _ hk => hk.2) (.int .i64 t144)) (fun _ hk => hk.2) (.slice Ao74 t145.length co74)) (fun _ h_ => h_.1))))) (Kd.R_lt (by (with_reducible repeat (first | apply Kd.R_alloc | apply Kd.R_drewN | apply Kd.R_drew)); exact (Kd.R_mono (Kd.R_far (p := ⟨gb149, 1, none⟩) (Kd.R_far (p := ⟨gb149, 0, none⟩) (Kd.R_types HO108.out BK149.out (by decide)) (fun _ hk => hk.2) (.int .i64 t144)) (fun _ hk => hk.2) (.slice Ao74 t145.length co74)) (fun _ h_ => h_.1))))) (Kd.R_lt (by (with_reducible repeat (first | apply Kd.R_alloc | apply Kd.R_drewN | apply Kd.R_drew)); exact (Kd.R_mono (Kd.R_far (p := ⟨gb149, 1, none⟩) (Kd.R_far (p := ⟨gb149, 0, none⟩) (Kd.R_types HO123.out BK149.out (by decide)) (fun _ hk => hk.2) (.int .i64 t144)) (fun _ hk => hk.2) (.slice Ao74 t145.length co74)) (fun _ h_ => h_.1))))) (Kd.R_lt (by (with_reducible repeat (first | apply Kd.R_alloc | apply Kd.R_drewN | apply Kd.R_drew)); exact (Kd.R_mono (Kd.R_far (p := ⟨gb149, 1, none⟩) (Kd.R_far (p := ⟨gb149, 0, none⟩) (Kd.R_types HO129.out BK149.out (by decide)) (fun _ hk => hk.2) (.int .i64 t144)) (fun _ hk => hk.2) (.slice Ao74 t145.length co74)) (fun _ h_ => h_.1))))) (Kd.R_lt (by (with_reducible repeat (first | apply Kd.R_alloc | apply Kd.R_drewN | apply Kd.R_drew)); exact (Kd.R_mono (Kd.R_far (p := ⟨gb149, 1, none⟩) (Kd.R_far (p := ⟨gb149, 0, none⟩) (Kd.R_types HO135.out BK149.out (by decide)) (fun _ hk => hk.2) (.int .i64 t144)) (fun _ hk => hk.2) (.slice Ao74 t145.length co74)) (fun _ h_ => h_.1))))) (Kd.R_lt (by (with_reducible repeat (first | apply Kd.R_alloc | apply Kd.R_drewN | apply Kd.R_drew)); exact (Kd.R_mono (Kd.R_far (p := ⟨gb149, 1, none⟩) (Kd.R_far (p := ⟨gb149, 0, none⟩) (Kd.R_types HO141.out BK149.out (by decide)) (fun _ hk => hk.2) (.int .i64 t144)) (fun _ hk => hk.2) (.slice Ao74 t145.length co74)) (fun _ h_ => h_.1))))) (Kd.R_lt (by (with_reducible repeat (first | apply Kd.R_alloc | apply Kd.R_drewN | apply Kd.R_drew)); exact (Kd.R_mono (Kd.R_far (p := ⟨gb149, 1, none⟩) (Kd.R_far (p := ⟨gb149, 0, none⟩) (Kd.R_types HO147.out BK149.out (by decide)) (fun _ hk => hk.2) (.int .i64 t144)) (fun _ hk => hk.2) (.slice Ao74 t145.length co74)) (fun _ h_ => h_.1))))) (below_size (by repeat (first | (with_reducible first | exact HB.out | apply below_alloc | apply pw_below_drewN | apply below_drew1 | refine below_set ?_ GE101.out | refine below_set ?_ GE109.out | refine below_set ?_ GE125.out | refine below_set ?_ GE131.out | refine below_set ?_ GE137.out | refine below_set ?_ GE143.out | refine below_set ?_ GE149.out) | exact HB.out)))); have n8_ := Aside0.mk (blk_below (g := gb101) (o := .cells #[.int .i64 a0_0, .slice A0_1 l0_1.length c0_1] 56 (0, 0)) (by (with_reducible repeat (first | refine blk_drewN ?_ _ | refine blk_drew ?_ | refine blk_alloc ?_ _)); refine blk_far ?_ NB101_149.out _; (with_reducible repeat (first | refine blk_drewN ?_ _ | refine blk_drew ?_ | refine blk_alloc ?_ _)); refine blk_far ?_ NB101_149.out _; (with_reducible repeat (first | refine blk_drewN ?_ _ | refine blk_drew ?_ | refine blk_alloc ?_ _)); exact BK101.out) hb); have n9_ := Aside0.mk (blk_below (g := gb109) (o := .cells #[.int .i64 t102, .slice Ao24 t103.length co24] 58 (0, 0)) (by (with_reducible repeat (first | refine blk_drewN ?_ _ | refine blk_drew ?_ | refine blk_alloc ?_ _)); refine blk_far ?_ NB109_149.out _; (with_reducible repeat (first | refine blk_drewN ?_ _ | refine blk_drew ?_ | refine blk_alloc ?_ _)); refine blk_far ?_ NB109_149.out _; (with_reducible repeat (first | refine blk_drewN ?_ _ | refine blk_drew ?_ | refine blk_alloc ?_ _)); exact BK109.out) hb); have n10_ := Aside0.mk (blk_below (g := gb125) (o := .cells #[.int .i64 t120, .slice Ao38 t121.length co38] 58 (0, 0)) (by (with_reducible repeat (first | refine blk_drewN ?_ _ | refine blk_drew ?_ | refine blk_alloc ?_ _)); refine blk_far ?_ NB125_149.out _; (with_reducible repeat (first | refine blk_drewN ?_ _ | refine blk_drew ?_ | refine blk_alloc ?_ _)); refine blk_far ?_ NB125_149.out _; (with_reducible repeat (first | refine blk_drewN ?_ _ | refine blk_drew ?_ | refine blk_alloc ?_ _)); exact BK125.out) hb); have n11_ := Aside0.mk (blk_below (g := gb131) (o := .cells #[.int .i64 t126, .slice Ao46 t127.length co46] 56 (0, 0)) (by (with_reducible repeat (first | refine blk_drewN ?_ _ | refine blk_drew ?_ | refine blk_alloc ?_ _)); refine blk_far ?_ NB131_149.out _; (with_reducible repeat (first | refine blk_drewN ?_ _ | refine blk_drew ?_ | refine blk_alloc ?_ _)); refine blk_far ?_ NB131_149.out _; (with_reducible repeat (first | refine blk_drewN ?_ _ | refine blk_drew ?_ | refine blk_alloc ?_ _)); exact BK131.out) hb); have n12_ := Aside0.mk (blk_below (g := gb137) (o := .cells #[.int .i64 t132, .slice Ao54 t133.length co54] 58 (0, 0)) (by (with_reducible repeat (first | refine blk_drewN ?_ _ | refine blk_drew ?_ | refine blk_alloc ?_ _)); refine blk_far ?_ NB137_149.out _; (with_reducible repeat (first | refine blk_drewN ?_ _ | refine blk_drew ?_ | refine blk_alloc ?_ _)); refine blk_far ?_ NB137_149.out _; (with_reducible repeat (first | refine blk_drewN ?_ _ | refine blk_drew ?_ | refine blk_alloc ?_ _)); exact BK137.out) hb); have n13_ := Aside0.mk (blk_below (g := gb143) (o := .cells #[.int .i64 t138, .slice Ao63 t139.length co63] 56 (0, 0)) (by (with_reducible repeat (first | refine blk_drewN ?_ _ | refine blk_drew ?_ | refine blk_alloc ?_ _)); refine blk_far ?_ NB143_149.out _; (with_reducible repeat (first | refine blk_drewN ?_ _ | refine blk_drew ?_ | refine blk_alloc ?_ _)); refine blk_far ?_ NB143_149.out _; (with_reducible repeat (first | refine blk_drewN ?_ _ | refine blk_drew ?_ | refine blk_alloc ?_ _)); exact BK143.out) hb); have n14_ := Aside0.mk (blk_below (g := gb149) (o := .cells #[.int .i64 t144, .slice Ao74 t145.length co74] 58 (0, 0)) (by (with_reducible repeat (first | refine blk_drewN ?_ _ | refine blk_drew ?_ | refine blk_alloc ?_ _)); refine blk_put (cs := #[.int .i64 t144, .slice none 0 0]) ?_ 1 _ rfl; (with_reducible repeat (first | refine blk_drewN ?_ _ | refine blk_drew ?_ | refine blk_alloc ?_ _)); refine blk_put (cs := #[.int .i64 0, .slice none 0 0]) ?_ 0 _ rfl; (with_reducible repeat (first | refine blk_drewN ?_ _ | refine blk_drew ?_ | refine blk_alloc ?_ _)); exact BK149.out) hb); have n15_ := Aside0.mk (below_step (by repeat (first | (with_reducible first | exact HB.out | apply below_alloc | apply pw_below_drewN | apply below_drew1 | refine below_set ?_ GE101.out | refine below_set ?_ GE109.out | refine below_set ?_ GE125.out | refine below_set ?_ GE131.out | refine below_set ?_ GE137.out | refine below_set ?_ GE143.out | refine below_set ?_ GE149.out) | exact HB.out)) hb); clear HO105; clear HO108; clear HO123; clear HO129; clear HO135; clear HO141; clear HO147; clear BK101; clear BK109; clear BK125; clear BK131; clear BK137; clear BK143; clear BK149; clear HB; have HO105 := n0_; have HO108 := n1_; have HO123 := n2_; have HO129 := n3_; have HO135 := n4_; have HO141 := n5_; have HO147 := n6_; have HO153 := n7_; have BK101 := n8_; have BK109 := n9_; have BK125 := n10_; have BK131 := n11_; have BK137 := n12_; have BK143 := n13_; have BK149 := n14_; have HB := n15_; clear n0_ n1_ n2_ n3_ n4_ n5_ n6_ n7_ n8_ n9_ n10_ n11_ n12_ n13_ n14_ n15_; (try clear hb); (try clear hb2); (try clear hk); (try clear hi); (try clear ho0)) | ((with_reducible refine gate_dst (N := 29) rfl ?_); refine box_event ?hg (N := 29) ?hd (cs := #[.int .i64 0, .slice none 0 0]) (t := 56) ?hr ?_; (case hd => rfl); (case hg => rfl); (case hr => first | (go_simp; done) | (go_simp; rfl)); intro gb155 hg w76 hbox hb; have n0_ := Aside0.mk (Kd.R_below (by (with_reducible repeat (first | apply Kd.R_alloc | apply Kd.R_drewN | apply Kd.R_drew)); exact HO105.out) hb); have n1_ := Aside0.mk (Kd.R_below (by (with_reducible repeat (first | apply Kd.R_alloc | apply Kd.R_drewN | apply Kd.R_drew)); exact HO108.out) hb); have n2_ := Aside0.mk (Kd.R_below (by (with_reducible repeat (first | apply Kd.R_alloc | apply Kd.R_drewN | apply Kd.R_drew)); exact HO123.out) hb); have n3_ := Aside0.mk (Kd.R_below (by (with_reducible repeat (first | apply Kd.R_alloc | apply Kd.R_drewN | apply Kd.R_drew)); exact HO129.out) hb); have n4_ := Aside0.mk (Kd.R_below (by (with_reducible repeat (first | apply Kd.R_alloc | apply Kd.R_drewN | apply Kd.R_drew)); exact HO135.out) hb); have n5_ := Aside0.mk (Kd.R_below (by (with_reducible repeat (first | apply Kd.R_alloc | apply Kd.R_drewN | apply Kd.R_drew)); exact HO141.out) hb); have n6_ := Aside0.mk (Kd.R_below (by (with_reducible repeat (first | apply Kd.R_alloc | apply Kd.R_drewN | apply Kd.R_drew)); exact HO147.out) hb); have n7_ := Aside0.mk (Kd.R_below (by (with_reducible repeat (first | apply Kd.R_alloc | apply Kd.R_drewN | apply Kd.R_drew)); exact HO153.out) hb); have n8_ := Aside0.mk (blk_below (g := gb101) (o := .cells #[.int .i64 a0_0, .slice A0_1 l0_1.length c0_1] 56 (0, 0)) (by (with_reducible repeat (first | refine blk_drewN ?_ _ | refine blk_drew ?_ | refine blk_alloc ?_ _)); exact BK101.out) hb); have n9_ := Aside0.mk (blk_below (g := gb109) (o := .cells #[.int .i64 t102, .slice Ao24 t103.length co24] 58 (0, 0)) (by (with_reducible repeat (first | refine blk_drewN ?_ _ | refine blk_drew ?_ | refine blk_alloc ?_ _)); exact BK109.out) hb); have n10_ := Aside0.mk (blk_below (g := gb125) (o := .cells #[.int .i64 t120, .slice Ao38 t121.length co38] 58 (0, 0)) (by (with_reducible repeat (first | refine blk_drewN ?_ _ | refine blk_drew ?_ | refine blk_alloc ?_ _)); exact BK125.out) hb); have n11_ := Aside0.mk (blk_below (g := gb131) (o := .cells #[.int .i64 t126, .slice Ao46 t127.length co46] 56 (0, 0)) (by (with_reducible repeat (first | refine blk_drewN ?_ _ | refine blk_drew ?_ | refine blk_alloc ?_ _)); exact BK131.out) hb); have n12_ := Aside0.mk (blk_below (g := gb137) (o := .cells #[.int .i64 t132, .slice Ao54 t133.length co54] 58 (0, 0)) (by (with_reducible repeat (first | refine blk_drewN ?_ _ | refine blk_drew ?_ | refine blk_alloc ?_ _)); exact BK137.out) hb); have n13_ := Aside0.mk (blk_below (g := gb143) (o := .cells #[.int .i64 t138, .slice Ao63 t139.length co63] 56 (0, 0)) (by (with_reducible repeat (first | refine blk_drewN ?_ _ | refine blk_drew ?_ | refine blk_alloc ?_ _)); exact BK143.out) hb); have n14_ := Aside0.mk (blk_below (g := gb149) (o := .cells #[.int .i64 t144, .slice Ao74 t145.length co74] 58 (0, 0)) (by (with_reducible repeat (first | refine blk_drewN ?_ _ | refine blk_drew ?_ | refine blk_alloc ?_ _)); exact BK149.out) hb); have n15_ := Aside0.mk (below_step (by repeat (first | (with_reducible first | exact HB.out | apply below_alloc | apply pw_below_drewN | apply below_drew1 | refine below_set ?_ GE101.out | refine below_set ?_ GE109.out | refine below_set ?_ GE125.out | refine below_set ?_ GE131.out | refine below_set ?_ GE137.out | refine below_set ?_ GE143.out | refine below_set ?_ GE149.out) | exact HB.out)) hb); have n16_ := Aside0.mk (hbox); have n17_ := Aside0.mk ((by rw [hg]; exact (below_size (by repeat (first | (with_reducible first | exact HB.out | apply below_alloc | apply pw_below_drewN | apply below_drew1 | refine below_set ?_ GE101.out | refine below_set ?_ GE109.out | refine below_set ?_ GE125.out | refine below_set ?_ GE131.out | refine below_set ?_ GE137.out | refine below_set ?_ GE143.out | refine below_set ?_ GE149.out) | exact HB.out))) : w.heap.size ≤ gb155)); have n18_ := Aside0.mk ((by rw [hg]; exact (below_size (by repeat (first | (with_reducible first | exact HB.out | apply below_alloc | apply pw_below_drewN | apply below_drew1 | refine below_set ?_ GE101.out | refine below_set ?_ GE109.out | refine below_set ?_ GE125.out | refine below_set ?_ GE131.out | refine below_set ?_ GE137.out | refine below_set ?_ GE143.out | refine below_set ?_ GE149.out) | exact HB.out))) : w.heap.size ≤ gb155)); have n19_ := Aside0.mk ((by rw [hg]; exact Nat.ne_of_lt (blk_lt (g := gb101) (o := .cells #[.int .i64 a0_0, .slice A0_1 l0_1.length c0_1] 56 (0, 0)) (by (with_reducible repeat (first | refine blk_drewN ?_ _ | refine blk_drew ?_ | refine blk_alloc ?_ _)); exact BK101.out)) : gb101 ≠ gb155)); have n20_ := Aside0.mk ((by rw [hg]; exact Nat.ne_of_gt (blk_lt (g := gb101) (o := .cells #[.int .i64 a0_0, .slice A0_1 l0_1.length c0_1] 56 (0, 0)) (by (with_reducible repeat (first | refine blk_drewN ?_ _ | refine blk_drew ?_ | refine blk_alloc ?_ _)); exact BK101.out)) : gb155 ≠ gb101)); have n21_ := Aside0.mk ((by rw [hg]; exact Nat.ne_of_lt (blk_lt (g := gb109) (o := .cells #[.int .i64 t102, .slice Ao24 t103.length co24] 58 (0, 0)) (by (with_reducible repeat (first | refine blk_drewN ?_ _ | refine blk_drew ?_ | refine blk_alloc ?_ _)); exact BK109.out)) : gb109 ≠ gb155)); have n22_ := Aside0.mk ((by rw [hg]; exact Nat.ne_of_gt (blk_lt (g := gb109) (o := .cells #[.int .i64 t102, .slice Ao24 t103.length co24] 58 (0, 0)) (by (with_reducible repeat (first | refine blk_drewN ?_ _ | refine blk_drew ?_ | refine blk_alloc ?_ _)); exact BK109.out)) : gb155 ≠ gb109)); have n23_ := Aside0.mk ((by rw [hg]; exact Nat.ne_of_lt (blk_lt (g := gb125) (o := .cells #[.int .i64 t120, .slice Ao38 t121.length co38] 58 (0, 0)) (by (with_reducible repeat (first | refine blk_drewN ?_ _ | refine blk_drew ?_ | refine blk_alloc ?_ _)); exact BK125.out)) : gb125 ≠ gb155)); have n24_ := Aside0.mk ((by rw [hg]; exact Nat.ne_of_gt (blk_lt (g := gb125) (o := .cells #[.int .i64 t120, .slice Ao38 t121.length co38] 58 (0, 0)) (by (with_reducible repeat (first | refine blk_drewN ?_ _ | refine blk_drew ?_ | refine blk_alloc ?_ _)); exact BK125.out)) : gb155 ≠ gb125)); have n25_ := Aside0.mk ((by rw [hg]; exact Nat.ne_of_lt (blk_lt (g := gb131) (o := .cells #[.int .i64 t126, .slice Ao46 t127.length co46] 56 (0, 0)) (by (with_reducible repeat (first | refine blk_drewN ?_ _ | refine blk_drew ?_ | refine blk_alloc ?_ _)); exact BK131.out)) : gb131 ≠ gb155)); have n26_ := Aside0.mk ((by rw [hg]; exact Nat.ne_of_gt (blk_lt (g := gb131) (o := .cells #[.int .i64 t126, .slice Ao46 t127.length co46] 56 (0, 0)) (by (with_reducible repeat (first | refine blk_drewN ?_ _ | refine blk_drew ?_ | refine blk_alloc ?_ _)); exact BK131.out)) : gb155 ≠ gb131)); have n27_ := Aside0.mk ((by rw [hg]; exact Nat.ne_of_lt (blk_lt (g := gb137) (o := .cells #[.int .i64 t132, .slice Ao54 t133.length co54] 58 (0, 0)) (by (with_reducible repeat (first | refine blk_drewN ?_ _ | refine blk_drew ?_ | refine blk_alloc ?_ _)); exact BK137.out)) : gb137 ≠ gb155)); have n28_ := Aside0.mk ((by rw [hg]; exact Nat.ne_of_gt (blk_lt (g := gb137) (o := .cells #[.int .i64 t132, .slice Ao54 t133.length co54] 58 (0, 0)) (by (with_reducible repeat (first | refine blk_drewN ?_ _ | refine blk_drew ?_ | refine blk_alloc ?_ _)); exact BK137.out)) : gb155 ≠ gb137)); have n29_ := Aside0.mk ((by rw [hg]; exact Nat.ne_of_lt (blk_lt (g := gb143) (o := .cells #[.int .i64 t138, .slice Ao63 t139.length co63] 56 (0, 0)) (by (with_reducible repeat (first | refine blk_drewN ?_ _ | refine blk_drew ?_ | refine blk_alloc ?_ _)); exact BK143.out)) : gb143 ≠ gb155)); have n30_ := Aside0.mk ((by rw [hg]; exact Nat.ne_of_gt (blk_lt (g := gb143) (o := .cells #[.int .i64 t138, .slice Ao63 t139.length co63] 56 (0, 0)) (by (with_reducible repeat (first | refine blk_drewN ?_ _ | refine blk_drew ?_ | refine blk_alloc ?_ _)); exact BK143.out)) : gb155 ≠ gb143)); have n31_ := Aside0.mk ((by rw [hg]; exact Nat.ne_of_lt (blk_lt (g := gb149) (o := .cells #[.int .i64 t144, .slice Ao74 t145.length co74] 58 (0, 0)) (by (with_reducible repeat (first | refine blk_drewN ?_ _ | refine blk_drew ?_ | refine blk_alloc ?_ _)); exact BK149.out)) : gb149 ≠ gb155)); have n32_ := Aside0.mk ((by rw [hg]; exact Nat.ne_of_gt (blk_lt (g := gb149) (o := .cells #[.int .i64 t144, .slice Ao74 t145.length co74] 58 (0, 0)) (by (with_reducible repeat (first | refine blk_drewN ?_ _ | refine blk_drew ?_ | refine blk_alloc ?_ _)); exact BK149.out)) : gb155 ≠ gb149)); clear HO105; clear HO108; clear HO123; clear HO129; clear HO135; clear HO141; clear HO147; clear HO153; clear BK101; clear BK109; clear BK125; clear BK131; clear BK137; clear BK143; clear BK149; clear HB; have HO105 := n0_; have HO108 := n1_; have HO123 := n2_; have HO129 := n3_; have HO135 := n4_; have HO141 := n5_; have HO147 := n6_; have HO153 := n7_; have BK101 := n8_; have BK109 := n9_; have BK125 := n10_; have BK131 := n11_; have BK137 := n12_; have BK143 := n13_; have BK149 := n14_; have HB := n15_; have BK155 := n16_; have GW155 := n17_; have GE155 := n18_; have NB101_155 := n19_; have NB155_101 := n20_; have NB109_155 := n21_; have NB155_109 := n22_; have NB125_155 := n23_; have NB155_125 := n24_; have NB131_155 := n25_; have NB155_131 := n26_; have NB137_155 := n27_; have NB155_137 := n28_; have NB143_155 := n29_; have NB155_143 := n30_; have NB149_155 := n31_; have NB155_149 := n32_; clear n0_ n1_ n2_ n3_ n4_ n5_ n6_ n7_ n8_ n9_ n10_ n11_ n12_ n13_ n14_ n15_ n16_ n17_ n18_ n19_ n20_ n21_ n22_ n23_ n24_ n25_ n26_ n27_ n28_ n29_ n30_ n31_ n32_; clear hb hbox hg; have hnb77 := NB155_101.out; have hnc77 := NB101_155.out; have hnb78 := NB155_109.out; have hnc78 := NB109_155.out; have hnb79 := NB155_125.out; have hnc79 := NB125_155.out; have hnb80 := NB155_131.out; have hnc80 := NB131_155.out; have hnb81 := NB155_137.out; have hnc81 := NB137_155.out; have hnb82 := NB155_143.out; have hnc82 := NB143_155.out; have hnb83 := NB155_149.out; have hnc83 := NB149_155.out; have hcz84_0 : w76.cell? ⟨gb155, 0, none⟩ = some (.int .i64 0) := (blk_cell BK155.out 0).trans rfl; have hcz84_1 : w76.cell? ⟨gb155, 1, none⟩ = some (.slice none 0 0) := (blk_cell BK155.out 1).trans rfl; have hfz84_0 := blk_frozen BK155.out 0; have hfz84_1 := blk_frozen BK155.out 1; obtain ⟨Ao85, co85, eo85⟩ := Kd.R_slice HO153.out; subst eo85))
 (try simp only [Act.put, List.setIfInBounds_toArray, List.set_cons_zero, List.set_cons_succ])
 go_cut [151] (fun v151 wc => ∃ (kq : Nat) (x151_15 : Bool), v151 = .bool x151_15 ∧ Aside0 (flagstonelaw06_FreeSizes.j0 kq l2 t106 x151_15 a0_0 l0_1 t102 t103 = some r) ∧ Aside0 (kq ≤ k) ∧ Aside0 (Kd.R k40 40 wc w.heap.size (fun k_ => some k_ ≠ ((.slice Ao24 t103.length co24) : Value).ownBlock ∧ some k_ ≠ ((.slice Ao38 t121.length co38) : Value).ownBlock ∧ some k_ ≠ ((.slice Ao46 t127.length co46) : Value).ownBlock ∧ some k_ ≠ ((.slice Ao54 t133.length co54) : Value).ownBlock ∧ some k_ ≠ ((.slice Ao63 t139.length co63) : Value).ownBlock ∧ some k_ ≠ ((.slice Ao74 t145.length co74) : Value).ownBlock ∧ some k_ ≠ ((.slice Ao85 t151.length co85) : Value).ownBlock) (.slice Ao64 t106.length co64) t106) ∧ Aside0 (Kd.R k40 40 wc w.heap.size (fun k_ => some k_ ≠ ((.slice Ao64 t106.length co64) : Value).ownBlock ∧ some k_ ≠ ((.slice Ao38 t121.length co38) : Value).ownBlock ∧ some k_ ≠ ((.slice Ao46 t127.length co46) : Value).ownBlock ∧ some k_ ≠ ((.slice Ao54 t133.length co54) : Value).ownBlock ∧ some k_ ≠ ((.slice Ao63 t139.length co63) : Value).ownBlock ∧ some k_ ≠ ((.slice Ao74 t145.length co74) : Value).ownBlock ∧ some k_ ≠ ((.slice Ao85 t151.length co85) : Value).ownBlock) (.slice Ao24 t103.length co24) t103) ∧ Aside0 (Kd.R k40 40 wc w.heap.size (fun k_ => some k_ ≠ ((.slice Ao64 t106.length co64) : Value).ownBlock ∧ some k_ ≠ ((.slice Ao24 t103.length co24) : Value).ownBlock ∧ some k_ ≠ ((.slice Ao46 t127.length co46) : Value).ownBlock ∧ some k_ ≠ ((.slice Ao54 t133.length co54) : Value).ownBlock ∧ some k_ ≠ ((.slice Ao63 t139.length co63) : Value).ownBlock ∧ some k_ ≠ ((.slice Ao74 t145.length co74) : Value).ownBlock ∧ some k_ ≠ ((.slice Ao85 t151.length co85) : Value).ownBlock) (.slice Ao38 t121.length co38) t121) ∧ Aside0 (Kd.R k40 40 wc w.heap.size (fun k_ => some k_ ≠ ((.slice Ao64 t106.length co64) : Value).ownBlock ∧ some k_ ≠ ((.slice Ao24 t103.length co24) : Value).ownBlock ∧ some k_ ≠ ((.slice Ao38 t121.length co38) : Value).ownBlock ∧ some k_ ≠ ((.slice Ao54 t133.length co54) : Value).ownBlock ∧ some k_ ≠ ((.slice Ao63 t139.length co63) : Value).ownBlock ∧ some k_ ≠ ((.slice Ao74 t145.length co74) : Value).ownBlock ∧ some k_ ≠ ((.slice Ao85 t151.length co85) : Value).ownBlock) (.slice Ao46 t127.length co46) t127) ∧ Aside0 (Kd.R k40 40 wc w.heap.size (fun k_ => some k_ ≠ ((.slice Ao64 t106.length co64) : Value).ownBlock ∧ some k_ ≠ ((.slice Ao24 t103.length co24) : Value).ownBlock ∧ some k_ ≠ ((.slice Ao38 t121.length co38) : Value).ownBlock ∧ some k_ ≠ ((.slice Ao46 t127.length co46) : Value).ownBlock ∧ some k_ ≠ ((.slice Ao63 t139.length co63) : Value).ownBlock ∧ some k_ ≠ ((.slice Ao74 t145.length co74) : Value).ownBlock ∧ some k_ ≠ ((.slice Ao85 t151.length co85) : Value).ownBlock) (.slice Ao54 t133.length co54) t133) ∧ Aside0 (Kd.R k40 40 wc w.heap.size (fun k_ => some k_ ≠ ((.slice Ao64 t106.length co64) : Value).ownBlock ∧ some k_ ≠ ((.slice Ao24 t103.length co24) : Value).ownBlock ∧ some k_ ≠ ((.slice Ao38 t121.length co38) : Value).ownBlock ∧ some k_ ≠ ((.slice Ao46 t127.length co46) : Value).ownBlock ∧ some k_ ≠ ((.slice Ao54 t133.length co54) : Value).ownBlock ∧ some k_ ≠ ((.slice Ao74 t145.length co74) : Value).ownBlock ∧ some k_ ≠ ((.slice Ao85 t151.length co85) : Value).ownBlock) (.slice Ao63 t139.length co63) t139) ∧ Aside0 (Kd.R k40 40 wc w.heap.size (fun k_ => some k_ ≠ ((.slice Ao64 t106.length co64) : Value).ownBlock ∧ some k_ ≠ ((.slice Ao24 t103.length co24) : Value).ownBlock ∧ some k_ ≠ ((.slice Ao38 t121.length co38) : Value).ownBlock ∧ some k_ ≠ ((.slice Ao46 t127.length co46) : Value).ownBlock ∧ some k_ ≠ ((.slice Ao54 t133.length co54) : Value).ownBlock ∧ some k_ ≠ ((.slice Ao63 t139.length co63) : Value).ownBlock ∧ some k_ ≠ ((.slice Ao85 t151.length co85) : Value).ownBlock) (.slice Ao74 t145.length co74) t145) ∧ Aside0 (Kd.R k40 40 wc w.heap.size (fun k_ => some k_ ≠ ((.slice Ao64 t106.length co64) : Value).ownBlock ∧ some k_ ≠ ((.slice Ao24 t103.length co24) : Value).ownBlock ∧ some k_ ≠ ((.slice Ao38 t121.length co38) : Value).ownBlock ∧ some k_ ≠ ((.slice Ao46 t127.length co46) : Value).ownBlock ∧ some k_ ≠ ((.slice Ao54 t133.length co54) : Value).ownBlock ∧ some k_ ≠ ((.slice Ao63 t139.length co63) : Value).ownBlock ∧ some k_ ≠ ((.slice Ao74 t145.length co74) : Value).ownBlock) (.slice Ao85 t151.length co85) t151) ∧ Aside0 (wc.heap[gb101]? = some (.cells #[.int .i64 a0_0, (.slice A0_1 l0_1.length c0_1)] 56 (0, 0))) ∧ Aside0 (wc.heap[gb109]? = some (.cells #[.int .i64 t102, (.slice Ao24 t103.length co24)] 58 (0, 0))) ∧ Aside0 (wc.heap[gb125]? = some (.cells #[.int .i64 t120, (.slice Ao38 t121.length co38)] 58 (0, 0))) ∧ Aside0 (wc.heap[gb131]? = some (.cells #[.int .i64 t126, (.slice Ao46 t127.length co46)] 56 (0, 0))) ∧ Aside0 (wc.heap[gb137]? = some (.cells #[.int .i64 t132, (.slice Ao54 t133.length co54)] 58 (0, 0))) ∧ Aside0 (wc.heap[gb143]? = some (.cells #[.int .i64 t138, (.slice Ao63 t139.length co63)] 56 (0, 0))) ∧ Aside0 (wc.heap[gb149]? = some (.cells #[.int .i64 t144, (.slice Ao74 t145.length co74)] 58 (0, 0))) ∧ Aside0 (wc.heap[gb155]? = some (.cells #[.int .i64 t150, (.slice Ao85 t151.length co85)] 56 (0, 0))) ∧ Aside0 (Below w.heap.size w wc))
 case first =>
  have H := HC16.out
  clear HC16
  by_cases c86 : t110 = t112
  ·rw [if_pos c86] at H
   have c86b0 : (t110 == t112) = true := beq_iff_eq.mpr c86
   have c86b1 : (t110 != t112) = false := bne_eq_false_iff_eq.mpr c86
   clear c86
   (first | rw [c86b0] | (simp only [i64_w, i32_w]; rw [c86b0]) | skip)
   replace H := Option.bind_eq_some_iff.mp H
   obtain ⟨t156, A870, H⟩ := H
   replace H : (if t156 = t113 then (if t114 = t117 then (if t115 = t118 then ((flagstonelaw06_num.f t116).bind fun t157 => (if t157 = t119 then ((flagstonelaw06_Alike.f k t120 t121 t126 t127).bind fun t158 => (if t158 = 0 then ((flagstonelaw06_num.f t124).bind fun t159 => (if t159 = t130 then ((flagstonelaw06_Alike.f k t132 t133 t138 t139).bind fun t160 => (if t160 = 0 then ((flagstonelaw06_num.f t136).bind fun t161 => (if t161 = t142 then ((flagstonelaw06_Alike.f k t144 t145 t150 t151).bind fun t162 => (if t162 = 0 then ((flagstonelaw06_num.f t148).bind fun t163 => (flagstonelaw06_FreeSizes.j0 k l2 t106 (t163 != t154) a0_0 l0_1 t102 t103)) else (none))) else (none))) else (none))) else (none))) else (none))) else (none))) else (none)) else (none)) else (none)) = some r := H
   have A87 := Aside0.mk A870
   clear A870
   by_cases c88 : t156 = t113
   ·rw [if_pos c88] at H
    have c88b0 : (t156 == t113) = true := beq_iff_eq.mpr c88
    have c88b1 : (t156 != t113) = false := bne_eq_false_iff_eq.mpr c88
    clear c88
    by_cases c89 : t114 = t117
    ·rw [if_pos c89] at H
     have c89b0 : (t114 == t117) = true := beq_iff_eq.mpr c89
     have c89b1 : (t114 != t117) = false := bne_eq_false_iff_eq.mpr c89
     clear c89
     by_cases c90 : t115 = t118
     ·rw [if_pos c90] at H
      have c90b0 : (t115 == t118) = true := beq_iff_eq.mpr c90
      have c90b1 : (t115 != t118) = false := bne_eq_false_iff_eq.mpr c90
      clear c90
      replace H := Option.bind_eq_some_iff.mp H
      obtain ⟨t157, A910, H⟩ := H
      replace H : (if t157 = t119 then ((flagstonelaw06_Alike.f k t120 t121 t126 t127).bind fun t158 => (if t158 = 0 then ((flagstonelaw06_num.f t124).bind fun t159 => (if t159 = t130 then ((flagstonelaw06_Alike.f k t132 t133 t138 t139).bind fun t160 => (if t160 = 0 then ((flagstonelaw06_num.f t136).bind fun t161 => (if t161 = t142 then ((flagstonelaw06_Alike.f k t144 t145 t150 t151).bind fun t162 => (if t162 = 0 then ((flagstonelaw06_num.f t148).bind fun t163 => (flagstonelaw06_FreeSizes.j0 k l2 t106 (t163 != t154) a0_0 l0_1 t102 t103)) else (none))) else (none))) else (none))) else (none))) else (none))) else (none)) = some r := H
      have A91 := Aside0.mk A910
      clear A910
      by_cases c92 : t157 = t119
      ·rw [if_pos c92] at H
       have c92b0 : (t157 == t119) = true := beq_iff_eq.mpr c92
       have c92b1 : (t157 != t119) = false := bne_eq_false_iff_eq.mpr c92
       clear c92
       replace H := Option.bind_eq_some_iff.mp H
       obtain ⟨t158, A930, H⟩ := H
       replace H : (if t158 = 0 then ((flagstonelaw06_num.f t124).bind fun t159 => (if t159 = t130 then ((flagstonelaw06_Alike.f k t132 t133 t138 t139).bind fun t160 => (if t160 = 0 then ((flagstonelaw06_num.f t136).bind fun t161 => (if t161 = t142 then ((flagstonelaw06_Alike.f k t144 t145 t150 t151).bind fun t162 => (if t162 = 0 then ((flagstonelaw06_num.f t148).bind fun t163 => (flagstonelaw06_FreeSizes.j0 k l2 t106 (t163 != t154) a0_0 l0_1 t102 t103)) else (none))) else (none))) else (none))) else (none))) else (none)) = some r := H
       have A93 := Aside0.mk A930
       clear A930
       by_cases c94 : t158 = 0
       ·rw [if_pos c94] at H
        have c94b0 : (t158 == 0) = true := beq_iff_eq.mpr c94
        have c94b1 : (t158 != 0) = false := bne_eq_false_iff_eq.mpr c94
        clear c94
        replace H := Option.bind_eq_some_iff.mp H
        obtain ⟨t159, A950, H⟩ := H
        replace H : (if t159 = t130 then ((flagstonelaw06_Alike.f k t132 t133 t138 t139).bind fun t160 => (if t160 = 0 then ((flagstonelaw06_num.f t136).bind fun t161 => (if t161 = t142 then ((flagstonelaw06_Alike.f k t144 t145 t150 t151).bind fun t162 => (if t162 = 0 then ((flagstonelaw06_num.f t148).bind fun t163 => (flagstonelaw06_FreeSizes.j0 k l2 t106 (t163 != t154) a0_0 l0_1 t102 t103)) else (none))) else (none))) else (none))) else (none)) = some r := H
        have A95 := Aside0.mk A950
        clear A950
        by_cases c96 : t159 = t130
        ·rw [if_pos c96] at H
         have c96b0 : (t159 == t130) = true := beq_iff_eq.mpr c96
         have c96b1 : (t159 != t130) = false := bne_eq_false_iff_eq.mpr c96
         clear c96
         replace H := Option.bind_eq_some_iff.mp H
         obtain ⟨t160, A970, H⟩ := H
         replace H : (if t160 = 0 then ((flagstonelaw06_num.f t136).bind fun t161 => (if t161 = t142 then ((flagstonelaw06_Alike.f k t144 t145 t150 t151).bind fun t162 => (if t162 = 0 then ((flagstonelaw06_num.f t148).bind fun t163 => (flagstonelaw06_FreeSizes.j0 k l2 t106 (t163 != t154) a0_0 l0_1 t102 t103)) else (none))) else (none))) else (none)) = some r := H
         have A97 := Aside0.mk A970
         clear A970
         by_cases c98 : t160 = 0
         ·rw [if_pos c98] at H
          have c98b0 : (t160 == 0) = true := beq_iff_eq.mpr c98
          have c98b1 : (t160 != 0) = false := bne_eq_false_iff_eq.mpr c98
          clear c98
          replace H := Option.bind_eq_some_iff.mp H
          obtain ⟨t161, A990, H⟩ := H
          replace H : (if t161 = t142 then ((flagstonelaw06_Alike.f k t144 t145 t150 t151).bind fun t162 => (if t162 = 0 then ((flagstonelaw06_num.f t148).bind fun t163 => (flagstonelaw06_FreeSizes.j0 k l2 t106 (t163 != t154) a0_0 l0_1 t102 t103)) else (none))) else (none)) = some r := H
          have A99 := Aside0.mk A990
          clear A990
          by_cases c100 : t161 = t142
          ·rw [if_pos c100] at H
           have c100b0 : (t161 == t142) = true := beq_iff_eq.mpr c100
           have c100b1 : (t161 != t142) = false := bne_eq_false_iff_eq.mpr c100
           clear c100
           replace H := Option.bind_eq_some_iff.mp H
           obtain ⟨t162, A1010, H⟩ := H
           replace H : (if t162 = 0 then ((flagstonelaw06_num.f t148).bind fun t163 => (flagstonelaw06_FreeSizes.j0 k l2 t106 (t163 != t154) a0_0 l0_1 t102 t103)) else (none)) = some r := H
           have A101 := Aside0.mk A1010
           clear A1010
           by_cases c102 : t162 = 0
           ·rw [if_pos c102] at H
            have c102b0 : (t162 == 0) = true := beq_iff_eq.mpr c102
            have c102b1 : (t162 != 0) = false := bne_eq_false_iff_eq.mpr c102
            clear c102
            replace H := Option.bind_eq_some_iff.mp H
            obtain ⟨t163, A1030, H⟩ := H
            replace H : (flagstonelaw06_FreeSizes.j0 k l2 t106 (t163 != t154) a0_0 l0_1 t102 t103) = some r := H
            have A103 := Aside0.mk A1030
            clear A1030
            have H' := Aside0.mk H
            clear H
            go_wp2_with (first | (go_at_call 44; (with_reducible refine (flagstonelaw06_num.calls t111 t156 _ A87.out).mono ?_); rintro e w' ⟨rfl, ⟨nd, rfl⟩⟩) | (go_at_call 44; (with_reducible refine (flagstonelaw06_num.calls t116 t157 _ A91.out).mono ?_); rintro e w' ⟨rfl, ⟨nd, rfl⟩⟩; have hnb104 := NB125_101.out; have hnc104 := NB101_125.out; have hnb105 := NB125_109.out; have hnc105 := NB109_125.out; have hnb106 := NB125_131.out; have hnc106 := NB131_125.out; have hnb107 := NB125_137.out; have hnc107 := NB137_125.out; have hnb108 := NB125_143.out; have hnc108 := NB143_125.out; have hnb109 := NB125_149.out; have hnc109 := NB149_125.out; have hnb110 := NB125_155.out; have hnc110 := NB155_125.out; have hcz111_0 : w76.cell? ⟨gb125, 0, none⟩ = some (.int .i64 t120) := (blk_cell BK125.out 0).trans rfl; have hcz111_1 : w76.cell? ⟨gb125, 1, none⟩ = some (.slice Ao38 t121.length co38) := (blk_cell BK125.out 1).trans rfl; have hfz111_0 := blk_frozen BK125.out 0; have hfz111_1 := blk_frozen BK125.out 1; have hnb112 := NB131_101.out; have hnc112 := NB101_131.out; have hnb113 := NB131_109.out; have hnc113 := NB109_131.out; have hnb114 := NB131_137.out; have hnc114 := NB137_131.out; have hnb115 := NB131_143.out; have hnc115 := NB143_131.out; have hnb116 := NB131_149.out; have hnc116 := NB149_131.out; have hnb117 := NB131_155.out; have hnc117 := NB155_131.out; have hcz118_0 : w76.cell? ⟨gb131, 0, none⟩ = some (.int .i64 t126) := (blk_cell BK131.out 0).trans rfl; have hcz118_1 : w76.cell? ⟨gb131, 1, none⟩ = some (.slice Ao46 t127.length co46) := (blk_cell BK131.out 1).trans rfl; have hfz118_0 := blk_frozen BK131.out 0; have hfz118_1 := blk_frozen BK131.out 1) | (go_at_call 48; (with_reducible refine (flagstonelaw06_Alike.calls k t120 _ _ t121 t126 _ _ t127 t158 _ ?side1 ?side2 ?side3 ?side4 A93.out).mono ?_); (case side1 => refine (Kd.R_reads' (e := 40) (base := w.heap.size) (ok := fun k_ => (((((((True ∧ some k_ ≠ (.slice Ao24 t103.length co24 : Value).ownBlock) ∧ some k_ ≠ (.slice Ao64 t106.length co64 : Value).ownBlock) ∧ some k_ ≠ (.slice Ao46 t127.length co46 : Value).ownBlock) ∧ some k_ ≠ (.slice Ao54 t133.length co54 : Value).ownBlock) ∧ some k_ ≠ (.slice Ao63 t139.length co63 : Value).ownBlock) ∧ some k_ ≠ (.slice Ao74 t145.length co74 : Value).ownBlock) ∧ some k_ ≠ (.slice Ao85 t151.length co85 : Value).ownBlock)) (n := t121.length) (c := co38) ?_).2.2; exact (by (with_reducible repeat (first | apply Kd.R_alloc | apply Kd.R_drewN | apply Kd.R_drew)); exact (Kd.R_mono (Kd.R_far (p := ⟨gb155, 1, none⟩) (Kd.R_far (p := ⟨gb155, 0, none⟩) (Kd.R_types HO123.out BK155.out (by decide)) (fun _ hk => hk.2) (.int .i64 t150)) (fun _ hk => hk.2) (.slice Ao85 t151.length co85)) (fun _ h_ => h_.1)))); (case side2 => exact (Kd.R_reads' HO123.out).2.1); (case side3 => refine (Kd.R_reads' (e := 40) (base := w.heap.size) (ok := fun k_ => (((((((True ∧ some k_ ≠ (.slice Ao24 t103.length co24 : Value).ownBlock) ∧ some k_ ≠ (.slice Ao64 t106.length co64 : Value).ownBlock) ∧ some k_ ≠ (.slice Ao38 t121.length co38 : Value).ownBlock) ∧ some k_ ≠ (.slice Ao54 t133.length co54 : Value).ownBlock) ∧ some k_ ≠ (.slice Ao63 t139.length co63 : Value).ownBlock) ∧ some k_ ≠ (.slice Ao74 t145.length co74 : Value).ownBlock) ∧ some k_ ≠ (.slice Ao85 t151.length co85 : Value).ownBlock)) (n := t127.length) (c := co46) ?_).2.2; exact (by (with_reducible repeat (first | apply Kd.R_alloc | apply Kd.R_drewN | apply Kd.R_drew)); exact (Kd.R_mono (Kd.R_far (p := ⟨gb155, 1, none⟩) (Kd.R_far (p := ⟨gb155, 0, none⟩) (Kd.R_types HO129.out BK155.out (by decide)) (fun _ hk => hk.2) (.int .i64 t150)) (fun _ hk => hk.2) (.slice Ao85 t151.length co85)) (fun _ h_ => h_.1)))); (case side4 => exact (Kd.R_reads' HO129.out).2.1); rintro e w119 ⟨rfl, hb⟩; have n0_ := Aside0.mk (Kd.R_below (by (with_reducible repeat (first | apply Kd.R_alloc | apply Kd.R_drewN | apply Kd.R_drew)); exact (Kd.R_mono (Kd.R_far (p := ⟨gb155, 1, none⟩) (Kd.R_far (p := ⟨gb155, 0, none⟩) (Kd.R_types HO105.out BK155.out (by decide)) (fun _ hk => hk.2) (.int .i64 t150)) (fun _ hk => hk.2) (.slice Ao85 t151.length co85)) (fun _ h_ => h_.1))) hb); have n1_ := Aside0.mk (Kd.R_below (by (with_reducible repeat (first | apply Kd.R_alloc | apply Kd.R_drewN | apply Kd.R_drew)); exact (Kd.R_mono (Kd.R_far (p := ⟨gb155, 1, none⟩) (Kd.R_far (p := ⟨gb155, 0, none⟩) (Kd.R_types HO108.out BK155.out (by decide)) (fun _ hk => hk.2) (.int .i64 t150)) (fun _ hk => hk.2) (.slice Ao85 t151.length co85)) (fun _ h_ => h_.1))) hb); have n2_ := Aside0.mk (Kd.R_below (by (with_reducible repeat (first | apply Kd.R_alloc | apply Kd.R_drewN | apply Kd.R_drew)); exact (Kd.R_mono (Kd.R_far (p := ⟨gb155, 1, none⟩) (Kd.R_far (p := ⟨gb155, 0, none⟩) (Kd.R_types HO123.out BK155.out (by decide)) (fun _ hk => hk.2) (.int .i64 t150)) (fun _ hk => hk.2) (.slice Ao85 t151.length co85)) (fun _ h_ => h_.1))) hb); have n3_ := Aside0.mk (Kd.R_below (by (with_reducible repeat (first | apply Kd.R_alloc | apply Kd.R_drewN | apply Kd.R_drew)); exact (Kd.R_mono (Kd.R_far (p := ⟨gb155, 1, none⟩) (Kd.R_far (p := ⟨gb155, 0, none⟩) (Kd.R_types HO129.out BK155.out (by decide)) (fun _ hk => hk.2) (.int .i64 t150)) (fun _ hk => hk.2) (.slice Ao85 t151.length co85)) (fun _ h_ => h_.1))) hb); have n4_ := Aside0.mk (Kd.R_below (by (with_reducible repeat (first | apply Kd.R_alloc | apply Kd.R_drewN | apply Kd.R_drew)); exact (Kd.R_mono (Kd.R_far (p := ⟨gb155, 1, none⟩) (Kd.R_far (p := ⟨gb155, 0, none⟩) (Kd.R_types HO135.out BK155.out (by decide)) (fun _ hk => hk.2) (.int .i64 t150)) (fun _ hk => hk.2) (.slice Ao85 t151.length co85)) (fun _ h_ => h_.1))) hb); have n5_ := Aside0.mk (Kd.R_below (by (with_reducible repeat (first | apply Kd.R_alloc | apply Kd.R_drewN | apply Kd.R_drew)); exact (Kd.R_mono (Kd.R_far (p := ⟨gb155, 1, none⟩) (Kd.R_far (p := ⟨gb155, 0, none⟩) (Kd.R_types HO141.out BK155.out (by decide)) (fun _ hk => hk.2) (.int .i64 t150)) (fun _ hk => hk.2) (.slice Ao85 t151.length co85)) (fun _ h_ => h_.1))) hb); have n6_ := Aside0.mk (Kd.R_below (by (with_reducible repeat (first | apply Kd.R_alloc | apply Kd.R_drewN | apply Kd.R_drew)); exact (Kd.R_mono (Kd.R_far (p := ⟨gb155, 1, none⟩) (Kd.R_far (p := ⟨gb155, 0, none⟩) (Kd.R_types HO147.out BK155.out (by decide)) (fun _ hk => hk.2) (.int .i64 t150)) (fun _ hk => hk.2) (.slice Ao85 t151.length co85)) (fun _ h_ => h_.1))) hb); have n7_ := Aside0.mk (Kd.R_below (by (with_reducible repeat (first | apply Kd.R_alloc | apply Kd.R_drewN | apply Kd.R_drew)); exact (Kd.R_mono (Kd.R_far (p := ⟨gb155, 1, none⟩) (Kd.R_far (p := ⟨gb155, 0, none⟩) (Kd.R_types HO153.out BK155.out (by decide)) (fun _ hk => hk.2) (.int .i64 t150)) (fun _ hk => hk.2) (.slice Ao85 t151.length co85)) (fun _ h_ => h_.1))) hb); have n8_ := Aside0.mk (blk_below (g := gb101) (o := .cells #[.int .i64 a0_0, .slice A0_1 l0_1.length c0_1] 56 (0, 0)) (by (with_reducible repeat (first | refine blk_drewN ?_ _ | refine blk_drew ?_ | refine blk_alloc ?_ _)); refine blk_far ?_ NB101_155.out _; (with_reducible repeat (first | refine blk_drewN ?_ _ | refine blk_drew ?_ | refine blk_alloc ?_ _)); refine blk_far ?_ NB101_155.out _; (with_reducible repeat (first | refine blk_drewN ?_ _ | refine blk_drew ?_ | refine blk_alloc ?_ _)); exact BK101.out) hb); have n9_ := Aside0.mk (blk_below (g := gb109) (o := .cells #[.int .i64 t102, .slice Ao24 t103.length co24] 58 (0, 0)) (by (with_reducible repeat (first | refine blk_drewN ?_ _ | refine blk_drew ?_ | refine blk_alloc ?_ _)); refine blk_far ?_ NB109_155.out _; (with_reducible repeat (first | refine blk_drewN ?_ _ | refine blk_drew ?_ | refine blk_alloc ?_ _)); refine blk_far ?_ NB109_155.out _; (with_reducible repeat (first | refine blk_drewN ?_ _ | refine blk_drew ?_ | refine blk_alloc ?_ _)); exact BK109.out) hb); have n10_ := Aside0.mk (blk_below (g := gb125) (o := .cells #[.int .i64 t120, .slice Ao38 t121.length co38] 58 (0, 0)) (by (with_reducible repeat (first | refine blk_drewN ?_ _ | refine blk_drew ?_ | refine blk_alloc ?_ _)); refine blk_far ?_ NB125_155.out _; (with_reducible repeat (first | refine blk_drewN ?_ _ | refine blk_drew ?_ | refine blk_alloc ?_ _)); refine blk_far ?_ NB125_155.out _; (with_reducible repeat (first | refine blk_drewN ?_ _ | refine blk_drew ?_ | refine blk_alloc ?_ _)); exact BK125.out) hb); have n11_ := Aside0.mk (blk_below (g := gb131) (o := .cells #[.int .i64 t126, .slice Ao46 t127.length co46] 56 (0, 0)) (by (with_reducible repeat (first | refine blk_drewN ?_ _ | refine blk_drew ?_ | refine blk_alloc ?_ _)); refine blk_far ?_ NB131_155.out _; (with_reducible repeat (first | refine blk_drewN ?_ _ | refine blk_drew ?_ | refine blk_alloc ?_ _)); refine blk_far ?_ NB131_155.out _; (with_reducible repeat (first | refine blk_drewN ?_ _ | refine blk_drew ?_ | refine blk_alloc ?_ _)); exact BK131.out) hb); have n12_ := Aside0.mk (blk_below (g := gb137) (o := .cells #[.int .i64 t132, .slice Ao54 t133.length co54] 58 (0, 0)) (by (with_reducible repeat (first | refine blk_drewN ?_ _ | refine blk_drew ?_ | refine blk_alloc ?_ _)); refine blk_far ?_ NB137_155.out _; (with_reducible repeat (first | refine blk_drewN ?_ _ | refine blk_drew ?_ | refine blk_alloc ?_ _)); refine blk_far ?_ NB137_155.out _; (with_reducible repeat (first | refine blk_drewN ?_ _ | refine blk_drew ?_ | refine blk_alloc ?_ _)); exact BK137.out) hb); have n13_ := Aside0.mk (blk_below (g := gb143) (o := .cells #[.int .i64 t138, .slice Ao63 t139.length co63] 56 (0, 0)) (by (with_reducible repeat (first | refine blk_drewN ?_ _ | refine blk_drew ?_ | refine blk_alloc ?_ _)); refine blk_far ?_ NB143_155.out _; (with_reducible repeat (first | refine blk_drewN ?_ _ | refine blk_drew ?_ | refine blk_alloc ?_ _)); refine blk_far ?_ NB143_155.out _; (with_reducible repeat (first | refine blk_drewN ?_ _ | refine blk_drew ?_ | refine blk_alloc ?_ _)); exact BK143.out) hb); have n14_ := Aside0.mk (blk_below (g := gb149) (o := .cells #[.int .i64 t144, .slice Ao74 t145.length co74] 58 (0, 0)) (by (with_reducible repeat (first | refine blk_drewN ?_ _ | refine blk_drew ?_ | refine blk_alloc ?_ _)); refine blk_far ?_ NB149_155.out _; (with_reducible repeat (first | refine blk_drewN ?_ _ | refine blk_drew ?_ | refine blk_alloc ?_ _)); refine blk_far ?_ NB149_155.out _; (with_reducible repeat (first | refine blk_drewN ?_ _ | refine blk_drew ?_ | refine blk_alloc ?_ _)); exact BK149.out) hb); have n15_ := Aside0.mk (blk_below (g := gb155) (o := .cells #[.int .i64 t150, .slice Ao85 t151.length co85] 56 (0, 0)) (by (with_reducible repeat (first | refine blk_drewN ?_ _ | refine blk_drew ?_ | refine blk_alloc ?_ _)); refine blk_put (cs := #[.int .i64 t150, .slice none 0 0]) ?_ 1 _ rfl; (with_reducible repeat (first | refine blk_drewN ?_ _ | refine blk_drew ?_ | refine blk_alloc ?_ _)); refine blk_put (cs := #[.int .i64 0, .slice none 0 0]) ?_ 0 _ rfl; (with_reducible repeat (first | refine blk_drewN ?_ _ | refine blk_drew ?_ | refine blk_alloc ?_ _)); exact BK155.out) hb); have n16_ := Aside0.mk (below_step (by repeat (first | (with_reducible first | exact HB.out | apply below_alloc | apply pw_below_drewN | apply below_drew1 | refine below_set ?_ GE101.out | refine below_set ?_ GE109.out | refine below_set ?_ GE125.out | refine below_set ?_ GE131.out | refine below_set ?_ GE137.out | refine below_set ?_ GE143.out | refine below_set ?_ GE149.out | refine below_set ?_ GE155.out) | exact HB.out)) hb); clear HO105; clear HO108; clear HO123; clear HO129; clear HO135; clear HO141; clear HO147; clear HO153; clear BK101; clear BK109; clear BK125; clear BK131; clear BK137; clear BK143; clear BK149; clear BK155; clear HB; have HO105 := n0_; have HO108 := n1_; have HO123 := n2_; have HO129 := n3_; have HO135 := n4_; have HO141 := n5_; have HO147 := n6_; have HO153 := n7_; have BK101 := n8_; have BK109 := n9_; have BK125 := n10_; have BK131 := n11_; have BK137 := n12_; have BK143 := n13_; have BK149 := n14_; have BK155 := n15_; have HB := n16_; clear n0_ n1_ n2_ n3_ n4_ n5_ n6_ n7_ n8_ n9_ n10_ n11_ n12_ n13_ n14_ n15_ n16_; (try clear hb); (try clear hb2); (try clear hk); (try clear hi)) | (go_at_call 44; (with_reducible refine (flagstonelaw06_num.calls t124 t159 _ A95.out).mono ?_); rintro e w' ⟨rfl, ⟨nd, rfl⟩⟩; have hnb120 := NB137_101.out; have hnc120 := NB101_137.out; have hnb121 := NB137_109.out; have hnc121 := NB109_137.out; have hnb122 := NB137_143.out; have hnc122 := NB143_137.out; have hnb123 := NB137_149.out; have hnc123 := NB149_137.out; have hnb124 := NB137_155.out; have hnc124 := NB155_137.out; have hcz125_0 : w119.cell? ⟨gb137, 0, none⟩ = some (.int .i64 t132) := (blk_cell BK137.out 0).trans rfl; have hcz125_1 : w119.cell? ⟨gb137, 1, none⟩ = some (.slice Ao54 t133.length co54) := (blk_cell BK137.out 1).trans rfl; have hfz125_0 := blk_frozen BK137.out 0; have hfz125_1 := blk_frozen BK137.out 1; have hnb126 := NB143_101.out; have hnc126 := NB101_143.out; have hnb127 := NB143_109.out; have hnc127 := NB109_143.out; have hnb128 := NB143_149.out; have hnc128 := NB149_143.out; have hnb129 := NB143_155.out; have hnc129 := NB155_143.out; have hcz130_0 : w119.cell? ⟨gb143, 0, none⟩ = some (.int .i64 t138) := (blk_cell BK143.out 0).trans rfl; have hcz130_1 : w119.cell? ⟨gb143, 1, none⟩ = some (.slice Ao63 t139.length co63) := (blk_cell BK143.out 1).trans rfl; have hfz130_0 := blk_frozen BK143.out 0; have hfz130_1 := blk_frozen BK143.out 1) | (go_at_call 48; (with_reducible refine (flagstonelaw06_Alike.calls k t132 _ _ t133 t138 _ _ t139 t160 _ ?side1 ?side2 ?side3 ?side4 A97.out).mono ?_); (case side1 => repeat (first | exact (Kd.R_reads' HO135.out).2.2 | (with_reducible refine Kd.C_alloc ?_ _) | (with_reducible refine Kd.C_drewN ?_ _) | (with_reducible refine Kd.C_drew ?_))); (case side2 => exact (Kd.R_reads' HO135.out).2.1); (case side3 => repeat (first | exact (Kd.R_reads' HO141.out).2.2 | (with_reducible refine Kd.C_alloc ?_ _) | (with_reducible refine Kd.C_drewN ?_ _) | (with_reducible refine Kd.C_drew ?_))); (case side4 => exact (Kd.R_reads' HO141.out).2.1); rintro e w131 ⟨rfl, hb⟩; have n0_ := Aside0.mk (Kd.R_below (by (with_reducible repeat (first | apply Kd.R_alloc | apply Kd.R_drewN | apply Kd.R_drew)); exact HO105.out) hb); have n1_ := Aside0.mk (Kd.R_below (by (with_reducible repeat (first | apply Kd.R_alloc | apply Kd.R_drewN | apply Kd.R_drew)); exact HO108.out) hb); have n2_ := Aside0.mk (Kd.R_below (by (with_reducible repeat (first | apply Kd.R_alloc | apply Kd.R_drewN | apply Kd.R_drew)); exact HO123.out) hb); have n3_ := Aside0.mk (Kd.R_below (by (with_reducible repeat (first | apply Kd.R_alloc | apply Kd.R_drewN | apply Kd.R_drew)); exact HO129.out) hb); have n4_ := Aside0.mk (Kd.R_below (by (with_reducible repeat (first | apply Kd.R_alloc | apply Kd.R_drewN | apply Kd.R_drew)); exact HO135.out) hb); have n5_ := Aside0.mk (Kd.R_below (by (with_reducible repeat (first | apply Kd.R_alloc | apply Kd.R_drewN | apply Kd.R_drew)); exact HO141.out) hb); have n6_ := Aside0.mk (Kd.R_below (by (with_reducible repeat (first | apply Kd.R_alloc | apply Kd.R_drewN | apply Kd.R_drew)); exact HO147.out) hb); have n7_ := Aside0.mk (Kd.R_below (by (with_reducible repeat (first | apply Kd.R_alloc | apply Kd.R_drewN | apply Kd.R_drew)); exact HO153.out) hb); have n8_ := Aside0.mk (blk_below (g := gb101) (o := .cells #[.int .i64 a0_0, .slice A0_1 l0_1.length c0_1] 56 (0, 0)) (by (with_reducible repeat (first | refine blk_drewN ?_ _ | refine blk_drew ?_ | refine blk_alloc ?_ _)); exact BK101.out) hb); have n9_ := Aside0.mk (blk_below (g := gb109) (o := .cells #[.int .i64 t102, .slice Ao24 t103.length co24] 58 (0, 0)) (by (with_reducible repeat (first | refine blk_drewN ?_ _ | refine blk_drew ?_ | refine blk_alloc ?_ _)); exact BK109.out) hb); have n10_ := Aside0.mk (blk_below (g := gb125) (o := .cells #[.int .i64 t120, .slice Ao38 t121.length co38] 58 (0, 0)) (by (with_reducible repeat (first | refine blk_drewN ?_ _ | refine blk_drew ?_ | refine blk_alloc ?_ _)); exact BK125.out) hb); have n11_ := Aside0.mk (blk_below (g := gb131) (o := .cells #[.int .i64 t126, .slice Ao46 t127.length co46] 56 (0, 0)) (by (with_reducible repeat (first | refine blk_drewN ?_ _ | refine blk_drew ?_ | refine blk_alloc ?_ _)); exact BK131.out) hb); have n12_ := Aside0.mk (blk_below (g := gb137) (o := .cells #[.int .i64 t132, .slice Ao54 t133.length co54] 58 (0, 0)) (by (with_reducible repeat (first | refine blk_drewN ?_ _ | refine blk_drew ?_ | refine blk_alloc ?_ _)); exact BK137.out) hb); have n13_ := Aside0.mk (blk_below (g := gb143) (o := .cells #[.int .i64 t138, .slice Ao63 t139.length co63] 56 (0, 0)) (by (with_reducible repeat (first | refine blk_drewN ?_ _ | refine blk_drew ?_ | refine blk_alloc ?_ _)); exact BK143.out) hb); have n14_ := Aside0.mk (blk_below (g := gb149) (o := .cells #[.int .i64 t144, .slice Ao74 t145.length co74] 58 (0, 0)) (by (with_reducible repeat (first | refine blk_drewN ?_ _ | refine blk_drew ?_ | refine blk_alloc ?_ _)); exact BK149.out) hb); have n15_ := Aside0.mk (blk_below (g := gb155) (o := .cells #[.int .i64 t150, .slice Ao85 t151.length co85] 56 (0, 0)) (by (with_reducible repeat (first | refine blk_drewN ?_ _ | refine blk_drew ?_ | refine blk_alloc ?_ _)); exact BK155.out) hb); have n16_ := Aside0.mk (below_step (by repeat (first | (with_reducible first | exact HB.out | apply below_alloc | apply pw_below_drewN | apply below_drew1 | refine below_set ?_ GE101.out | refine below_set ?_ GE109.out | refine below_set ?_ GE125.out | refine below_set ?_ GE131.out | refine below_set ?_ GE137.out | refine below_set ?_ GE143.out | refine below_set ?_ GE149.out | refine below_set ?_ GE155.out) | exact HB.out)) hb); clear HO105; clear HO108; clear HO123; clear HO129; clear HO135; clear HO141; clear HO147; clear HO153; clear BK101; clear BK109; clear BK125; clear BK131; clear BK137; clear BK143; clear BK149; clear BK155; clear HB; have HO105 := n0_; have HO108 := n1_; have HO123 := n2_; have HO129 := n3_; have HO135 := n4_; have HO141 := n5_; have HO147 := n6_; have HO153 := n7_; have BK101 := n8_; have BK109 := n9_; have BK125 := n10_; have BK131 := n11_; have BK137 := n12_; have BK143 := n13_; have BK149 := n14_; have BK155 := n15_; have HB := n16_; clear n0_ n1_ n2_ n3_ n4_ n5_ n6_ n7_ n8_ n9_ n10_ n11_ n12_ n13_ n14_ n15_ n16_; (try clear hb); (try clear hb2); (try clear hk); (try clear hi)) | (go_at_call 44; (with_reducible refine (flagstonelaw06_num.calls t136 t161 _ A99.out).mono ?_); rintro e w' ⟨rfl, ⟨nd, rfl⟩⟩; have hnb132 := NB149_101.out; have hnc132 := NB101_149.out; have hnb133 := NB149_109.out; have hnc133 := NB109_149.out; have hnb134 := NB149_155.out; have hnc134 := NB155_149.out; have hcz135_0 : w131.cell? ⟨gb149, 0, none⟩ = some (.int .i64 t144) := (blk_cell BK149.out 0).trans rfl; have hcz135_1 : w131.cell? ⟨gb149, 1, none⟩ = some (.slice Ao74 t145.length co74) := (blk_cell BK149.out 1).trans rfl; have hfz135_0 := blk_frozen BK149.out 0; have hfz135_1 := blk_frozen BK149.out 1; have hnb136 := NB155_101.out; have hnc136 := NB101_155.out; have hnb137 := NB155_109.out; have hnc137 := NB109_155.out; have hcz138_0 : w131.cell? ⟨gb155, 0, none⟩ = some (.int .i64 t150) := (blk_cell BK155.out 0).trans rfl; have hcz138_1 : w131.cell? ⟨gb155, 1, none⟩ = some (.slice Ao85 t151.length co85) := (blk_cell BK155.out 1).trans rfl; have hfz138_0 := blk_frozen BK155.out 0; have hfz138_1 := blk_frozen BK155.out 1) | (go_at_call 48; (with_reducible refine (flagstonelaw06_Alike.calls k t144 _ _ t145 t150 _ _ t151 t162 _ ?side1 ?side2 ?side3 ?side4 A101.out).mono ?_); (case side1 => repeat (first | exact (Kd.R_reads' HO147.out).2.2 | (with_reducible refine Kd.C_alloc ?_ _) | (with_reducible refine Kd.C_drewN ?_ _) | (with_reducible refine Kd.C_drew ?_))); (case side2 => exact (Kd.R_reads' HO147.out).2.1); (case side3 => repeat (first | exact (Kd.R_reads' HO153.out).2.2 | (with_reducible refine Kd.C_alloc ?_ _) | (with_reducible refine Kd.C_drewN ?_ _) | (with_reducible refine Kd.C_drew ?_))); (case side4 => exact (Kd.R_reads' HO153.out).2.1); rintro e w139 ⟨rfl, hb⟩; have n0_ := Aside0.mk (Kd.R_below (by (with_reducible repeat (first | apply Kd.R_alloc | apply Kd.R_drewN | apply Kd.R_drew)); exact HO105.out) hb); have n1_ := Aside0.mk (Kd.R_below (by (with_reducible repeat (first | apply Kd.R_alloc | apply Kd.R_drewN | apply Kd.R_drew)); exact HO108.out) hb); have n2_ := Aside0.mk (Kd.R_below (by (with_reducible repeat (first | apply Kd.R_alloc | apply Kd.R_drewN | apply Kd.R_drew)); exact HO123.out) hb); have n3_ := Aside0.mk (Kd.R_below (by (with_reducible repeat (first | apply Kd.R_alloc | apply Kd.R_drewN | apply Kd.R_drew)); exact HO129.out) hb); have n4_ := Aside0.mk (Kd.R_below (by (with_reducible repeat (first | apply Kd.R_alloc | apply Kd.R_drewN | apply Kd.R_drew)); exact HO135.out) hb); have n5_ := Aside0.mk (Kd.R_below (by (with_reducible repeat (first | apply Kd.R_alloc | apply Kd.R_drewN | apply Kd.R_drew)); exact HO141.out) hb); have n6_ := Aside0.mk (Kd.R_below (by (with_reducible repeat (first | apply Kd.R_alloc | apply Kd.R_drewN | apply Kd.R_drew)); exact HO147.out) hb); have n7_ := Aside0.mk (Kd.R_below (by (with_reducible repeat (first | apply Kd.R_alloc | apply Kd.R_drewN | apply Kd.R_drew)); exact HO153.out) hb); have n8_ := Aside0.mk (blk_below (g := gb101) (o := .cells #[.int .i64 a0_0, .slice A0_1 l0_1.length c0_1] 56 (0, 0)) (by (with_reducible repeat (first | refine blk_drewN ?_ _ | refine blk_drew ?_ | refine blk_alloc ?_ _)); exact BK101.out) hb); have n9_ := Aside0.mk (blk_below (g := gb109) (o := .cells #[.int .i64 t102, .slice Ao24 t103.length co24] 58 (0, 0)) (by (with_reducible repeat (first | refine blk_drewN ?_ _ | refine blk_drew ?_ | refine blk_alloc ?_ _)); exact BK109.out) hb); have n10_ := Aside0.mk (blk_below (g := gb125) (o := .cells #[.int .i64 t120, .slice Ao38 t121.length co38] 58 (0, 0)) (by (with_reducible repeat (first | refine blk_drewN ?_ _ | refine blk_drew ?_ | refine blk_alloc ?_ _)); exact BK125.out) hb); have n11_ := Aside0.mk (blk_below (g := gb131) (o := .cells #[.int .i64 t126, .slice Ao46 t127.length co46] 56 (0, 0)) (by (with_reducible repeat (first | refine blk_drewN ?_ _ | refine blk_drew ?_ | refine blk_alloc ?_ _)); exact BK131.out) hb); have n12_ := Aside0.mk (blk_below (g := gb137) (o := .cells #[.int .i64 t132, .slice Ao54 t133.length co54] 58 (0, 0)) (by (with_reducible repeat (first | refine blk_drewN ?_ _ | refine blk_drew ?_ | refine blk_alloc ?_ _)); exact BK137.out) hb); have n13_ := Aside0.mk (blk_below (g := gb143) (o := .cells #[.int .i64 t138, .slice Ao63 t139.length co63] 56 (0, 0)) (by (with_reducible repeat (first | refine blk_drewN ?_ _ | refine blk_drew ?_ | refine blk_alloc ?_ _)); exact BK143.out) hb); have n14_ := Aside0.mk (blk_below (g := gb149) (o := .cells #[.int .i64 t144, .slice Ao74 t145.length co74] 58 (0, 0)) (by (with_reducible repeat (first | refine blk_drewN ?_ _ | refine blk_drew ?_ | refine blk_alloc ?_ _)); exact BK149.out) hb); have n15_ := Aside0.mk (blk_below (g := gb155) (o := .cells #[.int .i64 t150, .slice Ao85 t151.length co85] 56 (0, 0)) (by (with_reducible repeat (first | refine blk_drewN ?_ _ | refine blk_drew ?_ | refine blk_alloc ?_ _)); exact BK155.out) hb); have n16_ := Aside0.mk (below_step (by repeat (first | (with_reducible first | exact HB.out | apply below_alloc | apply pw_below_drewN | apply below_drew1 | refine below_set ?_ GE101.out | refine below_set ?_ GE109.out | refine below_set ?_ GE125.out | refine below_set ?_ GE131.out | refine below_set ?_ GE137.out | refine below_set ?_ GE143.out | refine below_set ?_ GE149.out | refine below_set ?_ GE155.out) | exact HB.out)) hb); clear HO105; clear HO108; clear HO123; clear HO129; clear HO135; clear HO141; clear HO147; clear HO153; clear BK101; clear BK109; clear BK125; clear BK131; clear BK137; clear BK143; clear BK149; clear BK155; clear HB; have HO105 := n0_; have HO108 := n1_; have HO123 := n2_; have HO129 := n3_; have HO135 := n4_; have HO141 := n5_; have HO147 := n6_; have HO153 := n7_; have BK101 := n8_; have BK109 := n9_; have BK125 := n10_; have BK131 := n11_; have BK137 := n12_; have BK143 := n13_; have BK149 := n14_; have BK155 := n15_; have HB := n16_; clear n0_ n1_ n2_ n3_ n4_ n5_ n6_ n7_ n8_ n9_ n10_ n11_ n12_ n13_ n14_ n15_ n16_; (try clear hb); (try clear hb2); (try clear hk); (try clear hi)) | (go_at_call 44; (with_reducible refine (flagstonelaw06_num.calls t148 t163 _ A103.out).mono ?_); rintro e w' ⟨rfl, ⟨nd, rfl⟩⟩))
            go_meet
            case rel => exact ⟨_, ((t163 != t154)), (by first | rfl | (simp; done) | (simp [*]; done)), H', ⟨by first | omega | exact Nat.le_refl _⟩, ⟨by (with_reducible repeat (first | apply Kd.R_alloc | apply Kd.R_drewN | apply Kd.R_drew)); exact Kd.R_mono HO108.out (fun _ hk => ⟨hk.1.1.1.1.1.1.2, ⟨hk.1.1.1.1.1.2, ⟨hk.1.1.1.1.2, ⟨hk.1.1.1.2, ⟨hk.1.1.2, ⟨hk.1.2, hk.2⟩⟩⟩⟩⟩⟩)⟩, ⟨by (with_reducible repeat (first | apply Kd.R_alloc | apply Kd.R_drewN | apply Kd.R_drew)); exact Kd.R_mono HO105.out (fun _ hk => ⟨hk.1.1.1.1.1.1.2, ⟨hk.1.1.1.1.1.2, ⟨hk.1.1.1.1.2, ⟨hk.1.1.1.2, ⟨hk.1.1.2, ⟨hk.1.2, hk.2⟩⟩⟩⟩⟩⟩)⟩, ⟨by (with_reducible repeat (first | apply Kd.R_alloc | apply Kd.R_drewN | apply Kd.R_drew)); exact Kd.R_mono HO123.out (fun _ hk => ⟨hk.1.1.1.1.1.2, ⟨hk.1.1.1.1.1.1.2, ⟨hk.1.1.1.1.2, ⟨hk.1.1.1.2, ⟨hk.1.1.2, ⟨hk.1.2, hk.2⟩⟩⟩⟩⟩⟩)⟩, ⟨by (with_reducible repeat (first | apply Kd.R_alloc | apply Kd.R_drewN | apply Kd.R_drew)); exact Kd.R_mono HO129.out (fun _ hk => ⟨hk.1.1.1.1.1.2, ⟨hk.1.1.1.1.1.1.2, ⟨hk.1.1.1.1.2, ⟨hk.1.1.1.2, ⟨hk.1.1.2, ⟨hk.1.2, hk.2⟩⟩⟩⟩⟩⟩)⟩, ⟨by (with_reducible repeat (first | apply Kd.R_alloc | apply Kd.R_drewN | apply Kd.R_drew)); exact Kd.R_mono HO135.out (fun _ hk => ⟨hk.1.1.1.1.1.2, ⟨hk.1.1.1.1.1.1.2, ⟨hk.1.1.1.1.2, ⟨hk.1.1.1.2, ⟨hk.1.1.2, ⟨hk.1.2, hk.2⟩⟩⟩⟩⟩⟩)⟩, ⟨by (with_reducible repeat (first | apply Kd.R_alloc | apply Kd.R_drewN | apply Kd.R_drew)); exact Kd.R_mono HO141.out (fun _ hk => ⟨hk.1.1.1.1.1.2, ⟨hk.1.1.1.1.1.1.2, ⟨hk.1.1.1.1.2, ⟨hk.1.1.1.2, ⟨hk.1.1.2, ⟨hk.1.2, hk.2⟩⟩⟩⟩⟩⟩)⟩, ⟨by (with_reducible repeat (first | apply Kd.R_alloc | apply Kd.R_drewN | apply Kd.R_drew)); exact Kd.R_mono HO147.out (fun _ hk => ⟨hk.1.1.1.1.1.2, ⟨hk.1.1.1.1.1.1.2, ⟨hk.1.1.1.1.2, ⟨hk.1.1.1.2, ⟨hk.1.1.2, ⟨hk.1.2, hk.2⟩⟩⟩⟩⟩⟩)⟩, ⟨by (with_reducible repeat (first | apply Kd.R_alloc | apply Kd.R_drewN | apply Kd.R_drew)); exact Kd.R_mono HO153.out (fun _ hk => ⟨hk.1.1.1.1.1.2, ⟨hk.1.1.1.1.1.1.2, ⟨hk.1.1.1.1.2, ⟨hk.1.1.1.2, ⟨hk.1.1.2, ⟨hk.1.2, hk.2⟩⟩⟩⟩⟩⟩)⟩, ⟨by (with_reducible repeat (first | refine blk_drewN ?_ _ | refine blk_drew ?_ | refine blk_alloc ?_ _)); exact BK101.out⟩, ⟨by (with_reducible repeat (first | refine blk_drewN ?_ _ | refine blk_drew ?_ | refine blk_alloc ?_ _)); exact BK109.out⟩, ⟨by (with_reducible repeat (first | refine blk_drewN ?_ _ | refine blk_drew ?_ | refine blk_alloc ?_ _)); exact BK125.out⟩, ⟨by (with_reducible repeat (first | refine blk_drewN ?_ _ | refine blk_drew ?_ | refine blk_alloc ?_ _)); exact BK131.out⟩, ⟨by (with_reducible repeat (first | refine blk_drewN ?_ _ | refine blk_drew ?_ | refine blk_alloc ?_ _)); exact BK137.out⟩, ⟨by (with_reducible repeat (first | refine blk_drewN ?_ _ | refine blk_drew ?_ | refine blk_alloc ?_ _)); exact BK143.out⟩, ⟨by (with_reducible repeat (first | refine blk_drewN ?_ _ | refine blk_drew ?_ | refine blk_alloc ?_ _)); exact BK149.out⟩, ⟨by (with_reducible repeat (first | refine blk_drewN ?_ _ | refine blk_drew ?_ | refine blk_alloc ?_ _)); exact BK155.out⟩, ⟨by repeat (first | (with_reducible first | exact HB.out | apply below_alloc | apply pw_below_drewN | apply below_drew1 | refine below_set ?_ GE101.out | refine below_set ?_ GE109.out | refine below_set ?_ GE125.out | refine below_set ?_ GE131.out | refine below_set ?_ GE137.out | refine below_set ?_ GE143.out | refine below_set ?_ GE149.out | refine below_set ?_ GE155.out) | exact HB.out)⟩⟩
           ·rw [if_neg c102] at H
            cases H
          ·rw [if_neg c100] at H
           cases H
         ·rw [if_neg c98] at H
          cases H
        ·rw [if_neg c96] at H
         cases H
       ·rw [if_neg c94] at H
        cases H
      ·rw [if_neg c92] at H
       cases H
     ·rw [if_neg c90] at H
      cases H
    ·rw [if_neg c89] at H
     cases H
   ·rw [if_neg c88] at H
    cases H
  ·rw [if_neg c86] at H
   cases H
 case rest =>
  clear HC16
  try clear c1
  try clear c2
  try clear p2
  try clear c3
  try clear c4
  try clear c5
  try clear c6
  try clear c7
  try clear c8
  try clear c9
  try clear c10
  try clear c11
  try clear c12
  try clear c13
  try clear c14
  try clear c15
  try clear c16
  try clear c17
  try clear c18
  try clear c19
  try clear c20
  try clear c21
  try clear c22
  try clear c23
  try clear c24
  try clear c25
  try clear c26
  try clear c35
  try clear c36
  try clear c42
  try clear c43
  try clear c44
  try clear c49
  try clear c50
  try clear c51
  try clear c52
  try clear c53
  try clear c57
  try clear c58
  try clear c59
  try clear c60
  try clear c61
  try clear c67
  try clear c68
  try clear c69
  try clear c70
  try clear c71
  try clear c72
  try clear c77
  try clear c78
  try clear c79
  try clear c80
  try clear c81
  try clear c82
  try clear c83
  try clear c84
  try clear c85
  try clear c86
  try clear c86b0
  try clear c86b1
  try clear c88
  try clear c88b0
  try clear c88b1
  try clear c89
  try clear c89b0
  try clear c89b1
  try clear c90
  try clear c90b0
  try clear c90b1
  try clear c92
  try clear c92b0
  try clear c92b1
  try clear c94
  try clear c94b0
  try clear c94b1
  try clear c96
  try clear c96b0
  try clear c96b1
  try clear c98
  try clear c98b0
  try clear c98b1
  try clear c100
  try clear c100b0
  try clear c100b1
  try clear c102
  try clear c102b0
  try clear c102b1
  try clear c104
  try clear c105
  try clear c106
  try clear c107
  try clear c108
  try clear c109
  try clear c110
  try clear c112
  try clear c113
  try clear c114
  try clear c115
  try clear c116
  try clear c117
  try clear c120
  try clear c121
  try clear c122
  try clear c123
  try clear c124
  try clear c126
  try clear c127
  try clear c128
  try clear c129
  try clear c132
  try clear c133
  try clear c134
  try clear c136
  try clear c137
  try clear c140
  try clear c141
  try clear c142
  try clear c143
  try clear c144
  try clear c145
  try clear c146
  try clear c148
  try clear c149
  try clear c150
  try clear c151
  try clear c152
  try clear c153
  try clear c156
  try clear c157
  try clear c158
  try clear c159
  try clear c160
  try clear c162
  try clear c163
  try clear c164
  try clear c165
  try clear c168
  try clear c169
  try clear c170
  try clear c172
  try clear c173
  try clear c176
  try clear c177
  try clear c178
  try clear c179
  try clear c180
  try clear c181
  try clear c182
  try clear c184
  try clear c185
  try clear c186
  try clear c187
  try clear c188
  try clear c189
  try clear c192
  try clear c193
  try clear c194
  try clear c195
  try clear c196
  try clear c198
  try clear c199
  try clear c200
  try clear c201
  try clear c204
  try clear c205
  try clear c206
  try clear c207
  try clear c208
  try clear c209
  try clear c210
  try clear c212
  try clear c213
  try clear c214
  try clear c215
  try clear c216
  try clear c217
  try clear c220
  try clear c221
  try clear c222
  try clear c223
  try clear c224
  try clear c226
  try clear c227
  try clear c228
  try clear c229
  try clear c232
  try clear c233
  try clear c234
  try clear c235
  try clear c236
  try clear c237
  try clear c238
  try clear c240
  try clear c241
  try clear c242
  try clear c243
  try clear c244
  try clear c245
  try clear c248
  try clear c249
  try clear c250
  try clear c251
  try clear c252
  try clear c253
  try clear c254
  try clear c256
  try clear c257
  try clear c258
  try clear c259
  try clear c260
  try clear c261
  try clear hcz111_0
  try clear hcz111_1
  try clear hcz118_0
  try clear hcz118_1
  try clear hcz125_0
  try clear hcz125_1
  try clear hcz130_0
  try clear hcz130_1
  try clear hcz135_0
  try clear hcz135_1
  try clear hcz138_0
  try clear hcz138_1
  try clear hcz147_0
  try clear hcz147_1
  try clear hcz154_0
  try clear hcz154_1
  try clear hcz161_0
  try clear hcz161_1
  try clear hcz166_0
  try clear hcz166_1
  try clear hcz171_0
  try clear hcz171_1
  try clear hcz174_0
  try clear hcz174_1
  try clear hcz183_0
  try clear hcz183_1
  try clear hcz18_0
  try clear hcz18_1
  try clear hcz190_0
  try clear hcz190_1
  try clear hcz197_0
  try clear hcz197_1
  try clear hcz202_0
  try clear hcz202_1
  try clear hcz211_0
  try clear hcz211_1
  try clear hcz218_0
  try clear hcz218_1
  try clear hcz225_0
  try clear hcz225_1
  try clear hcz230_0
  try clear hcz230_1
  try clear hcz239_0
  try clear hcz239_1
  try clear hcz23_0
  try clear hcz23_1
  try clear hcz246_0
  try clear hcz246_1
  try clear hcz255_0
  try clear hcz255_1
  try clear hcz262_0
  try clear hcz262_1
  try clear hcz26_0
  try clear hcz26_1
  try clear hcz28_0
  try clear hcz28_1
  try clear hcz30_0
  try clear hcz30_1
  try clear hcz32_0
  try clear hcz32_1
  try clear hcz37_0
  try clear hcz37_1
  try clear hcz39_0
  try clear hcz39_1
  try clear hcz45_0
  try clear hcz45_1
  try clear hcz53_0
  try clear hcz53_1
  try clear hcz62_0
  try clear hcz62_1
  try clear hcz73_0
  try clear hcz73_1
  try clear hcz84_0
  try clear hcz84_1
  try clear hfz111_0
  try clear hfz111_1
  try clear hfz118_0
  try clear hfz118_1
  try clear hfz125_0
  try clear hfz125_1
  try clear hfz130_0
  try clear hfz130_1
  try clear hfz135_0
  try clear hfz135_1
  try clear hfz138_0
  try clear hfz138_1
  try clear hfz147_0
  try clear hfz147_1
  try clear hfz154_0
  try clear hfz154_1
  try clear hfz161_0
  try clear hfz161_1
  try clear hfz166_0
  try clear hfz166_1
  try clear hfz171_0
  try clear hfz171_1
  try clear hfz174_0
  try clear hfz174_1
  try clear hfz183_0
  try clear hfz183_1
  try clear hfz18_0
  try clear hfz18_1
  try clear hfz190_0
  try clear hfz190_1
  try clear hfz197_0
  try clear hfz197_1
  try clear hfz202_0
  try clear hfz202_1
  try clear hfz211_0
  try clear hfz211_1
  try clear hfz218_0
  try clear hfz218_1
  try clear hfz225_0
  try clear hfz225_1
  try clear hfz230_0
  try clear hfz230_1
  try clear hfz239_0
  try clear hfz239_1
  try clear hfz23_0
  try clear hfz23_1
  try clear hfz246_0
  try clear hfz246_1
  try clear hfz255_0
  try clear hfz255_1
  try clear hfz262_0
  try clear hfz262_1
  try clear hfz26_0
  try clear hfz26_1
  try clear hfz28_0
  try clear hfz28_1
  try clear hfz30_0
  try clear hfz30_1
  try clear hfz32_0
  try clear hfz32_1
  try clear hfz37_0
  try clear hfz37_1
  try clear hfz39_0
  try clear hfz39_1
  try clear hfz45_0
  try clear hfz45_1
  try clear hfz53_0
  try clear hfz53_1
  try clear hfz62_0
  try clear hfz62_1
  try clear hfz73_0
  try clear hfz73_1
  try clear hfz84_0
  try clear hfz84_1
  obtain ⟨kq, x151_15, rfl, HA, HJ15, HO_8, HO_110001, HO_126001, HO_132001, HO_138001, HO_144001, HO_150001, HO_156001, BK101, BK109, BK125, BK131, BK137, BK143, BK149, BK155, HB⟩ := hcut
  cases kq with
  | zero => exact absurd HA.out (by simp [flagstonelaw06_FreeSizes.j0])
  | succ kj15 =>
   have H := HA.out
   clear HA
   simp only [flagstonelaw06_FreeSizes.j0] at H
   by_cases c264 : x151_15 = true
   ·subst c264
    have H1 : (none) = some r := by rw [if_pos rfl] at H; exact H
    clear H
    have H := H1
    clear H1
    cases H
   ·replace c264 := Bool.eq_false_iff.mpr c264
    subst c264
    have H1 : ((flagstonelaw06_Alike.f kj15 t102 t103 a0_0 l0_1).bind fun t164 => (if t164 = 0 then ((flagstoneplain_SameSpans.f kj15 t106 l2).bind fun t165 => (if t165 = true then ((flagstonelaw06_alive.f kj15).bind fun t166 => (some t166)) else (none))) else (none))) = some r := by rw [if_neg (show ¬ (false = true) by decide)] at H; exact H
    clear H
    have H := H1
    clear H1
    replace H := Option.bind_eq_some_iff.mp H
    obtain ⟨t164, A2650, H⟩ := H
    replace H : (if t164 = 0 then ((flagstoneplain_SameSpans.f kj15 t106 l2).bind fun t165 => (if t165 = true then ((flagstonelaw06_alive.f kj15).bind fun t166 => (some t166)) else (none))) else (none)) = some r := H
    have A265 := Aside0.mk A2650
    clear A2650
    by_cases c266 : t164 = 0
    ·rw [if_pos c266] at H
     have c266b0 : (t164 == 0) = true := beq_iff_eq.mpr c266
     have c266b1 : (t164 != 0) = false := bne_eq_false_iff_eq.mpr c266
     clear c266
     replace H := Option.bind_eq_some_iff.mp H
     obtain ⟨t165, A2670, H⟩ := H
     replace H : (if t165 = true then ((flagstonelaw06_alive.f kj15).bind fun t166 => (some t166)) else (none)) = some r := H
     have A267 := Aside0.mk A2670
     clear A2670
     by_cases c268 : t165 = true
     ·subst c268
      have H1 : ((flagstonelaw06_alive.f kj15).bind fun t166 => (some t166)) = some r := by rw [if_pos rfl] at H; exact H
      clear H
      have H := H1
      clear H1
      replace H := Option.bind_eq_some_iff.mp H
      obtain ⟨t166, A2690, H⟩ := H
      replace H : (some t166) = some r := H
      have A269 := Aside0.mk A2690
      clear A2690
      obtain rfl := Option.some.inj H
      have hnb270 := NB109_101.out
      have hnc270 := NB101_109.out
      have hnb271 := NB109_125.out
      have hnc271 := NB125_109.out
      have hnb272 := NB109_131.out
      have hnc272 := NB131_109.out
      have hnb273 := NB109_137.out
      have hnc273 := NB137_109.out
      have hnb274 := NB109_143.out
      have hnc274 := NB143_109.out
      have hnb275 := NB109_149.out
      have hnc275 := NB149_109.out
      have hnb276 := NB109_155.out
      have hnc276 := NB155_109.out
      have hcz277_0 : wc.cell? ⟨gb109, 0, none⟩ = some (.int .i64 t102) := (blk_cell BK109.out 0).trans rfl
      have hcz277_1 : wc.cell? ⟨gb109, 1, none⟩ = some (.slice Ao24 t103.length co24) := (blk_cell BK109.out 1).trans rfl
      have hfz277_0 := blk_frozen BK109.out 0
      have hfz277_1 := blk_frozen BK109.out 1
      have hnb278 := NB101_125.out
      have hnc278 := NB125_101.out
      have hnb279 := NB101_131.out
      have hnc279 := NB131_101.out
      have hnb280 := NB101_137.out
      have hnc280 := NB137_101.out
      have hnb281 := NB101_143.out
      have hnc281 := NB143_101.out
      have hnb282 := NB101_149.out
      have hnc282 := NB149_101.out
      have hnb283 := NB101_155.out
      have hnc283 := NB155_101.out
      have hcz284_0 : wc.cell? ⟨gb101, 0, none⟩ = some (.int .i64 a0_0) := (blk_cell BK101.out 0).trans rfl
      have hcz284_1 : wc.cell? ⟨gb101, 1, none⟩ = some (.slice A0_1 l0_1.length c0_1) := (blk_cell BK101.out 1).trans rfl
      have hfz284_0 := blk_frozen BK101.out 0
      have hfz284_1 := blk_frozen BK101.out 1
      go_wp2_with (first | ((with_reducible refine gate_callee (f := 48) rfl ?_); refine goesL_ (some 154) rfl rfl Try.func48 (by kernel_rfl) rfl #[.agg #[.int .i64 t102, .slice Ao24 t103.length co24], .agg #[.int .i64 a0_0, .slice A0_1 l0_1.length c0_1]] rfl (by (try simp only [List.map_toArray, List.map_cons, List.map_nil]); first | done | rfl | (simp only [List.length_drop, List.length_take]; rfl)) ?_; (with_reducible refine (flagstonelaw06_Alike.calls kj15 t102 _ _ t103 a0_0 _ _ l0_1 t164 _ ?side1 ?side2 ?side3 ?side4 A265.out).mono ?_); (case side1 => repeat (first | exact (Kd.R_reads' HO_110001.out).2.2 | (with_reducible refine Kd.C_alloc ?_ _) | (with_reducible refine Kd.C_drewN ?_ _) | (with_reducible refine Kd.C_drew ?_))); (case side2 => exact (Kd.R_reads' HO_110001.out).2.1); (case side3 => repeat (first | exact (Kd.C_below HR0_1.out HB.out) | (with_reducible refine Kd.C_alloc ?_ _) | (with_reducible refine Kd.C_drewN ?_ _) | (with_reducible refine Kd.C_drew ?_))); (case side4 => exact HC0_1.out); rintro e w285 ⟨rfl, hb⟩; refine ⟨_, rfl, ?_⟩; have n0_ := Aside0.mk (Kd.R_below (by (with_reducible repeat (first | apply Kd.R_alloc | apply Kd.R_drewN | apply Kd.R_drew)); exact HO_8.out) hb); have n1_ := Aside0.mk (Kd.R_below (by (with_reducible repeat (first | apply Kd.R_alloc | apply Kd.R_drewN | apply Kd.R_drew)); exact HO_110001.out) hb); have n2_ := Aside0.mk (Kd.R_below (by (with_reducible repeat (first | apply Kd.R_alloc | apply Kd.R_drewN | apply Kd.R_drew)); exact HO_126001.out) hb); have n3_ := Aside0.mk (Kd.R_below (by (with_reducible repeat (first | apply Kd.R_alloc | apply Kd.R_drewN | apply Kd.R_drew)); exact HO_132001.out) hb); have n4_ := Aside0.mk (Kd.R_below (by (with_reducible repeat (first | apply Kd.R_alloc | apply Kd.R_drewN | apply Kd.R_drew)); exact HO_138001.out) hb); have n5_ := Aside0.mk (Kd.R_below (by (with_reducible repeat (first | apply Kd.R_alloc | apply Kd.R_drewN | apply Kd.R_drew)); exact HO_144001.out) hb); have n6_ := Aside0.mk (Kd.R_below (by (with_reducible repeat (first | apply Kd.R_alloc | apply Kd.R_drewN | apply Kd.R_drew)); exact HO_150001.out) hb); have n7_ := Aside0.mk (Kd.R_below (by (with_reducible repeat (first | apply Kd.R_alloc | apply Kd.R_drewN | apply Kd.R_drew)); exact HO_156001.out) hb); have n8_ := Aside0.mk (blk_below (g := gb101) (o := .cells #[.int .i64 a0_0, .slice A0_1 l0_1.length c0_1] 56 (0, 0)) (by (with_reducible repeat (first | refine blk_drewN ?_ _ | refine blk_drew ?_ | refine blk_alloc ?_ _)); exact BK101.out) hb); have n9_ := Aside0.mk (blk_below (g := gb109) (o := .cells #[.int .i64 t102, .slice Ao24 t103.length co24] 58 (0, 0)) (by (with_reducible repeat (first | refine blk_drewN ?_ _ | refine blk_drew ?_ | refine blk_alloc ?_ _)); exact BK109.out) hb); have n10_ := Aside0.mk (blk_below (g := gb125) (o := .cells #[.int .i64 t120, .slice Ao38 t121.length co38] 58 (0, 0)) (by (with_reducible repeat (first | refine blk_drewN ?_ _ | refine blk_drew ?_ | refine blk_alloc ?_ _)); exact BK125.out) hb); have n11_ := Aside0.mk (blk_below (g := gb131) (o := .cells #[.int .i64 t126, .slice Ao46 t127.length co46] 56 (0, 0)) (by (with_reducible repeat (first | refine blk_drewN ?_ _ | refine blk_drew ?_ | refine blk_alloc ?_ _)); exact BK131.out) hb); have n12_ := Aside0.mk (blk_below (g := gb137) (o := .cells #[.int .i64 t132, .slice Ao54 t133.length co54] 58 (0, 0)) (by (with_reducible repeat (first | refine blk_drewN ?_ _ | refine blk_drew ?_ | refine blk_alloc ?_ _)); exact BK137.out) hb); have n13_ := Aside0.mk (blk_below (g := gb143) (o := .cells #[.int .i64 t138, .slice Ao63 t139.length co63] 56 (0, 0)) (by (with_reducible repeat (first | refine blk_drewN ?_ _ | refine blk_drew ?_ | refine blk_alloc ?_ _)); exact BK143.out) hb); have n14_ := Aside0.mk (blk_below (g := gb149) (o := .cells #[.int .i64 t144, .slice Ao74 t145.length co74] 58 (0, 0)) (by (with_reducible repeat (first | refine blk_drewN ?_ _ | refine blk_drew ?_ | refine blk_alloc ?_ _)); exact BK149.out) hb); have n15_ := Aside0.mk (blk_below (g := gb155) (o := .cells #[.int .i64 t150, .slice Ao85 t151.length co85] 56 (0, 0)) (by (with_reducible repeat (first | refine blk_drewN ?_ _ | refine blk_drew ?_ | refine blk_alloc ?_ _)); exact BK155.out) hb); have n16_ := Aside0.mk (below_step (by repeat (first | (with_reducible first | exact HB.out | apply below_alloc | apply pw_below_drewN | apply below_drew1 | refine below_set ?_ GE101.out | refine below_set ?_ GE109.out | refine below_set ?_ GE125.out | refine below_set ?_ GE131.out | refine below_set ?_ GE137.out | refine below_set ?_ GE143.out | refine below_set ?_ GE149.out | refine below_set ?_ GE155.out) | exact HB.out)) hb); clear HO_8; clear HO_110001; clear HO_126001; clear HO_132001; clear HO_138001; clear HO_144001; clear HO_150001; clear HO_156001; clear BK101; clear BK109; clear BK125; clear BK131; clear BK137; clear BK143; clear BK149; clear BK155; clear HB; have HO_8 := n0_; have HO_110001 := n1_; have HO_126001 := n2_; have HO_132001 := n3_; have HO_138001 := n4_; have HO_144001 := n5_; have HO_150001 := n6_; have HO_156001 := n7_; have BK101 := n8_; have BK109 := n9_; have BK125 := n10_; have BK131 := n11_; have BK137 := n12_; have BK143 := n13_; have BK149 := n14_; have BK155 := n15_; have HB := n16_; clear n0_ n1_ n2_ n3_ n4_ n5_ n6_ n7_ n8_ n9_ n10_ n11_ n12_ n13_ n14_ n15_ n16_; (try clear hb); (try clear hb2); (try clear hk); (try clear hi)) | (go_at_call 49; (with_reducible refine (flagstoneplain_SameSpans.calls kj15 _ _ t106 _ _ l2 true _ ?side1 ?side2 ?side3 ?side4 A267.out).mono ?_); (case side1 => repeat (first | exact (Kd.R_reads' HO_8.out).2.2 | (with_reducible refine Kd.C_alloc ?_ _) | (with_reducible refine Kd.C_drewN ?_ _) | (with_reducible refine Kd.C_drew ?_))); (case side2 => exact (Kd.R_reads' HO_8.out).2.1); (case side3 => repeat (first | exact (Kd.C_below HR2.out HB.out) | (with_reducible refine Kd.C_alloc ?_ _) | (with_reducible refine Kd.C_drewN ?_ _) | (with_reducible refine Kd.C_drew ?_))); (case side4 => exact HC2.out); rintro e w' ⟨rfl, ⟨nd, rfl⟩⟩) | (go_at_call 41; (with_reducible refine (flagstonelaw06_alive.calls kj15  t166 _ A269.out).mono ?_); rintro e w286 ⟨rfl, hb⟩; have n0_ := Aside0.mk (Kd.R_below (by (with_reducible repeat (first | apply Kd.R_alloc | apply Kd.R_drewN | apply Kd.R_drew)); exact HO_8.out) hb); have n1_ := Aside0.mk (Kd.R_below (by (with_reducible repeat (first | apply Kd.R_alloc | apply Kd.R_drewN | apply Kd.R_drew)); exact HO_110001.out) hb); have n2_ := Aside0.mk (Kd.R_below (by (with_reducible repeat (first | apply Kd.R_alloc | apply Kd.R_drewN | apply Kd.R_drew)); exact HO_126001.out) hb); have n3_ := Aside0.mk (Kd.R_below (by (with_reducible repeat (first | apply Kd.R_alloc | apply Kd.R_drewN | apply Kd.R_drew)); exact HO_132001.out) hb); have n4_ := Aside0.mk (Kd.R_below (by (with_reducible repeat (first | apply Kd.R_alloc | apply Kd.R_drewN | apply Kd.R_drew)); exact HO_138001.out) hb); have n5_ := Aside0.mk (Kd.R_below (by (with_reducible repeat (first | apply Kd.R_alloc | apply Kd.R_drewN | apply Kd.R_drew)); exact HO_144001.out) hb); have n6_ := Aside0.mk (Kd.R_below (by (with_reducible repeat (first | apply Kd.R_alloc | apply Kd.R_drewN | apply Kd.R_drew)); exact HO_150001.out) hb); have n7_ := Aside0.mk (Kd.R_below (by (with_reducible repeat (first | apply Kd.R_alloc | apply Kd.R_drewN | apply Kd.R_drew)); exact HO_156001.out) hb); have n8_ := Aside0.mk (blk_below (g := gb101) (o := .cells #[.int .i64 a0_0, .slice A0_1 l0_1.length c0_1] 56 (0, 0)) (by (with_reducible repeat (first | refine blk_drewN ?_ _ | refine blk_drew ?_ | refine blk_alloc ?_ _)); exact BK101.out) hb); have n9_ := Aside0.mk (blk_below (g := gb109) (o := .cells #[.int .i64 t102, .slice Ao24 t103.length co24] 58 (0, 0)) (by (with_reducible repeat (first | refine blk_drewN ?_ _ | refine blk_drew ?_ | refine blk_alloc ?_ _)); exact BK109.out) hb); have n10_ := Aside0.mk (blk_below (g := gb125) (o := .cells #[.int .i64 t120, .slice Ao38 t121.length co38] 58 (0, 0)) (by (with_reducible repeat (first | refine blk_drewN ?_ _ | refine blk_drew ?_ | refine blk_alloc ?_ _)); exact BK125.out) hb); have n11_ := Aside0.mk (blk_below (g := gb131) (o := .cells #[.int .i64 t126, .slice Ao46 t127.length co46] 56 (0, 0)) (by (with_reducible repeat (first | refine blk_drewN ?_ _ | refine blk_drew ?_ | refine blk_alloc ?_ _)); exact BK131.out) hb); have n12_ := Aside0.mk (blk_below (g := gb137) (o := .cells #[.int .i64 t132, .slice Ao54 t133.length co54] 58 (0, 0)) (by (with_reducible repeat (first | refine blk_drewN ?_ _ | refine blk_drew ?_ | refine blk_alloc ?_ _)); exact BK137.out) hb); have n13_ := Aside0.mk (blk_below (g := gb143) (o := .cells #[.int .i64 t138, .slice Ao63 t139.length co63] 56 (0, 0)) (by (with_reducible repeat (first | refine blk_drewN ?_ _ | refine blk_drew ?_ | refine blk_alloc ?_ _)); exact BK143.out) hb); have n14_ := Aside0.mk (blk_below (g := gb149) (o := .cells #[.int .i64 t144, .slice Ao74 t145.length co74] 58 (0, 0)) (by (with_reducible repeat (first | refine blk_drewN ?_ _ | refine blk_drew ?_ | refine blk_alloc ?_ _)); exact BK149.out) hb); have n15_ := Aside0.mk (blk_below (g := gb155) (o := .cells #[.int .i64 t150, .slice Ao85 t151.length co85] 56 (0, 0)) (by (with_reducible repeat (first | refine blk_drewN ?_ _ | refine blk_drew ?_ | refine blk_alloc ?_ _)); exact BK155.out) hb); have n16_ := Aside0.mk (below_step (by repeat (first | (with_reducible first | exact HB.out | apply below_alloc | apply pw_below_drewN | apply below_drew1 | refine below_set ?_ GE101.out | refine below_set ?_ GE109.out | refine below_set ?_ GE125.out | refine below_set ?_ GE131.out | refine below_set ?_ GE137.out | refine below_set ?_ GE143.out | refine below_set ?_ GE149.out | refine below_set ?_ GE155.out) | exact HB.out)) hb); clear HO_8; clear HO_110001; clear HO_126001; clear HO_132001; clear HO_138001; clear HO_144001; clear HO_150001; clear HO_156001; clear BK101; clear BK109; clear BK125; clear BK131; clear BK137; clear BK143; clear BK149; clear BK155; clear HB; have HO_8 := n0_; have HO_110001 := n1_; have HO_126001 := n2_; have HO_132001 := n3_; have HO_138001 := n4_; have HO_144001 := n5_; have HO_150001 := n6_; have HO_156001 := n7_; have BK101 := n8_; have BK109 := n9_; have BK125 := n10_; have BK131 := n11_; have BK137 := n12_; have BK143 := n13_; have BK149 := n14_; have BK155 := n15_; have HB := n16_; clear n0_ n1_ n2_ n3_ n4_ n5_ n6_ n7_ n8_ n9_ n10_ n11_ n12_ n13_ n14_ n15_ n16_; (try clear hb); (try clear hb2); (try clear hk); (try clear hi)))
      go_ret
      exact ⟨by first | rfl | (simp [errW_none, errW_some] <;> rfl) | (simp [*, errW_none, errW_some] <;> rfl), by repeat (first | (with_reducible first | exact HB.out | apply below_alloc | apply pw_below_drewN | apply below_drew1 | refine below_set ?_ GE101.out | refine below_set ?_ GE109.out | refine below_set ?_ GE125.out | refine below_set ?_ GE131.out | refine below_set ?_ GE137.out | refine below_set ?_ GE143.out | refine below_set ?_ GE149.out | refine below_set ?_ GE155.out) | exact HB.out)⟩
     ·replace c268 := Bool.eq_false_iff.mpr c268
      subst c268
      have H1 : (none) = some r := by rw [if_neg (show ¬ (false = true) by decide)] at H; exact H
      clear H
      have H := H1
      clear H1
      cases H
    ·rw [if_neg c266] at H
     cases H
end Go.Proofs.Ytkkfkdncddbaeaa.Fn
namespace Go.Proofs.Ytkkfkdncddbaeaa.Fn
open Go.RowKit Go.Proofs.YtkkfkdncddbaeaaW.PrintWords Go.Proofs.YtkkfkdncddbaeaaW.PrintLast Go.Proofs.YtkkfkdncddbaeaaW.PrintMore
attribute [local go_sem] max2_int min2_int max_two min_two max_three min_three max_four min_four
set_option linter.unusedVariables false
set_option linter.unusedSimpArgs false
theorem trim_G {t : Int} {l : List S40} (h0 : 0 ≤ t) (h1 : t ≤ 65536) (hu : ∀ x ∈ l, 0 ≤ x.f0 ∧ 0 < x.f1 ∧ x.f0 + x.f1 ≤ 65536) : (trimG l t).map toP = Flag.trimS (l.map toP) t := by
  unfold trimG Flag.trimS
  by_cases hl : l = []
  · subst hl; rfl
  · obtain ⟨u, e1, e2, e3, e4⟩ := rd_last hl
    obtain ⟨u2, u1, u3⟩ := hu u e3
    have e5 : l.getLast? = some u := by rw [e4]; simp
    rw [e1, e5]
    show (if wrap64 (u.f0 + u.f1) > t then (if wrap64 (t - u.f0) ≤ 0 then l.dropLast else l.dropLast ++ [⟨u.f0, wrap64 (t - u.f0)⟩]) else l).map toP = (if u.f0 + u.f1 > t then (if t - u.f0 ≤ 0 then (l.map toP).dropLast else (l.map toP).dropLast ++ [⟨u.f0, t - u.f0⟩]) else l.map toP)
    rw [w64 (n := u.f0 + u.f1) (by omega), w64 (n := t - u.f0) (by omega)]
    split
    · split
      · rw [List.map_dropLast]
      · rw [List.map_append, List.map_dropLast]; rfl
    · rfl
theorem resize_K (size : Int) (l : List S40) (t : Int) : ∃ r1 r2 r3, free_Resize.f size l t = some (r1, r2, r3) ∧ (r1, r2.map toP, r3) = Flag.resizeF size (l.map toP) t := by
  unfold free_Resize.f Flag.resizeF
  by_cases hc : (Flag.highF size (l.map toP)).2 = 0
  · rw [if_pos hc, if_pos hc]
    have h6 := high_free hc
    have hs0 := h6.s0
    have hs1 := h6.s1
    have hln := h6.len
    rw [List.length_map] at hln
    have hu : ∀ x ∈ l, 0 ≤ x.f0 ∧ 0 < x.f1 ∧ x.f0 + x.f1 ≤ 65536 := fun x hx => by
      have h := h6.ins _ (List.mem_map_of_mem hx)
      have q1 : 0 < x.f1 := h.n
      have q2 : 0 ≤ x.f0 := h.a
      have q3 : x.f0 + x.f1 ≤ size := h.e
      omega
    by_cases c1 : t < 0 ∨ t > 65536
    · rw [if_pos c1, if_pos c1]
      exact ⟨0, [], 4, rfl, rfl⟩
    · rw [if_neg c1, if_neg c1]
      by_cases c3 : t < (Flag.highF size (l.map toP)).1
      · rw [if_pos c3, if_pos c3]
        exact ⟨0, [], 72, rfl, rfl⟩
      · rw [if_neg c3, if_neg c3]
        by_cases c4 : t > size
        · rw [if_pos c4, if_pos c4]
          have ew : wrap64 (t - size) = t - size := w64 (by omega)
          obtain ⟨a1, a2, a3, a4⟩ := at_split h6 size hs0 hs1
          unfold free_in.f
          rw [a1, Option.bind_some, Option.bind_some, ew, Int.toNat_natCast]
          obtain ⟨r1, r2, r3, e1, e2⟩ := full_F t (inL l (atL l size) ⟨size, t - size⟩)
          rw [e1]
          refine ⟨r1, r2, r3, rfl, ?_⟩
          have hip := in_pure (x := ⟨size, t - size⟩) hs1 (fun y hy => h6.ins _ (List.mem_map_of_mem hy)) hs0 (show 0 < t - size by omega) (show size + (t - size) ≤ 65536 by omega)
          have hip2 : (inL l (atL l size) ⟨size, t - size⟩).map toP = Flag.inS (l.map toP) ⟨size, t - size⟩ := hip
          rw [e2, hip2]
        · rw [if_neg c4, if_neg c4]
          exact ⟨_, _, _, rfl, by rw [trim_G (by omega) (by omega) hu]⟩
  · rw [if_neg hc, if_neg hc]
    exact ⟨0, [], _, rfl, rfl⟩
theorem room_l (l : List S40) (hl : l.length ≤ 1024) (hu : ∀ x ∈ l, 0 < x.f1 ∧ x.f1 ≤ 65536) : ∀ (m i : Nat) (a b : Int), i + m = l.length → 0 ≤ a → a ≤ 65536 * i → ∀ d, ∃ b', free_Room.l0 (m + 1 + d) a b l (l.length : Int) (i : Int) = some (a + Flag.sumS ((l.drop i).map toP), b', 0) := by
  intro m
  induction m with
  | zero =>
    intro i a b hi ha0 ha d
    have e : 0 + 1 + d = d + 1 := by omega
    rw [e, List.drop_eq_nil_of_le (by omega)]
    rw [free_Room.l0, if_neg (by omega)]
    exact ⟨b, by rw [List.map_nil, Flag.sumS, Int.add_zero]⟩
  | succ m ih =>
    intro i a b hi ha0 ha d
    have hil : i < l.length := by omega
    have hx : rd_T40 l (i : Int) = l[i] := by rw [rd40_get l (i : Int) (by omega) (by omega)]; simp
    have hw2 : wrap64 ((i : Int) + 1) = ((i + 1 : Nat) : Int) := by rw [w64 (by omega)]; omega
    obtain ⟨q1, q2⟩ := hu l[i] (List.getElem_mem _)
    have e : m + 1 + 1 + d = (m + 1 + d) + 1 := by omega
    rw [e]
    rw [free_Room.l0, if_pos (by omega), if_pos (by omega), if_pos (by omega), hx, hw2, w64 (n := a + l[i].f1) (by omega), ← List.getElem_cons_drop hil]
    obtain ⟨b', h⟩ := ih (i + 1) (a + l[i].f1) (mx b l[i].f1) (by omega) (by omega) (by omega) d
    refine ⟨b', ?_⟩
    rw [h, List.map_cons, Flag.sumS]
    congr 2
    show a + l[i].f1 + _ = a + (l[i].f1 + _)
    omega
theorem room_K (d : Nat) {size : Int} {l : List S40} (h6 : Flag.Free6 size (l.map toP)) : ∃ b, free_Room.f (1030 + d) size l = some (Flag.sumS (l.map toP), b, 0) := by
  unfold free_Room.f
  rw [check6_K, Option.bind_some, if_pos (Flag.checkF_ok.2 h6)]
  have hln := h6.len
  rw [List.length_map] at hln
  have hs1 := h6.s1
  have e : 1030 + d = l.length + 1 + (1029 + d - l.length) := by omega
  rw [e]
  obtain ⟨b, h⟩ := room_l l hln (fun x hx => by
    have h := h6.ins _ (List.mem_map_of_mem hx)
    have q1 : 0 < x.f1 := h.n
    have q2 : 0 ≤ x.f0 := h.a
    have q3 : x.f0 + x.f1 ≤ size := h.e
    omega) l.length 0 0 0 (by omega) (Int.le_refl _) (by omega) (1029 + d - l.length)
  refine ⟨b, ?_⟩
  rw [List.drop_zero, Int.zero_add] at h
  exact h
theorem insR (x0 x1 size : Int) (h0 : 0 ≤ size) (h1 : size ≤ 65536) : flagstoneref06_inside.f x0 x1 size = some (Flag.insB size ⟨x0, x1⟩) := by
  unfold flagstoneref06_inside.f Flag.insB
  show _ = some (decide (0 < x1 ∧ 0 ≤ x0 ∧ x0 + x1 ≤ size))
  split
  · split
    · split
      · rw [w64 (by omega)]
        congr 1
        exact decide_eq_decide.2 (by omega)
      · congr 1; exact (decide_eq_false (by omega)).symm
    · congr 1; exact (decide_eq_false (by omega)).symm
  · congr 1; exact (decide_eq_false (by omega)).symm
def prevE (l : List S40) (i : Nat) : Int := if 0 < i then (rd_T40 l ((i : Int) - 1)).f0 + (rd_T40 l ((i : Int) - 1)).f1 else -1
theorem refchk_l (size : Int) (h0 : 0 ≤ size) (h1 : size ≤ 65536) (l : List S40) (hl : l.length ≤ 1024) : ∀ (m i : Nat), i + m = l.length → (0 < i → 0 ≤ (rd_T40 l ((i : Int) - 1)).f0 ∧ 0 < (rd_T40 l ((i : Int) - 1)).f1 ∧ (rd_T40 l ((i : Int) - 1)).f0 + (rd_T40 l ((i : Int) - 1)).f1 ≤ size) →
    ∀ d, flagstoneref06_Check.l0 (m + 1 + d) (i : Int) size l = some (if Flag.restF size (prevE l i) ((l.drop i).map toP) = true then 0 else 9) := by
  intro m
  induction m with
  | zero =>
    intro i hi _ d
    have e : 0 + 1 + d = d + 1 := by omega
    rw [e, List.drop_eq_nil_of_le (by omega)]
    rw [flagstoneref06_Check.l0, if_neg (by omega)]
    rfl
  | succ m ih =>
    intro i hi hpv d
    have hil : i < l.length := by omega
    have hx : rd_T40 l (i : Int) = l[i] := by rw [rd40_get l (i : Int) (by omega) (by omega)]; simp
    have hw2 : wrap64 ((i : Int) + 1) = ((i + 1 : Nat) : Int) := by rw [w64 (by omega)]; omega
    have e : m + 1 + 1 + d = (m + 1 + d) + 1 := by omega
    have hstep : rd_T40 l (((i + 1 : Nat) : Int) - 1) = l[i] := by
      have : ((i + 1 : Nat) : Int) - 1 = (i : Int) := by omega
      rw [this, hx]
    rw [e]
    rw [flagstoneref06_Check.l0, if_pos (by omega), if_pos (by omega), hx, insR _ _ _ h0 h1, Option.bind_some, hw2, ← List.getElem_cons_drop hil, List.map_cons, restF_cons]
    by_cases hin : 0 < l[i].f1 ∧ 0 ≤ l[i].f0 ∧ l[i].f0 + l[i].f1 ≤ size
    · have hb : Flag.insB size ⟨l[i].f0, l[i].f1⟩ = true := decide_eq_true hin
      rw [if_pos hb]
      have hnext := ih (i + 1) (by omega) (fun _ => by rw [hstep]; exact ⟨hin.2.1, hin.1, hin.2.2⟩) d
      have hpe : prevE l (i + 1) = l[i].f0 + l[i].f1 := by unfold prevE; rw [if_pos (by omega), hstep]
      rw [hpe] at hnext
      rw [decide_eq_true hin.1, decide_eq_true hin.2.1, decide_eq_true hin.2.2]
      simp only [Bool.true_and]
      by_cases hi0 : (i : Int) > 0
      · obtain ⟨p1, p2, p3⟩ := hpv (by omega)
        have hw3 : wrap64 ((i : Int) - 1) = (i : Int) - 1 := w64 (by omega)
        rw [if_pos hi0, hw3, if_pos (by omega), if_pos (by omega), w64 (n := (rd_T40 l ((i : Int) - 1)).f0 + (rd_T40 l ((i : Int) - 1)).f1) (by omega)]
        have hpi : prevE l i = (rd_T40 l ((i : Int) - 1)).f0 + (rd_T40 l ((i : Int) - 1)).f1 := by unfold prevE; rw [if_pos (by omega)]
        rw [hpi]
        by_cases hc : l[i].f0 ≤ (rd_T40 l ((i : Int) - 1)).f0 + (rd_T40 l ((i : Int) - 1)).f1
        · rw [if_pos hc, decide_eq_false (by omega)]
          simp
        · rw [if_neg hc, hnext, decide_eq_true (by omega)]
          simp
      · rw [if_neg hi0, hnext]
        have hpi : prevE l i = -1 := by unfold prevE; rw [if_neg (by omega)]
        rw [hpi, decide_eq_true (by omega)]
        simp
    · have hb : Flag.insB size ⟨l[i].f0, l[i].f1⟩ = false := decide_eq_false hin
      rw [hb, if_neg Bool.false_ne_true]
      have : (decide (0 < l[i].f1) && decide (0 ≤ l[i].f0) && decide (l[i].f0 + l[i].f1 ≤ size)) = false := by
        rw [Bool.eq_false_iff]
        intro h
        simp only [Bool.and_eq_true, decide_eq_true_eq] at h
        exact hin ⟨h.1.1, h.1.2, h.2⟩
      rw [this]
      simp
theorem refchk_K (d : Nat) (size : Int) (l : List S40) : flagstoneref06_Check.f (1030 + d) size l = some (Flag.checkF size (l.map toP)) := by
  unfold flagstoneref06_Check.f Flag.checkF
  have hk : 1030 + d = (1029 + d) + 1 := by omega
  rw [hk]
  by_cases h0 : size < 0
  · rw [if_pos h0, if_neg (by omega)]; unfold flagstoneref06_Check.j0; rfl
  · by_cases h1 : size > 65536
    · rw [if_neg h0, if_pos h1, if_neg (by omega)]; unfold flagstoneref06_Check.j0; rfl
    · rw [if_neg h0, if_neg h1]
      by_cases h2 : (l.length : Int) > 1024
      · rw [decide_eq_true h2, if_neg (by rw [List.length_map]; omega)]; unfold flagstoneref06_Check.j0; rfl
      · rw [decide_eq_false h2]
        rw [flagstoneref06_Check.j0, if_neg Bool.false_ne_true]
        have e : 1029 + d = l.length + 1 + (1028 + d - l.length) := by omega
        rw [e]
        have h := refchk_l size (by omega) (by omega) l (by omega) l.length 0 (by omega) (by intro h; omega) (1028 + d - l.length)
        have hp0 : prevE l 0 = -1 := by unfold prevE; rw [if_neg (by omega)]
        rw [hp0, List.drop_zero] at h
        rw [show ((0 : Nat) : Int) = 0 from rfl] at h
        rw [h]
        congr 1
        have e : ((0 ≤ size ∧ size ≤ 65536) ∧ (l.map toP).length ≤ 1024 ∧ Flag.restF size (-1) (l.map toP) = true) ↔ Flag.restF size (-1) (l.map toP) = true := ⟨fun h => h.2.2, fun h => ⟨by omega, by rw [List.length_map]; omega, h⟩⟩
        by_cases hr : Flag.restF size (-1) (l.map toP) = true
        · rw [if_pos hr, if_pos (e.2 hr)]
        · rw [if_neg hr, if_neg (fun h => hr (e.1 h))]
end Go.Proofs.Ytkkfkdncddbaeaa.Fn
namespace Go.Proofs.Ytkkfkdncddbaeaa.Fn
open Go.RowKit Go.Proofs.YtkkfkdncddbaeaaW.PrintWords Go.Proofs.YtkkfkdncddbaeaaW.PrintLast Go.Proofs.YtkkfkdncddbaeaaW.PrintMore
attribute [local go_sem] max2_int min2_int max_two min_two max_three min_three max_four min_four
set_option linter.unusedVariables false
set_option linter.unusedSimpArgs false
set_option maxRecDepth 100000 in
theorem alive6 : flagstonelaw06_alive.f 60 = some true := by kernel_rfl
end Go.Proofs.Ytkkfkdncddbaeaa.Fn
namespace Go.Proofs.Ytkkfkdncddbaeaa.Fn
open Go.RowKit Go.Proofs.YtkkfkdncddbaeaaW.PrintWords Go.Proofs.YtkkfkdncddbaeaaW.PrintLast Go.Proofs.YtkkfkdncddbaeaaW.PrintMore
attribute [local go_sem] max2_int min2_int max_two min_two max_three min_three max_four min_four
set_option linter.unusedVariables false
set_option linter.unusedSimpArgs false
theorem num6 (a : Int) : flagstonelaw06_num.f a = some a := by unfold flagstonelaw06_num.f; rfl
theorem copyS_x {l : List S40} (hl : l.length < 8796093022208) : flagstoneplain_CopySpans.f l = some l := by
  unfold flagstoneplain_CopySpans.f
  rw [if_pos (by simp; omega), List.nil_append]
theorem alive6_k (k : Nat) : flagstonelaw06_alive.f (60 + k) = some true := by
  induction k with
  | zero => exact alive6
  | succ k ih => exact flagstonelaw06_alive.mono (60 + k) _ ih
theorem of6 (s : Int) (l : List S40) (h : l.length * 16 ≤ 140737488351232) : flagstonelaw06_Of.f s l = some (s, l) := by
  unfold flagstonelaw06_Of.f; rw [copyS_x (by omega)]; rfl
end Go.Proofs.Ytkkfkdncddbaeaa.Fn
namespace Go.Proofs.Ytkkfkdncddbaeaa.Fn
open Go.RowKit Go.Proofs.YtkkfkdncddbaeaaW.PrintWords Go.Proofs.YtkkfkdncddbaeaaW.PrintLast Go.Proofs.YtkkfkdncddbaeaaW.PrintMore
attribute [local go_sem] max2_int min2_int max_two min_two max_three min_three max_four min_four
set_option linter.unusedVariables false
set_option linter.unusedSimpArgs false
theorem rhigh_K (d : Nat) (size : Int) (l : List S40) : flagstoneref06_Highest.f (1030 + d) size l = some (Flag.highF size (l.map toP)) := by
  unfold flagstoneref06_Highest.f Flag.highF
  rw [refchk_K, Option.bind_some]
  by_cases hc : Flag.checkF size (l.map toP) = 0
  · rw [if_pos hc, if_pos hc]
    have h6 := Flag.checkF_ok.1 hc
    by_cases hl : l = []
    · subst hl
      have ew : wrap64 (((([] : List S40).length : Nat) : Int) - 1) = -1 := by rw [List.length_nil]; exact w64 (by omega)
      rw [ew, if_neg (by omega)]
      rfl
    · have hp : 0 < l.length := List.length_pos_iff.2 hl
      obtain ⟨u, e1, e2, e3, e4⟩ := rd_last hl
      have hu := h6.ins _ (List.mem_map_of_mem e3)
      have u1 : 0 < u.f1 := hu.n
      have u2 : 0 ≤ u.f0 := hu.a
      have u3 : u.f0 + u.f1 ≤ size := hu.e
      have hs1 := h6.s1
      have hln := h6.len
      rw [List.length_map] at hln
      have ew : wrap64 ((l.length : Int) - 1) = (l.length : Int) - 1 := w64 (by omega)
      rw [e1, ew, e2, if_pos (by omega), if_pos (by omega), if_pos (by omega), w64 (n := u.f0 + u.f1) (by omega)]
      show _ = some (if u.f0 + u.f1 = size then (u.f0, 0) else (size, 0))
      split <;> rfl
  · rw [if_neg hc, if_neg hc]
    rcases Flag.checkF_or size (l.map toP) with h | h
    · exact absurd h hc
    · rw [h]
theorem rroom_l (size : Int) (l : List S40) (hl : l.length ≤ 1024) : ∀ (m i : Nat) (a b : Int), i + m = l.length → ∀ d, flagstoneref06_Room.l0 (m + 1 + d) a b (i : Int) size l = free_Room.l0 (m + 1 + d) a b l (l.length : Int) (i : Int) := by
  intro m
  induction m with
  | zero =>
    intro i a b hi d
    have e : 0 + 1 + d = d + 1 := by omega
    rw [e, free_Room.l0, flagstoneref06_Room.l0, if_neg (by omega), if_neg (by omega)]
  | succ m ih =>
    intro i a b hi d
    have hil : i < l.length := by omega
    have hw2 : wrap64 ((i : Int) + 1) = ((i + 1 : Nat) : Int) := by rw [w64 (by omega)]; omega
    have e : m + 1 + 1 + d = (m + 1 + d) + 1 := by omega
    rw [e, free_Room.l0, flagstoneref06_Room.l0, if_pos (by omega), if_pos (by omega), if_pos (by omega), if_pos (by omega), if_pos (by omega), hw2]
    exact ih (i + 1) _ _ (by omega) d
theorem rroom_K (d : Nat) (size : Int) (l : List S40) : ∃ a b c, free_Room.f (1030 + d) size l = some (a, b, c) ∧ flagstoneref06_Room.f (1030 + d) size l = some (a, b, c) := by
  by_cases hc : Flag.checkF size (l.map toP) = 0
  · have h6 := Flag.checkF_ok.1 hc
    obtain ⟨b, e⟩ := room_K d h6
    refine ⟨_, b, 0, e, ?_⟩
    rw [← e]
    have hln := h6.len
    rw [List.length_map] at hln
    unfold free_Room.f flagstoneref06_Room.f
    rw [check6_K, refchk_K, Option.bind_some, Option.bind_some, if_pos hc, if_pos hc]
    have e9 : 1030 + d = l.length + 1 + (1029 + d - l.length) := by omega
    rw [e9]
    exact rroom_l size l hln l.length 0 0 0 (by omega) _
  · refine ⟨0, 0, 9, ?_, ?_⟩
    · unfold free_Room.f
      rw [check6_K, Option.bind_some, if_neg hc]
      rcases Flag.checkF_or size (l.map toP) with h | h
      · exact absurd h hc
      · rw [h]
    · unfold flagstoneref06_Room.f
      rw [refchk_K, Option.bind_some, if_neg hc]
theorem cutG_toP {x y : S40} (h1 : 0 ≤ x.f0 ∧ 0 ≤ x.f1 ∧ x.f0 + x.f1 ≤ 65536) (h2 : 0 ≤ y.f0 ∧ 0 < y.f1 ∧ y.f0 + y.f1 ≤ 65536) : (cutG x y).map toP = Flag.cutOf (toP y) (toP x) := by
  unfold cutG Flag.cutOf
  rw [w64 (n := y.f0 + y.f1) (by omega), w64 (n := x.f0 + x.f1) (by omega), mx_max, mn_min]
  rw [w64 (n := max y.f0 x.f0 - y.f0) (by omega), w64 (n := y.f0 + y.f1 - min (y.f0 + y.f1) (x.f0 + x.f1)) (by omega)]
  show _ = if min (y.f0 + y.f1) (x.f0 + x.f1) ≤ max y.f0 x.f0 then [toP y] else _
  split
  · rfl
  · rw [List.map_append]
    congr 1
    · show _ = if y.f0 < max y.f0 x.f0 then _ else _
      split <;> rfl
    · show _ = if min (y.f0 + y.f1) (x.f0 + x.f1) < y.f0 + y.f1 then _ else _
      split <;> rfl
theorem cutL_toP {x : S40} (h1 : 0 ≤ x.f0 ∧ 0 ≤ x.f1 ∧ x.f0 + x.f1 ≤ 65536) {l : List S40} (h2 : ∀ y ∈ l, 0 ≤ y.f0 ∧ 0 < y.f1 ∧ y.f0 + y.f1 ≤ 65536) : (l.flatMap (cutG x)).map toP = Flag.cutS6 (l.map toP) (toP x) := by
  unfold Flag.cutS6
  induction l with
  | nil => rfl
  | cons y t ih =>
    rw [List.flatMap_cons, List.map_append, List.map_cons, List.flatMap_cons, cutG_toP h1 (h2 y List.mem_cons_self), ih fun z hz => h2 z (List.mem_cons_of_mem _ hz)]
theorem with_l (l : List S40) (hl : l.length ≤ 1024) (hu : ∀ y ∈ l, 0 ≤ y.f0 ∧ 0 < y.f1 ∧ y.f0 + y.f1 ≤ 65536) : ∀ (m i : Nat) (o : List S40) (fl : Bool) (x0 x1 : Int), i + m = l.length → o.length ≤ 2 * i → 0 ≤ x0 → 0 ≤ x1 → x0 + x1 ≤ 65536 * (i + 1) →
    ∀ d, ∃ r, flagstoneref06_with.l0 (m + 1 + d) l o fl (i : Int) x0 x1 = some r ∧ r.map toP = Flag.withG ((l.drop i).map toP) ⟨x0, x1⟩ fl (o.map toP) := by
  intro m
  induction m with
  | zero =>
    intro i o fl x0 x1 hi ho h0 h1 h2 d
    have e : 0 + 1 + d = d + 1 := by omega
    rw [e, List.drop_eq_nil_of_le (by omega), flagstoneref06_with.l0, if_neg (by omega), List.map_nil, Flag.withG]
    cases fl with
    | true => rw [if_pos rfl, if_pos rfl]; exact ⟨_, rfl, rfl⟩
    | false => rw [if_neg Bool.false_ne_true, if_neg Bool.false_ne_true, if_pos (by omega)]; exact ⟨_, rfl, by rw [List.map_append]; rfl⟩
  | succ m ih =>
    intro i o fl x0 x1 hi ho h0 h1 h2 d
    have hil : i < l.length := by omega
    have hx : rd_T40 l (i : Int) = l[i] := by rw [rd40_get l (i : Int) (by omega) (by omega)]; simp
    have hw2 : wrap64 ((i : Int) + 1) = ((i + 1 : Nat) : Int) := by rw [w64 (by omega)]; omega
    obtain ⟨q1, q2, q3⟩ := hu l[i] (List.getElem_mem _)
    have e : m + 1 + 1 + d = (m + 1 + d) + 1 := by omega
    rw [e, flagstoneref06_with.l0, if_pos (by omega), if_pos (by omega), hx, hw2, w64 (n := l[i].f0 + l[i].f1) (by omega), w64 (n := l[i].f1 + x1) (by omega), w64 (n := x0 + x1) (by omega), w64 (n := x1 + l[i].f1) (by omega), ← List.getElem_cons_drop hil, List.map_cons, Flag.withG]
    show ∃ r : List S40, _ ∧ r.map toP = (if l[i].f0 + l[i].f1 = x0 then Flag.withG _ _ _ _ else if x0 + x1 = l[i].f0 then Flag.withG _ _ _ _ else if l[i].f0 < x0 then Flag.withG _ _ _ _ else Flag.withG _ _ _ _)
    by_cases c1 : l[i].f0 + l[i].f1 = x0
    · rw [if_pos c1, if_pos c1]
      exact ih (i + 1) o fl _ _ (by omega) (by omega) (by omega) (by omega) (by omega) d
    · rw [if_neg c1, if_neg c1]
      by_cases c2 : x0 + x1 = l[i].f0
      · rw [if_pos c2, if_pos c2]
        exact ih (i + 1) o fl _ _ (by omega) (by omega) (by omega) (by omega) (by omega) d
      · rw [if_neg c2, if_neg c2]
        by_cases c3 : l[i].f0 < x0
        · rw [if_pos c3, if_pos c3, if_pos (by omega)]
          obtain ⟨r, r1, r2⟩ := ih (i + 1) (o ++ [(⟨l[i].f0, l[i].f1⟩ : S40)]) fl x0 x1 (by omega) (by rw [List.length_append, List.length_singleton]; omega) (by omega) (by omega) (by omega) d
          exact ⟨r, r1, by rw [r2, List.map_append]; rfl⟩
        · rw [if_neg c3, if_neg c3]
          cases fl with
          | true =>
            rw [if_pos rfl, if_pos rfl, if_pos (by omega)]
            obtain ⟨r, r1, r2⟩ := ih (i + 1) (o ++ [(⟨l[i].f0, l[i].f1⟩ : S40)]) true x0 x1 (by omega) (by rw [List.length_append, List.length_singleton]; omega) (by omega) (by omega) (by omega) d
            exact ⟨r, r1, by rw [r2, List.map_append]; rfl⟩
          | false =>
            rw [if_neg Bool.false_ne_true, if_neg Bool.false_ne_true, if_pos (by omega), Option.bind_some, if_pos (by rw [List.length_append, List.length_singleton]; omega)]
            obtain ⟨r, r1, r2⟩ := ih (i + 1) (o ++ [(⟨x0, x1⟩ : S40)] ++ [(⟨l[i].f0, l[i].f1⟩ : S40)]) true x0 x1 (by omega) (by rw [List.length_append, List.length_append, List.length_singleton, List.length_singleton]; omega) (by omega) (by omega) (by omega) d
            exact ⟨r, r1, by rw [r2, List.map_append, List.map_append]; rfl⟩
theorem rresize_K (d : Nat) (size : Int) (l : List S40) (t : Int) : ∃ r1 r2 r3, flagstoneref06_Resize.f (1030 + d + 1) size l t = some (r1, r2, r3) ∧ (r1, r2.map toP, r3) = Flag.resizeR size (l.map toP) t := by
  unfold flagstoneref06_Resize.f Flag.resizeR
  have hh : flagstoneref06_Highest.f (1030 + d + 1) size l = some (Flag.highF size (l.map toP)) := rhigh_K (d + 1) size l
  rw [hh, Option.bind_some]
  by_cases hz : (Flag.highF size (l.map toP)).2 = 0
  · rw [if_pos hz, if_pos hz]
    have h6 := Flag.highF_free hz
    have hs0 := h6.s0; have hs1 := h6.s1
    have hln := h6.len
    rw [List.length_map] at hln
    have hu : ∀ y ∈ l, 0 ≤ y.f0 ∧ 0 < y.f1 ∧ y.f0 + y.f1 ≤ 65536 := fun y hy => by
      have h := h6.ins _ (List.mem_map_of_mem hy)
      have q1 : 0 < y.f1 := h.n
      have q2 : 0 ≤ y.f0 := h.a
      have q3 : y.f0 + y.f1 ≤ size := h.e
      omega
    have hj : ∀ b, (if t < 0 then flagstoneref06_Resize.j0 (1030 + d + 1) t (Flag.highF size (l.map toP)).1 true size l else flagstoneref06_Resize.j0 (1030 + d + 1) t (Flag.highF size (l.map toP)).1 (decide (t > 65536)) size l) = b → flagstoneref06_Resize.j0 (1030 + d + 1) t (Flag.highF size (l.map toP)).1 (decide (t < 0 ∨ t > 65536)) size l = b := by
      intro b hb
      by_cases c : t < 0
      · rw [if_pos c] at hb
        rw [decide_eq_true (.inl c : t < 0 ∨ t > 65536)]; exact hb
      · rw [if_neg c] at hb
        have : decide (t < 0 ∨ t > 65536) = decide (t > 65536) := by
          by_cases c2 : t > 65536
          · rw [decide_eq_true c2, decide_eq_true (.inr c2 : t < 0 ∨ t > 65536)]
          · rw [decide_eq_false c2, decide_eq_false (by omega)]
        rw [this]; exact hb
    rw [← hj _ rfl, flagstoneref06_Resize.j0]
    by_cases c0 : t < 0 ∨ t > 65536
    · rw [if_pos (decide_eq_true c0), if_pos c0]
      exact ⟨0, [], 4, rfl, rfl⟩
    · rw [if_neg (by rw [decide_eq_false c0]; exact Bool.false_ne_true), if_neg c0]
      by_cases c1 : t < (Flag.highF size (l.map toP)).1
      · rw [if_pos c1, if_pos c1]; exact ⟨0, [], 72, rfl, rfl⟩
      · rw [if_neg c1, if_neg c1]
        by_cases c2 : t < size
        · rw [if_pos c2, if_pos c2, w64 (n := size - t) (by omega)]
          unfold flagstoneref06_without.f
          rw [if_pos (by omega), Option.bind_some]
          exact ⟨_, _, _, rfl, by rw [cutL_toP (x := ⟨t, size - t⟩) ⟨by show 0 ≤ t; omega, by show 0 ≤ size - t; omega, by show t + (size - t) ≤ 65536; omega⟩ hu]; rfl⟩
        · rw [if_neg c2, if_neg c2]
          by_cases c3 : t = size
          · rw [if_pos c3, if_pos c3]
            unfold flagstoneref06_Own.f
            rw [if_pos (by simp; omega), Option.bind_some]
            exact ⟨_, _, _, rfl, rfl⟩
          · rw [if_neg c3, if_neg c3, w64 (n := t - size) (by omega)]
            unfold flagstoneref06_with.f
            have e9 : 1030 + d = l.length + 1 + (1029 + d - l.length) := by omega
            rw [e9]
            obtain ⟨r, r1, r2⟩ := with_l l hln hu l.length 0 [] false size (t - size) (by omega) (by simp) (by omega) (by omega) (by omega) (1029 + d - l.length)
            rw [List.drop_zero, List.map_nil] at r2
            have r1' : flagstoneref06_with.l0 (l.length + 1 + (1029 + d - l.length)) l [] false 0 size (t - size) = some r := r1
            rw [r1', Option.bind_some, ← r2]
            unfold Flag.fullF
            rw [List.length_map]
            split
            · exact ⟨_, _, _, rfl, rfl⟩
            · exact ⟨_, _, _, rfl, rfl⟩
  · rw [if_neg hz, if_neg hz]
    exact ⟨0, [], _, rfl, rfl⟩
theorem fnew_K (k : Nat) (size : Int) : free_New.f (k + 1) size = some (if size < 0 ∨ size > 65536 then (0, [], 4) else if size > 0 then (size, [⟨0, size⟩], 0) else (size, [], 0)) := by
  unfold free_New.f
  by_cases c1 : size < 0
  · rw [if_pos c1, if_pos (.inl c1), free_New.j0, if_pos rfl]
  · rw [if_neg c1, free_New.j0]
    by_cases c2 : size > 65536
    · rw [if_pos (decide_eq_true c2), if_pos (.inr c2)]
    · have c0 : ¬ (size < 0 ∨ size > 65536) := by omega
      rw [if_neg (by rw [decide_eq_false c2]; exact Bool.false_ne_true), if_neg c0]
      by_cases c3 : size > 0
      · rw [if_pos c3, if_pos c3]
      · rw [if_neg c3, if_neg c3]
theorem rnew_K (k : Nat) (size : Int) : flagstoneref06_New.f (k + 1) size = some (if size < 0 ∨ size > 65536 then (0, [], 4) else if size > 0 then (size, [⟨0, size⟩], 0) else (size, [], 0)) := by
  unfold flagstoneref06_New.f
  by_cases c1 : size < 0
  · rw [if_pos c1, if_pos (.inl c1), flagstoneref06_New.j0, if_pos rfl]
  · rw [if_neg c1, flagstoneref06_New.j0]
    by_cases c2 : size > 65536
    · rw [if_pos (decide_eq_true c2), if_pos (.inr c2)]
    · have c0 : ¬ (size < 0 ∨ size > 65536) := by omega
      rw [if_neg (by rw [decide_eq_false c2]; exact Bool.false_ne_true), if_neg c0]
      by_cases c3 : size > 0
      · rw [if_pos c3, if_neg (by omega)]
      · have c4 : size = 0 := by omega
        rw [if_neg c3, if_pos c4, c4]
theorem rwo_l (size : Int) (h0 : 0 ≤ size) (h1 : size ≤ 65536) (l : List S40) (hl : l.length ≤ 1024) : ∀ (m i : Nat) (s : List S40), i + m = l.length → Flag.NFs (s.map toP) → (∀ y ∈ s, 0 ≤ y.f0 ∧ 0 < y.f1 ∧ y.f0 + y.f1 ≤ 65536) → s.length ≤ 1 + i →
    ∀ d, ∃ r1 r2 r3, flagstoneref06_Without.l0 (m + 1 + d) size l (i : Int) size s = some (r1, r2, r3) ∧ (r1, r2.map toP, r3) = if ((l.drop i).map toP).all (Flag.insB size) = true then Flag.fullF size (((l.drop i).map toP).foldl Flag.cutS6 (s.map toP)) else (0, [], 4) := by
  intro m
  induction m with
  | zero =>
    intro i s hi hn hu hs d
    have e : 0 + 1 + d = d + 1 := by omega
    rw [e, List.drop_eq_nil_of_le (by omega), flagstoneref06_Without.l0, if_neg (by omega), List.map_nil, List.all_nil, if_pos rfl, List.foldl_nil]
    unfold Flag.fullF
    rw [List.length_map]
    split
    · exact ⟨_, _, _, rfl, rfl⟩
    · exact ⟨_, _, _, rfl, rfl⟩
  | succ m ih =>
    intro i s hi hn hu hs d
    have hil : i < l.length := by omega
    have hx : rd_T40 l (i : Int) = l[i] := by rw [rd40_get l (i : Int) (by omega) (by omega)]; simp
    have hw2 : wrap64 ((i : Int) + 1) = ((i + 1 : Nat) : Int) := by rw [w64 (by omega)]; omega
    have e : m + 1 + 1 + d = (m + 1 + d) + 1 := by omega
    rw [e, flagstoneref06_Without.l0, if_pos (by omega), if_pos (by omega), hx, hw2, insR _ _ _ h0 h1, Option.bind_some, ← List.getElem_cons_drop hil, List.map_cons, List.all_cons, List.foldl_cons]
    show ∃ r1 r2 r3, (if Flag.insB size (toP l[i]) = true then _ else _) = _ ∧ _
    by_cases hc : Flag.insB size (toP l[i]) = true
    · rw [if_pos hc, hc, Bool.true_and]
      have hI := Flag.insB_iff.1 hc
      have i1 : 0 < l[i].f1 := hI.n
      have i2 : 0 ≤ l[i].f0 := hI.a
      have i3 : l[i].f0 + l[i].f1 ≤ size := hI.e
      have hcut : (s.flatMap (cutG ⟨l[i].f0, l[i].f1⟩)).map toP = Flag.cutS6 (s.map toP) (toP l[i]) := cutL_toP (x := l[i]) ⟨i2, by omega, by omega⟩ hu
      obtain ⟨s1, s2, s3⟩ := Flag.cutS6_spec (x := toP l[i]) hn (show 0 ≤ l[i].f1 by omega)
      have hlen := Flag.cutS6_len (x := toP l[i]) hn
      rw [← hcut, List.length_map, List.length_map] at hlen
      rw [← hcut] at s1 s3
      unfold flagstoneref06_without.f
      rw [if_pos (by omega), Option.bind_some]
      have := ih (i + 1) (s.flatMap (cutG ⟨l[i].f0, l[i].f1⟩)) (by omega) s1 (fun y hy => by
        obtain ⟨z, hz, z1, z2⟩ := s3 (toP y) (List.mem_map_of_mem hy)
        obtain ⟨u, hu', rfl⟩ := List.mem_map.1 hz
        have q := hu u hu'
        have q2 := s1.all _ (List.mem_map_of_mem hy)
        have w1 : u.f0 ≤ y.f0 := z1
        have w2 : y.f0 + y.f1 ≤ u.f0 + u.f1 := z2
        have w3 : 0 < y.f1 := q2
        omega) (by omega) d
      rw [hcut] at this
      exact this
    · rw [if_neg hc]
      have : Flag.insB size (toP l[i]) = false := by simpa using hc
      rw [this, Bool.false_and, if_neg Bool.false_ne_true]
      exact ⟨0, [], 4, rfl, rfl⟩
theorem rwithout_K (d : Nat) (size : Int) (l : List S40) : ∃ r1 r2 r3, flagstoneref06_Without.f (1030 + d) size l = some (r1, r2, r3) ∧ (r1, r2.map toP, r3) = Flag.wRef size (l.map toP) := by
  unfold flagstoneref06_Without.f Flag.wRef
  have e0 : 1030 + d = (1029 + d) + 1 := by omega
  rw [e0, rnew_K, Option.bind_some, List.length_map]
  by_cases c0 : size < 0 ∨ size > 65536
  · rw [if_pos c0, if_pos c0]
    exact ⟨0, [], 4, rfl, rfl⟩
  · rw [if_neg c0, if_neg c0]
    have hw : ∀ s : List S40, Flag.NFs (s.map toP) → (∀ y ∈ s, 0 ≤ y.f0 ∧ 0 < y.f1 ∧ y.f0 + y.f1 ≤ 65536) → s.length ≤ 1 → Flag.newS size = s.map toP →
        ∃ r1 r2 r3, (if (l.length : Int) > 1024 then some (0, [], 3) else flagstoneref06_Without.l0 (1029 + d + 1) size l 0 size s) = some (r1, r2, r3) ∧ (r1, r2.map toP, r3) = if (l.length : Int) > 1024 then (0, [], 3) else if (l.map toP).all (Flag.insB size) = true then Flag.fullF size ((l.map toP).foldl Flag.cutS6 (Flag.newS size)) else (0, [], 4) := by
      intro s hs hu hl1 he
      by_cases c1 : (l.length : Int) > 1024
      · rw [if_pos c1, if_pos c1]; exact ⟨0, [], 3, rfl, rfl⟩
      · rw [if_neg c1, if_neg c1, he]
        have e9 : 1029 + d + 1 = l.length + 1 + (1029 + d - l.length) := by omega
        rw [e9]
        have := rwo_l size (by omega) (by omega) l (by omega) l.length 0 s (by omega) hs hu (by omega) (1029 + d - l.length)
        rw [List.drop_zero] at this
        exact this
    by_cases c3 : size > 0
    · rw [if_pos c3]
      exact hw [⟨0, size⟩] (show 0 < size by omega) (fun y hy => by
        obtain rfl : y = ⟨0, size⟩ := by simpa using hy
        show (0 : Int) ≤ 0 ∧ 0 < size ∧ 0 + size ≤ 65536
        omega) (Nat.le_refl _) (by unfold Flag.newS; rw [if_pos c3]; rfl)
    · rw [if_neg c3]
      exact hw [] trivial (by intro y hy; cases hy) (Nat.zero_le _) (by unfold Flag.newS; rw [if_neg c3]; rfl)
end Go.Proofs.Ytkkfkdncddbaeaa.Fn
namespace Go.Proofs.Ytkkfkdncddbaeaa.Fn
open Go.RowKit Go.Proofs.YtkkfkdncddbaeaaW.PrintWords Go.Proofs.YtkkfkdncddbaeaaW.PrintLast Go.Proofs.YtkkfkdncddbaeaaW.PrintMore
attribute [local go_sem] max2_int min2_int max_two min_two max_three min_three max_four min_four
set_option linter.unusedVariables false
set_option linter.unusedSimpArgs false
theorem sameS_any (l : List S40) (hl : l.length * 16 ≤ 140737488351232) : ∀ m i : Nat, i + m = l.length → ∀ d, flagstoneplain_SameSpans.l0 (m + 1 + d) l l (i : Int) = some true := by
  intro m
  induction m with
  | zero =>
    intro i hi d
    have e : 0 + 1 + d = d + 1 := by omega
    rw [e, flagstoneplain_SameSpans.l0, if_neg (by omega)]
  | succ m ih =>
    intro i hi d
    have hw2 : wrap64 ((i : Int) + 1) = ((i + 1 : Nat) : Int) := by rw [w64 (by omega)]; omega
    have e : m + 1 + 1 + d = (m + 1 + d) + 1 := by omega
    rw [e]
    unfold flagstoneplain_SameSpans.l0
    rw [if_pos (by omega), if_pos (by omega), if_pos (by omega), if_neg (by simp), hw2]
    exact ih (i + 1) (by omega) d
theorem same_any (l : List S40) (hl : l.length * 16 ≤ 140737488351232) {k : Nat} (hk : l.length < k) : flagstoneplain_SameSpans.f k l l = some true := by
  obtain ⟨d, rfl⟩ : ∃ d, k = l.length + 1 + d := ⟨k - l.length - 1, by omega⟩
  unfold flagstoneplain_SameSpans.f
  rw [if_pos rfl]
  exact sameS_any l hl l.length 0 (by omega) d
theorem alike_any (s : Int) (l : List S40) (hl : l.length * 16 ≤ 140737488351232) {k : Nat} (hk : l.length < k) : flagstonelaw06_Alike.f k s l s l = some 0 := by
  unfold flagstonelaw06_Alike.f
  rw [if_pos rfl, same_any l hl hk, Option.bind_some, if_pos rfl]
theorem full_len {s : Int} {l : List Flag.Sp} : (Flag.fullF s l).2.1.length ≤ 1024 := by
  unfold Flag.fullF
  split
  · exact Nat.zero_le _
  · show l.length ≤ 1024; omega
theorem wRef_len (s : Int) (u : List Flag.Sp) : (Flag.wRef s u).2.1.length ≤ 1024 := by
  unfold Flag.wRef
  split
  · exact Nat.zero_le _
  · split
    · exact Nat.zero_le _
    · split
      · exact full_len
      · exact Nat.zero_le _
theorem cut_len' {s t : Int} {l : List Flag.Sp} (h : Flag.Free6 s l) : (Flag.cutS6 l ⟨t, s - t⟩).length ≤ 1025 := by
  have := Flag.cutS6_len (x := ⟨t, s - t⟩) h.nf
  have := h.len
  omega
theorem resizeR_len (s : Int) (l : List Flag.Sp) (t : Int) : (Flag.resizeR s l t).2.1.length ≤ 1025 := by
  unfold Flag.resizeR
  by_cases hz : (Flag.highF s l).2 = 0
  · have h6 := Flag.highF_free hz
    rw [if_pos hz]
    split
    · exact Nat.zero_le _
    · split
      · exact Nat.zero_le _
      · split
        · exact cut_len' h6
        · split
          · have := h6.len; show l.length ≤ 1025; omega
          · have := full_len (s := t) (l := Flag.withG l ⟨s, t - s⟩ false []); omega
  · rw [if_neg hz]; exact Nat.zero_le _
theorem sizes_row (s : Int) (l : List S40) (a : Int) (u : List S40) (hl : l.length * 16 ≤ 140737488351232) (hu : u.length * 16 ≤ 140737488351232) : ∃ k, flagstonelaw06_FreeSizes.f k s l a u = some true := by
  obtain ⟨d, hd⟩ : ∃ d, d = l.length + u.length + 100 := ⟨_, rfl⟩
  refine ⟨1030 + d + 1, ?_⟩
  have ha : flagstonelaw06_alive.f (1030 + d) = some true := by
    have e : 1030 + d = 60 + (970 + d) := by omega
    rw [e]; exact alive6_k _
  have h1 : free_Highest.f (1030 + d + 1) s l = some (Flag.highF s (l.map toP)) := high_K (d + 1) s l
  have h2 : flagstoneref06_Highest.f (1030 + d + 1) s l = some (Flag.highF s (l.map toP)) := rhigh_K (d + 1) s l
  obtain ⟨q1, q2, q3, h3, h4⟩ := rroom_K (d + 1) s l
  have h3' : free_Room.f (1030 + d + 1) s l = some (q1, q2, q3) := h3
  have h4' : flagstoneref06_Room.f (1030 + d + 1) s l = some (q1, q2, q3) := h4
  obtain ⟨v1, v2, v3, h5, e5⟩ := resize_K s l a
  obtain ⟨z1, z2, z3, h6, e6⟩ := rresize_K d s l a
  rw [Flag.resizeF_R, ← e6] at e5
  simp only [Prod.mk.injEq] at e5
  obtain ⟨rfl, e5, rfl⟩ := e5
  obtain rfl := toP_inj e5
  have lv : v2.length ≤ 1025 := by
    have := resizeR_len s (l.map toP) a
    rw [← e6] at this
    simpa using this
  have h7 := fnew_K (1030 + d) a
  have h8 := rnew_K (1030 + d) a
  obtain ⟨n1, n2, n3, hn, ln⟩ : ∃ (n1 : Int) (n2 : List S40) (n3 : Int), (if a < 0 ∨ a > 65536 then ((0 : Int), ([] : List S40), (4 : Int)) else if a > 0 then (a, [⟨0, a⟩], 0) else (a, [], 0)) = (n1, n2, n3) ∧ n2.length ≤ 1 := by
    split
    · exact ⟨_, _, _, rfl, Nat.zero_le _⟩
    · split
      · exact ⟨_, _, _, rfl, Nat.le_refl _⟩
      · exact ⟨_, _, _, rfl, Nat.zero_le _⟩
  rw [hn] at h7 h8
  have hF := without_F a u
  obtain ⟨⟨g1, g2, g3⟩, hg⟩ : ∃ g, g = withoutG a u := ⟨_, rfl⟩
  rw [← hg] at hF
  obtain ⟨y1, y2, y3, h9, e9⟩ := rwithout_K (d + 1) a u
  rw [← hF] at e9
  simp only [Prod.mk.injEq] at e9
  obtain ⟨rfl, e9, rfl⟩ := e9
  obtain rfl := toP_inj e9
  have ly : y2.length ≤ 1024 := by
    have := wRef_len a (u.map toP)
    rw [← hF] at this
    simpa using this
  have h9' : flagstoneref06_Without.f (1030 + d + 1) a u = some (y1, y2, y3) := h9
  have hW : free_Without.f a u = some (y1, y2, y3) := by unfold free_Without.f; rw [hg]
  unfold flagstonelaw06_FreeSizes.f
  rw [of6 s l hl, Option.bind_some, copyS_x (by omega), Option.bind_some]
  simp only []
  rw [h1, Option.bind_some, h2, Option.bind_some, h3', Option.bind_some, h4', Option.bind_some, h5, Option.bind_some, h6, Option.bind_some, h7, Option.bind_some, h8, Option.bind_some, hW, Option.bind_some, h9', Option.bind_some]
  have e1 : flagstonelaw06_Alike.f (1030 + d + 1) v1 v2 v1 v2 = some 0 := alike_any _ _ (by omega) (by omega)
  have e2 : flagstonelaw06_Alike.f (1030 + d + 1) n1 n2 n1 n2 = some 0 := alike_any _ _ (by omega) (by omega)
  have e3 : flagstonelaw06_Alike.f (1030 + d + 1) y1 y2 y1 y2 = some 0 := alike_any _ _ (by omega) (by omega)
  have e4 : flagstonelaw06_Alike.f (1030 + d) s l s l = some 0 := alike_any _ _ hl (by omega)
  have e5 : flagstoneplain_SameSpans.f (1030 + d) u u = some true := same_any u hu (by omega)
  simp only [num6, Option.bind_some, if_true, e1, e2, e3]
  rw [flagstonelaw06_FreeSizes.j0, bne_self_eq_false, if_neg Bool.false_ne_true, e4, Option.bind_some, if_pos rfl, e5, Option.bind_some, if_pos rfl, ha]
  rfl
end Go.Proofs.Ytkkfkdncddbaeaa.Fn
