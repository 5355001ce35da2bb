/- Part 5 of the walk: printed by programs of this session (by way of the kit's print) or told by hand. -/
import Derived.Test.YtkkfkdncddbaeaaM4
namespace Go.Proofs.Ytkkfkdncddbaeaa.Fn
open Go.RowKit Go.Proofs.YtkkfkdncddbaeaaW.PrintWords Go.Proofs.YtkkfkdncddbaeaaW.PrintLast Go.Proofs.YtkkfkdncddbaeaaW.PrintMore
attribute [local go_sem] max2_int min2_int max_two min_two max_three min_three max_four min_four
set_option linter.unusedVariables false
set_option linter.unusedSimpArgs false
mutual
def flagstonelaw09_RefsWho.l0 : Nat → List (S86) → List (S88) → Int → Int → Int → Option (Bool)
 | 0, _, _, _, _, _ => none
 | k + 1, x0, x5, x7, x102000, x102001 => if x7 < (x5.length : Int) then (flagstonelaw09_RefsWho.l1 k x0 x5 x7 false 0 x102000 x102001) else (some true)
def flagstonelaw09_RefsWho.l1 : Nat → List (S86) → List (S88) → Int → Bool → Int → Int → Int → Option (Bool)
 | 0, _, _, _, _, _, _, _ => none
 | k + 1, x0, x5, x7, x8, x9, x102000, x102001 => if x9 < (x0.length : Int) then (if x8 = true then (flagstonelaw09_RefsWho.l1 k x0 x5 x7 true (wrap64 (x9 + 1)) x102000 x102001) else (if 0 ≤ x9 then (if 0 ≤ x7 then (if x7 < (x5.length : Int) then (if ((rd_T86 x0 x9).f0) = ((rd_T88 x5 x7).f2) then ((flagstoneref05_At.f k ((rd_T86 x0 x9).f1) ((rd_T88 x5 x7).f3)).bind fun t115 => (flagstonelaw09_RefsWho.l1 k x0 x5 x7 (t115 == ((rd_T88 x5 x7).f0)) (wrap64 (x9 + 1)) x102000 x102001)) else (flagstonelaw09_RefsWho.l1 k x0 x5 x7 false (wrap64 (x9 + 1)) x102000 x102001)) else (none)) else (none)) else (none))) else (if x8 = true then (if 0 ≤ x7 then (if x7 < (x5.length : Int) then (if ((rd_T88 x5 x7).f1) < 1 then (some false) else (if ((rd_T88 x5 x7).f0) < x102000 then (some false) else (if ((rd_T88 x5 x7).f1) > x102001 then (some false) else (if (wrap64 (((rd_T88 x5 x7).f0) - x102000)) > (wrap64 (x102001 - ((rd_T88 x5 x7).f1))) then (some false) else (flagstonelaw09_RefsWho.l0 k x0 x5 (wrap64 (x7 + 1)) x102000 x102001))))) else (none)) else (none)) else (some false))
end
def flagstonelaw09_RefsWho.f (k : Nat) (l0 : List (S86)) (a1_0 : Int) (a1_1 : Int) : Option (Bool) := (flagstonelaw09_alive.f).bind fun t102 => (if t102 = true then ((flagstonelaw09_Of.f k l0).bind fun t103 => ((refs_Who.f t103 a1_0 a1_1).bind fun bt106 => ((flagstonelaw09_num.f bt106.2).bind fun t110 => (if t110 = 0 then (flagstonelaw09_RefsWho.l0 k l0 bt106.1 0 a1_0 a1_1) else (some ((bt106.1.length : Int) == 0)))))) else (some false))
theorem flagstonelaw09_RefsWho.mono_l : ∀ k, (∀ y0 y1 y2 y3 y4, LeO (flagstonelaw09_RefsWho.l0 k y0 y1 y2 y3 y4) (flagstonelaw09_RefsWho.l0 (k + 1) y0 y1 y2 y3 y4)) ∧ (∀ y0 y1 y2 y3 y4 y5 y6, LeO (flagstonelaw09_RefsWho.l1 k y0 y1 y2 y3 y4 y5 y6) (flagstonelaw09_RefsWho.l1 (k + 1) y0 y1 y2 y3 y4 y5 y6))
 | 0 => ⟨fun _ _ _ _ _ r h => by simp [flagstonelaw09_RefsWho.l0] at h, fun _ _ _ _ _ _ _ r h => by simp [flagstonelaw09_RefsWho.l1] at h⟩
 | k + 1 => by
  obtain ⟨ih0, ih1⟩ := flagstonelaw09_RefsWho.mono_l k
  refine ⟨?_, ?_⟩
  ·intro y0 y1 y2 y3 y4
   unfold flagstonelaw09_RefsWho.l0
   repeat' first
   | (with_reducible exact ih0 _ _ _ _ _)
   | (with_reducible exact ih1 _ _ _ _ _ _ _)
   | (with_reducible exact flagstonelaw09_Of.mono _ _)
   | (with_reducible exact flagstoneref05_At.mono _ _ _)
   | (with_reducible exact LeO.refl _)
   | (with_reducible exact LeO.none _)
   | (with_reducible refine LeO.ite ?_ ?_)
   | (with_reducible refine LeO.bind ?_ (fun _ => ?_))
   | exact ih0 _ _ _ _ _
   | exact ih1 _ _ _ _ _ _ _
   | exact flagstonelaw09_Of.mono _ _
   | exact flagstoneref05_At.mono _ _ _
   | exact LeO.none _
   | refine LeO.ite ?_ ?_
   | refine LeO.bind ?_ (fun _ => ?_)
  ·intro y0 y1 y2 y3 y4 y5 y6
   unfold flagstonelaw09_RefsWho.l1
   repeat' first
   | (with_reducible exact ih0 _ _ _ _ _)
   | (with_reducible exact ih1 _ _ _ _ _ _ _)
   | (with_reducible exact flagstonelaw09_Of.mono _ _)
   | (with_reducible exact flagstoneref05_At.mono _ _ _)
   | (with_reducible exact LeO.refl _)
   | (with_reducible exact LeO.none _)
   | (with_reducible refine LeO.ite ?_ ?_)
   | (with_reducible refine LeO.bind ?_ (fun _ => ?_))
   | exact ih0 _ _ _ _ _
   | exact ih1 _ _ _ _ _ _ _
   | exact flagstonelaw09_Of.mono _ _
   | exact flagstoneref05_At.mono _ _ _
   | exact LeO.none _
   | refine LeO.ite ?_ ?_
   | refine LeO.bind ?_ (fun _ => ?_)
theorem flagstonelaw09_RefsWho.mono : ∀ a0 a1 a2 k, LeO (flagstonelaw09_RefsWho.f k a0 a1 a2) (flagstonelaw09_RefsWho.f (k + 1) a0 a1 a2) := by
 intro a0 a1 a2 k
 obtain ⟨ih0, ih1⟩ := flagstonelaw09_RefsWho.mono_l k
 unfold flagstonelaw09_RefsWho.f
 repeat' first
  | (with_reducible exact ih0 _ _ _ _ _)
  | (with_reducible exact ih1 _ _ _ _ _ _ _)
  | (with_reducible exact flagstonelaw09_Of.mono _ _)
  | (with_reducible exact flagstoneref05_At.mono _ _ _)
  | (with_reducible exact LeO.refl _)
  | (with_reducible exact LeO.none _)
  | (with_reducible refine LeO.ite ?_ ?_)
  | (with_reducible refine LeO.bind ?_ (fun _ => ?_))
  | exact ih0 _ _ _ _ _
  | exact ih1 _ _ _ _ _ _ _
  | exact flagstonelaw09_Of.mono _ _
  | exact flagstoneref05_At.mono _ _ _
  | exact LeO.none _
  | refine LeO.ite ?_ ?_
  | refine LeO.bind ?_ (fun _ => ?_)
def flagstonelaw09_RefsWho.T3 : Bool × List (List Nat × List Nat) := (true, [([], []), ([0], [0]), ([], []), ([1, 2, 1], [1, 2]), ([3], [3]), ([4], [4]), ([4], [4]), ([5, 3, 0, 1, 2, 3, 4, 5], [5]), ([6, 7, 0, 1, 2, 3, 4, 5, 6, 7], [6])])
def flagstonelaw09_RefsWho.B3 : List Nat := [0, 1, 0, 7, 15, 31, 31, 63, 255]
theorem flagstonelaw09_RefsWho.tab3 : rtab .any (opsOf Try.f16 3) = flagstonelaw09_RefsWho.T3 := by kernel_rfl
theorem flagstonelaw09_RefsWho.bits3 : waitsOk flagstonelaw09_RefsWho.T3.2 flagstonelaw09_RefsWho.B3 = true := by kernel_rfl
def flagstonelaw09_RefsWho.T13 : Bool × List (List Nat × List Nat) := (true, [([], []), ([0], [0]), ([1], [1]), ([1], [1]), ([2, 3, 1], [1, 2, 3]), ([4, 1], [1, 4]), ([5, 1], [1, 5]), ([1], [1]), ([1], [1]), ([7, 8, 1], [1, 7, 8]), ([9, 1], [1, 9]), ([10, 1], [1, 10]), ([6, 11, 1], [1, 6, 11]), ([12, 1, 1], [1, 12]), ([13], [13]), ([13], [13]), ([14, 15, 13], [13, 14, 15]), ([16, 13], [13, 16]), ([17, 13], [13, 17]), ([13], [13]), ([13], [13]), ([19, 20, 13], [13, 19, 20]), ([21, 13], [13, 21]), ([22, 13], [13, 22]), ([18, 23, 13, 13], [13, 18, 23]), ([13], [13]), ([13], [13]), ([25, 26, 13], [13, 25, 26]), ([27, 13], [13, 27]), ([28, 13], [13, 28]), ([24, 29, 13], [13, 24, 29]), ([13, 30, 1], [1, 13, 30]), ([1, 31], [1, 31]), ([32, 24, 0, 1, 2, 3, 4, 5, 6, 7, 8, 9, 10, 11, 12, 13, 14, 15, 16, 17, 18, 19, 20, 21, 22, 23, 24, 25, 26, 27, 28, 29, 30, 31, 32], [0, 32])])
def flagstonelaw09_RefsWho.B13 : List Nat := [0, 1, 3, 3, 15, 31, 63, 3, 3, 387, 899, 1923, 4095, 8191, 16383, 16383, 65535, 131071, 262143, 16383, 16383, 1589247, 3686399, 7880703, 16777215, 16383, 16383, 100679679, 234897407, 503332863, 1073741823, 2147483647, 4294967295, 8589934591]
theorem flagstonelaw09_RefsWho.tab13 : rtab .any (opsOf Try.f16 13) = flagstonelaw09_RefsWho.T13 := by kernel_rfl
theorem flagstonelaw09_RefsWho.bits13 : waitsOk flagstonelaw09_RefsWho.T13.2 flagstonelaw09_RefsWho.B13 = true := by kernel_rfl
def flagstonelaw09_RefsWho.T14 : Bool × List (List Nat × List Nat) := (true, [([], []), ([0], [0]), ([1], [1]), ([2], [2]), ([2], [2]), ([3, 4, 2], [2, 3, 4]), ([5, 2], [2, 5]), ([6, 2], [2, 6]), ([7, 2], [2, 7]), ([2, 8], [2, 8]), ([9, 2], [9]), ([10], [10]), ([10], [10]), ([11, 12, 10], [10, 11, 12]), ([13, 10], [10, 13]), ([14, 10], [10, 14]), ([10], [10]), ([16, 10], [10, 16]), ([15, 17, 10], [10, 15, 17]), ([10, 18], [10, 18]), ([19, 10], [19]), ([20], [20]), ([20], [20]), ([21, 22, 20], [20, 21, 22]), ([23, 20], [20, 23]), ([24, 20], [20, 24]), ([20], [20]), ([26, 20], [20, 26]), ([25, 27, 20], [20, 25, 27]), ([20, 28], [20, 28]), ([29, 20], [29]), ([30], [30]), ([30], [30]), ([31, 32, 30], [30, 31, 32]), ([33, 30], [30, 33]), ([34, 30], [30, 34]), ([30], [30]), ([36, 30], [30, 36]), ([35, 37, 30], [30, 35, 37]), ([30], [30]), ([39, 30], [30, 39]), ([30], [30]), ([30], [30]), ([41, 42, 30], [30, 41, 42]), ([43, 30], [30, 43]), ([44, 30], [30, 44]), ([40, 45, 30], [30, 40, 45]), ([38, 46, 30], [30, 38, 46]), ([30, 47], [30, 47])])
def flagstonelaw09_RefsWho.B14 : List Nat := [0, 1, 3, 7, 7, 31, 63, 127, 255, 511, 1023, 2047, 2047, 8191, 16383, 32767, 2047, 67583, 262143, 524287, 1048575, 2097151, 2097151, 8388607, 16777215, 33554431, 2097151, 69206015, 268435455, 536870911, 1073741823, 2147483647, 2147483647, 8589934591, 17179869183, 34359738367, 2147483647, 70866960383, 274877906943, 2147483647, 551903297535, 2147483647, 2147483647, 6599217250303, 15395310272511, 32987496316927, 69821135847423, 140737488355327, 281474976710655]
theorem flagstonelaw09_RefsWho.tab14 : rtab .any (opsOf Try.f16 14) = flagstonelaw09_RefsWho.T14 := by kernel_rfl
theorem flagstonelaw09_RefsWho.bits14 : waitsOk flagstonelaw09_RefsWho.T14.2 flagstonelaw09_RefsWho.B14 = true := by kernel_rfl
set_option maxHeartbeats 8000000 in
set_option maxRecDepth 100000 in
theorem flagstonelaw09_RefsWho.calls (k : Nat) (A0 : Option Addr) (c0 : Nat) (l0 : List (S86)) (a1_0 : Int) (a1_1 : Int) (r : Bool) (w : World) (hr0 : Kd.C k86 w A0 l0.length l0) (hc0 : l0.length ≤ c0) (h : flagstonelaw09_RefsWho.f k l0 a1_0 a1_1 = some r) :
 Calls Try.prog 16 #[.slice A0 l0.length c0, .agg #[.int .i64 a1_0, .int .i64 a1_1]] w fun e w' => e = .returned (.bool r) ∧ Below w.heap.size w w' := by
 have hu40 := Try.underlying40
 have HR0 := Aside0.mk hr0
 have HC0 := Aside0.mk hc0
 clear hr0 hc0
 have HB := Aside0.mk (Below.refl w.heap.size w)
 have H : ((flagstonelaw09_alive.f).bind fun t102 => (if t102 = true then ((flagstonelaw09_Of.f k l0).bind fun t103 => ((refs_Who.f t103 a1_0 a1_1).bind fun bt106 => ((flagstonelaw09_num.f bt106.2).bind fun t110 => (if t110 = 0 then (flagstonelaw09_RefsWho.l0 k l0 bt106.1 0 a1_0 a1_1) else (some ((bt106.1.length : Int) == 0)))))) else (some false))) = some r := h
 clear h
 replace H := Option.bind_eq_some_iff.mp H
 obtain ⟨t102, A30, H⟩ := H
 replace H : (if t102 = true then ((flagstonelaw09_Of.f k l0).bind fun t103 => ((refs_Who.f t103 a1_0 a1_1).bind fun bt106 => ((flagstonelaw09_num.f bt106.2).bind fun t110 => (if t110 = 0 then (flagstonelaw09_RefsWho.l0 k l0 bt106.1 0 a1_0 a1_1) else (some ((bt106.1.length : Int) == 0)))))) else (some false)) = some r := H
 have A3 := Aside0.mk A30
 clear A30
 by_cases c4 : t102 = true
 ·subst c4
  have H1 : ((flagstonelaw09_Of.f k l0).bind fun t103 => ((refs_Who.f t103 a1_0 a1_1).bind fun bt106 => ((flagstonelaw09_num.f bt106.2).bind fun t110 => (if t110 = 0 then (flagstonelaw09_RefsWho.l0 k l0 bt106.1 0 a1_0 a1_1) else (some ((bt106.1.length : Int) == 0)))))) = some r := by rw [if_pos rfl] at H; exact H
  clear H
  have H := H1
  clear H1
  replace H := Option.bind_eq_some_iff.mp H
  obtain ⟨t103, A50, H⟩ := H
  replace H : ((refs_Who.f t103 a1_0 a1_1).bind fun bt106 => ((flagstonelaw09_num.f bt106.2).bind fun t110 => (if t110 = 0 then (flagstonelaw09_RefsWho.l0 k l0 bt106.1 0 a1_0 a1_1) else (some ((bt106.1.length : Int) == 0))))) = some r := H
  have A5 := Aside0.mk A50
  clear A50
  replace H := Option.bind_eq_some_iff.mp H
  obtain ⟨⟨t106, t109⟩, A60, H⟩ := H
  replace H : ((flagstonelaw09_num.f t109).bind fun t110 => (if t110 = 0 then (flagstonelaw09_RefsWho.l0 k l0 t106 0 a1_0 a1_1) else (some ((t106.length : Int) == 0)))) = some r := H
  have A6 := Aside0.mk A60
  clear A60
  replace H := Option.bind_eq_some_iff.mp H
  obtain ⟨t110, A70, H⟩ := H
  replace H : (if t110 = 0 then (flagstonelaw09_RefsWho.l0 k l0 t106 0 a1_0 a1_1) else (some ((t106.length : Int) == 0))) = some r := H
  have A7 := Aside0.mk A70
  clear A70
  by_cases c8 : t110 = 0
  ·rw [if_pos c8] at H
   have c8b0 : (t110 == 0) = true := beq_iff_eq.mpr c8
   have c8b1 : (t110 != 0) = false := bne_eq_false_iff_eq.mpr c8
   clear c8
   have H' := Aside0.mk H
   clear H
   go_enter Try.func16, Try.ntmps16
   try go_wp2_with (first | ((with_reducible refine gate_dst (N := 3) rfl ?_); refine box_event ?hg (N := 3) ?hd (cs := #[.int .i64 a1_0, .int .i64 a1_1]) (t := 40) ?hr ?_; (case hd => rfl); (case hg => rfl); (case hr => first | (go_simp; done) | (go_simp; rfl)); intro gb101 hg w9 hbox hb; have n0_ := Aside0.mk (below_step (by repeat (first | (with_reducible first | exact HB.out | apply below_alloc | apply pw_below_drewN | apply below_drew1) | exact HB.out)) hb); have n1_ := Aside0.mk (hbox); have n2_ := Aside0.mk ((by rw [hg]; exact (below_size (by repeat (first | (with_reducible first | exact HB.out | apply below_alloc | apply pw_below_drewN | apply below_drew1) | exact HB.out))) : w.heap.size ≤ gb101)); have n3_ := Aside0.mk ((by rw [hg]; exact (below_size (by repeat (first | (with_reducible first | exact HB.out | apply below_alloc | apply pw_below_drewN | apply below_drew1) | exact HB.out))) : w.heap.size ≤ gb101)); clear HB; have HB := n0_; have BK101 := n1_; have GW101 := n2_; have GE101 := n3_; clear n0_ n1_ n2_ n3_; clear hb hbox hg) | ((with_reducible refine gate_callee (f := 57) rfl ?_); refine goesL_ (some 10) rfl rfl Try.func57 (by kernel_rfl) rfl #[] rfl (by (try simp only [List.map_toArray, List.map_cons, List.map_nil]); first | done | rfl | (simp only [List.length_drop, List.length_take]; rfl)) ?_; (with_reducible refine (flagstonelaw09_alive.calls  true _ A3.out).mono ?_); rintro e w10 ⟨rfl, hb⟩; refine ⟨_, rfl, ?_⟩; have n0_ := Aside0.mk (blk_below (g := gb101) (o := .cells #[.int .i64 a1_0, .int .i64 a1_1] 40 (0, 0)) (by (with_reducible repeat (first | refine blk_drewN ?_ _ | refine blk_drew ?_ | refine blk_alloc ?_ _)); exact BK101.out) hb); have n1_ := Aside0.mk (below_step (by repeat (first | (with_reducible first | exact HB.out | apply below_alloc | apply pw_below_drewN | apply below_drew1 | refine below_set ?_ GE101.out) | exact HB.out)) hb); clear BK101; clear HB; have BK101 := n0_; have HB := n1_; clear n0_ n1_; (try clear hb); (try clear hb2); (try clear hk); (try clear hi)))
   have n0_ := Aside0.mk (blk_drew BK101.out)
   have n1_ := Aside0.mk (below_drew1 HB.out)
   clear BK101
   clear HB
   have BK101 := n0_
   have HB := n1_
   clear n0_ n1_
   refine start_ (n := 9) (S := fun w' => w'.cell? ⟨gb101, 0, none⟩ = some (.int .i64 a1_0) ∧ w'.cell? ⟨gb101, 1, none⟩ = some (.int .i64 a1_1)) (ds := []) #[yF,yF,yF,yF,yF,yF,yF,yF,yF] (by kernel_rfl) rfl rfl ⟨(blk_cell BK101.out 0).trans rfl, (blk_cell BK101.out 1).trans rfl⟩ (fun hHeld => ?_); refine with_tabW flagstonelaw09_RefsWho.tab3 flagstonelaw09_RefsWho.bits3 (fun HT_ HW_ => ?_)
   generalize w10.drew = w11 at BK101 HB hHeld ⊢
   refine pu_ 0 13 9 1 ?_
   refine tk_ 2 15 9 5 ?_
   refine on_ 1 14 9 7 (fun K hK => ?_)
   refine goes_ Try.func59 (by kernel_rfl) rfl #[.slice A0 l0.length c0] (by rfl) rfl rfl (by (try simp only [List.map_toArray, List.map_cons, List.map_nil]); first | done | rfl | (simp only [List.length_drop, List.length_take]; rfl)) ?_
   with_reducible refine (flagstonelaw09_Of.calls k _ _ l0 t103 _ ?side1 ?side2 A5.out).mono ?_
   (case side1 => repeat (first | exact (Kd.C_below HR0.out HB.out) | (with_reducible refine Kd.C_alloc ?_ _) | (with_reducible refine Kd.C_drewN ?_ _) | (with_reducible refine Kd.C_drew ?_)))
   (case side2 => exact HC0.out)
   rintro e w12 ⟨v104, rfl, ho0, hb⟩
   refine ⟨_, rfl, ?_⟩
   have n0_ := Aside0.mk (Kd.S_lower ho0 (below_size (by repeat (first | (with_reducible first | exact HB.out | apply below_alloc | apply pw_below_drewN | apply below_drew1 | refine below_set ?_ GE101.out) | exact HB.out))))
   have n1_ := Aside0.mk (blk_below (g := gb101) (o := .cells #[.int .i64 a1_0, .int .i64 a1_1] 40 (0, 0)) (by (with_reducible repeat (first | refine blk_drewN ?_ _ | refine blk_drew ?_ | refine blk_alloc ?_ _)); exact BK101.out) hb)
   have n2_ := Aside0.mk (below_step (by repeat (first | (with_reducible first | exact HB.out | apply below_alloc | apply pw_below_drewN | apply below_drew1 | refine below_set ?_ GE101.out) | exact HB.out)) hb)
   clear BK101
   clear HB
   have HO105 := n0_
   have BK101 := n1_
   have HB := n2_
   clear n0_ n1_ n2_
   (try clear hb)
   (try clear hb2)
   (try clear hk)
   (try clear hi)
   (try clear ho0)
   obtain ⟨Ao13, co13, eo13⟩ := Kd.S_slice HO105.out
   (first | subst eo13 | (injection eo13 with f1_ f2_ f3_; have f4_ := f1_.symm; have f5_ := f3_.symm; clear f1_ f2_ f3_; subst f4_; subst f5_))
   refine hK.out _ _ ⟨(blk_cell BK101.out 0).trans rfl, (blk_cell BK101.out 1).trans rfl⟩ (fun hHeld => ?_)
   clear hK K
   refine nm_ 14 ?_
   refine on_ 3 16 9 15 (fun K hK => ?_)
   refine goes_ Try.func58 (by kernel_rfl) rfl #[.slice Ao13 t103.length co13, .agg #[.int .i64 a1_0, .int .i64 a1_1]] (by rfl) rfl rfl (by (try simp only [List.map_toArray, List.map_cons, List.map_nil]); first | done | rfl | (simp only [List.length_drop, List.length_take]; rfl)) ?_
   with_reducible refine (refs_Who.calls _ _ t103 a1_0 a1_1 t106 t109 _ ?side1 ?side2 A6.out).mono ?_
   (case side1 => repeat (first | exact (Kd.S_reads' HO105.out).2.2 | (with_reducible refine Kd.C_alloc ?_ _) | (with_reducible refine Kd.C_drewN ?_ _) | (with_reducible refine Kd.C_drew ?_)))
   (case side2 => exact (Kd.S_reads' HO105.out).2.1)
   rintro e w14 ⟨v107, rfl, ho0, hb⟩
   refine ⟨_, rfl, ?_⟩
   have n0_ := Aside0.mk (Kd.S_below (by (with_reducible repeat (first | apply Kd.S_alloc | apply Kd.S_drewN | apply Kd.S_drew)); exact HO105.out) hb)
   have n1_ := Aside0.mk (Kd.R_lower ho0 (below_size (by repeat (first | (with_reducible first | exact HB.out | apply below_alloc | apply pw_below_drewN | apply below_drew1 | refine below_set ?_ GE101.out) | exact HB.out))))
   have n2_ := Aside0.mk (blk_below (g := gb101) (o := .cells #[.int .i64 a1_0, .int .i64 a1_1] 40 (0, 0)) (by (with_reducible repeat (first | refine blk_drewN ?_ _ | refine blk_drew ?_ | refine blk_alloc ?_ _)); exact BK101.out) hb)
   have n3_ := Aside0.mk (below_step (by repeat (first | (with_reducible first | exact HB.out | apply below_alloc | apply pw_below_drewN | apply below_drew1 | refine below_set ?_ GE101.out) | exact HB.out)) hb)
   clear HO105
   clear BK101
   clear HB
   have HO105 := n0_
   have HO108 := n1_
   have BK101 := n2_
   have HB := n3_
   clear n0_ n1_ n2_ n3_
   (try clear hb)
   (try clear hb2)
   (try clear hk)
   (try clear hi)
   (try clear ho0)
   refine hK.out _ _ ⟨(blk_cell BK101.out 0).trans rfl, (blk_cell BK101.out 1).trans rfl⟩ (fun hHeld => ?_)
   clear hK K
   refine nm_ 16 ?_
   refine pu_ 4 12 9 31 ?_
   refine pu_ 5 17 9 63 ?_
   refine pu_ 6 18 9 127 ?_
   refine pu_ 7 5 9 255 ?_
   refine pu_ 8 6 9 511 ?_
   refine done_ (done_of HT_.out (by kernel_rfl)) ?_
   try go_wp2_with (first | ((with_reducible refine gate_callee (f := 60) rfl ?_); refine goesL_ (some 20) rfl rfl Try.func60 (by kernel_rfl) rfl #[.int .i64 t109] rfl (by (try simp only [List.map_toArray, List.map_cons, List.map_nil]); first | done | rfl | (simp only [List.length_drop, List.length_take]; rfl)) ?_; (with_reducible refine (flagstonelaw09_num.calls t109 t110 _ A7.out).mono ?_); rintro e w' ⟨rfl, ⟨nd, rfl⟩⟩; refine ⟨_, rfl, ?_⟩))
   go_loopg [7] k (fun kq v7 w' => ∃ (x7_1 : Int), v7 = .int .i64 x7_1 ∧ Aside0 (flagstonelaw09_RefsWho.l0 kq l0 t106 x7_1 a1_0 a1_1 = some r) ∧ Aside0 (kq ≤ k) ∧ Aside0 (Kd.R k88 88 w' w.heap.size (fun _ => True) v107 t106) ∧ Aside0 (w'.heap[gb101]? = some (.cells #[.int .i64 a1_0, .int .i64 a1_1] 40 (0, 0))) ∧ Aside0 (Below w.heap.size w w'))
   case atStart => exact ⟨(0), (by first | rfl | (simp; done) | (simp [*]; done)), H', ⟨Nat.le_refl _⟩, ⟨by (with_reducible repeat (first | apply Kd.R_alloc | apply Kd.R_drewN | apply Kd.R_drew)); exact HO108.out⟩, ⟨by (with_reducible repeat (first | refine blk_drewN ?_ _ | refine blk_drew ?_ | refine blk_alloc ?_ _)); exact BK101.out⟩, ⟨by repeat (first | (with_reducible first | exact HB.out | apply below_alloc | apply pw_below_drewN | apply below_drew1 | refine below_set ?_ GE101.out) | exact HB.out)⟩⟩
   case round =>
    clear H'
    try clear c1
    try clear p2
    try clear c4
    try clear c5
    try clear c6
    try clear c8
    try clear c8b0
    try clear c8b1
    obtain ⟨x7_1, rfl, HA, HK1, HO_5, BK101, HB⟩ := hrel
    cases gk with
    | zero => exact absurd HA.out (by simp [flagstonelaw09_RefsWho.l0])
    | succ k1 =>
     have H := HA.out
     clear HA
     simp only [flagstonelaw09_RefsWho.l0] at H
     by_cases c15 : x7_1 < (t106.length : Int)
     ·rw [if_pos c15] at H
      have c15b0 : decide (x7_1 < (t106.length : Int)) = true := decide_eq_true c15
      clear c15
      have H' := Aside0.mk H
      clear H
      obtain ⟨Ao16, co16, eo16⟩ := Kd.R_slice HO_5.out
      subst eo16
      go_wp2
      go_loopg [8, 9] k1 (fun kq v8 v9 w' => ∃ (x8_2 : Bool) (x9_2 : Int), v8 = .bool x8_2 ∧ v9 = .int .i64 x9_2 ∧ Aside0 (flagstonelaw09_RefsWho.l1 kq l0 t106 x7_1 x8_2 x9_2 a1_0 a1_1 = some r) ∧ Aside0 (kq ≤ k1) ∧ Aside0 (Kd.R k88 88 w' w.heap.size (fun _ => True) (.slice Ao16 t106.length co16) t106) ∧ Aside0 (w'.heap[gb101]? = some (.cells #[.int .i64 a1_0, .int .i64 a1_1] 40 (0, 0))) ∧ Aside0 (Below w.heap.size w w'))
      case atStart => exact ⟨(false), (0), (by first | rfl | (simp; done) | (simp [*]; done)), (by first | rfl | (simp; done) | (simp [*]; done)), H', ⟨Nat.le_refl _⟩, ⟨by (with_reducible repeat (first | apply Kd.R_alloc | apply Kd.R_drewN | apply Kd.R_drew)); exact HO_5.out⟩, ⟨by (with_reducible repeat (first | refine blk_drewN ?_ _ | refine blk_drew ?_ | refine blk_alloc ?_ _)); exact BK101.out⟩, ⟨by repeat (first | (with_reducible first | exact HB.out | apply below_alloc | apply pw_below_drewN | apply below_drew1 | refine below_set ?_ GE101.out) | exact HB.out)⟩⟩
      case round =>
       clear H'
       try clear c1
       try clear p2
       try clear c4
       try clear c5
       try clear c6
       try clear c8
       try clear c8b0
       try clear c8b1
       try clear c15
       try clear c15b0
       try clear c16
       try clear p2
       obtain ⟨x8_2, x9_2, rfl, rfl, HA, HK2, HO_5, BK101, HB⟩ := hrel
       cases gk with
       | zero => exact absurd HA.out (by simp [flagstonelaw09_RefsWho.l1])
       | succ k2 =>
        have H := HA.out
        clear HA
        simp only [flagstonelaw09_RefsWho.l1] at H
        by_cases c17 : x9_2 < (l0.length : Int)
        ·rw [if_pos c17] at H
         have c17b0 : decide (x9_2 < (l0.length : Int)) = true := decide_eq_true c17
         clear c17
         by_cases c18 : x8_2 = true
         ·subst c18
          have H1 : (flagstonelaw09_RefsWho.l1 k2 l0 t106 x7_1 true (wrap64 (x9_2 + 1)) a1_0 a1_1) = some r := by rw [if_pos rfl] at H; exact H
          clear H
          have H := H1
          clear H1
          have H' := Aside0.mk H
          clear H
          try go_wp2
          have n0_ := Aside0.mk (Kd.R_drew HO_5.out)
          have n1_ := Aside0.mk (blk_drew BK101.out)
          have n2_ := Aside0.mk (below_drew1 HB.out)
          clear HO_5
          clear BK101
          clear HB
          have HO_5 := n0_
          have BK101 := n1_
          have HB := n2_
          clear n0_ n1_ n2_
          refine start_ (n := 34) (S := fun w' => True) (ds := []) #[yF,yF,yF,yF,yF,yF,yF,yF,yF,yF,yF,yF,yF,yF,yF,yF,yF,yF,yF,yF,yF,yF,yF,yF,yF,yF,yF,yF,yF,yF,yF,yF,yF,yF] (by kernel_rfl) rfl rfl trivial (fun hHeld => ?_); refine with_tabW flagstonelaw09_RefsWho.tab13 flagstonelaw09_RefsWho.bits13 (fun HT_ HW_ => ?_)
          generalize wr.drew = w19 at HO_5 BK101 HB hHeld ⊢
          refine pu_ 0 37 34 1 ?_
          refine pu_ 1 38 34 3 ?_
          refine pn_ 2 39 34 7 ?_
          refine pn_ 3 40 34 15 ?_
          refine pn_ 4 41 34 31 ?_
          refine pn_ 5 42 34 63 ?_
          refine pn_ 6 43 34 127 ?_
          refine pn_ 7 44 34 255 ?_
          refine pn_ 8 45 34 511 ?_
          refine pn_ 9 46 34 1023 ?_
          refine pn_ 10 47 34 2047 ?_
          refine pn_ 11 48 34 4095 ?_
          refine pn_ 12 49 34 8191 ?_
          refine pn_ 13 50 34 16383 ?_
          refine pn_ 14 51 34 32767 ?_
          refine pn_ 15 52 34 65535 ?_
          refine pn_ 16 53 34 131071 ?_
          refine pn_ 17 54 34 262143 ?_
          refine pn_ 18 55 34 524287 ?_
          refine pn_ 19 56 34 1048575 ?_
          refine pn_ 20 57 34 2097151 ?_
          refine pn_ 21 58 34 4194303 ?_
          refine pn_ 22 59 34 8388607 ?_
          refine pn_ 23 60 34 16777215 ?_
          refine pn_ 24 61 34 33554431 ?_
          refine pn_ 25 62 34 67108863 ?_
          refine pn_ 26 63 34 134217727 ?_
          refine pn_ 27 64 34 268435455 ?_
          refine pn_ 28 65 34 536870911 ?_
          refine pn_ 29 66 34 1073741823 ?_
          refine pn_ 30 67 34 2147483647 ?_
          refine pn_ 31 68 34 4294967295 ?_
          refine pu_ 32 69 34 8589934591 ?_
          refine pu_ 33 8 34 17179869183 ?_
          refine done_ (done_of HT_.out (by kernel_rfl)) ?_
          try go_wp2
          go_roundg k2
          case measure => have := HK1.out; have := HK2.out; omega
          case rel => exact ⟨(true), (wrap64 (x9_2 + 1)), (by first | rfl | (simp; done) | (simp [*]; done)), (by first | rfl | (simp; done) | (simp [*]; done)), H', ⟨by have := HK1.out; have := HK2.out; omega⟩, ⟨by (with_reducible repeat (first | apply Kd.R_alloc | apply Kd.R_drewN | apply Kd.R_drew)); exact HO_5.out⟩, ⟨by (with_reducible repeat (first | refine blk_drewN ?_ _ | refine blk_drew ?_ | refine blk_alloc ?_ _)); exact BK101.out⟩, ⟨by repeat (first | (with_reducible first | exact HB.out | apply below_alloc | apply pw_below_drewN | apply below_drew1 | refine below_set ?_ GE101.out) | exact HB.out)⟩⟩
         ·replace c18 := Bool.eq_false_iff.mpr c18
          subst c18
          have H1 : (if 0 ≤ x9_2 then (if 0 ≤ x7_1 then (if x7_1 < (t106.length : Int) then (if ((rd_T86 l0 x9_2).f0) = ((rd_T88 t106 x7_1).f2) then ((flagstoneref05_At.f k2 ((rd_T86 l0 x9_2).f1) ((rd_T88 t106 x7_1).f3)).bind fun t115 => (flagstonelaw09_RefsWho.l1 k2 l0 t106 x7_1 (t115 == ((rd_T88 t106 x7_1).f0)) (wrap64 (x9_2 + 1)) a1_0 a1_1)) else (flagstonelaw09_RefsWho.l1 k2 l0 t106 x7_1 false (wrap64 (x9_2 + 1)) a1_0 a1_1)) else (none)) else (none)) else (none)) = some r := by rw [if_neg (show ¬ (false = true) by decide)] at H; exact H
          clear H
          have H := H1
          clear H1
          by_cases c20 : 0 ≤ x9_2
          ·rw [if_pos c20] at H
           have c20b0 : decide (0 ≤ x9_2) = true := decide_eq_true c20
           clear c20
           by_cases c21 : 0 ≤ x7_1
           ·rw [if_pos c21] at H
            have c21b0 : decide (0 ≤ x7_1) = true := decide_eq_true c21
            clear c21
            by_cases c22 : x7_1 < (t106.length : Int)
            ·rw [if_pos c22] at H
             have c22b0 : decide (x7_1 < (t106.length : Int)) = true := decide_eq_true c22
             clear c22
             by_cases c23 : ((rd_T86 l0 x9_2).f0) = ((rd_T88 t106 x7_1).f2)
             ·rw [if_pos c23] at H
              have c23b0 : (((rd_T86 l0 x9_2).f0) == ((rd_T88 t106 x7_1).f2)) = true := beq_iff_eq.mpr c23
              have c23b1 : (((rd_T86 l0 x9_2).f0) != ((rd_T88 t106 x7_1).f2)) = false := bne_eq_false_iff_eq.mpr c23
              clear c23
              replace H := Option.bind_eq_some_iff.mp H
              obtain ⟨t115, A240, H⟩ := H
              replace H : (flagstonelaw09_RefsWho.l1 k2 l0 t106 x7_1 (t115 == ((rd_T88 t106 x7_1).f0)) (wrap64 (x9_2 + 1)) a1_0 a1_1) = some r := H
              have A24 := Aside0.mk A240
              clear A240
              have H' := Aside0.mk H
              clear H
              try go_wp2
              have n0_ := Aside0.mk (Kd.R_drew HO_5.out)
              have n1_ := Aside0.mk (blk_drew BK101.out)
              have n2_ := Aside0.mk (below_drew1 HB.out)
              clear HO_5
              clear BK101
              clear HB
              have HO_5 := n0_
              have BK101 := n1_
              have HB := n2_
              clear n0_ n1_ n2_
              have p111 : 0 ≤ (x9_2 : Int) := of_decide_eq_true (by first | (with_reducible assumption) | assumption)
              have q111 : x9_2 < (l0.length : Int) := of_decide_eq_true (by first | (with_reducible assumption) | assumption)
              obtain ⟨ad111, A111_1, c111_1, e111, hx111_0, hx111_1, hl111_1, hi111_1⟩ := at_T86 HR0.out x9_2 p111 q111
              have hw111_1 := hx111_1
              have hw111_0 := hx111_0
              cases e111
              replace hx111_0 := (HB.out.cell (World.block_lt_of_cell? w _ hx111_0)).trans hx111_0
              replace hx111_1 := (HB.out.cell (World.block_lt_of_cell? w _ hx111_1)).trans hx111_1
              have HR111_1 := Aside0.mk hi111_1
              have HC111_1 := Aside0.mk hl111_1
              clear hi111_1 hl111_1
              replace p111 := eq_true p111
              replace q111 := eq_true q111
              have p112 : 0 ≤ (x7_1 : Int) := of_decide_eq_true (by first | (with_reducible assumption) | assumption)
              have q112 : x7_1 < (t106.length : Int) := of_decide_eq_true (by first | (with_reducible assumption) | assumption)
              obtain ⟨ad112, e112, hx112_0, hx112_1, hx112_2, hx112_3⟩ := at_T88 (Kd.R_reads' HO_5.out).2.2 x7_1 p112 q112
              cases e112
              replace p112 := eq_true p112
              replace q112 := eq_true q112
              have p113 : 0 ≤ (x9_2 : Int) := of_decide_eq_true (by first | (with_reducible assumption) | assumption)
              have q113 : x9_2 < (l0.length : Int) := of_decide_eq_true (by first | (with_reducible assumption) | assumption)
              obtain ⟨ad113, A113_1, c113_1, e113, hx113_0, hx113_1, hl113_1, hi113_1⟩ := at_T86 HR0.out x9_2 p113 q113
              have hw113_1 := hx113_1
              have hw113_0 := hx113_0
              obtain rfl : ad111 = ad113 := (by injection e113)
              replace hx113_0 := (HB.out.cell (World.block_lt_of_cell? w _ hx113_0)).trans hx113_0
              replace hx113_1 := (HB.out.cell (World.block_lt_of_cell? w _ hx113_1)).trans hx113_1
              have HR113_1 := Aside0.mk hi113_1
              have HC113_1 := Aside0.mk hl113_1
              clear hi113_1 hl113_1
              replace p113 := eq_true p113
              replace q113 := eq_true q113
              have ea_ := Option.some.inj (hx111_1.symm.trans hx113_1)
              injection ea_ with ea_ en_ ec_
              subst ea_
              subst ec_
              clear en_
              have p114 : 0 ≤ (x7_1 : Int) := of_decide_eq_true (by first | (with_reducible assumption) | assumption)
              have q114 : x7_1 < (t106.length : Int) := of_decide_eq_true (by first | (with_reducible assumption) | assumption)
              obtain ⟨ad114, e114, hx114_0, hx114_1, hx114_2, hx114_3⟩ := at_T88 (Kd.R_reads' HO_5.out).2.2 x7_1 p114 q114
              obtain rfl : ad112 = ad114 := (by injection e114)
              replace p114 := eq_true p114
              replace q114 := eq_true q114
              have p116 : 0 ≤ (x7_1 : Int) := of_decide_eq_true (by first | (with_reducible assumption) | assumption)
              have q116 : x7_1 < (t106.length : Int) := of_decide_eq_true (by first | (with_reducible assumption) | assumption)
              obtain ⟨ad116, e116, hx116_0, hx116_1, hx116_2, hx116_3⟩ := at_T88 (Kd.R_reads' HO_5.out).2.2 x7_1 p116 q116
              obtain rfl : ad112 = ad116 := (by injection e116)
              replace p116 := eq_true p116
              replace q116 := eq_true q116
              refine start_ (n := 34) (S := fun w' => w'.cell? (ad111.add ((x9_2).toNat * 2)) = some (.int .i64 ((rd_T86 l0 x9_2).f0)) ∧ w'.cell? ⟨(ad111.add ((x9_2).toNat * 2)).block, (ad111.add ((x9_2).toNat * 2)).off + 1, none⟩ = some (.slice A111_1 ((rd_T86 l0 x9_2).f1).length c111_1) ∧ w'.cell? (ad112.add ((x7_1).toNat * 4)) = some (.int .i64 ((rd_T88 t106 x7_1).f0)) ∧ w'.cell? ⟨(ad112.add ((x7_1).toNat * 4)).block, (ad112.add ((x7_1).toNat * 4)).off + 1, none⟩ = some (.int .i64 ((rd_T88 t106 x7_1).f1)) ∧ w'.cell? ⟨(ad112.add ((x7_1).toNat * 4)).block, (ad112.add ((x7_1).toNat * 4)).off + 2, none⟩ = some (.int .i64 ((rd_T88 t106 x7_1).f2)) ∧ w'.cell? ⟨(ad112.add ((x7_1).toNat * 4)).block, (ad112.add ((x7_1).toNat * 4)).off + 3, none⟩ = some (.int .i64 ((rd_T88 t106 x7_1).f3)) ∧ w'.cell? (ad111.add ((x9_2).toNat * 2)) = some (.int .i64 ((rd_T86 l0 x9_2).f0)) ∧ w'.cell? ⟨(ad111.add ((x9_2).toNat * 2)).block, (ad111.add ((x9_2).toNat * 2)).off + 1, none⟩ = some (.slice A111_1 ((rd_T86 l0 x9_2).f1).length c111_1) ∧ w'.cell? (ad112.add ((x7_1).toNat * 4)) = some (.int .i64 ((rd_T88 t106 x7_1).f0)) ∧ w'.cell? ⟨(ad112.add ((x7_1).toNat * 4)).block, (ad112.add ((x7_1).toNat * 4)).off + 1, none⟩ = some (.int .i64 ((rd_T88 t106 x7_1).f1)) ∧ w'.cell? ⟨(ad112.add ((x7_1).toNat * 4)).block, (ad112.add ((x7_1).toNat * 4)).off + 2, none⟩ = some (.int .i64 ((rd_T88 t106 x7_1).f2)) ∧ w'.cell? ⟨(ad112.add ((x7_1).toNat * 4)).block, (ad112.add ((x7_1).toNat * 4)).off + 3, none⟩ = some (.int .i64 ((rd_T88 t106 x7_1).f3)) ∧ w'.cell? (ad112.add ((x7_1).toNat * 4)) = some (.int .i64 ((rd_T88 t106 x7_1).f0)) ∧ w'.cell? ⟨(ad112.add ((x7_1).toNat * 4)).block, (ad112.add ((x7_1).toNat * 4)).off + 1, none⟩ = some (.int .i64 ((rd_T88 t106 x7_1).f1)) ∧ w'.cell? ⟨(ad112.add ((x7_1).toNat * 4)).block, (ad112.add ((x7_1).toNat * 4)).off + 2, none⟩ = some (.int .i64 ((rd_T88 t106 x7_1).f2)) ∧ w'.cell? ⟨(ad112.add ((x7_1).toNat * 4)).block, (ad112.add ((x7_1).toNat * 4)).off + 3, none⟩ = some (.int .i64 ((rd_T88 t106 x7_1).f3))) (ds := []) #[yF,yF,yF,yF,yF,yF,yF,yF,yF,yF,yF,yF,yF,yF,yF,yF,yF,yF,yF,yF,yF,yF,yF,yF,yF,yF,yF,yF,yF,yF,yF,yF,yF,yF] (by kernel_rfl) rfl rfl ⟨((HB.out.cell (World.block_lt_of_cell? w _ hw111_0)).trans hw111_0), ((HB.out.cell (World.block_lt_of_cell? w _ hw111_1)).trans hw111_1), hx112_0, hx112_1, hx112_2, hx112_3, ((HB.out.cell (World.block_lt_of_cell? w _ hw113_0)).trans hw113_0), ((HB.out.cell (World.block_lt_of_cell? w _ hw113_1)).trans hw113_1), hx114_0, hx114_1, hx114_2, hx114_3, hx116_0, hx116_1, hx116_2, hx116_3⟩ (fun hHeld => ?_); refine with_tabW flagstonelaw09_RefsWho.tab13 flagstonelaw09_RefsWho.bits13 (fun HT_ HW_ => ?_)
              generalize wr.drew = w25 at HO_5 BK101 HB HR111_1 HR113_1 hx111_0 hx111_1 hx112_0 hx112_1 hx112_2 hx112_3 hx113_0 hx113_1 hx114_0 hx114_1 hx114_2 hx114_3 hx116_0 hx116_1 hx116_2 hx116_3 hHeld ⊢
              refine pu_ 0 37 34 1 ?_
              refine pu_ 1 38 34 3 ?_
              refine pu_ 2 39 34 7 ?_
              refine pu_ 3 40 34 15 ?_
              refine pu_ 4 41 34 31 ?_
              refine pu_ 5 42 34 63 ?_
              refine pu_ 7 44 34 191 ?_
              refine pu_ 8 45 34 447 ?_
              refine pu_ 9 46 34 959 ?_
              refine pu_ 10 47 34 1983 ?_
              refine tk_ 6 43 34 2047 ?_
              refine tk_ 11 48 34 4095 ?_
              refine pu_ 12 49 34 8191 ?_
              refine pu_ 13 50 34 16383 ?_
              refine pu_ 14 51 34 32767 ?_
              refine pu_ 15 52 34 65535 ?_
              refine pu_ 16 53 34 131071 ?_
              refine pu_ 17 54 34 262143 ?_
              refine pu_ 19 56 34 786431 ?_
              refine pu_ 20 57 34 1835007 ?_
              refine pu_ 21 58 34 3932159 ?_
              refine pu_ 22 59 34 8126463 ?_
              refine pu_ 25 62 34 41680895 ?_
              refine pu_ 26 63 34 108789759 ?_
              refine pu_ 27 64 34 243007487 ?_
              refine pu_ 28 65 34 511442943 ?_
              refine tk_ 18 55 34 511705087 ?_
              refine tk_ 23 60 34 520093695 ?_
              refine tk_ 29 66 34 1056964607 ?_
              refine on_ 24 61 34 1073741823 (fun K hK => ?_)
              refine goes_ Try.func61 (by kernel_rfl) rfl #[.slice A111_1 ((rd_T86 l0 x9_2).f1).length c111_1, .int .i64 ((rd_T88 t106 x7_1).f3)] (by rfl) rfl rfl (by (try simp only [List.map_toArray, List.map_cons, List.map_nil]); first | done | rfl | (simp only [List.length_drop, List.length_take]; rfl)) ?_
              with_reducible refine (flagstoneref05_At.calls k2 _ _ ((rd_T86 l0 x9_2).f1) ((rd_T88 t106 x7_1).f3) t115 _ ?side1 ?side2 A24.out).mono ?_
              (case side1 => repeat (first | exact (Kd.C_below HR113_1.out HB.out) | (with_reducible refine Kd.C_alloc ?_ _) | (with_reducible refine Kd.C_drewN ?_ _) | (with_reducible refine Kd.C_drew ?_)))
              (case side2 => exact HC113_1.out)
              rintro e w' ⟨rfl, ⟨nd, rfl⟩⟩
              refine ⟨_, rfl, ?_⟩
              refine hK.out _ _ ⟨((HB.out.cell (World.block_lt_of_cell? w _ hw111_0)).trans hw111_0), ((HB.out.cell (World.block_lt_of_cell? w _ hw111_1)).trans hw111_1), hHeld.2.2.1, hHeld.2.2.2.1, hHeld.2.2.2.2.1, hHeld.2.2.2.2.2.1, ((HB.out.cell (World.block_lt_of_cell? w _ hw113_0)).trans hw113_0), ((HB.out.cell (World.block_lt_of_cell? w _ hw113_1)).trans hw113_1), hHeld.2.2.2.2.2.2.2.2.1, hHeld.2.2.2.2.2.2.2.2.2.1, hHeld.2.2.2.2.2.2.2.2.2.2.1, hHeld.2.2.2.2.2.2.2.2.2.2.2.1, hHeld.2.2.2.2.2.2.2.2.2.2.2.2.1, hHeld.2.2.2.2.2.2.2.2.2.2.2.2.2.1, hHeld.2.2.2.2.2.2.2.2.2.2.2.2.2.2.1, hHeld.2.2.2.2.2.2.2.2.2.2.2.2.2.2.2⟩ (fun hHeld => ?_)
              clear hK K
              refine nm_ 61 ?_
              refine pu_ 30 67 34 2147483647 ?_
              refine pu_ 31 68 34 4294967295 ?_
              refine pu_ 32 69 34 8589934591 ?_
              refine pu_ 33 8 34 17179869183 ?_
              refine done_ (done_of HT_.out (by kernel_rfl)) ?_
              try go_wp2
              go_roundg k2
              case measure => have := HK1.out; have := HK2.out; omega
              case rel => exact ⟨((t115 == ((rd_T88 t106 x7_1).f0))), (wrap64 (x9_2 + 1)), (by first | rfl | (simp; done) | (simp [*]; done)), (by first | rfl | (simp; done) | (simp [*]; done)), H', ⟨by have := HK1.out; have := HK2.out; omega⟩, ⟨by (with_reducible repeat (first | apply Kd.R_alloc | apply Kd.R_drewN | apply Kd.R_drew)); exact HO_5.out⟩, ⟨by (with_reducible repeat (first | refine blk_drewN ?_ _ | refine blk_drew ?_ | refine blk_alloc ?_ _)); exact BK101.out⟩, ⟨by repeat (first | (with_reducible first | exact HB.out | apply below_alloc | apply pw_below_drewN | apply below_drew1 | refine below_set ?_ GE101.out) | exact HB.out)⟩⟩
             ·rw [if_neg c23] at H
              have c23b0 : (((rd_T86 l0 x9_2).f0) == ((rd_T88 t106 x7_1).f2)) = false := beq_eq_false_iff_ne.mpr c23
              have c23b1 : (((rd_T86 l0 x9_2).f0) != ((rd_T88 t106 x7_1).f2)) = true := bne_iff_ne.mpr c23
              have H' := Aside0.mk H
              clear H
              try go_wp2
              have n0_ := Aside0.mk (Kd.R_drew HO_5.out)
              have n1_ := Aside0.mk (blk_drew BK101.out)
              have n2_ := Aside0.mk (below_drew1 HB.out)
              clear HO_5
              clear BK101
              clear HB
              have HO_5 := n0_
              have BK101 := n1_
              have HB := n2_
              clear n0_ n1_ n2_
              have p111 : 0 ≤ (x9_2 : Int) := of_decide_eq_true (by first | (with_reducible assumption) | assumption)
              have q111 : x9_2 < (l0.length : Int) := of_decide_eq_true (by first | (with_reducible assumption) | assumption)
              obtain ⟨ad111, A111_1, c111_1, e111, hx111_0, hx111_1, hl111_1, hi111_1⟩ := at_T86 HR0.out x9_2 p111 q111
              have hw111_1 := hx111_1
              have hw111_0 := hx111_0
              cases e111
              replace hx111_0 := (HB.out.cell (World.block_lt_of_cell? w _ hx111_0)).trans hx111_0
              replace hx111_1 := (HB.out.cell (World.block_lt_of_cell? w _ hx111_1)).trans hx111_1
              have HR111_1 := Aside0.mk hi111_1
              have HC111_1 := Aside0.mk hl111_1
              clear hi111_1 hl111_1
              replace p111 := eq_true p111
              replace q111 := eq_true q111
              have p112 : 0 ≤ (x7_1 : Int) := of_decide_eq_true (by first | (with_reducible assumption) | assumption)
              have q112 : x7_1 < (t106.length : Int) := of_decide_eq_true (by first | (with_reducible assumption) | assumption)
              obtain ⟨ad112, e112, hx112_0, hx112_1, hx112_2, hx112_3⟩ := at_T88 (Kd.R_reads' HO_5.out).2.2 x7_1 p112 q112
              cases e112
              replace p112 := eq_true p112
              replace q112 := eq_true q112
              refine start_ (n := 34) (S := fun w' => w'.cell? (ad111.add ((x9_2).toNat * 2)) = some (.int .i64 ((rd_T86 l0 x9_2).f0)) ∧ w'.cell? ⟨(ad111.add ((x9_2).toNat * 2)).block, (ad111.add ((x9_2).toNat * 2)).off + 1, none⟩ = some (.slice A111_1 ((rd_T86 l0 x9_2).f1).length c111_1) ∧ w'.cell? (ad112.add ((x7_1).toNat * 4)) = some (.int .i64 ((rd_T88 t106 x7_1).f0)) ∧ w'.cell? ⟨(ad112.add ((x7_1).toNat * 4)).block, (ad112.add ((x7_1).toNat * 4)).off + 1, none⟩ = some (.int .i64 ((rd_T88 t106 x7_1).f1)) ∧ w'.cell? ⟨(ad112.add ((x7_1).toNat * 4)).block, (ad112.add ((x7_1).toNat * 4)).off + 2, none⟩ = some (.int .i64 ((rd_T88 t106 x7_1).f2)) ∧ w'.cell? ⟨(ad112.add ((x7_1).toNat * 4)).block, (ad112.add ((x7_1).toNat * 4)).off + 3, none⟩ = some (.int .i64 ((rd_T88 t106 x7_1).f3))) (ds := []) #[yF,yF,yF,yF,yF,yF,yF,yF,yF,yF,yF,yF,yF,yF,yF,yF,yF,yF,yF,yF,yF,yF,yF,yF,yF,yF,yF,yF,yF,yF,yF,yF,yF,yF] (by kernel_rfl) rfl rfl ⟨((HB.out.cell (World.block_lt_of_cell? w _ hw111_0)).trans hw111_0), ((HB.out.cell (World.block_lt_of_cell? w _ hw111_1)).trans hw111_1), hx112_0, hx112_1, hx112_2, hx112_3⟩ (fun hHeld => ?_); refine with_tabW flagstonelaw09_RefsWho.tab13 flagstonelaw09_RefsWho.bits13 (fun HT_ HW_ => ?_)
              generalize wr.drew = w26 at HO_5 BK101 HB HR111_1 hx111_0 hx111_1 hx112_0 hx112_1 hx112_2 hx112_3 hHeld ⊢
              refine pu_ 0 37 34 1 ?_
              refine pu_ 1 38 34 3 ?_
              refine pu_ 2 39 34 7 ?_
              refine pu_ 3 40 34 15 ?_
              refine pu_ 4 41 34 31 ?_
              refine pu_ 5 42 34 63 ?_
              refine pu_ 7 44 34 191 ?_
              refine pu_ 8 45 34 447 ?_
              refine pu_ 9 46 34 959 ?_
              refine pu_ 10 47 34 1983 ?_
              refine tk_ 6 43 34 2047 ?_
              refine tk_ 11 48 34 4095 ?_
              refine pu_ 12 49 34 8191 ?_
              refine pu_ 13 50 34 16383 ?_
              refine pn_ 14 51 34 32767 ?_
              refine pn_ 15 52 34 65535 ?_
              refine pn_ 16 53 34 131071 ?_
              refine pn_ 17 54 34 262143 ?_
              refine pn_ 18 55 34 524287 ?_
              refine pn_ 19 56 34 1048575 ?_
              refine pn_ 20 57 34 2097151 ?_
              refine pn_ 21 58 34 4194303 ?_
              refine pn_ 22 59 34 8388607 ?_
              refine pn_ 23 60 34 16777215 ?_
              refine pn_ 24 61 34 33554431 ?_
              refine pn_ 25 62 34 67108863 ?_
              refine pn_ 26 63 34 134217727 ?_
              refine pn_ 27 64 34 268435455 ?_
              refine pn_ 28 65 34 536870911 ?_
              refine pn_ 29 66 34 1073741823 ?_
              refine pn_ 30 67 34 2147483647 ?_
              refine pu_ 31 68 34 4294967295 ?_
              refine pu_ 32 69 34 8589934591 ?_
              refine pu_ 33 8 34 17179869183 ?_
              refine done_ (done_of HT_.out (by kernel_rfl)) ?_
              try go_wp2
              go_roundg k2
              case measure => have := HK1.out; have := HK2.out; omega
              case rel => exact ⟨(false), (wrap64 (x9_2 + 1)), (by first | rfl | (simp; done) | (simp [*]; done)), (by first | rfl | (simp; done) | (simp [*]; done)), H', ⟨by have := HK1.out; have := HK2.out; omega⟩, ⟨by (with_reducible repeat (first | apply Kd.R_alloc | apply Kd.R_drewN | apply Kd.R_drew)); exact HO_5.out⟩, ⟨by (with_reducible repeat (first | refine blk_drewN ?_ _ | refine blk_drew ?_ | refine blk_alloc ?_ _)); exact BK101.out⟩, ⟨by repeat (first | (with_reducible first | exact HB.out | apply below_alloc | apply pw_below_drewN | apply below_drew1 | refine below_set ?_ GE101.out) | exact HB.out)⟩⟩
            ·rw [if_neg c22] at H
             exact absurd H (by simp)
           ·rw [if_neg c21] at H
            exact absurd H (by simp)
          ·rw [if_neg c20] at H
           exact absurd H (by simp)
        ·rw [if_neg c17] at H
         have c17b0 : decide (x9_2 < (l0.length : Int)) = false := decide_eq_false c17
         clear c17
         by_cases c27 : x8_2 = true
         ·subst c27
          have H1 : (if 0 ≤ x7_1 then (if x7_1 < (t106.length : Int) then (if ((rd_T88 t106 x7_1).f1) < 1 then (some false) else (if ((rd_T88 t106 x7_1).f0) < a1_0 then (some false) else (if ((rd_T88 t106 x7_1).f1) > a1_1 then (some false) else (if (wrap64 (((rd_T88 t106 x7_1).f0) - a1_0)) > (wrap64 (a1_1 - ((rd_T88 t106 x7_1).f1))) then (some false) else (flagstonelaw09_RefsWho.l0 k2 l0 t106 (wrap64 (x7_1 + 1)) a1_0 a1_1))))) else (none)) else (none)) = some r := by rw [if_pos rfl] at H; exact H
          clear H
          have H := H1
          clear H1
          by_cases c28 : 0 ≤ x7_1
          ·rw [if_pos c28] at H
           have c28b0 : decide (0 ≤ x7_1) = true := decide_eq_true c28
           clear c28
           by_cases c29 : x7_1 < (t106.length : Int)
           ·rw [if_pos c29] at H
            have c29b0 : decide (x7_1 < (t106.length : Int)) = true := decide_eq_true c29
            clear c29
            by_cases c30 : ((rd_T88 t106 x7_1).f1) < 1
            ·rw [if_pos c30] at H
             have c30b0 : decide (((rd_T88 t106 x7_1).f1) < 1) = true := decide_eq_true c30
             clear c30
             obtain rfl := Option.some.inj H
             try go_wp2
             have n0_ := Aside0.mk (Kd.R_drew HO_5.out)
             have n1_ := Aside0.mk (blk_drew BK101.out)
             have n2_ := Aside0.mk (below_drew1 HB.out)
             clear HO_5
             clear BK101
             clear HB
             have HO_5 := n0_
             have BK101 := n1_
             have HB := n2_
             clear n0_ n1_ n2_
             have p117 : 0 ≤ (x7_1 : Int) := of_decide_eq_true (by first | (with_reducible assumption) | assumption)
             have q117 : x7_1 < (t106.length : Int) := of_decide_eq_true (by first | (with_reducible assumption) | assumption)
             obtain ⟨ad117, e117, hx117_0, hx117_1, hx117_2, hx117_3⟩ := at_T88 (Kd.R_reads' HO_5.out).2.2 x7_1 p117 q117
             cases e117
             replace p117 := eq_true p117
             replace q117 := eq_true q117
             refine start_ (n := 49) (S := fun w' => w'.cell? (ad117.add ((x7_1).toNat * 4)) = some (.int .i64 ((rd_T88 t106 x7_1).f0)) ∧ w'.cell? ⟨(ad117.add ((x7_1).toNat * 4)).block, (ad117.add ((x7_1).toNat * 4)).off + 1, none⟩ = some (.int .i64 ((rd_T88 t106 x7_1).f1)) ∧ w'.cell? ⟨(ad117.add ((x7_1).toNat * 4)).block, (ad117.add ((x7_1).toNat * 4)).off + 2, none⟩ = some (.int .i64 ((rd_T88 t106 x7_1).f2)) ∧ w'.cell? ⟨(ad117.add ((x7_1).toNat * 4)).block, (ad117.add ((x7_1).toNat * 4)).off + 3, none⟩ = some (.int .i64 ((rd_T88 t106 x7_1).f3))) (ds := []) #[yF,yF,yF,yF,yF,yF,yF,yF,yF,yF,yF,yF,yF,yF,yF,yF,yF,yF,yF,yF,yF,yF,yF,yF,yF,yF,yF,yF,yF,yF,yF,yF,yF,yF,yF,yF,yF,yF,yF,yF,yF,yF,yF,yF,yF,yF,yF,yF,yF] (by kernel_rfl) rfl rfl ⟨hx117_0, hx117_1, hx117_2, hx117_3⟩ (fun hHeld => ?_); refine with_tabW flagstonelaw09_RefsWho.tab14 flagstonelaw09_RefsWho.bits14 (fun HT_ HW_ => ?_)
             generalize wr.drew = w31 at HO_5 BK101 HB hx117_0 hx117_1 hx117_2 hx117_3 hHeld ⊢
             refine pu_ 0 70 49 1 ?_
             refine pu_ 1 71 49 3 ?_
             refine pu_ 2 72 49 7 ?_
             refine pu_ 3 73 49 15 ?_
             refine pu_ 4 74 49 31 ?_
             refine pu_ 5 75 49 63 ?_
             refine pu_ 6 76 49 127 ?_
             refine tk_ 7 77 49 255 ?_
             refine pu_ 8 78 49 511 ?_
             refine pu_ 9 79 49 1023 ?_
             refine pu_ 10 80 49 2047 ?_
             refine pn_ 11 81 49 4095 ?_
             refine pn_ 12 82 49 8191 ?_
             refine pn_ 13 83 49 16383 ?_
             refine pn_ 14 84 49 32767 ?_
             refine pn_ 15 85 49 65535 ?_
             refine pn_ 16 86 49 131071 ?_
             refine pn_ 17 87 49 262143 ?_
             refine pn_ 18 88 49 524287 ?_
             refine pu_ 19 89 49 1048575 ?_
             refine pu_ 20 90 49 2097151 ?_
             refine pn_ 21 91 49 4194303 ?_
             refine pn_ 22 92 49 8388607 ?_
             refine pn_ 23 93 49 16777215 ?_
             refine pn_ 24 94 49 33554431 ?_
             refine pn_ 25 95 49 67108863 ?_
             refine pn_ 26 96 49 134217727 ?_
             refine pn_ 27 97 49 268435455 ?_
             refine pn_ 28 98 49 536870911 ?_
             refine pu_ 29 99 49 1073741823 ?_
             refine pu_ 30 100 49 2147483647 ?_
             refine pn_ 31 101 49 4294967295 ?_
             refine pn_ 32 102 49 8589934591 ?_
             refine pn_ 33 103 49 17179869183 ?_
             refine pn_ 34 104 49 34359738367 ?_
             refine pn_ 35 105 49 68719476735 ?_
             refine pn_ 36 106 49 137438953471 ?_
             refine pn_ 37 107 49 274877906943 ?_
             refine pn_ 38 108 49 549755813887 ?_
             refine pn_ 39 109 49 1099511627775 ?_
             refine pn_ 40 110 49 2199023255551 ?_
             refine pn_ 41 111 49 4398046511103 ?_
             refine pn_ 42 112 49 8796093022207 ?_
             refine pn_ 43 113 49 17592186044415 ?_
             refine pn_ 44 114 49 35184372088831 ?_
             refine pn_ 45 115 49 70368744177663 ?_
             refine pn_ 46 116 49 140737488355327 ?_
             refine pn_ 47 117 49 281474976710655 ?_
             refine pu_ 48 118 49 562949953421311 ?_
             refine done_ (done_of HT_.out (by kernel_rfl)) ?_
             try go_wp2
             go_ret
             exact ⟨by first | rfl | (simp [errW_none, errW_some] <;> rfl) | (simp [*, errW_none, errW_some] <;> rfl), by repeat (first | (with_reducible first | exact HB.out | apply below_alloc | apply pw_below_drewN | apply below_drew1 | refine below_set ?_ GE101.out) | exact HB.out)⟩
            ·rw [if_neg c30] at H
             have c30b0 : decide (((rd_T88 t106 x7_1).f1) < 1) = false := decide_eq_false c30
             clear c30
             by_cases c32 : ((rd_T88 t106 x7_1).f0) < a1_0
             ·rw [if_pos c32] at H
              have c32b0 : decide (((rd_T88 t106 x7_1).f0) < a1_0) = true := decide_eq_true c32
              clear c32
              obtain rfl := Option.some.inj H
              try go_wp2
              have n0_ := Aside0.mk (Kd.R_drew HO_5.out)
              have n1_ := Aside0.mk (blk_drew BK101.out)
              have n2_ := Aside0.mk (below_drew1 HB.out)
              clear HO_5
              clear BK101
              clear HB
              have HO_5 := n0_
              have BK101 := n1_
              have HB := n2_
              clear n0_ n1_ n2_
              have p117 : 0 ≤ (x7_1 : Int) := of_decide_eq_true (by first | (with_reducible assumption) | assumption)
              have q117 : x7_1 < (t106.length : Int) := of_decide_eq_true (by first | (with_reducible assumption) | assumption)
              obtain ⟨ad117, e117, hx117_0, hx117_1, hx117_2, hx117_3⟩ := at_T88 (Kd.R_reads' HO_5.out).2.2 x7_1 p117 q117
              cases e117
              replace p117 := eq_true p117
              replace q117 := eq_true q117
              have p118 : 0 ≤ (x7_1 : Int) := of_decide_eq_true (by first | (with_reducible assumption) | assumption)
              have q118 : x7_1 < (t106.length : Int) := of_decide_eq_true (by first | (with_reducible assumption) | assumption)
              obtain ⟨ad118, e118, hx118_0, hx118_1, hx118_2, hx118_3⟩ := at_T88 (Kd.R_reads' HO_5.out).2.2 x7_1 p118 q118
              obtain rfl : ad117 = ad118 := (by injection e118)
              replace p118 := eq_true p118
              replace q118 := eq_true q118
              refine start_ (n := 49) (S := fun w' => w'.cell? ⟨gb101, 0, none⟩ = some (.int .i64 a1_0) ∧ w'.cell? ⟨gb101, 1, none⟩ = some (.int .i64 a1_1) ∧ w'.cell? (ad117.add ((x7_1).toNat * 4)) = some (.int .i64 ((rd_T88 t106 x7_1).f0)) ∧ w'.cell? ⟨(ad117.add ((x7_1).toNat * 4)).block, (ad117.add ((x7_1).toNat * 4)).off + 1, none⟩ = some (.int .i64 ((rd_T88 t106 x7_1).f1)) ∧ w'.cell? ⟨(ad117.add ((x7_1).toNat * 4)).block, (ad117.add ((x7_1).toNat * 4)).off + 2, none⟩ = some (.int .i64 ((rd_T88 t106 x7_1).f2)) ∧ w'.cell? ⟨(ad117.add ((x7_1).toNat * 4)).block, (ad117.add ((x7_1).toNat * 4)).off + 3, none⟩ = some (.int .i64 ((rd_T88 t106 x7_1).f3)) ∧ w'.cell? (ad117.add ((x7_1).toNat * 4)) = some (.int .i64 ((rd_T88 t106 x7_1).f0)) ∧ w'.cell? ⟨(ad117.add ((x7_1).toNat * 4)).block, (ad117.add ((x7_1).toNat * 4)).off + 1, none⟩ = some (.int .i64 ((rd_T88 t106 x7_1).f1)) ∧ w'.cell? ⟨(ad117.add ((x7_1).toNat * 4)).block, (ad117.add ((x7_1).toNat * 4)).off + 2, none⟩ = some (.int .i64 ((rd_T88 t106 x7_1).f2)) ∧ w'.cell? ⟨(ad117.add ((x7_1).toNat * 4)).block, (ad117.add ((x7_1).toNat * 4)).off + 3, none⟩ = some (.int .i64 ((rd_T88 t106 x7_1).f3))) (ds := []) #[yF,yF,yF,yF,yF,yF,yF,yF,yF,yF,yF,yF,yF,yF,yF,yF,yF,yF,yF,yF,yF,yF,yF,yF,yF,yF,yF,yF,yF,yF,yF,yF,yF,yF,yF,yF,yF,yF,yF,yF,yF,yF,yF,yF,yF,yF,yF,yF,yF] (by kernel_rfl) rfl rfl ⟨(blk_cell BK101.out 0).trans rfl, (blk_cell BK101.out 1).trans rfl, hx117_0, hx117_1, hx117_2, hx117_3, hx118_0, hx118_1, hx118_2, hx118_3⟩ (fun hHeld => ?_); refine with_tabW flagstonelaw09_RefsWho.tab14 flagstonelaw09_RefsWho.bits14 (fun HT_ HW_ => ?_)
              generalize wr.drew = w33 at HO_5 BK101 HB hx117_0 hx117_1 hx117_2 hx117_3 hx118_0 hx118_1 hx118_2 hx118_3 hHeld ⊢
              refine pu_ 0 70 49 1 ?_
              refine pu_ 1 71 49 3 ?_
              refine pu_ 2 72 49 7 ?_
              refine pu_ 3 73 49 15 ?_
              refine pu_ 4 74 49 31 ?_
              refine pu_ 5 75 49 63 ?_
              refine pu_ 6 76 49 127 ?_
              refine tk_ 7 77 49 255 ?_
              refine pu_ 8 78 49 511 ?_
              refine pu_ 9 79 49 1023 ?_
              refine pu_ 10 80 49 2047 ?_
              refine pu_ 11 81 49 4095 ?_
              refine pu_ 12 82 49 8191 ?_
              refine pu_ 13 83 49 16383 ?_
              refine pu_ 14 84 49 32767 ?_
              refine pu_ 16 86 49 98303 ?_
              refine tk_ 15 85 49 131071 ?_
              refine tk_ 17 87 49 262143 ?_
              refine pu_ 18 88 49 524287 ?_
              refine pu_ 19 89 49 1048575 ?_
              refine pu_ 20 90 49 2097151 ?_
              refine pn_ 21 91 49 4194303 ?_
              refine pn_ 22 92 49 8388607 ?_
              refine pn_ 23 93 49 16777215 ?_
              refine pn_ 24 94 49 33554431 ?_
              refine pn_ 25 95 49 67108863 ?_
              refine pn_ 26 96 49 134217727 ?_
              refine pn_ 27 97 49 268435455 ?_
              refine pn_ 28 98 49 536870911 ?_
              refine pu_ 29 99 49 1073741823 ?_
              refine pu_ 30 100 49 2147483647 ?_
              refine pn_ 31 101 49 4294967295 ?_
              refine pn_ 32 102 49 8589934591 ?_
              refine pn_ 33 103 49 17179869183 ?_
              refine pn_ 34 104 49 34359738367 ?_
              refine pn_ 35 105 49 68719476735 ?_
              refine pn_ 36 106 49 137438953471 ?_
              refine pn_ 37 107 49 274877906943 ?_
              refine pn_ 38 108 49 549755813887 ?_
              refine pn_ 39 109 49 1099511627775 ?_
              refine pn_ 40 110 49 2199023255551 ?_
              refine pn_ 41 111 49 4398046511103 ?_
              refine pn_ 42 112 49 8796093022207 ?_
              refine pn_ 43 113 49 17592186044415 ?_
              refine pn_ 44 114 49 35184372088831 ?_
              refine pn_ 45 115 49 70368744177663 ?_
              refine pn_ 46 116 49 140737488355327 ?_
              refine pn_ 47 117 49 281474976710655 ?_
              refine pu_ 48 118 49 562949953421311 ?_
              refine done_ (done_of HT_.out (by kernel_rfl)) ?_
              try go_wp2
              go_ret
              exact ⟨by first | rfl | (simp [errW_none, errW_some] <;> rfl) | (simp [*, errW_none, errW_some] <;> rfl), by repeat (first | (with_reducible first | exact HB.out | apply below_alloc | apply pw_below_drewN | apply below_drew1 | refine below_set ?_ GE101.out) | exact HB.out)⟩
             ·rw [if_neg c32] at H
              have c32b0 : decide (((rd_T88 t106 x7_1).f0) < a1_0) = false := decide_eq_false c32
              clear c32
              by_cases c34 : ((rd_T88 t106 x7_1).f1) > a1_1
              ·rw [if_pos c34] at H
               have c34b0 : decide (a1_1 < ((rd_T88 t106 x7_1).f1)) = true := decide_eq_true c34
               clear c34
               obtain rfl := Option.some.inj H
               try go_wp2
               have n0_ := Aside0.mk (Kd.R_drew HO_5.out)
               have n1_ := Aside0.mk (blk_drew BK101.out)
               have n2_ := Aside0.mk (below_drew1 HB.out)
               clear HO_5
               clear BK101
               clear HB
               have HO_5 := n0_
               have BK101 := n1_
               have HB := n2_
               clear n0_ n1_ n2_
               have p117 : 0 ≤ (x7_1 : Int) := of_decide_eq_true (by first | (with_reducible assumption) | assumption)
               have q117 : x7_1 < (t106.length : Int) := of_decide_eq_true (by first | (with_reducible assumption) | assumption)
               obtain ⟨ad117, e117, hx117_0, hx117_1, hx117_2, hx117_3⟩ := at_T88 (Kd.R_reads' HO_5.out).2.2 x7_1 p117 q117
               cases e117
               replace p117 := eq_true p117
               replace q117 := eq_true q117
               have p118 : 0 ≤ (x7_1 : Int) := of_decide_eq_true (by first | (with_reducible assumption) | assumption)
               have q118 : x7_1 < (t106.length : Int) := of_decide_eq_true (by first | (with_reducible assumption) | assumption)
               obtain ⟨ad118, e118, hx118_0, hx118_1, hx118_2, hx118_3⟩ := at_T88 (Kd.R_reads' HO_5.out).2.2 x7_1 p118 q118
               obtain rfl : ad117 = ad118 := (by injection e118)
               replace p118 := eq_true p118
               replace q118 := eq_true q118
               have p119 : 0 ≤ (x7_1 : Int) := of_decide_eq_true (by first | (with_reducible assumption) | assumption)
               have q119 : x7_1 < (t106.length : Int) := of_decide_eq_true (by first | (with_reducible assumption) | assumption)
               obtain ⟨ad119, e119, hx119_0, hx119_1, hx119_2, hx119_3⟩ := at_T88 (Kd.R_reads' HO_5.out).2.2 x7_1 p119 q119
               obtain rfl : ad117 = ad119 := (by injection e119)
               replace p119 := eq_true p119
               replace q119 := eq_true q119
               refine start_ (n := 49) (S := fun w' => w'.cell? ⟨gb101, 0, none⟩ = some (.int .i64 a1_0) ∧ w'.cell? ⟨gb101, 1, none⟩ = some (.int .i64 a1_1) ∧ w'.cell? (ad117.add ((x7_1).toNat * 4)) = some (.int .i64 ((rd_T88 t106 x7_1).f0)) ∧ w'.cell? ⟨(ad117.add ((x7_1).toNat * 4)).block, (ad117.add ((x7_1).toNat * 4)).off + 1, none⟩ = some (.int .i64 ((rd_T88 t106 x7_1).f1)) ∧ w'.cell? ⟨(ad117.add ((x7_1).toNat * 4)).block, (ad117.add ((x7_1).toNat * 4)).off + 2, none⟩ = some (.int .i64 ((rd_T88 t106 x7_1).f2)) ∧ w'.cell? ⟨(ad117.add ((x7_1).toNat * 4)).block, (ad117.add ((x7_1).toNat * 4)).off + 3, none⟩ = some (.int .i64 ((rd_T88 t106 x7_1).f3)) ∧ w'.cell? (ad117.add ((x7_1).toNat * 4)) = some (.int .i64 ((rd_T88 t106 x7_1).f0)) ∧ w'.cell? ⟨(ad117.add ((x7_1).toNat * 4)).block, (ad117.add ((x7_1).toNat * 4)).off + 1, none⟩ = some (.int .i64 ((rd_T88 t106 x7_1).f1)) ∧ w'.cell? ⟨(ad117.add ((x7_1).toNat * 4)).block, (ad117.add ((x7_1).toNat * 4)).off + 2, none⟩ = some (.int .i64 ((rd_T88 t106 x7_1).f2)) ∧ w'.cell? ⟨(ad117.add ((x7_1).toNat * 4)).block, (ad117.add ((x7_1).toNat * 4)).off + 3, none⟩ = some (.int .i64 ((rd_T88 t106 x7_1).f3)) ∧ w'.cell? (ad117.add ((x7_1).toNat * 4)) = some (.int .i64 ((rd_T88 t106 x7_1).f0)) ∧ w'.cell? ⟨(ad117.add ((x7_1).toNat * 4)).block, (ad117.add ((x7_1).toNat * 4)).off + 1, none⟩ = some (.int .i64 ((rd_T88 t106 x7_1).f1)) ∧ w'.cell? ⟨(ad117.add ((x7_1).toNat * 4)).block, (ad117.add ((x7_1).toNat * 4)).off + 2, none⟩ = some (.int .i64 ((rd_T88 t106 x7_1).f2)) ∧ w'.cell? ⟨(ad117.add ((x7_1).toNat * 4)).block, (ad117.add ((x7_1).toNat * 4)).off + 3, none⟩ = some (.int .i64 ((rd_T88 t106 x7_1).f3))) (ds := []) #[yF,yF,yF,yF,yF,yF,yF,yF,yF,yF,yF,yF,yF,yF,yF,yF,yF,yF,yF,yF,yF,yF,yF,yF,yF,yF,yF,yF,yF,yF,yF,yF,yF,yF,yF,yF,yF,yF,yF,yF,yF,yF,yF,yF,yF,yF,yF,yF,yF] (by kernel_rfl) rfl rfl ⟨(blk_cell BK101.out 0).trans rfl, (blk_cell BK101.out 1).trans rfl, hx117_0, hx117_1, hx117_2, hx117_3, hx118_0, hx118_1, hx118_2, hx118_3, hx119_0, hx119_1, hx119_2, hx119_3⟩ (fun hHeld => ?_); refine with_tabW flagstonelaw09_RefsWho.tab14 flagstonelaw09_RefsWho.bits14 (fun HT_ HW_ => ?_)
               generalize wr.drew = w35 at HO_5 BK101 HB hx117_0 hx117_1 hx117_2 hx117_3 hx118_0 hx118_1 hx118_2 hx118_3 hx119_0 hx119_1 hx119_2 hx119_3 hHeld ⊢
               refine pu_ 0 70 49 1 ?_
               refine pu_ 1 71 49 3 ?_
               refine pu_ 2 72 49 7 ?_
               refine pu_ 3 73 49 15 ?_
               refine pu_ 4 74 49 31 ?_
               refine pu_ 5 75 49 63 ?_
               refine pu_ 6 76 49 127 ?_
               refine tk_ 7 77 49 255 ?_
               refine pu_ 8 78 49 511 ?_
               refine pu_ 9 79 49 1023 ?_
               refine pu_ 10 80 49 2047 ?_
               refine pu_ 11 81 49 4095 ?_
               refine pu_ 12 82 49 8191 ?_
               refine pu_ 13 83 49 16383 ?_
               refine pu_ 14 84 49 32767 ?_
               refine pu_ 16 86 49 98303 ?_
               refine tk_ 15 85 49 131071 ?_
               refine tk_ 17 87 49 262143 ?_
               refine pu_ 18 88 49 524287 ?_
               refine pu_ 19 89 49 1048575 ?_
               refine pu_ 20 90 49 2097151 ?_
               refine pu_ 21 91 49 4194303 ?_
               refine pu_ 22 92 49 8388607 ?_
               refine pu_ 23 93 49 16777215 ?_
               refine pu_ 24 94 49 33554431 ?_
               refine pu_ 26 96 49 100663295 ?_
               refine tk_ 25 95 49 134217727 ?_
               refine tk_ 27 97 49 268435455 ?_
               refine pu_ 28 98 49 536870911 ?_
               refine pu_ 29 99 49 1073741823 ?_
               refine pu_ 30 100 49 2147483647 ?_
               refine pn_ 31 101 49 4294967295 ?_
               refine pn_ 32 102 49 8589934591 ?_
               refine pn_ 33 103 49 17179869183 ?_
               refine pn_ 34 104 49 34359738367 ?_
               refine pn_ 35 105 49 68719476735 ?_
               refine pn_ 36 106 49 137438953471 ?_
               refine pn_ 37 107 49 274877906943 ?_
               refine pn_ 38 108 49 549755813887 ?_
               refine pn_ 39 109 49 1099511627775 ?_
               refine pn_ 40 110 49 2199023255551 ?_
               refine pn_ 41 111 49 4398046511103 ?_
               refine pn_ 42 112 49 8796093022207 ?_
               refine pn_ 43 113 49 17592186044415 ?_
               refine pn_ 44 114 49 35184372088831 ?_
               refine pn_ 45 115 49 70368744177663 ?_
               refine pn_ 46 116 49 140737488355327 ?_
               refine pn_ 47 117 49 281474976710655 ?_
               refine pu_ 48 118 49 562949953421311 ?_
               refine done_ (done_of HT_.out (by kernel_rfl)) ?_
               try go_wp2
               go_ret
               exact ⟨by first | rfl | (simp [errW_none, errW_some] <;> rfl) | (simp [*, errW_none, errW_some] <;> rfl), by repeat (first | (with_reducible first | exact HB.out | apply below_alloc | apply pw_below_drewN | apply below_drew1 | refine below_set ?_ GE101.out) | exact HB.out)⟩
              ·rw [if_neg c34] at H
               have c34b0 : decide (a1_1 < ((rd_T88 t106 x7_1).f1)) = false := decide_eq_false c34
               clear c34
               by_cases c36 : (wrap64 (((rd_T88 t106 x7_1).f0) - a1_0)) > (wrap64 (a1_1 - ((rd_T88 t106 x7_1).f1)))
               ·rw [if_pos c36] at H
                have c36b0 : decide ((wrap64 (a1_1 - ((rd_T88 t106 x7_1).f1))) < (wrap64 (((rd_T88 t106 x7_1).f0) - a1_0))) = true := decide_eq_true c36
                clear c36
                obtain rfl := Option.some.inj H
                try go_wp2
                have n0_ := Aside0.mk (Kd.R_drew HO_5.out)
                have n1_ := Aside0.mk (blk_drew BK101.out)
                have n2_ := Aside0.mk (below_drew1 HB.out)
                clear HO_5
                clear BK101
                clear HB
                have HO_5 := n0_
                have BK101 := n1_
                have HB := n2_
                clear n0_ n1_ n2_
                have p117 : 0 ≤ (x7_1 : Int) := of_decide_eq_true (by first | (with_reducible assumption) | assumption)
                have q117 : x7_1 < (t106.length : Int) := of_decide_eq_true (by first | (with_reducible assumption) | assumption)
                obtain ⟨ad117, e117, hx117_0, hx117_1, hx117_2, hx117_3⟩ := at_T88 (Kd.R_reads' HO_5.out).2.2 x7_1 p117 q117
                cases e117
                replace p117 := eq_true p117
                replace q117 := eq_true q117
                have p118 : 0 ≤ (x7_1 : Int) := of_decide_eq_true (by first | (with_reducible assumption) | assumption)
                have q118 : x7_1 < (t106.length : Int) := of_decide_eq_true (by first | (with_reducible assumption) | assumption)
                obtain ⟨ad118, e118, hx118_0, hx118_1, hx118_2, hx118_3⟩ := at_T88 (Kd.R_reads' HO_5.out).2.2 x7_1 p118 q118
                obtain rfl : ad117 = ad118 := (by injection e118)
                replace p118 := eq_true p118
                replace q118 := eq_true q118
                have p119 : 0 ≤ (x7_1 : Int) := of_decide_eq_true (by first | (with_reducible assumption) | assumption)
                have q119 : x7_1 < (t106.length : Int) := of_decide_eq_true (by first | (with_reducible assumption) | assumption)
                obtain ⟨ad119, e119, hx119_0, hx119_1, hx119_2, hx119_3⟩ := at_T88 (Kd.R_reads' HO_5.out).2.2 x7_1 p119 q119
                obtain rfl : ad117 = ad119 := (by injection e119)
                replace p119 := eq_true p119
                replace q119 := eq_true q119
                have p120 : 0 ≤ (x7_1 : Int) := of_decide_eq_true (by first | (with_reducible assumption) | assumption)
                have q120 : x7_1 < (t106.length : Int) := of_decide_eq_true (by first | (with_reducible assumption) | assumption)
                obtain ⟨ad120, e120, hx120_0, hx120_1, hx120_2, hx120_3⟩ := at_T88 (Kd.R_reads' HO_5.out).2.2 x7_1 p120 q120
                obtain rfl : ad117 = ad120 := (by injection e120)
                replace p120 := eq_true p120
                replace q120 := eq_true q120
                have p121 : 0 ≤ (x7_1 : Int) := of_decide_eq_true (by first | (with_reducible assumption) | assumption)
                have q121 : x7_1 < (t106.length : Int) := of_decide_eq_true (by first | (with_reducible assumption) | assumption)
                obtain ⟨ad121, e121, hx121_0, hx121_1, hx121_2, hx121_3⟩ := at_T88 (Kd.R_reads' HO_5.out).2.2 x7_1 p121 q121
                obtain rfl : ad117 = ad121 := (by injection e121)
                replace p121 := eq_true p121
                replace q121 := eq_true q121
                refine start_ (n := 49) (S := fun w' => w'.cell? ⟨gb101, 0, none⟩ = some (.int .i64 a1_0) ∧ w'.cell? ⟨gb101, 1, none⟩ = some (.int .i64 a1_1) ∧ w'.cell? (ad117.add ((x7_1).toNat * 4)) = some (.int .i64 ((rd_T88 t106 x7_1).f0)) ∧ w'.cell? ⟨(ad117.add ((x7_1).toNat * 4)).block, (ad117.add ((x7_1).toNat * 4)).off + 1, none⟩ = some (.int .i64 ((rd_T88 t106 x7_1).f1)) ∧ w'.cell? ⟨(ad117.add ((x7_1).toNat * 4)).block, (ad117.add ((x7_1).toNat * 4)).off + 2, none⟩ = some (.int .i64 ((rd_T88 t106 x7_1).f2)) ∧ w'.cell? ⟨(ad117.add ((x7_1).toNat * 4)).block, (ad117.add ((x7_1).toNat * 4)).off + 3, none⟩ = some (.int .i64 ((rd_T88 t106 x7_1).f3)) ∧ w'.cell? (ad117.add ((x7_1).toNat * 4)) = some (.int .i64 ((rd_T88 t106 x7_1).f0)) ∧ w'.cell? ⟨(ad117.add ((x7_1).toNat * 4)).block, (ad117.add ((x7_1).toNat * 4)).off + 1, none⟩ = some (.int .i64 ((rd_T88 t106 x7_1).f1)) ∧ w'.cell? ⟨(ad117.add ((x7_1).toNat * 4)).block, (ad117.add ((x7_1).toNat * 4)).off + 2, none⟩ = some (.int .i64 ((rd_T88 t106 x7_1).f2)) ∧ w'.cell? ⟨(ad117.add ((x7_1).toNat * 4)).block, (ad117.add ((x7_1).toNat * 4)).off + 3, none⟩ = some (.int .i64 ((rd_T88 t106 x7_1).f3)) ∧ w'.cell? (ad117.add ((x7_1).toNat * 4)) = some (.int .i64 ((rd_T88 t106 x7_1).f0)) ∧ w'.cell? ⟨(ad117.add ((x7_1).toNat * 4)).block, (ad117.add ((x7_1).toNat * 4)).off + 1, none⟩ = some (.int .i64 ((rd_T88 t106 x7_1).f1)) ∧ w'.cell? ⟨(ad117.add ((x7_1).toNat * 4)).block, (ad117.add ((x7_1).toNat * 4)).off + 2, none⟩ = some (.int .i64 ((rd_T88 t106 x7_1).f2)) ∧ w'.cell? ⟨(ad117.add ((x7_1).toNat * 4)).block, (ad117.add ((x7_1).toNat * 4)).off + 3, none⟩ = some (.int .i64 ((rd_T88 t106 x7_1).f3)) ∧ w'.cell? (ad117.add ((x7_1).toNat * 4)) = some (.int .i64 ((rd_T88 t106 x7_1).f0)) ∧ w'.cell? ⟨(ad117.add ((x7_1).toNat * 4)).block, (ad117.add ((x7_1).toNat * 4)).off + 1, none⟩ = some (.int .i64 ((rd_T88 t106 x7_1).f1)) ∧ w'.cell? ⟨(ad117.add ((x7_1).toNat * 4)).block, (ad117.add ((x7_1).toNat * 4)).off + 2, none⟩ = some (.int .i64 ((rd_T88 t106 x7_1).f2)) ∧ w'.cell? ⟨(ad117.add ((x7_1).toNat * 4)).block, (ad117.add ((x7_1).toNat * 4)).off + 3, none⟩ = some (.int .i64 ((rd_T88 t106 x7_1).f3)) ∧ w'.cell? (ad117.add ((x7_1).toNat * 4)) = some (.int .i64 ((rd_T88 t106 x7_1).f0)) ∧ w'.cell? ⟨(ad117.add ((x7_1).toNat * 4)).block, (ad117.add ((x7_1).toNat * 4)).off + 1, none⟩ = some (.int .i64 ((rd_T88 t106 x7_1).f1)) ∧ w'.cell? ⟨(ad117.add ((x7_1).toNat * 4)).block, (ad117.add ((x7_1).toNat * 4)).off + 2, none⟩ = some (.int .i64 ((rd_T88 t106 x7_1).f2)) ∧ w'.cell? ⟨(ad117.add ((x7_1).toNat * 4)).block, (ad117.add ((x7_1).toNat * 4)).off + 3, none⟩ = some (.int .i64 ((rd_T88 t106 x7_1).f3))) (ds := []) #[yF,yF,yF,yF,yF,yF,yF,yF,yF,yF,yF,yF,yF,yF,yF,yF,yF,yF,yF,yF,yF,yF,yF,yF,yF,yF,yF,yF,yF,yF,yF,yF,yF,yF,yF,yF,yF,yF,yF,yF,yF,yF,yF,yF,yF,yF,yF,yF,yF] (by kernel_rfl) rfl rfl ⟨(blk_cell BK101.out 0).trans rfl, (blk_cell BK101.out 1).trans rfl, hx117_0, hx117_1, hx117_2, hx117_3, hx118_0, hx118_1, hx118_2, hx118_3, hx119_0, hx119_1, hx119_2, hx119_3, hx120_0, hx120_1, hx120_2, hx120_3, hx121_0, hx121_1, hx121_2, hx121_3⟩ (fun hHeld => ?_); refine with_tabW flagstonelaw09_RefsWho.tab14 flagstonelaw09_RefsWho.bits14 (fun HT_ HW_ => ?_)
                generalize wr.drew = w37 at HO_5 BK101 HB hx117_0 hx117_1 hx117_2 hx117_3 hx118_0 hx118_1 hx118_2 hx118_3 hx119_0 hx119_1 hx119_2 hx119_3 hx120_0 hx120_1 hx120_2 hx120_3 hx121_0 hx121_1 hx121_2 hx121_3 hHeld ⊢
                refine pu_ 0 70 49 1 ?_
                refine pu_ 1 71 49 3 ?_
                refine pu_ 2 72 49 7 ?_
                refine pu_ 3 73 49 15 ?_
                refine pu_ 4 74 49 31 ?_
                refine pu_ 5 75 49 63 ?_
                refine pu_ 6 76 49 127 ?_
                refine tk_ 7 77 49 255 ?_
                refine pu_ 8 78 49 511 ?_
                refine pu_ 9 79 49 1023 ?_
                refine pu_ 10 80 49 2047 ?_
                refine pu_ 11 81 49 4095 ?_
                refine pu_ 12 82 49 8191 ?_
                refine pu_ 13 83 49 16383 ?_
                refine pu_ 14 84 49 32767 ?_
                refine pu_ 16 86 49 98303 ?_
                refine tk_ 15 85 49 131071 ?_
                refine tk_ 17 87 49 262143 ?_
                refine pu_ 18 88 49 524287 ?_
                refine pu_ 19 89 49 1048575 ?_
                refine pu_ 20 90 49 2097151 ?_
                refine pu_ 21 91 49 4194303 ?_
                refine pu_ 22 92 49 8388607 ?_
                refine pu_ 23 93 49 16777215 ?_
                refine pu_ 24 94 49 33554431 ?_
                refine pu_ 26 96 49 100663295 ?_
                refine tk_ 25 95 49 134217727 ?_
                refine tk_ 27 97 49 268435455 ?_
                refine pu_ 28 98 49 536870911 ?_
                refine pu_ 29 99 49 1073741823 ?_
                refine pu_ 30 100 49 2147483647 ?_
                refine pu_ 31 101 49 4294967295 ?_
                refine pu_ 32 102 49 8589934591 ?_
                refine pu_ 33 103 49 17179869183 ?_
                refine pu_ 34 104 49 34359738367 ?_
                refine pu_ 36 106 49 103079215103 ?_
                refine pu_ 39 109 49 652835028991 ?_
                refine pu_ 41 111 49 2851858284543 ?_
                refine pu_ 42 112 49 7249904795647 ?_
                refine pu_ 43 113 49 16045997817855 ?_
                refine pu_ 44 114 49 33638183862271 ?_
                refine tk_ 35 105 49 33672543600639 ?_
                refine tk_ 37 107 49 33809982554111 ?_
                refine pu_ 38 108 49 34084860461055 ?_
                refine tk_ 40 110 49 35184372088831 ?_
                refine tk_ 45 115 49 70368744177663 ?_
                refine pu_ 46 116 49 140737488355327 ?_
                refine pu_ 47 117 49 281474976710655 ?_
                refine pu_ 48 118 49 562949953421311 ?_
                refine done_ (done_of HT_.out (by kernel_rfl)) ?_
                try go_wp2
                go_ret
                exact ⟨by first | rfl | (simp [errW_none, errW_some] <;> rfl) | (simp [*, errW_none, errW_some] <;> rfl), by repeat (first | (with_reducible first | exact HB.out | apply below_alloc | apply pw_below_drewN | apply below_drew1 | refine below_set ?_ GE101.out) | exact HB.out)⟩
               ·rw [if_neg c36] at H
                have c36b0 : decide ((wrap64 (a1_1 - ((rd_T88 t106 x7_1).f1))) < (wrap64 (((rd_T88 t106 x7_1).f0) - a1_0))) = false := decide_eq_false c36
                clear c36
                have H' := Aside0.mk H
                clear H
                try go_wp2
                have n0_ := Aside0.mk (Kd.R_drew HO_5.out)
                have n1_ := Aside0.mk (blk_drew BK101.out)
                have n2_ := Aside0.mk (below_drew1 HB.out)
                clear HO_5
                clear BK101
                clear HB
                have HO_5 := n0_
                have BK101 := n1_
                have HB := n2_
                clear n0_ n1_ n2_
                have p117 : 0 ≤ (x7_1 : Int) := of_decide_eq_true (by first | (with_reducible assumption) | assumption)
                have q117 : x7_1 < (t106.length : Int) := of_decide_eq_true (by first | (with_reducible assumption) | assumption)
                obtain ⟨ad117, e117, hx117_0, hx117_1, hx117_2, hx117_3⟩ := at_T88 (Kd.R_reads' HO_5.out).2.2 x7_1 p117 q117
                cases e117
                replace p117 := eq_true p117
                replace q117 := eq_true q117
                have p118 : 0 ≤ (x7_1 : Int) := of_decide_eq_true (by first | (with_reducible assumption) | assumption)
                have q118 : x7_1 < (t106.length : Int) := of_decide_eq_true (by first | (with_reducible assumption) | assumption)
                obtain ⟨ad118, e118, hx118_0, hx118_1, hx118_2, hx118_3⟩ := at_T88 (Kd.R_reads' HO_5.out).2.2 x7_1 p118 q118
                obtain rfl : ad117 = ad118 := (by injection e118)
                replace p118 := eq_true p118
                replace q118 := eq_true q118
                have p119 : 0 ≤ (x7_1 : Int) := of_decide_eq_true (by first | (with_reducible assumption) | assumption)
                have q119 : x7_1 < (t106.length : Int) := of_decide_eq_true (by first | (with_reducible assumption) | assumption)
                obtain ⟨ad119, e119, hx119_0, hx119_1, hx119_2, hx119_3⟩ := at_T88 (Kd.R_reads' HO_5.out).2.2 x7_1 p119 q119
                obtain rfl : ad117 = ad119 := (by injection e119)
                replace p119 := eq_true p119
                replace q119 := eq_true q119
                have p120 : 0 ≤ (x7_1 : Int) := of_decide_eq_true (by first | (with_reducible assumption) | assumption)
                have q120 : x7_1 < (t106.length : Int) := of_decide_eq_true (by first | (with_reducible assumption) | assumption)
                obtain ⟨ad120, e120, hx120_0, hx120_1, hx120_2, hx120_3⟩ := at_T88 (Kd.R_reads' HO_5.out).2.2 x7_1 p120 q120
                obtain rfl : ad117 = ad120 := (by injection e120)
                replace p120 := eq_true p120
                replace q120 := eq_true q120
                have p121 : 0 ≤ (x7_1 : Int) := of_decide_eq_true (by first | (with_reducible assumption) | assumption)
                have q121 : x7_1 < (t106.length : Int) := of_decide_eq_true (by first | (with_reducible assumption) | assumption)
                obtain ⟨ad121, e121, hx121_0, hx121_1, hx121_2, hx121_3⟩ := at_T88 (Kd.R_reads' HO_5.out).2.2 x7_1 p121 q121
                obtain rfl : ad117 = ad121 := (by injection e121)
                replace p121 := eq_true p121
                replace q121 := eq_true q121
                refine start_ (n := 49) (S := fun w' => w'.cell? ⟨gb101, 0, none⟩ = some (.int .i64 a1_0) ∧ w'.cell? ⟨gb101, 1, none⟩ = some (.int .i64 a1_1) ∧ w'.cell? (ad117.add ((x7_1).toNat * 4)) = some (.int .i64 ((rd_T88 t106 x7_1).f0)) ∧ w'.cell? ⟨(ad117.add ((x7_1).toNat * 4)).block, (ad117.add ((x7_1).toNat * 4)).off + 1, none⟩ = some (.int .i64 ((rd_T88 t106 x7_1).f1)) ∧ w'.cell? ⟨(ad117.add ((x7_1).toNat * 4)).block, (ad117.add ((x7_1).toNat * 4)).off + 2, none⟩ = some (.int .i64 ((rd_T88 t106 x7_1).f2)) ∧ w'.cell? ⟨(ad117.add ((x7_1).toNat * 4)).block, (ad117.add ((x7_1).toNat * 4)).off + 3, none⟩ = some (.int .i64 ((rd_T88 t106 x7_1).f3)) ∧ w'.cell? (ad117.add ((x7_1).toNat * 4)) = some (.int .i64 ((rd_T88 t106 x7_1).f0)) ∧ w'.cell? ⟨(ad117.add ((x7_1).toNat * 4)).block, (ad117.add ((x7_1).toNat * 4)).off + 1, none⟩ = some (.int .i64 ((rd_T88 t106 x7_1).f1)) ∧ w'.cell? ⟨(ad117.add ((x7_1).toNat * 4)).block, (ad117.add ((x7_1).toNat * 4)).off + 2, none⟩ = some (.int .i64 ((rd_T88 t106 x7_1).f2)) ∧ w'.cell? ⟨(ad117.add ((x7_1).toNat * 4)).block, (ad117.add ((x7_1).toNat * 4)).off + 3, none⟩ = some (.int .i64 ((rd_T88 t106 x7_1).f3)) ∧ w'.cell? (ad117.add ((x7_1).toNat * 4)) = some (.int .i64 ((rd_T88 t106 x7_1).f0)) ∧ w'.cell? ⟨(ad117.add ((x7_1).toNat * 4)).block, (ad117.add ((x7_1).toNat * 4)).off + 1, none⟩ = some (.int .i64 ((rd_T88 t106 x7_1).f1)) ∧ w'.cell? ⟨(ad117.add ((x7_1).toNat * 4)).block, (ad117.add ((x7_1).toNat * 4)).off + 2, none⟩ = some (.int .i64 ((rd_T88 t106 x7_1).f2)) ∧ w'.cell? ⟨(ad117.add ((x7_1).toNat * 4)).block, (ad117.add ((x7_1).toNat * 4)).off + 3, none⟩ = some (.int .i64 ((rd_T88 t106 x7_1).f3)) ∧ w'.cell? (ad117.add ((x7_1).toNat * 4)) = some (.int .i64 ((rd_T88 t106 x7_1).f0)) ∧ w'.cell? ⟨(ad117.add ((x7_1).toNat * 4)).block, (ad117.add ((x7_1).toNat * 4)).off + 1, none⟩ = some (.int .i64 ((rd_T88 t106 x7_1).f1)) ∧ w'.cell? ⟨(ad117.add ((x7_1).toNat * 4)).block, (ad117.add ((x7_1).toNat * 4)).off + 2, none⟩ = some (.int .i64 ((rd_T88 t106 x7_1).f2)) ∧ w'.cell? ⟨(ad117.add ((x7_1).toNat * 4)).block, (ad117.add ((x7_1).toNat * 4)).off + 3, none⟩ = some (.int .i64 ((rd_T88 t106 x7_1).f3)) ∧ w'.cell? (ad117.add ((x7_1).toNat * 4)) = some (.int .i64 ((rd_T88 t106 x7_1).f0)) ∧ w'.cell? ⟨(ad117.add ((x7_1).toNat * 4)).block, (ad117.add ((x7_1).toNat * 4)).off + 1, none⟩ = some (.int .i64 ((rd_T88 t106 x7_1).f1)) ∧ w'.cell? ⟨(ad117.add ((x7_1).toNat * 4)).block, (ad117.add ((x7_1).toNat * 4)).off + 2, none⟩ = some (.int .i64 ((rd_T88 t106 x7_1).f2)) ∧ w'.cell? ⟨(ad117.add ((x7_1).toNat * 4)).block, (ad117.add ((x7_1).toNat * 4)).off + 3, none⟩ = some (.int .i64 ((rd_T88 t106 x7_1).f3))) (ds := []) #[yF,yF,yF,yF,yF,yF,yF,yF,yF,yF,yF,yF,yF,yF,yF,yF,yF,yF,yF,yF,yF,yF,yF,yF,yF,yF,yF,yF,yF,yF,yF,yF,yF,yF,yF,yF,yF,yF,yF,yF,yF,yF,yF,yF,yF,yF,yF,yF,yF] (by kernel_rfl) rfl rfl ⟨(blk_cell BK101.out 0).trans rfl, (blk_cell BK101.out 1).trans rfl, hx117_0, hx117_1, hx117_2, hx117_3, hx118_0, hx118_1, hx118_2, hx118_3, hx119_0, hx119_1, hx119_2, hx119_3, hx120_0, hx120_1, hx120_2, hx120_3, hx121_0, hx121_1, hx121_2, hx121_3⟩ (fun hHeld => ?_); refine with_tabW flagstonelaw09_RefsWho.tab14 flagstonelaw09_RefsWho.bits14 (fun HT_ HW_ => ?_)
                generalize wr.drew = w38 at HO_5 BK101 HB hx117_0 hx117_1 hx117_2 hx117_3 hx118_0 hx118_1 hx118_2 hx118_3 hx119_0 hx119_1 hx119_2 hx119_3 hx120_0 hx120_1 hx120_2 hx120_3 hx121_0 hx121_1 hx121_2 hx121_3 hHeld ⊢
                refine pu_ 0 70 49 1 ?_
                refine pu_ 1 71 49 3 ?_
                refine pu_ 2 72 49 7 ?_
                refine pu_ 3 73 49 15 ?_
                refine pu_ 4 74 49 31 ?_
                refine pu_ 5 75 49 63 ?_
                refine pu_ 6 76 49 127 ?_
                refine tk_ 7 77 49 255 ?_
                refine pu_ 8 78 49 511 ?_
                refine pu_ 9 79 49 1023 ?_
                refine pu_ 10 80 49 2047 ?_
                refine pu_ 11 81 49 4095 ?_
                refine pu_ 12 82 49 8191 ?_
                refine pu_ 13 83 49 16383 ?_
                refine pu_ 14 84 49 32767 ?_
                refine pu_ 16 86 49 98303 ?_
                refine tk_ 15 85 49 131071 ?_
                refine tk_ 17 87 49 262143 ?_
                refine pu_ 18 88 49 524287 ?_
                refine pu_ 19 89 49 1048575 ?_
                refine pu_ 20 90 49 2097151 ?_
                refine pu_ 21 91 49 4194303 ?_
                refine pu_ 22 92 49 8388607 ?_
                refine pu_ 23 93 49 16777215 ?_
                refine pu_ 24 94 49 33554431 ?_
                refine pu_ 26 96 49 100663295 ?_
                refine tk_ 25 95 49 134217727 ?_
                refine tk_ 27 97 49 268435455 ?_
                refine pu_ 28 98 49 536870911 ?_
                refine pu_ 29 99 49 1073741823 ?_
                refine pu_ 30 100 49 2147483647 ?_
                refine pu_ 31 101 49 4294967295 ?_
                refine pu_ 32 102 49 8589934591 ?_
                refine pu_ 33 103 49 17179869183 ?_
                refine pu_ 34 104 49 34359738367 ?_
                refine pu_ 36 106 49 103079215103 ?_
                refine pu_ 39 109 49 652835028991 ?_
                refine pu_ 41 111 49 2851858284543 ?_
                refine pu_ 42 112 49 7249904795647 ?_
                refine pu_ 43 113 49 16045997817855 ?_
                refine pu_ 44 114 49 33638183862271 ?_
                refine tk_ 35 105 49 33672543600639 ?_
                refine tk_ 37 107 49 33809982554111 ?_
                refine pu_ 38 108 49 34084860461055 ?_
                refine tk_ 40 110 49 35184372088831 ?_
                refine tk_ 45 115 49 70368744177663 ?_
                refine pu_ 46 116 49 140737488355327 ?_
                refine pu_ 47 117 49 281474976710655 ?_
                refine pu_ 48 118 49 562949953421311 ?_
                refine done_ (done_of HT_.out (by kernel_rfl)) ?_
                try go_wp2
                go_roundg k2
                case measure => have := HK1.out; have := HK2.out; omega
                case rel => exact ⟨(wrap64 (x7_1 + 1)), (by first | rfl | (simp; done) | (simp [*]; done)), H', ⟨by have := HK1.out; have := HK2.out; omega⟩, ⟨by (with_reducible repeat (first | apply Kd.R_alloc | apply Kd.R_drewN | apply Kd.R_drew)); exact HO_5.out⟩, ⟨by (with_reducible repeat (first | refine blk_drewN ?_ _ | refine blk_drew ?_ | refine blk_alloc ?_ _)); exact BK101.out⟩, ⟨by repeat (first | (with_reducible first | exact HB.out | apply below_alloc | apply pw_below_drewN | apply below_drew1 | refine below_set ?_ GE101.out) | exact HB.out)⟩⟩
           ·rw [if_neg c29] at H
            exact absurd H (by simp)
          ·rw [if_neg c28] at H
           exact absurd H (by simp)
         ·replace c27 := Bool.eq_false_iff.mpr c27
          subst c27
          have H1 : (some false) = some r := by rw [if_neg (show ¬ (false = true) by decide)] at H; exact H
          clear H
          have H := H1
          clear H1
          obtain rfl := Option.some.inj H
          try go_wp2
          have n0_ := Aside0.mk (Kd.R_drew HO_5.out)
          have n1_ := Aside0.mk (blk_drew BK101.out)
          have n2_ := Aside0.mk (below_drew1 HB.out)
          clear HO_5
          clear BK101
          clear HB
          have HO_5 := n0_
          have BK101 := n1_
          have HB := n2_
          clear n0_ n1_ n2_
          refine start_ (n := 49) (S := fun w' => True) (ds := []) #[yF,yF,yF,yF,yF,yF,yF,yF,yF,yF,yF,yF,yF,yF,yF,yF,yF,yF,yF,yF,yF,yF,yF,yF,yF,yF,yF,yF,yF,yF,yF,yF,yF,yF,yF,yF,yF,yF,yF,yF,yF,yF,yF,yF,yF,yF,yF,yF,yF] (by kernel_rfl) rfl rfl trivial (fun hHeld => ?_); refine with_tabW flagstonelaw09_RefsWho.tab14 flagstonelaw09_RefsWho.bits14 (fun HT_ HW_ => ?_)
          generalize wr.drew = w39 at HO_5 BK101 HB hHeld ⊢
          refine pu_ 0 70 49 1 ?_
          refine pu_ 1 71 49 3 ?_
          refine pu_ 2 72 49 7 ?_
          refine pn_ 3 73 49 15 ?_
          refine pn_ 4 74 49 31 ?_
          refine pn_ 5 75 49 63 ?_
          refine pn_ 6 76 49 127 ?_
          refine pn_ 7 77 49 255 ?_
          refine pn_ 8 78 49 511 ?_
          refine pu_ 9 79 49 1023 ?_
          refine pu_ 10 80 49 2047 ?_
          refine pn_ 11 81 49 4095 ?_
          refine pn_ 12 82 49 8191 ?_
          refine pn_ 13 83 49 16383 ?_
          refine pn_ 14 84 49 32767 ?_
          refine pn_ 15 85 49 65535 ?_
          refine pn_ 16 86 49 131071 ?_
          refine pn_ 17 87 49 262143 ?_
          refine pn_ 18 88 49 524287 ?_
          refine pu_ 19 89 49 1048575 ?_
          refine pu_ 20 90 49 2097151 ?_
          refine pn_ 21 91 49 4194303 ?_
          refine pn_ 22 92 49 8388607 ?_
          refine pn_ 23 93 49 16777215 ?_
          refine pn_ 24 94 49 33554431 ?_
          refine pn_ 25 95 49 67108863 ?_
          refine pn_ 26 96 49 134217727 ?_
          refine pn_ 27 97 49 268435455 ?_
          refine pn_ 28 98 49 536870911 ?_
          refine pu_ 29 99 49 1073741823 ?_
          refine pu_ 30 100 49 2147483647 ?_
          refine pn_ 31 101 49 4294967295 ?_
          refine pn_ 32 102 49 8589934591 ?_
          refine pn_ 33 103 49 17179869183 ?_
          refine pn_ 34 104 49 34359738367 ?_
          refine pn_ 35 105 49 68719476735 ?_
          refine pn_ 36 106 49 137438953471 ?_
          refine pn_ 37 107 49 274877906943 ?_
          refine pn_ 38 108 49 549755813887 ?_
          refine pn_ 39 109 49 1099511627775 ?_
          refine pn_ 40 110 49 2199023255551 ?_
          refine pn_ 41 111 49 4398046511103 ?_
          refine pn_ 42 112 49 8796093022207 ?_
          refine pn_ 43 113 49 17592186044415 ?_
          refine pn_ 44 114 49 35184372088831 ?_
          refine pn_ 45 115 49 70368744177663 ?_
          refine pn_ 46 116 49 140737488355327 ?_
          refine pn_ 47 117 49 281474976710655 ?_
          refine pu_ 48 118 49 562949953421311 ?_
          refine done_ (done_of HT_.out (by kernel_rfl)) ?_
          try go_wp2
          go_ret
          exact ⟨by first | rfl | (simp [errW_none, errW_some] <;> rfl) | (simp [*, errW_none, errW_some] <;> rfl), by repeat (first | (with_reducible first | exact HB.out | apply below_alloc | apply pw_below_drewN | apply below_drew1 | refine below_set ?_ GE101.out) | exact HB.out)⟩
     ·rw [if_neg c15] at H
      have c15b0 : decide (x7_1 < (t106.length : Int)) = false := decide_eq_false c15
      clear c15
      obtain rfl := Option.some.inj H
      obtain ⟨Ao40, co40, eo40⟩ := Kd.R_slice HO_5.out
      subst eo40
      go_wp2
      go_ret
      exact ⟨by first | rfl | (simp [errW_none, errW_some] <;> rfl) | (simp [*, errW_none, errW_some] <;> rfl), by repeat (first | (with_reducible first | exact HB.out | apply below_alloc | apply pw_below_drewN | apply below_drew1 | refine below_set ?_ GE101.out) | exact HB.out)⟩
  ·rw [if_neg c8] at H
   have c8b0 : (t110 == 0) = false := beq_eq_false_iff_ne.mpr c8
   have c8b1 : (t110 != 0) = true := bne_iff_ne.mpr c8
   obtain rfl := Option.some.inj H
   go_enter Try.func16, Try.ntmps16
   try go_wp2_with (first | ((with_reducible refine gate_dst (N := 3) rfl ?_); refine box_event ?hg (N := 3) ?hd (cs := #[.int .i64 a1_0, .int .i64 a1_1]) (t := 40) ?hr ?_; (case hd => rfl); (case hg => rfl); (case hr => first | (go_simp; done) | (go_simp; rfl)); intro gb101 hg w41 hbox hb; have n0_ := Aside0.mk (below_step (by repeat (first | (with_reducible first | exact HB.out | apply below_alloc | apply pw_below_drewN | apply below_drew1) | exact HB.out)) hb); have n1_ := Aside0.mk (hbox); have n2_ := Aside0.mk ((by rw [hg]; exact (below_size (by repeat (first | (with_reducible first | exact HB.out | apply below_alloc | apply pw_below_drewN | apply below_drew1) | exact HB.out))) : w.heap.size ≤ gb101)); have n3_ := Aside0.mk ((by rw [hg]; exact (below_size (by repeat (first | (with_reducible first | exact HB.out | apply below_alloc | apply pw_below_drewN | apply below_drew1) | exact HB.out))) : w.heap.size ≤ gb101)); clear HB; have HB := n0_; have BK101 := n1_; have GW101 := n2_; have GE101 := n3_; clear n0_ n1_ n2_ n3_; clear hb hbox hg) | ((with_reducible refine gate_callee (f := 57) rfl ?_); refine goesL_ (some 10) rfl rfl Try.func57 (by kernel_rfl) rfl #[] rfl (by (try simp only [List.map_toArray, List.map_cons, List.map_nil]); first | done | rfl | (simp only [List.length_drop, List.length_take]; rfl)) ?_; (with_reducible refine (flagstonelaw09_alive.calls  true _ A3.out).mono ?_); rintro e w42 ⟨rfl, hb⟩; refine ⟨_, rfl, ?_⟩; have n0_ := Aside0.mk (blk_below (g := gb101) (o := .cells #[.int .i64 a1_0, .int .i64 a1_1] 40 (0, 0)) (by (with_reducible repeat (first | refine blk_drewN ?_ _ | refine blk_drew ?_ | refine blk_alloc ?_ _)); exact BK101.out) hb); have n1_ := Aside0.mk (below_step (by repeat (first | (with_reducible first | exact HB.out | apply below_alloc | apply pw_below_drewN | apply below_drew1 | refine below_set ?_ GE101.out) | exact HB.out)) hb); clear BK101; clear HB; have BK101 := n0_; have HB := n1_; clear n0_ n1_; (try clear hb); (try clear hb2); (try clear hk); (try clear hi)))
   have n0_ := Aside0.mk (blk_drew BK101.out)
   have n1_ := Aside0.mk (below_drew1 HB.out)
   clear BK101
   clear HB
   have BK101 := n0_
   have HB := n1_
   clear n0_ n1_
   refine start_ (n := 9) (S := fun w' => w'.cell? ⟨gb101, 0, none⟩ = some (.int .i64 a1_0) ∧ w'.cell? ⟨gb101, 1, none⟩ = some (.int .i64 a1_1)) (ds := []) #[yF,yF,yF,yF,yF,yF,yF,yF,yF] (by kernel_rfl) rfl rfl ⟨(blk_cell BK101.out 0).trans rfl, (blk_cell BK101.out 1).trans rfl⟩ (fun hHeld => ?_); refine with_tabW flagstonelaw09_RefsWho.tab3 flagstonelaw09_RefsWho.bits3 (fun HT_ HW_ => ?_)
   generalize w42.drew = w43 at BK101 HB hHeld ⊢
   refine pu_ 0 13 9 1 ?_
   refine tk_ 2 15 9 5 ?_
   refine on_ 1 14 9 7 (fun K hK => ?_)
   refine goes_ Try.func59 (by kernel_rfl) rfl #[.slice A0 l0.length c0] (by rfl) rfl rfl (by (try simp only [List.map_toArray, List.map_cons, List.map_nil]); first | done | rfl | (simp only [List.length_drop, List.length_take]; rfl)) ?_
   with_reducible refine (flagstonelaw09_Of.calls k _ _ l0 t103 _ ?side1 ?side2 A5.out).mono ?_
   (case side1 => repeat (first | exact (Kd.C_below HR0.out HB.out) | (with_reducible refine Kd.C_alloc ?_ _) | (with_reducible refine Kd.C_drewN ?_ _) | (with_reducible refine Kd.C_drew ?_)))
   (case side2 => exact HC0.out)
   rintro e w44 ⟨v104, rfl, ho0, hb⟩
   refine ⟨_, rfl, ?_⟩
   have n0_ := Aside0.mk (Kd.S_lower ho0 (below_size (by repeat (first | (with_reducible first | exact HB.out | apply below_alloc | apply pw_below_drewN | apply below_drew1 | refine below_set ?_ GE101.out) | exact HB.out))))
   have n1_ := Aside0.mk (blk_below (g := gb101) (o := .cells #[.int .i64 a1_0, .int .i64 a1_1] 40 (0, 0)) (by (with_reducible repeat (first | refine blk_drewN ?_ _ | refine blk_drew ?_ | refine blk_alloc ?_ _)); exact BK101.out) hb)
   have n2_ := Aside0.mk (below_step (by repeat (first | (with_reducible first | exact HB.out | apply below_alloc | apply pw_below_drewN | apply below_drew1 | refine below_set ?_ GE101.out) | exact HB.out)) hb)
   clear BK101
   clear HB
   have HO105 := n0_
   have BK101 := n1_
   have HB := n2_
   clear n0_ n1_ n2_
   (try clear hb)
   (try clear hb2)
   (try clear hk)
   (try clear hi)
   (try clear ho0)
   obtain ⟨Ao45, co45, eo45⟩ := Kd.S_slice HO105.out
   (first | subst eo45 | (injection eo45 with f1_ f2_ f3_; have f4_ := f1_.symm; have f5_ := f3_.symm; clear f1_ f2_ f3_; subst f4_; subst f5_))
   refine hK.out _ _ ⟨(blk_cell BK101.out 0).trans rfl, (blk_cell BK101.out 1).trans rfl⟩ (fun hHeld => ?_)
   clear hK K
   refine nm_ 14 ?_
   refine on_ 3 16 9 15 (fun K hK => ?_)
   refine goes_ Try.func58 (by kernel_rfl) rfl #[.slice Ao45 t103.length co45, .agg #[.int .i64 a1_0, .int .i64 a1_1]] (by rfl) rfl rfl (by (try simp only [List.map_toArray, List.map_cons, List.map_nil]); first | done | rfl | (simp only [List.length_drop, List.length_take]; rfl)) ?_
   with_reducible refine (refs_Who.calls _ _ t103 a1_0 a1_1 t106 t109 _ ?side1 ?side2 A6.out).mono ?_
   (case side1 => repeat (first | exact (Kd.S_reads' HO105.out).2.2 | (with_reducible refine Kd.C_alloc ?_ _) | (with_reducible refine Kd.C_drewN ?_ _) | (with_reducible refine Kd.C_drew ?_)))
   (case side2 => exact (Kd.S_reads' HO105.out).2.1)
   rintro e w46 ⟨v107, rfl, ho0, hb⟩
   refine ⟨_, rfl, ?_⟩
   have n0_ := Aside0.mk (Kd.S_below (by (with_reducible repeat (first | apply Kd.S_alloc | apply Kd.S_drewN | apply Kd.S_drew)); exact HO105.out) hb)
   have n1_ := Aside0.mk (Kd.R_lower ho0 (below_size (by repeat (first | (with_reducible first | exact HB.out | apply below_alloc | apply pw_below_drewN | apply below_drew1 | refine below_set ?_ GE101.out) | exact HB.out))))
   have n2_ := Aside0.mk (blk_below (g := gb101) (o := .cells #[.int .i64 a1_0, .int .i64 a1_1] 40 (0, 0)) (by (with_reducible repeat (first | refine blk_drewN ?_ _ | refine blk_drew ?_ | refine blk_alloc ?_ _)); exact BK101.out) hb)
   have n3_ := Aside0.mk (below_step (by repeat (first | (with_reducible first | exact HB.out | apply below_alloc | apply pw_below_drewN | apply below_drew1 | refine below_set ?_ GE101.out) | exact HB.out)) hb)
   clear HO105
   clear BK101
   clear HB
   have HO105 := n0_
   have HO108 := n1_
   have BK101 := n2_
   have HB := n3_
   clear n0_ n1_ n2_ n3_
   (try clear hb)
   (try clear hb2)
   (try clear hk)
   (try clear hi)
   (try clear ho0)
   refine hK.out _ _ ⟨(blk_cell BK101.out 0).trans rfl, (blk_cell BK101.out 1).trans rfl⟩ (fun hHeld => ?_)
   clear hK K
   refine nm_ 16 ?_
   refine pu_ 4 12 9 31 ?_
   refine pu_ 5 17 9 63 ?_
   refine pu_ 6 18 9 127 ?_
   refine pu_ 7 5 9 255 ?_
   refine pu_ 8 6 9 511 ?_
   refine done_ (done_of HT_.out (by kernel_rfl)) ?_
   try go_wp2_with (first | ((with_reducible refine gate_callee (f := 60) rfl ?_); refine goesL_ (some 20) rfl rfl Try.func60 (by kernel_rfl) rfl #[.int .i64 t109] rfl (by (try simp only [List.map_toArray, List.map_cons, List.map_nil]); first | done | rfl | (simp only [List.length_drop, List.length_take]; rfl)) ?_; (with_reducible refine (flagstonelaw09_num.calls t109 t110 _ A7.out).mono ?_); rintro e w' ⟨rfl, ⟨nd, rfl⟩⟩; refine ⟨_, rfl, ?_⟩; obtain ⟨Ao47, co47, eo47⟩ := Kd.R_slice HO108.out; subst eo47))
   go_ret
   exact ⟨by first | rfl | (simp [errW_none, errW_some] <;> rfl) | (simp [*, errW_none, errW_some] <;> rfl), by repeat (first | (with_reducible first | exact HB.out | apply below_alloc | apply pw_below_drewN | apply below_drew1 | refine below_set ?_ GE101.out) | exact HB.out)⟩
 ·replace c4 := Bool.eq_false_iff.mpr c4
  subst c4
  have H1 : (some false) = some r := by rw [if_neg (show ¬ (false = true) by decide)] at H; exact H
  clear H
  have H := H1
  clear H1
  obtain rfl := Option.some.inj H
  go_enter Try.func16, Try.ntmps16
  go_wp2_with (first | ((with_reducible refine gate_dst (N := 3) rfl ?_); refine box_event ?hg (N := 3) ?hd (cs := #[.int .i64 a1_0, .int .i64 a1_1]) (t := 40) ?hr ?_; (case hd => rfl); (case hg => rfl); (case hr => first | (go_simp; done) | (go_simp; rfl)); intro gb101 hg w48 hbox hb; have n0_ := Aside0.mk (below_step (by repeat (first | (with_reducible first | exact HB.out | apply below_alloc | apply pw_below_drewN | apply below_drew1) | exact HB.out)) hb); have n1_ := Aside0.mk (hbox); have n2_ := Aside0.mk ((by rw [hg]; exact (below_size (by repeat (first | (with_reducible first | exact HB.out | apply below_alloc | apply pw_below_drewN | apply below_drew1) | exact HB.out))) : w.heap.size ≤ gb101)); have n3_ := Aside0.mk ((by rw [hg]; exact (below_size (by repeat (first | (with_reducible first | exact HB.out | apply below_alloc | apply pw_below_drewN | apply below_drew1) | exact HB.out))) : w.heap.size ≤ gb101)); clear HB; have HB := n0_; have BK101 := n1_; have GW101 := n2_; have GE101 := n3_; clear n0_ n1_ n2_ n3_; clear hb hbox hg) | ((with_reducible refine gate_callee (f := 57) rfl ?_); refine goesL_ (some 10) rfl rfl Try.func57 (by kernel_rfl) rfl #[] rfl (by (try simp only [List.map_toArray, List.map_cons, List.map_nil]); first | done | rfl | (simp only [List.length_drop, List.length_take]; rfl)) ?_; (with_reducible refine (flagstonelaw09_alive.calls  false _ A3.out).mono ?_); rintro e w49 ⟨rfl, hb⟩; refine ⟨_, rfl, ?_⟩; have n0_ := Aside0.mk (blk_below (g := gb101) (o := .cells #[.int .i64 a1_0, .int .i64 a1_1] 40 (0, 0)) (by (with_reducible repeat (first | refine blk_drewN ?_ _ | refine blk_drew ?_ | refine blk_alloc ?_ _)); exact BK101.out) hb); have n1_ := Aside0.mk (below_step (by repeat (first | (with_reducible first | exact HB.out | apply below_alloc | apply pw_below_drewN | apply below_drew1 | refine below_set ?_ GE101.out) | exact HB.out)) hb); clear BK101; clear HB; have BK101 := n0_; have HB := n1_; clear n0_ n1_; (try clear hb); (try clear hb2); (try clear hk); (try clear hi)))
  go_ret
  exact ⟨by first | rfl | (simp [errW_none, errW_some] <;> rfl) | (simp [*, errW_none, errW_some] <;> rfl), by repeat (first | (with_reducible first | exact HB.out | apply below_alloc | apply pw_below_drewN | apply below_drew1 | refine below_set ?_ GE101.out) | exact HB.out)⟩
end Go.Proofs.Ytkkfkdncddbaeaa.Fn
namespace Go.Proofs.Ytkkfkdncddbaeaa.Fn
open Go.RowKit Go.Proofs.YtkkfkdncddbaeaaW.PrintWords Go.Proofs.YtkkfkdncddbaeaaW.PrintLast Go.Proofs.YtkkfkdncddbaeaaW.PrintMore
attribute [local go_sem] max2_int min2_int max_two min_two max_three min_three max_four min_four
set_option linter.unusedVariables false
set_option linter.unusedSimpArgs false
theorem refs9 {l : List S94} (h : Flag.checkM (l.map toM) = 0) : Flag.Ok9 ((sortRefL (refsG l)).map toR) ∧ (sortRefL (refsG l)).length ≤ 9216 := by
  have h9 := Flag.checkM_ok.1 h
  have e1 : ((sortRefL (refsG l)).map toR).length = (refsG l).length := by rw [sortRefL_toR, (Flag.sortR_perm _).length_eq, List.length_map]
  rw [List.length_map] at e1
  refine ⟨?_, by rw [e1]; exact refsG_len h9⟩
  rw [sortRefL_toR, refsG_toR]
  exact (Flag.refsM_ok h9).perm (Flag.sortR_perm _)
theorem example9 : refs_Counts.f [(⟨0, [⟨0, 3, 4⟩]⟩ : S94), ⟨1, [⟨9, 3, 4⟩]⟩] = some ([⟨3, 4, 2⟩], 0) := by
  have h1 : Flag.checkM (List.map toM [(⟨0, [⟨0, 3, 4⟩]⟩ : S94), ⟨1, [⟨9, 3, 4⟩]⟩]) = 0 := by kernel_rfl
  have h2 : sortRefL (refsG [(⟨0, [⟨0, 3, 4⟩]⟩ : S94), ⟨1, [⟨9, 3, 4⟩]⟩]) = [⟨3, 4, 0, 0⟩, ⟨3, 4, 1, 9⟩] := by kernel_rfl
  have h3 : countsL [(⟨3, 4, 0, 0⟩ : S88), ⟨3, 4, 1, 9⟩] = [⟨3, 4, 2⟩] := by
    have h4 := (refs9 h1)
    rw [h2] at h4
    have e : edgesS [(⟨3, 4, 0, 0⟩ : S88), ⟨3, 4, 1, 9⟩] = [⟨3, 1⟩, ⟨7, -1⟩, ⟨3, 1⟩, ⟨7, -1⟩] := by kernel_rfl
    have hp : List.Perm [(⟨3, 1⟩ : S40), ⟨3, 1⟩, ⟨7, -1⟩, ⟨7, -1⟩] (edgesS [(⟨3, 4, 0, 0⟩ : S88), ⟨3, 4, 1, 9⟩]) := by
      rw [e]
      exact List.Perm.cons _ (List.Perm.swap _ _ _)
    have hs : List.Pairwise (fun a b : S40 => a.f0 ≤ b.f0) [⟨3, 1⟩, ⟨3, 1⟩, ⟨7, -1⟩, ⟨7, -1⟩] := by simp
    have h5 : (List.foldl stepS (([], 0, 0) : List S96 × Int × Int) [(⟨3, 1⟩ : S40), ⟨3, 1⟩, ⟨7, -1⟩, ⟨7, -1⟩]).1 = [⟨3, 4, 2⟩] := by kernel_rfl
    exact (counts_one h4.1 h4.2 hp hs).symm.trans h5
  unfold refs_Counts.f
  rw [if_pos h1, h2, h3]
theorem alive9 : flagstonelaw09_alive.f = some true := by
  unfold flagstonelaw09_alive.f flagstonelaw09_num.f
  rw [example9]
  kernel_rfl
def toS (x : S86) : S94 := ⟨x.f0, x.f1⟩
theorem rd_m9 (pre : List S86) (x : S86) (t : List S86) {i : Int} (h : i = pre.length) : rd_T86 (pre ++ x :: t) i = x := by
  unfold rd_T86
  rw [h, Int.toNat_natCast, List.getD_eq_getElem?_getD, List.getElem?_append_right (Nat.le_refl _), Nat.sub_self]; rfl
theorem rd_r9 (pre : List S88) (x : S88) (t : List S88) {i : Int} (h : i = pre.length) : rd_T88 (pre ++ x :: t) i = x := by
  unfold rd_T88
  rw [h, Int.toNat_natCast, List.getD_eq_getElem?_getD, List.getElem?_append_right (Nat.le_refl _), Nat.sub_self]; rfl
theorem copy9 {l : List S24} (hl : l.length < 5864062014805) : flagstoneplain_CopyExtents.f l = some l := by
  unfold flagstoneplain_CopyExtents.f
  rw [if_pos (by simp; omega), List.nil_append]
theorem of_loop (l : List S86) (hl : l.length < 4398046511104) (hx : ∀ x ∈ l, x.f1.length < 5864062014805) (t : List S86) : ∀ (pre : List S86) (k : Nat), l = pre ++ t → t.length < k → flagstonelaw09_Of.l0 k l (pre.map toS) (pre.length : Int) = some (l.map toS) := by
  induction t with
  | nil =>
    intro pre k h hk
    obtain ⟨k, rfl⟩ : ∃ k', k = k' + 1 := ⟨k - 1, by simp at hk; omega⟩
    rw [flagstonelaw09_Of.l0, if_neg (by rw [h]; simp), h, List.append_nil]
  | cons x t ih =>
    intro pre k h hk
    obtain ⟨k, rfl⟩ : ∃ k', k = k' + 1 := ⟨k - 1, by simp at hk; omega⟩
    have hlen : l.length = pre.length + t.length + 1 := by rw [h]; simp; omega
    have hr : rd_T86 l (pre.length : Int) = x := by rw [h]; exact rd_m9 pre x t rfl
    have e1 : wrap64 ((pre.length : Int) + 1) = ((pre ++ [x]).length : Int) := by rw [w64 (by omega)]; simp
    have hnext := ih (pre ++ [x]) k (by rw [h]; simp) (by simp at hk; omega)
    rw [flagstonelaw09_Of.l0, if_pos (by omega), if_pos (by omega), hr, copy9 (hx x (by rw [h]; simp)), Option.bind_some, if_pos (by rw [List.length_map]; omega), e1]
    rw [List.map_append] at hnext
    exact hnext
theorem of9 {l : List S86} (hl : l.length < 4398046511104) (hx : ∀ x ∈ l, x.f1.length < 5864062014805) {k : Nat} (hk : l.length < k) : flagstonelaw09_Of.f k l = some (l.map toS) := by
  unfold flagstonelaw09_Of.f
  have := of_loop l hl hx l [] k rfl hk
  exact this
theorem of_toM (l : List S86) : (l.map toS).map toM = l.map fun x => ⟨x.f0, x.f1.map toE⟩ := by
  rw [List.map_map]; rfl
end Go.Proofs.Ytkkfkdncddbaeaa.Fn
namespace Go.Proofs.Ytkkfkdncddbaeaa.Fn
open Go.RowKit Go.Proofs.YtkkfkdncddbaeaaW.PrintWords Go.Proofs.YtkkfkdncddbaeaaW.PrintLast Go.Proofs.YtkkfkdncddbaeaaW.PrintMore
attribute [local go_sem] max2_int min2_int max_two min_two max_three min_three max_four min_four
set_option linter.unusedVariables false
set_option linter.unusedSimpArgs false
theorem at9 (l : List S24) (hl : l.length ≤ 1024) (hok : ∀ x ∈ l, Flag.okMap (toE x)) (v : Int) (hv : 0 ≤ v ∧ v < 65536) (t : List S24) : ∀ (pre : List S24) (k : Nat), l = pre ++ t → t.length < k →
    flagstoneref05_At.l0 k l v (pre.length : Int) = some ((Flag.lookE (t.map toE) v).getD (-1)) := by
  induction t with
  | nil =>
    intro pre k h hk
    obtain ⟨k, rfl⟩ : ∃ k', k = k' + 1 := ⟨k - 1, by simp at hk; omega⟩
    rw [flagstoneref05_At.l0, if_neg (by rw [h]; simp)]
    rfl
  | cons x t ih =>
    intro pre k h hk
    obtain ⟨k, rfl⟩ : ∃ k', k = k' + 1 := ⟨k - 1, by simp at hk; omega⟩
    have hlen : l.length = pre.length + t.length + 1 := by rw [h]; simp; omega
    have hr : rd_T24 l (pre.length : Int) = x := by rw [h]; exact rd_at pre x t rfl
    have e1 : wrap64 ((pre.length : Int) + 1) = ((pre ++ [x]).length : Int) := by rw [w64 (by omega)]; simp
    have hx := hok x (by rw [h]; simp)
    obtain ⟨g1, g2, g3, g4, g5⟩ := hx
    simp only [toE] at g1 g2 g3 g4 g5
    have hnext := ih (pre ++ [x]) k (by rw [h]; simp) (by simp at hk; omega)
    have hval : Flag.valAt (toE x) v = x.f1 + v - x.f0 := by unfold Flag.valAt toE; dsimp only; rw [if_neg (by omega)]; omega
    rw [flagstoneref05_At.l0, if_pos (by omega), if_pos (by omega), hr, e1, hnext, List.map_cons, Flag.lookE, hval]
    show (if v ≥ x.f0 then _ else _) = some ((if x.f0 ≤ v ∧ v < x.f0 + x.f2 then _ else _ : Option Int).getD (-1))
    by_cases c1 : v ≥ x.f0
    · rw [if_pos c1, w64 (n := v - x.f0) (by omega)]
      by_cases c2 : v - x.f0 < x.f2
      · rw [if_pos c2, if_pos (by omega), w64 (n := x.f1 + v) (by omega), w64 (n := x.f1 + v - x.f0) (by omega)]
        rfl
      · rw [if_neg c2, if_neg (by omega)]
    · rw [if_neg c1, if_neg (by omega)]
structure Good9 (m : List S86) (a b : Int) (s : S88) : Prop where
  v : 0 ≤ s.f3 ∧ s.f3 < 65536
  hit : ∃ x ∈ m, x.f0 = s.f2 ∧ (Flag.lookE (x.f1.map toE) s.f3).getD (-1) = s.f0
  n : ¬ s.f1 < 1
  p : ¬ s.f0 < a
  l : ¬ s.f1 > b
  e : ¬ wrap64 (s.f0 - a) > wrap64 (b - s.f1)
structure Maps86 (m : List S86) : Prop where
  len : m.length ≤ 9
  each : ∀ x ∈ m, x.f1.length ≤ 1024 ∧ ∀ y ∈ x.f1, Flag.okMap (toE y)
theorem who_l1 {m : List S86} (hm : Maps86 m) {q : List S88} {i : Int} (hi : 0 ≤ i ∧ i < q.length) {a b : Int} (hs : Good9 m a b (rd_T88 q i)) (K : Nat) (hK : 1025 ≤ K) (t : List S86) : ∀ (pre : List S86) (x8 : Bool), m = pre ++ t →
    (x8 = true ∨ ∃ x ∈ t, x.f0 = (rd_T88 q i).f2 ∧ (Flag.lookE (x.f1.map toE) (rd_T88 q i).f3).getD (-1) = (rd_T88 q i).f0) →
    flagstonelaw09_RefsWho.l1 (K + t.length + 1) m q i x8 (pre.length : Int) a b = flagstonelaw09_RefsWho.l0 K m q (wrap64 (i + 1)) a b := by
  induction t with
  | nil =>
    intro pre x8 h hx
    have hx : x8 = true := by
      rcases hx with h1 | ⟨x, hx, _⟩
      · exact h1
      · cases hx
    have hlen : m.length = pre.length := by rw [h]; simp
    rw [List.length_nil, Nat.add_zero, flagstonelaw09_RefsWho.l1, if_neg (by omega), if_pos hx, if_pos hi.1, if_pos hi.2, if_neg hs.n, if_neg hs.p, if_neg hs.l, if_neg hs.e]
  | cons x t ih =>
    intro pre x8 h hx
    have hlen : m.length = pre.length + t.length + 1 := by rw [h]; simp; omega
    have hr : rd_T86 m (pre.length : Int) = x := by rw [h]; exact rd_m9 pre x t rfl
    have hl9 := hm.len
    have e1 : wrap64 ((pre.length : Int) + 1) = ((pre ++ [x]).length : Int) := by rw [w64 (by omega)]; simp
    have e2 : K + (x :: t).length + 1 = (K + t.length + 1) + 1 := by rw [List.length_cons]; omega
    have hnext := fun x8 hx => ih (pre ++ [x]) x8 (by rw [h]; simp) hx
    rw [e2, flagstonelaw09_RefsWho.l1, if_pos (by omega), e1, hr]
    by_cases c8 : x8 = true
    · rw [if_pos c8]
      exact hnext true (.inl rfl)
    · rw [if_neg c8, if_pos (by omega), if_pos hi.1, if_pos hi.2]
      have hx2 := hx.resolve_left c8
      by_cases c1 : x.f0 = (rd_T88 q i).f2
      · obtain ⟨g1, g2⟩ := hm.each x (by rw [h]; simp)
        have hat := at9 x.f1 g1 g2 (rd_T88 q i).f3 hs.v x.f1 [] (K + t.length + 1) rfl (by omega)
        have hat : flagstoneref05_At.f (K + t.length + 1) x.f1 (rd_T88 q i).f3 = some ((Flag.lookE (x.f1.map toE) (rd_T88 q i).f3).getD (-1)) := by unfold flagstoneref05_At.f; exact hat
        rw [if_pos c1, hat, Option.bind_some]
        refine hnext _ ?_
        obtain ⟨z, hz, z1, z2⟩ := hx2
        cases hz with
        | head => exact .inl (beq_iff_eq.mpr z2)
        | tail _ hz => exact .inr ⟨z, hz, z1, z2⟩
      · rw [if_neg c1]
        refine hnext false (.inr ?_)
        obtain ⟨z, hz, z1, z2⟩ := hx2
        cases hz with
        | head => exact absurd z1 c1
        | tail _ hz => exact ⟨z, hz, z1, z2⟩
theorem who_l0 {m : List S86} (hm : Maps86 m) {q : List S88} (hq : q.length ≤ 9216) {a b : Int} (hs : ∀ s ∈ q, Good9 m a b s) (t : List S88) : ∀ (pre : List S88) (k : Nat), q = pre ++ t → t.length * (m.length + 2) + 1030 ≤ k →
    flagstonelaw09_RefsWho.l0 k m q (pre.length : Int) a b = some true := by
  induction t with
  | nil =>
    intro pre k h hk
    obtain ⟨k, rfl⟩ : ∃ k', k = k' + 1 := ⟨k - 1, by omega⟩
    rw [flagstonelaw09_RefsWho.l0, if_neg (by rw [h]; simp)]
  | cons s t ih =>
    intro pre k h hk
    rw [List.length_cons, Nat.succ_mul] at hk
    obtain ⟨K, rfl⟩ : ∃ K, k = (K + m.length + 1) + 1 := ⟨k - (m.length + 2), by omega⟩
    have hlen : q.length = pre.length + t.length + 1 := by rw [h]; simp; omega
    have hr : rd_T88 q (pre.length : Int) = s := by rw [h]; exact rd_r9 pre s t rfl
    have e1 : wrap64 ((pre.length : Int) + 1) = ((pre ++ [s]).length : Int) := by rw [w64 (by omega)]; simp
    have hg : Good9 m a b (rd_T88 q (pre.length : Int)) := by rw [hr]; exact hs s (by rw [h]; simp)
    rw [flagstonelaw09_RefsWho.l0, if_pos (by omega)]
    have h1 := who_l1 hm (q := q) (i := (pre.length : Int)) ⟨by omega, by omega⟩ hg K (by omega) m [] false rfl (.inr hg.hit)
    rw [e1, ih (pre ++ [s]) K (by rw [h]; simp) (by omega)] at h1
    exact h1
theorem who_good {m : List S86} {a b : Int} (h : Flag.checkM ((m.map toS).map toM) = 0) (ha : 0 ≤ a ∧ a < 9223372036854775808) (hb : 0 < b ∧ b < 9223372036854775808) : ∀ s ∈ whoS (sortRefL (refsG (m.map toS))) a b, Good9 m a b s := by
  intro s hs
  have h9 := Flag.checkM_ok.1 h
  have hs2 := List.mem_map_of_mem (f := toR) hs
  rw [whoS_toR, (Flag.sortR_perm _).mem_iff, Flag.mem_whoL] at hs2
  obtain ⟨r, hr, hpos, hrs⟩ := hs2
  rw [sortRefL_toR, (Flag.sortR_perm _).mem_iff, refsG_toR, Flag.mem_refsM] at hr
  obtain ⟨x, hx, y, hy, rfl⟩ := hr
  obtain ⟨h1, h2, h3⟩ := h9.each x hx
  obtain ⟨k1, k2, k3, k4, k5⟩ := h3.ok y hy
  rw [of_toM] at hx
  obtain ⟨x', hx', rfl⟩ := List.mem_map.1 hx
  dsimp only at hy hpos hrs h1 h2 h3
  obtain ⟨low, hlow⟩ : ∃ z, z = Flag.lowC y.p ⟨a, b⟩ := ⟨_, rfl⟩
  obtain ⟨len, hlen⟩ : ∃ z, z = Flag.lenC y.p y.n ⟨a, b⟩ := ⟨_, rfl⟩
  rw [← hlow, ← hlen] at hrs
  rw [← hlen] at hpos
  have hl1 : low = max y.p a := by rw [hlow]; rfl
  have hl2 : len = min (y.p + y.n - low) (b - (low - a)) := by rw [hlen, hlow]; rfl
  have e0 : s.f0 = low := congrArg Flag.Rf.p hrs
  have e1 : s.f1 = len := congrArg Flag.Rf.n hrs
  have e2 : s.f2 = x'.f0 := congrArg Flag.Rf.o hrs
  have e3 : s.f3 = y.v + low - y.p := congrArg Flag.Rf.v hrs
  have hlk := Flag.lookE_mem h3.nf hy (i := y.v + low - y.p) (by omega) (by omega)
  refine ⟨by rw [e3]; omega, ⟨x', hx', e2.symm, ?_⟩, by rw [e1]; omega, by rw [e0]; omega, by rw [e1]; omega, ?_⟩
  · rw [e3, hlk, e0]
    unfold Flag.valAt
    rw [if_neg (by omega)]
    show y.p + (y.v + low - y.p - y.v) = low
    omega
  · rw [e0, e1, w64 (n := low - a) (by omega), w64 (n := b - len) (by omega)]
    omega
theorem maps86 {m : List S86} (h : Flag.checkM ((m.map toS).map toM) = 0) : Maps86 m := by
  have h9 := Flag.checkM_ok.1 h
  refine ⟨by simpa using h9.len, fun x hx => ?_⟩
  obtain ⟨h1, h2, h3⟩ := h9.each ⟨x.f0, x.f1.map toE⟩ (by rw [of_toM]; exact List.mem_map.2 ⟨x, hx, rfl⟩)
  exact ⟨by simpa using h3.len, fun y hy => h3.ok _ (List.mem_map_of_mem hy)⟩
theorem whoS_len {l : List S88} (a b : Int) (hl : l.length ≤ 9216) (h : Flag.Ok9 (l.map toR)) (ha : 0 ≤ a ∧ a < 9223372036854775808) (hb : 0 < b ∧ b < 9223372036854775808) : (whoS l a b).length ≤ 9216 := by
  have e : ((whoS l a b).map toR).length = ((whoG l a b).map toR).length := by rw [whoS_toR, (Flag.sortR_perm _).length_eq, whoG_toR h ha hb]
  rw [List.length_map, List.length_map] at e
  have := whoG_len l a b
  omega
end Go.Proofs.Ytkkfkdncddbaeaa.Fn
namespace Go.Proofs.Ytkkfkdncddbaeaa.Fn
open Go.RowKit Go.Proofs.YtkkfkdncddbaeaaW.PrintWords Go.Proofs.YtkkfkdncddbaeaaW.PrintLast Go.Proofs.YtkkfkdncddbaeaaW.PrintMore
attribute [local go_sem] max2_int min2_int max_two min_two max_three min_three max_four min_four
set_option linter.unusedVariables false
set_option linter.unusedSimpArgs false
theorem who_pure (m : List S86) (a b : Int) (hl : m.length < 4398046511104) (hx : ∀ x ∈ m, x.f1.length < 5864062014805) (ha : a < 9223372036854775808) (hb : b < 9223372036854775808) : ∃ k, flagstonelaw09_RefsWho.f k m a b = some true := by
  refine ⟨9216 * (m.length + 2) + 1030 + m.length + 1, ?_⟩
  unfold flagstonelaw09_RefsWho.f flagstonelaw09_num.f
  rw [alive9, Option.bind_some, if_pos rfl, of9 hl hx (by omega), Option.bind_some]
  unfold refs_Who.f
  rw [if_pos ⟨ha, hb⟩, Option.bind_some]
  by_cases hc : Flag.checkM ((m.map toS).map toM) = 0
  · rw [if_pos hc]
    by_cases hr : a < 0 ∨ b < 1
    · rw [if_pos hr]; rfl
    · rw [if_neg hr]
      dsimp only
      rw [Option.bind_some, if_pos rfl]
      obtain ⟨r1, r2⟩ := refs9 hc
      have hq := whoS_len a b r2 r1 ⟨by omega, ha⟩ ⟨by omega, hb⟩
      have h1 := who_l0 (maps86 hc) hq (who_good hc ⟨by omega, ha⟩ ⟨by omega, hb⟩) (whoS (sortRefL (refsG (m.map toS))) a b) [] (9216 * (m.length + 2) + 1030 + m.length + 1) rfl (by have := Nat.mul_le_mul_right (m.length + 2) hq; omega)
      exact h1
  · rw [if_neg hc]; rfl
theorem wf_lt {n : Int} (h : (Lit.int .i64 n).wf = true) : n < 9223372036854775808 := by
  simp only [Lit.wf, Bool.and_eq_true, decide_eq_true_eq] at h
  have h2 : n ≤ 9223372036854775807 := h.2
  omega
theorem who_row (l : List S86) (x : S40) (y : l.length * 32 ≤ 140737488351232) (z : ∀ x ∈ l, x.f1.length * 24 ≤ 140737488351232) (w0 : (Lit.int .i64 x.f0).wf = true) (w1 : (Lit.int .i64 x.f1).wf = true) : ∃ k, flagstonelaw09_RefsWho.f k l x.f0 x.f1 = some true :=
  who_pure l x.f0 x.f1 (by omega) (fun u hu => by have := z u hu; omega) (wf_lt w0) (wf_lt w1)
end Go.Proofs.Ytkkfkdncddbaeaa.Fn
