/- Part 4 of the walk: printed by programs of this session (by way of the kit's print) or told by hand. -/
import Derived.Test.YtkkfkdncddbaeaaU3
namespace Go.Proofs.Ytkkfkdncddbaeaa.Fn
open Go.RowKit Go.Proofs.YtkkfkdncddbaeaaW.PrintWords Go.Proofs.YtkkfkdncddbaeaaW.PrintLast Go.Proofs.YtkkfkdncddbaeaaW.PrintMore
attribute [local go_sem] max2_int min2_int max_two min_two max_three min_three max_four min_four
set_option linter.unusedVariables false
set_option linter.unusedSimpArgs false
def refs_Check.l0 : Nat → Int → List (S94) → Int → Int → Option (Int)
 | 0, _, _, _, _ => none
 | k + 1, x3, x9, x10, x11 => if x11 < x10 then (if 0 ≤ x11 then (if x11 < (x9.length : Int) then (if ((rd_T94 x9 x11).f0) ≤ x3 then (some 9) else (if ((rd_T94 x9 x11).f0) > 255 then (some 9) else ((extent_Check.f k ((rd_T94 x9 x11).f1)).bind fun t103 => (if t103 = 0 then (refs_Check.l0 k ((rd_T94 x9 x11).f0) x9 x10 (wrap64 (x11 + 1))) else (some 9))))) else (none)) else (none)) else (some 0)
def refs_Check.f (k : Nat) (l0 : List (S94)) : Option (Int) := if (l0.length : Int) > 9 then (some 9) else (refs_Check.l0 k (-1) l0 (l0.length : Int) 0)
theorem refs_Check.mono_l : ∀ k, (∀ y0 y1 y2 y3, LeO (refs_Check.l0 k y0 y1 y2 y3) (refs_Check.l0 (k + 1) y0 y1 y2 y3))
 | 0 => fun _ _ _ _ r h => by simp [refs_Check.l0] at h
 | k + 1 => by
  have ih0 := refs_Check.mono_l k
  ·intro y0 y1 y2 y3
   unfold refs_Check.l0
   repeat' first
   | (with_reducible exact ih0 _ _ _ _)
   | (with_reducible exact extent_Check.mono _ _)
   | (with_reducible exact LeO.refl _)
   | (with_reducible exact LeO.none _)
   | (with_reducible refine LeO.ite ?_ ?_)
   | (with_reducible refine LeO.bind ?_ (fun _ => ?_))
   | exact ih0 _ _ _ _
   | exact extent_Check.mono _ _
   | exact LeO.none _
   | refine LeO.ite ?_ ?_
   | refine LeO.bind ?_ (fun _ => ?_)
theorem refs_Check.mono : ∀ a0 k, LeO (refs_Check.f k a0) (refs_Check.f (k + 1) a0) := by
 intro a0 k
 have ih0 := refs_Check.mono_l k
 unfold refs_Check.f
 repeat' first
  | (with_reducible exact ih0 _ _ _ _)
  | (with_reducible exact extent_Check.mono _ _)
  | (with_reducible exact LeO.refl _)
  | (with_reducible exact LeO.none _)
  | (with_reducible refine LeO.ite ?_ ?_)
  | (with_reducible refine LeO.bind ?_ (fun _ => ?_))
  | exact ih0 _ _ _ _
  | exact extent_Check.mono _ _
  | exact LeO.none _
  | refine LeO.ite ?_ ?_
  | refine LeO.bind ?_ (fun _ => ?_)
set_option maxHeartbeats 8000000 in
set_option maxRecDepth 100000 in
theorem refs_Check.calls (k : Nat) (A0 : Option Addr) (c0 : Nat) (l0 : List (S94)) (r : Int) (w : World) (hr0 : Kd.C k94 w A0 l0.length l0) (hc0 : l0.length ≤ c0) (h : refs_Check.f k l0 = some r) :
 Calls Try.prog 72 #[.slice A0 l0.length c0] w fun e w' => e = .returned (.int .i64 r) ∧ Below w.heap.size w w' := by
 have hu94 := Try.underlying94
 have HR0 := Aside0.mk hr0
 have HC0 := Aside0.mk hc0
 clear hr0 hc0
 have HB := Aside0.mk (Below.refl w.heap.size w)
 have H : (if (l0.length : Int) > 9 then (some 9) else (refs_Check.l0 k (-1) l0 (l0.length : Int) 0)) = some r := h
 clear h
 by_cases c2 : (l0.length : Int) > 9
 ·rw [if_pos c2] at H
  have c2b0 : decide (9 < (l0.length : Int)) = true := decide_eq_true c2
  have c2b1 : decide (9 < l0.length) = true := decide_eq_true (by omega)
  clear c2
  obtain rfl := Option.some.inj H
  go_enter Try.func72, Try.ntmps72
  go_wp2
  go_ret
  exact ⟨by first | rfl | (simp [errW_none, errW_some] <;> rfl) | (simp [*, errW_none, errW_some] <;> rfl), by repeat (first | (with_reducible first | exact HB.out | apply below_alloc | apply pw_below_drewN | apply below_drew1) | exact HB.out)⟩
 ·rw [if_neg c2] at H
  have c2b0 : decide (9 < (l0.length : Int)) = false := decide_eq_false c2
  have c2b1 : decide (9 < l0.length) = false := decide_eq_false (by omega)
  clear c2
  have H' := Aside0.mk H
  clear H
  go_enter Try.func72, Try.ntmps72
  go_wp2
  go_loopg [3, 11] k (fun kq v3 v11 w' => ∃ (x3_1 : Int) (x11_1 : Int), v3 = .int .i64 x3_1 ∧ v11 = .int .i64 x11_1 ∧ Aside0 (refs_Check.l0 kq x3_1 l0 (l0.length : Int) x11_1 = some r) ∧ Aside0 (kq ≤ k) ∧ Aside0 (Below w.heap.size w w'))
  case atStart => exact ⟨((-1)), (0), (by first | rfl | (simp; done) | (simp [*]; done)), (by first | rfl | (simp; done) | (simp [*]; done)), H', ⟨Nat.le_refl _⟩, ⟨by repeat (first | (with_reducible first | exact HB.out | apply below_alloc | apply pw_below_drewN | apply below_drew1) | exact HB.out)⟩⟩
  case round =>
   clear H'
   try clear c2
   try clear c2b0
   try clear c2b1
   try clear p2
   obtain ⟨x3_1, x11_1, rfl, rfl, HA, HK1, HB⟩ := hrel
   cases gk with
   | zero => exact absurd HA.out (by simp [refs_Check.l0])
   | succ k1 =>
    have H := HA.out
    clear HA
    simp only [refs_Check.l0] at H
    by_cases c3 : x11_1 < (l0.length : Int)
    ·rw [if_pos c3] at H
     have c3b0 : decide (x11_1 < (l0.length : Int)) = true := decide_eq_true c3
     clear c3
     by_cases c4 : 0 ≤ x11_1
     ·rw [if_pos c4] at H
      have c4b0 : decide (0 ≤ x11_1) = true := decide_eq_true c4
      clear c4
      by_cases c5 : x11_1 < (l0.length : Int)
      ·rw [if_pos c5] at H
       have c5b0 : decide (x11_1 < (l0.length : Int)) = true := decide_eq_true c5
       clear c5
       by_cases c6 : ((rd_T94 l0 x11_1).f0) ≤ x3_1
       ·rw [if_pos c6] at H
        have c6b0 : decide (((rd_T94 l0 x11_1).f0) ≤ x3_1) = true := decide_eq_true c6
        clear c6
        obtain rfl := Option.some.inj H
        have p101 : 0 ≤ (x11_1 : Int) := of_decide_eq_true (by first | (with_reducible assumption) | assumption)
        have q101 : x11_1 < (l0.length : Int) := of_decide_eq_true (by first | (with_reducible assumption) | assumption)
        obtain ⟨ad101, A101_1, c101_1, e101, hx101_0, hx101_1, hl101_1, hi101_1⟩ := at_T94 HR0.out x11_1 p101 q101
        cases e101
        replace hx101_0 := (HB.out.cell (World.block_lt_of_cell? w _ hx101_0)).trans hx101_0
        replace hx101_1 := (HB.out.cell (World.block_lt_of_cell? w _ hx101_1)).trans hx101_1
        have HR101_1 := Aside0.mk hi101_1
        have HC101_1 := Aside0.mk hl101_1
        clear hi101_1 hl101_1
        replace p101 := eq_true p101
        replace q101 := eq_true q101
        go_wp2_with (first | ((with_reducible refine gate_dst (N := 5) rfl ?_); refine box_event ?hg (N := 5) ?hd (cs := #[.int .i64 0, .slice none 0 0]) (t := 94) ?hr ?_; (case hd => rfl); (case hg => rfl); (case hr => first | (go_simp; done) | (go_simp; rfl)); intro gb102 hg w7 hbox hb; have n0_ := Aside0.mk (below_step (by repeat (first | (with_reducible first | exact HB.out | apply below_alloc | apply pw_below_drewN | apply below_drew1) | exact HB.out)) hb); have n1_ := Aside0.mk (hbox); have n2_ := Aside0.mk ((by rw [hg]; exact (below_size (by repeat (first | (with_reducible first | exact HB.out | apply below_alloc | apply pw_below_drewN | apply below_drew1) | exact HB.out))) : w.heap.size ≤ gb102)); have n3_ := Aside0.mk ((by rw [hg]; exact (below_size (by repeat (first | (with_reducible first | exact HB.out | apply below_alloc | apply pw_below_drewN | apply below_drew1) | exact HB.out))) : w.heap.size ≤ gb102)); clear HB; have HB := n0_; have BK102 := n1_; have GW102 := n2_; have GE102 := n3_; clear n0_ n1_ n2_ n3_; clear hb hbox hg; have hcz8_0 : w7.cell? ⟨gb102, 0, none⟩ = some (.int .i64 0) := (blk_cell BK102.out 0).trans rfl; have hcz8_1 : w7.cell? ⟨gb102, 1, none⟩ = some (.slice none 0 0) := (blk_cell BK102.out 1).trans rfl; have hfz8_0 := blk_frozen BK102.out 0; have hfz8_1 := blk_frozen BK102.out 1))
        go_ret
        exact ⟨by first | rfl | (simp [errW_none, errW_some] <;> rfl) | (simp [*, errW_none, errW_some] <;> rfl), by repeat (first | (with_reducible first | exact HB.out | apply below_alloc | apply pw_below_drewN | apply below_drew1 | refine below_set ?_ GE102.out) | exact HB.out)⟩
       ·rw [if_neg c6] at H
        have c6b0 : decide (((rd_T94 l0 x11_1).f0) ≤ x3_1) = false := decide_eq_false c6
        clear c6
        by_cases c9 : ((rd_T94 l0 x11_1).f0) > 255
        ·rw [if_pos c9] at H
         have c9b0 : decide (255 < ((rd_T94 l0 x11_1).f0)) = true := decide_eq_true c9
         clear c9
         obtain rfl := Option.some.inj H
         have p101 : 0 ≤ (x11_1 : Int) := of_decide_eq_true (by first | (with_reducible assumption) | assumption)
         have q101 : x11_1 < (l0.length : Int) := of_decide_eq_true (by first | (with_reducible assumption) | assumption)
         obtain ⟨ad101, A101_1, c101_1, e101, hx101_0, hx101_1, hl101_1, hi101_1⟩ := at_T94 HR0.out x11_1 p101 q101
         cases e101
         replace hx101_0 := (HB.out.cell (World.block_lt_of_cell? w _ hx101_0)).trans hx101_0
         replace hx101_1 := (HB.out.cell (World.block_lt_of_cell? w _ hx101_1)).trans hx101_1
         have HR101_1 := Aside0.mk hi101_1
         have HC101_1 := Aside0.mk hl101_1
         clear hi101_1 hl101_1
         replace p101 := eq_true p101
         replace q101 := eq_true q101
         go_wp2_with (first | ((with_reducible refine gate_dst (N := 5) rfl ?_); refine box_event ?hg (N := 5) ?hd (cs := #[.int .i64 0, .slice none 0 0]) (t := 94) ?hr ?_; (case hd => rfl); (case hg => rfl); (case hr => first | (go_simp; done) | (go_simp; rfl)); intro gb102 hg w10 hbox hb; have n0_ := Aside0.mk (below_step (by repeat (first | (with_reducible first | exact HB.out | apply below_alloc | apply pw_below_drewN | apply below_drew1) | exact HB.out)) hb); have n1_ := Aside0.mk (hbox); have n2_ := Aside0.mk ((by rw [hg]; exact (below_size (by repeat (first | (with_reducible first | exact HB.out | apply below_alloc | apply pw_below_drewN | apply below_drew1) | exact HB.out))) : w.heap.size ≤ gb102)); have n3_ := Aside0.mk ((by rw [hg]; exact (below_size (by repeat (first | (with_reducible first | exact HB.out | apply below_alloc | apply pw_below_drewN | apply below_drew1) | exact HB.out))) : w.heap.size ≤ gb102)); clear HB; have HB := n0_; have BK102 := n1_; have GW102 := n2_; have GE102 := n3_; clear n0_ n1_ n2_ n3_; clear hb hbox hg; have hcz11_0 : w10.cell? ⟨gb102, 0, none⟩ = some (.int .i64 0) := (blk_cell BK102.out 0).trans rfl; have hcz11_1 : w10.cell? ⟨gb102, 1, none⟩ = some (.slice none 0 0) := (blk_cell BK102.out 1).trans rfl; have hfz11_0 := blk_frozen BK102.out 0; have hfz11_1 := blk_frozen BK102.out 1))
         go_ret
         exact ⟨by first | rfl | (simp [errW_none, errW_some] <;> rfl) | (simp [*, errW_none, errW_some] <;> rfl), by repeat (first | (with_reducible first | exact HB.out | apply below_alloc | apply pw_below_drewN | apply below_drew1 | refine below_set ?_ GE102.out) | exact HB.out)⟩
        ·rw [if_neg c9] at H
         have c9b0 : decide (255 < ((rd_T94 l0 x11_1).f0)) = false := decide_eq_false c9
         clear c9
         replace H := Option.bind_eq_some_iff.mp H
         obtain ⟨t103, A120, H⟩ := H
         replace H : (if t103 = 0 then (refs_Check.l0 k1 ((rd_T94 l0 x11_1).f0) l0 (l0.length : Int) (wrap64 (x11_1 + 1))) else (some 9)) = some r := H
         have A12 := Aside0.mk A120
         clear A120
         by_cases c13 : t103 = 0
         ·rw [if_pos c13] at H
          have c13b0 : (t103 == 0) = true := beq_iff_eq.mpr c13
          have c13b1 : (t103 != 0) = false := bne_eq_false_iff_eq.mpr c13
          clear c13
          have H' := Aside0.mk H
          clear H
          have p101 : 0 ≤ (x11_1 : Int) := of_decide_eq_true (by first | (with_reducible assumption) | assumption)
          have q101 : x11_1 < (l0.length : Int) := of_decide_eq_true (by first | (with_reducible assumption) | assumption)
          obtain ⟨ad101, A101_1, c101_1, e101, hx101_0, hx101_1, hl101_1, hi101_1⟩ := at_T94 HR0.out x11_1 p101 q101
          cases e101
          replace hx101_0 := (HB.out.cell (World.block_lt_of_cell? w _ hx101_0)).trans hx101_0
          replace hx101_1 := (HB.out.cell (World.block_lt_of_cell? w _ hx101_1)).trans hx101_1
          have HR101_1 := Aside0.mk hi101_1
          have HC101_1 := Aside0.mk hl101_1
          clear hi101_1 hl101_1
          replace p101 := eq_true p101
          replace q101 := eq_true q101
          go_wp2_with (first | ((with_reducible refine gate_dst (N := 5) rfl ?_); refine box_event ?hg (N := 5) ?hd (cs := #[.int .i64 0, .slice none 0 0]) (t := 94) ?hr ?_; (case hd => rfl); (case hg => rfl); (case hr => first | (go_simp; done) | (go_simp; rfl)); intro gb102 hg w14 hbox hb; have n0_ := Aside0.mk (below_step (by repeat (first | (with_reducible first | exact HB.out | apply below_alloc | apply pw_below_drewN | apply below_drew1) | exact HB.out)) hb); have n1_ := Aside0.mk (hbox); have n2_ := Aside0.mk ((by rw [hg]; exact (below_size (by repeat (first | (with_reducible first | exact HB.out | apply below_alloc | apply pw_below_drewN | apply below_drew1) | exact HB.out))) : w.heap.size ≤ gb102)); have n3_ := Aside0.mk ((by rw [hg]; exact (below_size (by repeat (first | (with_reducible first | exact HB.out | apply below_alloc | apply pw_below_drewN | apply below_drew1) | exact HB.out))) : w.heap.size ≤ gb102)); clear HB; have HB := n0_; have BK102 := n1_; have GW102 := n2_; have GE102 := n3_; clear n0_ n1_ n2_ n3_; clear hb hbox hg; have hcz15_0 : w14.cell? ⟨gb102, 0, none⟩ = some (.int .i64 0) := (blk_cell BK102.out 0).trans rfl; have hcz15_1 : w14.cell? ⟨gb102, 1, none⟩ = some (.slice none 0 0) := (blk_cell BK102.out 1).trans rfl; have hfz15_0 := blk_frozen BK102.out 0; have hfz15_1 := blk_frozen BK102.out 1) | (go_at_call 36; (with_reducible refine (extent_Check.calls k1 _ _ ((rd_T94 l0 x11_1).f1) t103 _ ?side1 ?side2 A12.out).mono ?_); (case side1 => exact Kd.C_below HR101_1.out (by repeat (first | (with_reducible first | exact HB.out | apply below_alloc | apply pw_below_drewN | apply below_drew1 | refine below_set ?_ GE102.out) | exact HB.out))); (case side2 => exact HC101_1.out); rintro e w16 ⟨rfl, hb⟩; have n0_ := Aside0.mk (blk_below (g := gb102) (o := .cells #[.int .i64 ((rd_T94 l0 x11_1).f0), .slice A101_1 ((rd_T94 l0 x11_1).f1).length c101_1] 94 (0, 0)) (by (with_reducible repeat (first | refine blk_drewN ?_ _ | refine blk_drew ?_ | refine blk_alloc ?_ _)); refine blk_put (cs := #[.int .i64 ((rd_T94 l0 x11_1).f0), .slice none 0 0]) ?_ 1 _ rfl; (with_reducible repeat (first | refine blk_drewN ?_ _ | refine blk_drew ?_ | refine blk_alloc ?_ _)); refine blk_put (cs := #[.int .i64 0, .slice none 0 0]) ?_ 0 _ rfl; (with_reducible repeat (first | refine blk_drewN ?_ _ | refine blk_drew ?_ | refine blk_alloc ?_ _)); exact BK102.out) hb); have n1_ := Aside0.mk (below_step (by repeat (first | (with_reducible first | exact HB.out | apply below_alloc | apply pw_below_drewN | apply below_drew1 | refine below_set ?_ GE102.out) | exact HB.out)) hb); clear BK102; clear HB; have BK102 := n0_; have HB := n1_; clear n0_ n1_; (try clear hb); (try clear hb2); (try clear hk); (try clear hi); have hcz17_0 : w16.cell? ⟨gb102, 0, none⟩ = some (.int .i64 ((rd_T94 l0 x11_1).f0)) := (blk_cell BK102.out 0).trans rfl; have hcz17_1 : w16.cell? ⟨gb102, 1, none⟩ = some (.slice A101_1 ((rd_T94 l0 x11_1).f1).length c101_1) := (blk_cell BK102.out 1).trans rfl; have hfz17_0 := blk_frozen BK102.out 0; have hfz17_1 := blk_frozen BK102.out 1))
          go_roundg k1
          case measure => have := HK1.out; omega
          case rel => exact ⟨((rd_T94 l0 x11_1).f0), (wrap64 (x11_1 + 1)), (by first | rfl | (simp; done) | (simp [*]; done)), (by first | rfl | (simp; done) | (simp [*]; done)), H', ⟨by have := HK1.out; omega⟩, ⟨by repeat (first | (with_reducible first | exact HB.out | apply below_alloc | apply pw_below_drewN | apply below_drew1 | refine below_set ?_ GE102.out) | exact HB.out)⟩⟩
         ·rw [if_neg c13] at H
          have c13b0 : (t103 == 0) = false := beq_eq_false_iff_ne.mpr c13
          have c13b1 : (t103 != 0) = true := bne_iff_ne.mpr c13
          obtain rfl := Option.some.inj H
          have p101 : 0 ≤ (x11_1 : Int) := of_decide_eq_true (by first | (with_reducible assumption) | assumption)
          have q101 : x11_1 < (l0.length : Int) := of_decide_eq_true (by first | (with_reducible assumption) | assumption)
          obtain ⟨ad101, A101_1, c101_1, e101, hx101_0, hx101_1, hl101_1, hi101_1⟩ := at_T94 HR0.out x11_1 p101 q101
          cases e101
          replace hx101_0 := (HB.out.cell (World.block_lt_of_cell? w _ hx101_0)).trans hx101_0
          replace hx101_1 := (HB.out.cell (World.block_lt_of_cell? w _ hx101_1)).trans hx101_1
          have HR101_1 := Aside0.mk hi101_1
          have HC101_1 := Aside0.mk hl101_1
          clear hi101_1 hl101_1
          replace p101 := eq_true p101
          replace q101 := eq_true q101
          go_wp2_with (first | ((with_reducible refine gate_dst (N := 5) rfl ?_); refine box_event ?hg (N := 5) ?hd (cs := #[.int .i64 0, .slice none 0 0]) (t := 94) ?hr ?_; (case hd => rfl); (case hg => rfl); (case hr => first | (go_simp; done) | (go_simp; rfl)); intro gb102 hg w18 hbox hb; have n0_ := Aside0.mk (below_step (by repeat (first | (with_reducible first | exact HB.out | apply below_alloc | apply pw_below_drewN | apply below_drew1) | exact HB.out)) hb); have n1_ := Aside0.mk (hbox); have n2_ := Aside0.mk ((by rw [hg]; exact (below_size (by repeat (first | (with_reducible first | exact HB.out | apply below_alloc | apply pw_below_drewN | apply below_drew1) | exact HB.out))) : w.heap.size ≤ gb102)); have n3_ := Aside0.mk ((by rw [hg]; exact (below_size (by repeat (first | (with_reducible first | exact HB.out | apply below_alloc | apply pw_below_drewN | apply below_drew1) | exact HB.out))) : w.heap.size ≤ gb102)); clear HB; have HB := n0_; have BK102 := n1_; have GW102 := n2_; have GE102 := n3_; clear n0_ n1_ n2_ n3_; clear hb hbox hg; have hcz19_0 : w18.cell? ⟨gb102, 0, none⟩ = some (.int .i64 0) := (blk_cell BK102.out 0).trans rfl; have hcz19_1 : w18.cell? ⟨gb102, 1, none⟩ = some (.slice none 0 0) := (blk_cell BK102.out 1).trans rfl; have hfz19_0 := blk_frozen BK102.out 0; have hfz19_1 := blk_frozen BK102.out 1) | (go_at_call 36; (with_reducible refine (extent_Check.calls k1 _ _ ((rd_T94 l0 x11_1).f1) t103 _ ?side1 ?side2 A12.out).mono ?_); (case side1 => exact Kd.C_below HR101_1.out (by repeat (first | (with_reducible first | exact HB.out | apply below_alloc | apply pw_below_drewN | apply below_drew1 | refine below_set ?_ GE102.out) | exact HB.out))); (case side2 => exact HC101_1.out); rintro e w20 ⟨rfl, hb⟩; have n0_ := Aside0.mk (blk_below (g := gb102) (o := .cells #[.int .i64 ((rd_T94 l0 x11_1).f0), .slice A101_1 ((rd_T94 l0 x11_1).f1).length c101_1] 94 (0, 0)) (by (with_reducible repeat (first | refine blk_drewN ?_ _ | refine blk_drew ?_ | refine blk_alloc ?_ _)); refine blk_put (cs := #[.int .i64 ((rd_T94 l0 x11_1).f0), .slice none 0 0]) ?_ 1 _ rfl; (with_reducible repeat (first | refine blk_drewN ?_ _ | refine blk_drew ?_ | refine blk_alloc ?_ _)); refine blk_put (cs := #[.int .i64 0, .slice none 0 0]) ?_ 0 _ rfl; (with_reducible repeat (first | refine blk_drewN ?_ _ | refine blk_drew ?_ | refine blk_alloc ?_ _)); exact BK102.out) hb); have n1_ := Aside0.mk (below_step (by repeat (first | (with_reducible first | exact HB.out | apply below_alloc | apply pw_below_drewN | apply below_drew1 | refine below_set ?_ GE102.out) | exact HB.out)) hb); clear BK102; clear HB; have BK102 := n0_; have HB := n1_; clear n0_ n1_; (try clear hb); (try clear hb2); (try clear hk); (try clear hi)))
          go_ret
          exact ⟨by first | rfl | (simp [errW_none, errW_some] <;> rfl) | (simp [*, errW_none, errW_some] <;> rfl), by repeat (first | (with_reducible first | exact HB.out | apply below_alloc | apply pw_below_drewN | apply below_drew1 | refine below_set ?_ GE102.out) | exact HB.out)⟩
      ·rw [if_neg c5] at H
       exact absurd H (by simp)
     ·rw [if_neg c4] at H
      exact absurd H (by simp)
    ·rw [if_neg c3] at H
     have c3b0 : decide (x11_1 < (l0.length : Int)) = false := decide_eq_false c3
     clear c3
     obtain rfl := Option.some.inj H
     go_wp2
     go_ret
     exact ⟨by first | rfl | (simp [errW_none, errW_some] <;> rfl) | (simp [*, errW_none, errW_some] <;> rfl), by repeat (first | (with_reducible first | exact HB.out | apply below_alloc | apply pw_below_drewN | apply below_drew1) | exact HB.out)⟩
def toM (x : S94) : Flag.Mp := ⟨x.f0, x.f1.map toE⟩
theorem rd_map (pre : List S94) (x : S94) (t : List S94) {i : Int} (h : i = pre.length) : rd_T94 (pre ++ x :: t) i = x := by
  unfold rd_T94
  rw [h, Int.toNat_natCast, List.getD_eq_getElem?_getD, List.getElem?_append_right (Nat.le_refl _), Nat.sub_self]; rfl
theorem checkM_l (l : List S94) (hl : l.length ≤ 9) (t : List S94) : ∀ (pre : List S94) (e : Int) (k : Nat), l = pre ++ t → 1100 + t.length < k → refs_Check.l0 k e l (l.length : Int) (pre.length : Int) = some (if Flag.risM e (t.map toM) = true then 0 else 9) := by
  induction t with
  | nil =>
    intro pre e k h hk
    obtain ⟨k, rfl⟩ : ∃ m, k = m + 1 := ⟨k - 1, by omega⟩
    rw [refs_Check.l0, if_neg (by rw [h]; simp)]
    rfl
  | cons x t ih =>
    intro pre e k h hk
    rw [List.length_cons] at hk
    obtain ⟨k, rfl⟩ : ∃ m, k = m + 1 := ⟨k - 1, by omega⟩
    have hlen : l.length = pre.length + t.length + 1 := by rw [h]; simp; omega
    have hr : rd_T94 l (pre.length : Int) = x := by rw [h]; exact rd_map pre x t rfl
    have e1 : wrap64 ((pre.length : Int) + 1) = ((pre ++ [x]).length : Int) := by rw [w64 (by omega)]; simp
    rw [refs_Check.l0, if_pos (by omega), if_pos (by omega), if_pos (by omega), hr, e1, List.map_cons, Flag.risM]
    show _ = some (if (decide (e < x.f0) && decide (x.f0 ≤ 255) && decide (Flag.checkE (x.f1.map toE) = 0) && Flag.risM x.f0 (t.map toM)) = true then 0 else 9)
    by_cases c1 : x.f0 ≤ e
    · rw [if_pos c1, decide_eq_false (show ¬ e < x.f0 by omega)]
      simp
    · rw [if_neg c1, decide_eq_true (show e < x.f0 by omega)]
      by_cases c2 : x.f0 > 255
      · rw [if_pos c2, decide_eq_false (show ¬ x.f0 ≤ 255 by omega)]
        simp
      · rw [if_neg c2, decide_eq_true (show x.f0 ≤ 255 by omega)]
        by_cases c4 : x.f1.length ≤ 1024
        · rw [check_x x.f1 (by omega), Option.bind_some]
          by_cases c3 : Flag.checkE (x.f1.map toE) = 0
          · rw [if_pos c3, decide_eq_true c3, ih (pre ++ [x]) x.f0 k (by rw [h]; simp) (by omega)]
            simp
          · rw [if_neg c3, decide_eq_false c3]
            simp
        · have e9 : Flag.checkE (x.f1.map toE) = 9 := by unfold Flag.checkE; rw [if_neg]; intro hh; apply c4; simpa using hh.1
          have ex : extent_Check.f k x.f1 = some 9 := by unfold extent_Check.f; rw [if_pos (by omega)]
          rw [ex, Option.bind_some, e9, if_neg (by omega)]
          simp
theorem check9 (l : List S94) : refs_Check.f 1200 l = some (Flag.checkM (l.map toM)) := by
  unfold refs_Check.f Flag.checkM
  rw [List.length_map]
  by_cases c : (l.length : Int) > 9
  · rw [if_pos c, if_neg (by omega)]
  · rw [if_neg c]
    have h := checkM_l l (by omega) l [] (-1) 1200 rfl (by omega)
    rw [show (([] : List S94).length : Int) = 0 from rfl] at h
    rw [h]
    by_cases c2 : Flag.risM (-1) (l.map toM) = true
    · rw [if_pos c2, if_pos ⟨by omega, c2⟩]
    · rw [if_neg c2, if_neg (fun hh => c2 hh.2)]
def cmp_isNaN_int.f (a0 : Int) : Option (Bool) := some (a0 != a0)
set_option maxHeartbeats 8000000 in
set_option maxRecDepth 100000 in
theorem cmp_isNaN_int.calls (a0 : Int) (r : Bool) (w : World) (h : cmp_isNaN_int.f a0 = some r) :
 Calls Try.prog 138 #[.int .i64 a0] w fun e w' => e = .returned (.bool r) ∧ Drawn0 w w' := by
 have H : (some (a0 != a0)) = some r := h
 clear h
 obtain rfl := Option.some.inj H
 go_enter Try.func138, Try.ntmps138
 go_wp2
 go_ret
 exact ⟨by first | rfl | (simp; done) | (simp [*]; done), by repeat (first | exact Drawn0.refl _ | apply Drawn0.step)⟩
def cmp_Compare_int.f (a0 : Int) (a1 : Int) : Option (Int) := (cmp_isNaN_int.f a0).bind fun t101 => ((cmp_isNaN_int.f a1).bind fun t102 => (if t101 = true then (if t102 = true then (some 0) else (some (-1))) else (if t102 = true then (some 1) else (if a0 < a1 then (some (-1)) else (if a0 > a1 then (some 1) else (some 0))))))
set_option maxHeartbeats 8000000 in
set_option maxRecDepth 100000 in
theorem cmp_Compare_int.calls (a0 : Int) (a1 : Int) (r : Int) (w : World) (h : cmp_Compare_int.f a0 a1 = some r) :
 Calls Try.prog 97 #[.int .i64 a0, .int .i64 a1] w fun e w' => e = .returned (.int .i64 r) ∧ Drawn0 w w' := by
 have H : ((cmp_isNaN_int.f a0).bind fun t101 => ((cmp_isNaN_int.f a1).bind fun t102 => (if t101 = true then (if t102 = true then (some 0) else (some (-1))) else (if t102 = true then (some 1) else (if a0 < a1 then (some (-1)) else (if a0 > a1 then (some 1) else (some 0))))))) = some r := h
 clear h
 replace H := Option.bind_eq_some_iff.mp H
 obtain ⟨t101, A30, H⟩ := H
 replace H : ((cmp_isNaN_int.f a1).bind fun t102 => (if t101 = true then (if t102 = true then (some 0) else (some (-1))) else (if t102 = true then (some 1) else (if a0 < a1 then (some (-1)) else (if a0 > a1 then (some 1) else (some 0)))))) = some r := H
 have A3 := Aside0.mk A30
 clear A30
 replace H := Option.bind_eq_some_iff.mp H
 obtain ⟨t102, A40, H⟩ := H
 replace H : (if t101 = true then (if t102 = true then (some 0) else (some (-1))) else (if t102 = true then (some 1) else (if a0 < a1 then (some (-1)) else (if a0 > a1 then (some 1) else (some 0))))) = some r := H
 have A4 := Aside0.mk A40
 clear A40
 by_cases c5 : t101 = true
 ·subst c5
  have H1 : (if t102 = true then (some 0) else (some (-1))) = some r := by rw [if_pos rfl] at H; exact H
  clear H
  have H := H1
  clear H1
  by_cases c6 : t102 = true
  ·subst c6
   have H1 : (some 0) = some r := by rw [if_pos rfl] at H; exact H
   clear H
   have H := H1
   clear H1
   obtain rfl := Option.some.inj H
   go_enter Try.func97, Try.ntmps97
   go_wp2_with (first | ((with_reducible refine gate_callee (f := 138) rfl ?_); refine goesL_ (some 8) rfl rfl Try.func138 (by kernel_rfl) rfl #[.int .i64 a0] rfl (by (try simp only [List.map_toArray, List.map_cons, List.map_nil]); first | done | rfl | (simp only [List.length_drop, List.length_take]; rfl)) ?_; (with_reducible refine (cmp_isNaN_int.calls a0 true _ A3.out).mono ?_); rintro e w' ⟨rfl, ⟨nd, rfl⟩⟩; refine ⟨_, rfl, ?_⟩) | ((with_reducible refine gate_callee (f := 138) rfl ?_); refine goesL_ (some 10) rfl rfl Try.func138 (by kernel_rfl) rfl #[.int .i64 a1] rfl (by (try simp only [List.map_toArray, List.map_cons, List.map_nil]); first | done | rfl | (simp only [List.length_drop, List.length_take]; rfl)) ?_; (with_reducible refine (cmp_isNaN_int.calls a1 true _ A4.out).mono ?_); rintro e w' ⟨rfl, ⟨nd, rfl⟩⟩; refine ⟨_, rfl, ?_⟩))
   go_ret
   exact ⟨by first | rfl | (simp; done) | (simp [*]; done), by repeat (first | exact Drawn0.refl _ | apply Drawn0.step)⟩
  ·replace c6 := Bool.eq_false_iff.mpr c6
   subst c6
   have H1 : (some (-1)) = some r := by rw [if_neg (show ¬ (false = true) by decide)] at H; exact H
   clear H
   have H := H1
   clear H1
   obtain rfl := Option.some.inj H
   go_enter Try.func97, Try.ntmps97
   go_wp2_with (first | ((with_reducible refine gate_callee (f := 138) rfl ?_); refine goesL_ (some 8) rfl rfl Try.func138 (by kernel_rfl) rfl #[.int .i64 a0] rfl (by (try simp only [List.map_toArray, List.map_cons, List.map_nil]); first | done | rfl | (simp only [List.length_drop, List.length_take]; rfl)) ?_; (with_reducible refine (cmp_isNaN_int.calls a0 true _ A3.out).mono ?_); rintro e w' ⟨rfl, ⟨nd, rfl⟩⟩; refine ⟨_, rfl, ?_⟩) | ((with_reducible refine gate_callee (f := 138) rfl ?_); refine goesL_ (some 10) rfl rfl Try.func138 (by kernel_rfl) rfl #[.int .i64 a1] rfl (by (try simp only [List.map_toArray, List.map_cons, List.map_nil]); first | done | rfl | (simp only [List.length_drop, List.length_take]; rfl)) ?_; (with_reducible refine (cmp_isNaN_int.calls a1 false _ A4.out).mono ?_); rintro e w' ⟨rfl, ⟨nd, rfl⟩⟩; refine ⟨_, rfl, ?_⟩))
   go_ret
   exact ⟨by first | rfl | (simp; done) | (simp [*]; done), by repeat (first | exact Drawn0.refl _ | apply Drawn0.step)⟩
 ·replace c5 := Bool.eq_false_iff.mpr c5
  subst c5
  have H1 : (if t102 = true then (some 1) else (if a0 < a1 then (some (-1)) else (if a0 > a1 then (some 1) else (some 0)))) = some r := by rw [if_neg (show ¬ (false = true) by decide)] at H; exact H
  clear H
  have H := H1
  clear H1
  by_cases c7 : t102 = true
  ·subst c7
   have H1 : (some 1) = some r := by rw [if_pos rfl] at H; exact H
   clear H
   have H := H1
   clear H1
   obtain rfl := Option.some.inj H
   go_enter Try.func97, Try.ntmps97
   go_wp2_with (first | ((with_reducible refine gate_callee (f := 138) rfl ?_); refine goesL_ (some 8) rfl rfl Try.func138 (by kernel_rfl) rfl #[.int .i64 a0] rfl (by (try simp only [List.map_toArray, List.map_cons, List.map_nil]); first | done | rfl | (simp only [List.length_drop, List.length_take]; rfl)) ?_; (with_reducible refine (cmp_isNaN_int.calls a0 false _ A3.out).mono ?_); rintro e w' ⟨rfl, ⟨nd, rfl⟩⟩; refine ⟨_, rfl, ?_⟩) | ((with_reducible refine gate_callee (f := 138) rfl ?_); refine goesL_ (some 10) rfl rfl Try.func138 (by kernel_rfl) rfl #[.int .i64 a1] rfl (by (try simp only [List.map_toArray, List.map_cons, List.map_nil]); first | done | rfl | (simp only [List.length_drop, List.length_take]; rfl)) ?_; (with_reducible refine (cmp_isNaN_int.calls a1 true _ A4.out).mono ?_); rintro e w' ⟨rfl, ⟨nd, rfl⟩⟩; refine ⟨_, rfl, ?_⟩))
   go_ret
   exact ⟨by first | rfl | (simp; done) | (simp [*]; done), by repeat (first | exact Drawn0.refl _ | apply Drawn0.step)⟩
  ·replace c7 := Bool.eq_false_iff.mpr c7
   subst c7
   have H1 : (if a0 < a1 then (some (-1)) else (if a0 > a1 then (some 1) else (some 0))) = some r := by rw [if_neg (show ¬ (false = true) by decide)] at H; exact H
   clear H
   have H := H1
   clear H1
   by_cases c8 : a0 < a1
   ·rw [if_pos c8] at H
    have c8b0 : decide (a0 < a1) = true := decide_eq_true c8
    clear c8
    obtain rfl := Option.some.inj H
    go_enter Try.func97, Try.ntmps97
    go_wp2_with (first | ((with_reducible refine gate_callee (f := 138) rfl ?_); refine goesL_ (some 8) rfl rfl Try.func138 (by kernel_rfl) rfl #[.int .i64 a0] rfl (by (try simp only [List.map_toArray, List.map_cons, List.map_nil]); first | done | rfl | (simp only [List.length_drop, List.length_take]; rfl)) ?_; (with_reducible refine (cmp_isNaN_int.calls a0 false _ A3.out).mono ?_); rintro e w' ⟨rfl, ⟨nd, rfl⟩⟩; refine ⟨_, rfl, ?_⟩) | ((with_reducible refine gate_callee (f := 138) rfl ?_); refine goesL_ (some 10) rfl rfl Try.func138 (by kernel_rfl) rfl #[.int .i64 a1] rfl (by (try simp only [List.map_toArray, List.map_cons, List.map_nil]); first | done | rfl | (simp only [List.length_drop, List.length_take]; rfl)) ?_; (with_reducible refine (cmp_isNaN_int.calls a1 false _ A4.out).mono ?_); rintro e w' ⟨rfl, ⟨nd, rfl⟩⟩; refine ⟨_, rfl, ?_⟩))
    go_ret
    exact ⟨by first | rfl | (simp; done) | (simp [*]; done), by repeat (first | exact Drawn0.refl _ | apply Drawn0.step)⟩
   ·rw [if_neg c8] at H
    have c8b0 : decide (a0 < a1) = false := decide_eq_false c8
    clear c8
    by_cases c9 : a0 > a1
    ·rw [if_pos c9] at H
     have c9b0 : decide (a1 < a0) = true := decide_eq_true c9
     clear c9
     obtain rfl := Option.some.inj H
     go_enter Try.func97, Try.ntmps97
     go_wp2_with (first | ((with_reducible refine gate_callee (f := 138) rfl ?_); refine goesL_ (some 8) rfl rfl Try.func138 (by kernel_rfl) rfl #[.int .i64 a0] rfl (by (try simp only [List.map_toArray, List.map_cons, List.map_nil]); first | done | rfl | (simp only [List.length_drop, List.length_take]; rfl)) ?_; (with_reducible refine (cmp_isNaN_int.calls a0 false _ A3.out).mono ?_); rintro e w' ⟨rfl, ⟨nd, rfl⟩⟩; refine ⟨_, rfl, ?_⟩) | ((with_reducible refine gate_callee (f := 138) rfl ?_); refine goesL_ (some 10) rfl rfl Try.func138 (by kernel_rfl) rfl #[.int .i64 a1] rfl (by (try simp only [List.map_toArray, List.map_cons, List.map_nil]); first | done | rfl | (simp only [List.length_drop, List.length_take]; rfl)) ?_; (with_reducible refine (cmp_isNaN_int.calls a1 false _ A4.out).mono ?_); rintro e w' ⟨rfl, ⟨nd, rfl⟩⟩; refine ⟨_, rfl, ?_⟩))
     go_ret
     exact ⟨by first | rfl | (simp; done) | (simp [*]; done), by repeat (first | exact Drawn0.refl _ | apply Drawn0.step)⟩
    ·rw [if_neg c9] at H
     have c9b0 : decide (a1 < a0) = false := decide_eq_false c9
     clear c9
     obtain rfl := Option.some.inj H
     go_enter Try.func97, Try.ntmps97
     go_wp2_with (first | ((with_reducible refine gate_callee (f := 138) rfl ?_); refine goesL_ (some 8) rfl rfl Try.func138 (by kernel_rfl) rfl #[.int .i64 a0] rfl (by (try simp only [List.map_toArray, List.map_cons, List.map_nil]); first | done | rfl | (simp only [List.length_drop, List.length_take]; rfl)) ?_; (with_reducible refine (cmp_isNaN_int.calls a0 false _ A3.out).mono ?_); rintro e w' ⟨rfl, ⟨nd, rfl⟩⟩; refine ⟨_, rfl, ?_⟩) | ((with_reducible refine gate_callee (f := 138) rfl ?_); refine goesL_ (some 10) rfl rfl Try.func138 (by kernel_rfl) rfl #[.int .i64 a1] rfl (by (try simp only [List.map_toArray, List.map_cons, List.map_nil]); first | done | rfl | (simp only [List.length_drop, List.length_take]; rfl)) ?_; (with_reducible refine (cmp_isNaN_int.calls a1 false _ A4.out).mono ?_); rintro e w' ⟨rfl, ⟨nd, rfl⟩⟩; refine ⟨_, rfl, ?_⟩))
     go_ret
     exact ⟨by first | rfl | (simp; done) | (simp [*]; done), by repeat (first | exact Drawn0.refl _ | apply Drawn0.step)⟩
def cmp_Or_int.l0 : Nat → Int → List Int → Int → Int → Option (Int)
 | 0, _, _, _, _ => none
 | k + 1, x3, x6, x7, x8 => if x8 < x7 then (if 0 ≤ x8 then (if x8 < (x6.length : Int) then (if (rd x6 x8) = x3 then (cmp_Or_int.l0 k x3 x6 x7 (wrap64 (x8 + 1))) else (some (rd x6 x8))) else (none)) else (none)) else (some x3)
def cmp_Or_int.f (k : Nat) (l0 : List Int) : Option (Int) := cmp_Or_int.l0 k 0 l0 (l0.length : Int) 0
theorem cmp_Or_int.mono_l : ∀ k, (∀ y0 y1 y2 y3, LeO (cmp_Or_int.l0 k y0 y1 y2 y3) (cmp_Or_int.l0 (k + 1) y0 y1 y2 y3))
 | 0 => fun _ _ _ _ r h => by simp [cmp_Or_int.l0] at h
 | k + 1 => by
  have ih0 := cmp_Or_int.mono_l k
  ·intro y0 y1 y2 y3
   unfold cmp_Or_int.l0
   repeat' first
   | (with_reducible exact ih0 _ _ _ _)
   | (with_reducible exact LeO.refl _)
   | (with_reducible exact LeO.none _)
   | (with_reducible refine LeO.ite ?_ ?_)
   | (with_reducible refine LeO.bind ?_ (fun _ => ?_))
   | exact ih0 _ _ _ _
   | exact LeO.none _
   | refine LeO.ite ?_ ?_
   | refine LeO.bind ?_ (fun _ => ?_)
theorem cmp_Or_int.mono : ∀ a0 k, LeO (cmp_Or_int.f k a0) (cmp_Or_int.f (k + 1) a0) := by
 intro a0 k
 have ih0 := cmp_Or_int.mono_l k
 unfold cmp_Or_int.f
 repeat' first
  | (with_reducible exact ih0 _ _ _ _)
  | (with_reducible exact LeO.refl _)
  | (with_reducible exact LeO.none _)
  | (with_reducible refine LeO.ite ?_ ?_)
  | (with_reducible refine LeO.bind ?_ (fun _ => ?_))
  | exact ih0 _ _ _ _
  | exact LeO.none _
  | refine LeO.ite ?_ ?_
  | refine LeO.bind ?_ (fun _ => ?_)
set_option maxHeartbeats 8000000 in
set_option maxRecDepth 100000 in
theorem cmp_Or_int.calls (k : Nat) (A0 : Option Addr) (c0 : Nat) (l0 : List Int) (r : Int) (w : World) (hr0 : Kd.C (Kd.int .i64) w A0 l0.length l0) (hc0 : l0.length ≤ c0) (h : cmp_Or_int.f k l0 = some r) :
 Calls Try.prog 145 #[.slice A0 l0.length c0] w fun e w' => e = .returned (.int .i64 r) ∧ Drawn0 w w' := by
 have HR0 := Aside0.mk hr0
 have HC0 := Aside0.mk hc0
 clear hr0 hc0
 have H : (cmp_Or_int.l0 k 0 l0 (l0.length : Int) 0) = some r := h
 clear h
 have H' := Aside0.mk H
 clear H
 go_enter Try.func145, Try.ntmps145
 go_wp2
 go_loopg [8] k (fun kq v8 w' => ∃ (x8_1 : Int), v8 = .int .i64 x8_1 ∧ Aside0 (cmp_Or_int.l0 kq 0 l0 (l0.length : Int) x8_1 = some r) ∧ Aside0 (kq ≤ k) ∧ Drawn0 w w')
 case atStart => exact ⟨(0), (by first | rfl | (simp; done) | (simp [*]; done)), H', ⟨Nat.le_refl _⟩, by repeat (first | exact Drawn0.refl _ | apply Drawn0.step)⟩
 case round =>
  clear H'
  try clear c1
  obtain ⟨x8_1, rfl, HA, HK1, ⟨m1, rfl⟩⟩ := hrel
  cases gk with
  | zero => exact absurd HA.out (by simp [cmp_Or_int.l0])
  | succ k1 =>
   have H := HA.out
   clear HA
   simp only [cmp_Or_int.l0] at H
   by_cases c2 : x8_1 < (l0.length : Int)
   ·rw [if_pos c2] at H
    have c2b0 : decide (x8_1 < (l0.length : Int)) = true := decide_eq_true c2
    clear c2
    by_cases c3 : 0 ≤ x8_1
    ·rw [if_pos c3] at H
     have c3b0 : decide (0 ≤ x8_1) = true := decide_eq_true c3
     clear c3
     by_cases c4 : x8_1 < (l0.length : Int)
     ·rw [if_pos c4] at H
      have c4b0 : decide (x8_1 < (l0.length : Int)) = true := decide_eq_true c4
      clear c4
      by_cases c5 : (rd l0 x8_1) = 0
      ·rw [if_pos c5] at H
       have c5b0 : ((rd l0 x8_1) == 0) = true := beq_iff_eq.mpr c5
       have c5b1 : ((rd l0 x8_1) != 0) = false := bne_eq_false_iff_eq.mpr c5
       clear c5
       have H' := Aside0.mk H
       clear H
       have p101 : 0 ≤ (x8_1 : Int) := of_decide_eq_true (by first | (with_reducible assumption) | assumption)
       have q101 : x8_1 < (l0.length : Int) := of_decide_eq_true (by first | (with_reducible assumption) | assumption)
       obtain ⟨ad101, e101, hx101_0⟩ := Kd.at_int HR0.out x8_1 p101 q101
       cases e101
       replace p101 := eq_true p101
       replace q101 := eq_true q101
       go_wp2
       go_roundg k1
       case measure => have := HK1.out; omega
       case rel => exact ⟨(wrap64 (x8_1 + 1)), (by first | rfl | (simp; done) | (simp [*]; done)), H', ⟨by have := HK1.out; omega⟩, by repeat (first | exact Drawn0.refl _ | apply Drawn0.step)⟩
      ·rw [if_neg c5] at H
       have c5b0 : ((rd l0 x8_1) == 0) = false := beq_eq_false_iff_ne.mpr c5
       have c5b1 : ((rd l0 x8_1) != 0) = true := bne_iff_ne.mpr c5
       obtain rfl := Option.some.inj H
       have p101 : 0 ≤ (x8_1 : Int) := of_decide_eq_true (by first | (with_reducible assumption) | assumption)
       have q101 : x8_1 < (l0.length : Int) := of_decide_eq_true (by first | (with_reducible assumption) | assumption)
       obtain ⟨ad101, e101, hx101_0⟩ := Kd.at_int HR0.out x8_1 p101 q101
       cases e101
       replace p101 := eq_true p101
       replace q101 := eq_true q101
       go_wp2
       go_ret
       exact ⟨by first | rfl | (simp; done) | (simp [*]; done), by repeat (first | exact Drawn0.refl _ | apply Drawn0.step)⟩
     ·rw [if_neg c4] at H
      exact absurd H (by simp)
    ·rw [if_neg c3] at H
     exact absurd H (by simp)
   ·rw [if_neg c2] at H
    have c2b0 : decide (x8_1 < (l0.length : Int)) = false := decide_eq_false c2
    clear c2
    obtain rfl := Option.some.inj H
    go_wp2
    go_ret
    exact ⟨by first | rfl | (simp; done) | (simp [*]; done), by repeat (first | exact Drawn0.refl _ | apply Drawn0.step)⟩
theorem eqA118 (d : Nat) (w : World) (x0 y0 : Int) (x1 y1 : Int) (x2 y2 : Int) (x3 y3 : Int) :
    (Op.equalIn (d + 2) 118 (.agg #[.int .i64 x0, .int .i64 x1, .int .i64 x2, .int .i64 x3]) (.agg #[.int .i64 y0, .int .i64 y1, .int .i64 y2, .int .i64 y3])).run Try.prog w = .ok (x0 == y0 && (x1 == y1 && (x2 == y2 && (x3 == y3)))) w := by
  refine eqA_of Try.underlying118 (by kernel_rfl) ?_
  refine eqf_cons (by rfl) (by go_simp; rfl) (by go_simp; rfl) (by go_simp) ?_
  refine eqf_cons (by rfl) (by go_simp; rfl) (by go_simp; rfl) (by go_simp) ?_
  refine eqf_cons (by rfl) (by go_simp; rfl) (by go_simp; rfl) (by go_simp) ?_
  exact eqf_last (by rfl) (by go_simp; rfl) (by go_simp; rfl) (by go_simp)
end Go.Proofs.Ytkkfkdncddbaeaa.Fn
namespace Go.Proofs.Ytkkfkdncddbaeaa.Fn
open Go.RowKit Go.Proofs.YtkkfkdncddbaeaaW.PrintWords Go.Proofs.YtkkfkdncddbaeaaW.PrintLast Go.Proofs.YtkkfkdncddbaeaaW.PrintMore
attribute [local go_sem] max2_int min2_int max_two min_two max_three min_three max_four min_four
set_option linter.unusedVariables false
set_option linter.unusedSimpArgs false
attribute [local go_sem high] eqA118
def flagstonelaw09_sameRefs.l0 : Nat → List (S88) → List (S118) → Int → Option (Bool)
 | 0, _, _, _ => none
 | k + 1, x0, x1, x5 => if x5 < (x0.length : Int) then (if 0 ≤ x5 then (if x5 < (x1.length : Int) then (if (!(((rd_T88 x0 x5).f0) == ((rd_T118 x1 x5).f0)) || (!(((rd_T88 x0 x5).f1) == ((rd_T118 x1 x5).f1)) || (!(((rd_T88 x0 x5).f2) == ((rd_T118 x1 x5).f2)) || (!(((rd_T88 x0 x5).f3) == ((rd_T118 x1 x5).f3)))))) = true then (some false) else (flagstonelaw09_sameRefs.l0 k x0 x1 (wrap64 (x5 + 1)))) else (none)) else (none)) else (some true)
def flagstonelaw09_sameRefs.f (k : Nat) (l0 : List (S88)) (l1 : List (S118)) : Option (Bool) := if (l0.length : Int) = (l1.length : Int) then (flagstonelaw09_sameRefs.l0 k l0 l1 0) else (some false)
theorem flagstonelaw09_sameRefs.mono_l : ∀ k, (∀ y0 y1 y2, LeO (flagstonelaw09_sameRefs.l0 k y0 y1 y2) (flagstonelaw09_sameRefs.l0 (k + 1) y0 y1 y2))
 | 0 => fun _ _ _ r h => by simp [flagstonelaw09_sameRefs.l0] at h
 | k + 1 => by
  have ih0 := flagstonelaw09_sameRefs.mono_l k
  ·intro y0 y1 y2
   unfold flagstonelaw09_sameRefs.l0
   repeat' first
   | (with_reducible exact ih0 _ _ _)
   | (with_reducible exact LeO.refl _)
   | (with_reducible exact LeO.none _)
   | (with_reducible refine LeO.ite ?_ ?_)
   | (with_reducible refine LeO.bind ?_ (fun _ => ?_))
   | exact ih0 _ _ _
   | exact LeO.none _
   | refine LeO.ite ?_ ?_
   | refine LeO.bind ?_ (fun _ => ?_)
theorem flagstonelaw09_sameRefs.mono : ∀ a0 a1 k, LeO (flagstonelaw09_sameRefs.f k a0 a1) (flagstonelaw09_sameRefs.f (k + 1) a0 a1) := by
 intro a0 a1 k
 have ih0 := flagstonelaw09_sameRefs.mono_l k
 unfold flagstonelaw09_sameRefs.f
 repeat' first
  | (with_reducible exact ih0 _ _ _)
  | (with_reducible exact LeO.refl _)
  | (with_reducible exact LeO.none _)
  | (with_reducible refine LeO.ite ?_ ?_)
  | (with_reducible refine LeO.bind ?_ (fun _ => ?_))
  | exact ih0 _ _ _
  | exact LeO.none _
  | refine LeO.ite ?_ ?_
  | refine LeO.bind ?_ (fun _ => ?_)
set_option maxHeartbeats 8000000 in
set_option maxRecDepth 100000 in
theorem flagstonelaw09_sameRefs.calls (k : Nat) (A0 : Option Addr) (c0 : Nat) (l0 : List (S88)) (A1 : Option Addr) (c1 : Nat) (l1 : List (S118)) (r : Bool) (w : World) (hr0 : Kd.C k88 w A0 l0.length l0) (hc0 : l0.length ≤ c0) (hr1 : Kd.C k118 w A1 l1.length l1) (hc1 : l1.length ≤ c1) (h : flagstonelaw09_sameRefs.f k l0 l1 = some r) :
 Calls Try.prog 71 #[.slice A0 l0.length c0, .slice A1 l1.length c1] w fun e w' => e = .returned (.bool r) ∧ Drawn0 w w' := by
 have hu88 := Try.underlying88
 have hu118 := Try.underlying118
 have HR0 := Aside0.mk hr0
 have HC0 := Aside0.mk hc0
 clear hr0 hc0
 have HR1 := Aside0.mk hr1
 have HC1 := Aside0.mk hc1
 clear hr1 hc1
 have H : (if (l0.length : Int) = (l1.length : Int) then (flagstonelaw09_sameRefs.l0 k l0 l1 0) else (some false)) = some r := h
 clear h
 by_cases c3 : (l0.length : Int) = (l1.length : Int)
 ·rw [if_pos c3] at H
  have c3b0 : ((l0.length : Int) == (l1.length : Int)) = true := beq_iff_eq.mpr c3
  have c3b1 : ((l0.length : Int) != (l1.length : Int)) = false := bne_eq_false_iff_eq.mpr c3
  have c3b2 : (l0.length == l1.length) = true := by first | simpa using c3 | (simp at c3 ⊢; omega)
  clear c3
  have H' := Aside0.mk H
  clear H
  go_enter Try.func71, Try.ntmps71
  go_wp2
  repeat (go_quiet (fail); try go_wp2)
  go_loopg [5] k (fun kq v5 w' => ∃ (x5_1 : Int), v5 = .int .i64 x5_1 ∧ Aside0 (flagstonelaw09_sameRefs.l0 kq l0 l1 x5_1 = some r) ∧ Aside0 (kq ≤ k) ∧ Drawn0 w w')
  case atStart => exact ⟨(0), (by first | rfl | (simp; done) | (simp [*]; done)), H', ⟨Nat.le_refl _⟩, by repeat (first | exact Drawn0.refl _ | apply Drawn0.step)⟩
  case round =>
   clear H'
   try clear c1
   try clear p2
   try clear c3
   try clear c3b0
   try clear c3b1
   try clear c3b2
   obtain ⟨x5_1, rfl, HA, HK1, ⟨m1, rfl⟩⟩ := hrel
   cases gk with
   | zero => exact absurd HA.out (by simp [flagstonelaw09_sameRefs.l0])
   | succ k1 =>
    have H := HA.out
    clear HA
    simp only [flagstonelaw09_sameRefs.l0] at H
    by_cases c4 : x5_1 < (l0.length : Int)
    ·rw [if_pos c4] at H
     have c4b0 : decide (x5_1 < (l0.length : Int)) = true := decide_eq_true c4
     clear c4
     by_cases c5 : 0 ≤ x5_1
     ·rw [if_pos c5] at H
      have c5b0 : decide (0 ≤ x5_1) = true := decide_eq_true c5
      clear c5
      by_cases c6 : x5_1 < (l1.length : Int)
      ·rw [if_pos c6] at H
       have c6b0 : decide (x5_1 < (l1.length : Int)) = true := decide_eq_true c6
       clear c6
       by_cases c7 : (!(((rd_T88 l0 x5_1).f0) == ((rd_T118 l1 x5_1).f0)) || (!(((rd_T88 l0 x5_1).f1) == ((rd_T118 l1 x5_1).f1)) || (!(((rd_T88 l0 x5_1).f2) == ((rd_T118 l1 x5_1).f2)) || (!(((rd_T88 l0 x5_1).f3) == ((rd_T118 l1 x5_1).f3)))))) = true
       ·rw [if_pos c7] at H
        have c7b0 : (!(((rd_T88 l0 x5_1).f0) == ((rd_T118 l1 x5_1).f0)) || (!(((rd_T88 l0 x5_1).f1) == ((rd_T118 l1 x5_1).f1)) || (!(((rd_T88 l0 x5_1).f2) == ((rd_T118 l1 x5_1).f2)) || (!(((rd_T88 l0 x5_1).f3) == ((rd_T118 l1 x5_1).f3)))))) = true := c7
        clear c7
        obtain rfl := Option.some.inj H
        have p101 : 0 ≤ (x5_1 : Int) := of_decide_eq_true (by first | (with_reducible assumption) | assumption)
        have q101 : x5_1 < (l0.length : Int) := of_decide_eq_true (by first | (with_reducible assumption) | assumption)
        obtain ⟨ad101, e101, hx101_0, hx101_1, hx101_2, hx101_3⟩ := at_T88 HR0.out x5_1 p101 q101
        cases e101
        replace p101 := eq_true p101
        replace q101 := eq_true q101
        have p102 : 0 ≤ (x5_1 : Int) := of_decide_eq_true (by first | (with_reducible assumption) | assumption)
        have q102 : x5_1 < (l1.length : Int) := of_decide_eq_true (by first | (with_reducible assumption) | assumption)
        obtain ⟨ad102, e102, hx102_0, hx102_1, hx102_2, hx102_3⟩ := at_T118 HR1.out x5_1 p102 q102
        cases e102
        replace p102 := eq_true p102
        replace q102 := eq_true q102
        go_wp2
        repeat (go_quiet (fail); try go_wp2)
        go_ret
        exact ⟨by first | rfl | (simp; done) | (simp [*]; done), by repeat (first | exact Drawn0.refl _ | apply Drawn0.step)⟩
       ·rw [if_neg c7] at H
        have c7b0 : (!(((rd_T88 l0 x5_1).f0) == ((rd_T118 l1 x5_1).f0)) || (!(((rd_T88 l0 x5_1).f1) == ((rd_T118 l1 x5_1).f1)) || (!(((rd_T88 l0 x5_1).f2) == ((rd_T118 l1 x5_1).f2)) || (!(((rd_T88 l0 x5_1).f3) == ((rd_T118 l1 x5_1).f3)))))) = false := by simpa using c7
        clear c7
        have H' := Aside0.mk H
        clear H
        have p101 : 0 ≤ (x5_1 : Int) := of_decide_eq_true (by first | (with_reducible assumption) | assumption)
        have q101 : x5_1 < (l0.length : Int) := of_decide_eq_true (by first | (with_reducible assumption) | assumption)
        obtain ⟨ad101, e101, hx101_0, hx101_1, hx101_2, hx101_3⟩ := at_T88 HR0.out x5_1 p101 q101
        cases e101
        replace p101 := eq_true p101
        replace q101 := eq_true q101
        have p102 : 0 ≤ (x5_1 : Int) := of_decide_eq_true (by first | (with_reducible assumption) | assumption)
        have q102 : x5_1 < (l1.length : Int) := of_decide_eq_true (by first | (with_reducible assumption) | assumption)
        obtain ⟨ad102, e102, hx102_0, hx102_1, hx102_2, hx102_3⟩ := at_T118 HR1.out x5_1 p102 q102
        cases e102
        replace p102 := eq_true p102
        replace q102 := eq_true q102
        go_wp2
        repeat (go_quiet (fail); try go_wp2)
        go_roundg k1
        case measure => have := HK1.out; omega
        case rel => exact ⟨(wrap64 (x5_1 + 1)), (by first | rfl | (simp; done) | (simp [*]; done)), H', ⟨by have := HK1.out; omega⟩, by repeat (first | exact Drawn0.refl _ | apply Drawn0.step)⟩
      ·rw [if_neg c6] at H
       exact absurd H (by simp)
     ·rw [if_neg c5] at H
      exact absurd H (by simp)
    ·rw [if_neg c4] at H
     have c4b0 : decide (x5_1 < (l0.length : Int)) = false := decide_eq_false c4
     clear c4
     obtain rfl := Option.some.inj H
     go_wp2
     repeat (go_quiet (fail); try go_wp2)
     go_ret
     exact ⟨by first | rfl | (simp; done) | (simp [*]; done), by repeat (first | exact Drawn0.refl _ | apply Drawn0.step)⟩
 ·rw [if_neg c3] at H
  have c3b0 : ((l0.length : Int) == (l1.length : Int)) = false := beq_eq_false_iff_ne.mpr c3
  have c3b1 : ((l0.length : Int) != (l1.length : Int)) = true := bne_iff_ne.mpr c3
  have c3b2 : (l0.length == l1.length) = false := by first | simpa using c3 | (simp at c3 ⊢; omega)
  obtain rfl := Option.some.inj H
  go_enter Try.func71, Try.ntmps71
  go_wp2
  repeat (go_quiet (fail); try go_wp2)
  go_ret
  exact ⟨by first | rfl | (simp; done) | (simp [*]; done), by repeat (first | exact Drawn0.refl _ | apply Drawn0.step)⟩
end Go.Proofs.Ytkkfkdncddbaeaa.Fn
namespace Go.Proofs.Ytkkfkdncddbaeaa.Fn
open Go.RowKit Go.Proofs.YtkkfkdncddbaeaaW.PrintWords Go.Proofs.YtkkfkdncddbaeaaW.PrintLast Go.Proofs.YtkkfkdncddbaeaaW.PrintMore
attribute [local go_sem] max2_int min2_int max_two min_two max_three min_three max_four min_four
set_option linter.unusedVariables false
set_option linter.unusedSimpArgs false
theorem eqA24 (d : Nat) (w : World) (x0 y0 : Int) (x1 y1 : Int) (x2 y2 : Int) :
    (Op.equalIn (d + 2) 24 (.agg #[.int .i64 x0, .int .i64 x1, .int .i64 x2]) (.agg #[.int .i64 y0, .int .i64 y1, .int .i64 y2])).run Try.prog w = .ok (x0 == y0 && (x1 == y1 && (x2 == y2))) w := by
  refine eqA_of Try.underlying24 (by kernel_rfl) ?_
  refine eqf_cons (by rfl) (by go_simp; rfl) (by go_simp; rfl) (by go_simp) ?_
  refine eqf_cons (by rfl) (by go_simp; rfl) (by go_simp; rfl) (by go_simp) ?_
  exact eqf_last (by rfl) (by go_simp; rfl) (by go_simp; rfl) (by go_simp)
end Go.Proofs.Ytkkfkdncddbaeaa.Fn
namespace Go.Proofs.Ytkkfkdncddbaeaa.Fn
open Go.RowKit Go.Proofs.YtkkfkdncddbaeaaW.PrintWords Go.Proofs.YtkkfkdncddbaeaaW.PrintLast Go.Proofs.YtkkfkdncddbaeaaW.PrintMore
attribute [local go_sem] max2_int min2_int max_two min_two max_three min_three max_four min_four
set_option linter.unusedVariables false
set_option linter.unusedSimpArgs false
attribute [local go_sem high] eqA24
def flagstoneplain_SameExtents.l0 : Nat → List (S24) → List (S24) → Int → Option (Bool)
 | 0, _, _, _ => none
 | k + 1, x0, x1, x5 => if x5 < (x0.length : Int) then (if 0 ≤ x5 then (if x5 < (x1.length : Int) then (if (!(((rd_T24 x0 x5).f0) == ((rd_T24 x1 x5).f0)) || (!(((rd_T24 x0 x5).f1) == ((rd_T24 x1 x5).f1)) || (!(((rd_T24 x0 x5).f2) == ((rd_T24 x1 x5).f2))))) = true then (some false) else (flagstoneplain_SameExtents.l0 k x0 x1 (wrap64 (x5 + 1)))) else (none)) else (none)) else (some true)
def flagstoneplain_SameExtents.f (k : Nat) (l0 : List (S24)) (l1 : List (S24)) : Option (Bool) := if (l0.length : Int) = (l1.length : Int) then (flagstoneplain_SameExtents.l0 k l0 l1 0) else (some false)
theorem flagstoneplain_SameExtents.mono_l : ∀ k, (∀ y0 y1 y2, LeO (flagstoneplain_SameExtents.l0 k y0 y1 y2) (flagstoneplain_SameExtents.l0 (k + 1) y0 y1 y2))
 | 0 => fun _ _ _ r h => by simp [flagstoneplain_SameExtents.l0] at h
 | k + 1 => by
  have ih0 := flagstoneplain_SameExtents.mono_l k
  ·intro y0 y1 y2
   unfold flagstoneplain_SameExtents.l0
   repeat' first
   | (with_reducible exact ih0 _ _ _)
   | (with_reducible exact LeO.refl _)
   | (with_reducible exact LeO.none _)
   | (with_reducible refine LeO.ite ?_ ?_)
   | (with_reducible refine LeO.bind ?_ (fun _ => ?_))
   | exact ih0 _ _ _
   | exact LeO.none _
   | refine LeO.ite ?_ ?_
   | refine LeO.bind ?_ (fun _ => ?_)
theorem flagstoneplain_SameExtents.mono : ∀ a0 a1 k, LeO (flagstoneplain_SameExtents.f k a0 a1) (flagstoneplain_SameExtents.f (k + 1) a0 a1) := by
 intro a0 a1 k
 have ih0 := flagstoneplain_SameExtents.mono_l k
 unfold flagstoneplain_SameExtents.f
 repeat' first
  | (with_reducible exact ih0 _ _ _)
  | (with_reducible exact LeO.refl _)
  | (with_reducible exact LeO.none _)
  | (with_reducible refine LeO.ite ?_ ?_)
  | (with_reducible refine LeO.bind ?_ (fun _ => ?_))
  | exact ih0 _ _ _
  | exact LeO.none _
  | refine LeO.ite ?_ ?_
  | refine LeO.bind ?_ (fun _ => ?_)
set_option maxHeartbeats 8000000 in
set_option maxRecDepth 100000 in
theorem flagstoneplain_SameExtents.calls (k : Nat) (A0 : Option Addr) (c0 : Nat) (l0 : List (S24)) (A1 : Option Addr) (c1 : Nat) (l1 : List (S24)) (r : Bool) (w : World) (hr0 : Kd.C k24 w A0 l0.length l0) (hc0 : l0.length ≤ c0) (hr1 : Kd.C k24 w A1 l1.length l1) (hc1 : l1.length ≤ c1) (h : flagstoneplain_SameExtents.f k l0 l1 = some r) :
 Calls Try.prog 32 #[.slice A0 l0.length c0, .slice A1 l1.length c1] w fun e w' => e = .returned (.bool r) ∧ Drawn0 w w' := by
 have hu24 := Try.underlying24
 have HR0 := Aside0.mk hr0
 have HC0 := Aside0.mk hc0
 clear hr0 hc0
 have HR1 := Aside0.mk hr1
 have HC1 := Aside0.mk hc1
 clear hr1 hc1
 have H : (if (l0.length : Int) = (l1.length : Int) then (flagstoneplain_SameExtents.l0 k l0 l1 0) else (some false)) = some r := h
 clear h
 by_cases c3 : (l0.length : Int) = (l1.length : Int)
 ·rw [if_pos c3] at H
  have c3b0 : ((l0.length : Int) == (l1.length : Int)) = true := beq_iff_eq.mpr c3
  have c3b1 : ((l0.length : Int) != (l1.length : Int)) = false := bne_eq_false_iff_eq.mpr c3
  have c3b2 : (l0.length == l1.length) = true := by first | simpa using c3 | (simp at c3 ⊢; omega)
  clear c3
  have H' := Aside0.mk H
  clear H
  go_enter Try.func32, Try.ntmps32
  go_wp2
  repeat (go_quiet (fail); try go_wp2)
  go_loopg [5] k (fun kq v5 w' => ∃ (x5_1 : Int), v5 = .int .i64 x5_1 ∧ Aside0 (flagstoneplain_SameExtents.l0 kq l0 l1 x5_1 = some r) ∧ Aside0 (kq ≤ k) ∧ Drawn0 w w')
  case atStart => exact ⟨(0), (by first | rfl | (simp; done) | (simp [*]; done)), H', ⟨Nat.le_refl _⟩, by repeat (first | exact Drawn0.refl _ | apply Drawn0.step)⟩
  case round =>
   clear H'
   try clear c1
   try clear p2
   try clear c3
   try clear c3b0
   try clear c3b1
   try clear c3b2
   obtain ⟨x5_1, rfl, HA, HK1, ⟨m1, rfl⟩⟩ := hrel
   cases gk with
   | zero => exact absurd HA.out (by simp [flagstoneplain_SameExtents.l0])
   | succ k1 =>
    have H := HA.out
    clear HA
    simp only [flagstoneplain_SameExtents.l0] at H
    by_cases c4 : x5_1 < (l0.length : Int)
    ·rw [if_pos c4] at H
     have c4b0 : decide (x5_1 < (l0.length : Int)) = true := decide_eq_true c4
     clear c4
     by_cases c5 : 0 ≤ x5_1
     ·rw [if_pos c5] at H
      have c5b0 : decide (0 ≤ x5_1) = true := decide_eq_true c5
      clear c5
      by_cases c6 : x5_1 < (l1.length : Int)
      ·rw [if_pos c6] at H
       have c6b0 : decide (x5_1 < (l1.length : Int)) = true := decide_eq_true c6
       clear c6
       by_cases c7 : (!(((rd_T24 l0 x5_1).f0) == ((rd_T24 l1 x5_1).f0)) || (!(((rd_T24 l0 x5_1).f1) == ((rd_T24 l1 x5_1).f1)) || (!(((rd_T24 l0 x5_1).f2) == ((rd_T24 l1 x5_1).f2))))) = true
       ·rw [if_pos c7] at H
        have c7b0 : (!(((rd_T24 l0 x5_1).f0) == ((rd_T24 l1 x5_1).f0)) || (!(((rd_T24 l0 x5_1).f1) == ((rd_T24 l1 x5_1).f1)) || (!(((rd_T24 l0 x5_1).f2) == ((rd_T24 l1 x5_1).f2))))) = true := c7
        clear c7
        obtain rfl := Option.some.inj H
        have p101 : 0 ≤ (x5_1 : Int) := of_decide_eq_true (by first | (with_reducible assumption) | assumption)
        have q101 : x5_1 < (l0.length : Int) := of_decide_eq_true (by first | (with_reducible assumption) | assumption)
        obtain ⟨ad101, e101, hx101_0, hx101_1, hx101_2⟩ := at_T24 HR0.out x5_1 p101 q101
        cases e101
        replace p101 := eq_true p101
        replace q101 := eq_true q101
        have p102 : 0 ≤ (x5_1 : Int) := of_decide_eq_true (by first | (with_reducible assumption) | assumption)
        have q102 : x5_1 < (l1.length : Int) := of_decide_eq_true (by first | (with_reducible assumption) | assumption)
        obtain ⟨ad102, e102, hx102_0, hx102_1, hx102_2⟩ := at_T24 HR1.out x5_1 p102 q102
        cases e102
        replace p102 := eq_true p102
        replace q102 := eq_true q102
        go_wp2
        repeat (go_quiet (fail); try go_wp2)
        go_ret
        exact ⟨by first | rfl | (simp; done) | (simp [*]; done), by repeat (first | exact Drawn0.refl _ | apply Drawn0.step)⟩
       ·rw [if_neg c7] at H
        have c7b0 : (!(((rd_T24 l0 x5_1).f0) == ((rd_T24 l1 x5_1).f0)) || (!(((rd_T24 l0 x5_1).f1) == ((rd_T24 l1 x5_1).f1)) || (!(((rd_T24 l0 x5_1).f2) == ((rd_T24 l1 x5_1).f2))))) = false := by simpa using c7
        clear c7
        have H' := Aside0.mk H
        clear H
        have p101 : 0 ≤ (x5_1 : Int) := of_decide_eq_true (by first | (with_reducible assumption) | assumption)
        have q101 : x5_1 < (l0.length : Int) := of_decide_eq_true (by first | (with_reducible assumption) | assumption)
        obtain ⟨ad101, e101, hx101_0, hx101_1, hx101_2⟩ := at_T24 HR0.out x5_1 p101 q101
        cases e101
        replace p101 := eq_true p101
        replace q101 := eq_true q101
        have p102 : 0 ≤ (x5_1 : Int) := of_decide_eq_true (by first | (with_reducible assumption) | assumption)
        have q102 : x5_1 < (l1.length : Int) := of_decide_eq_true (by first | (with_reducible assumption) | assumption)
        obtain ⟨ad102, e102, hx102_0, hx102_1, hx102_2⟩ := at_T24 HR1.out x5_1 p102 q102
        cases e102
        replace p102 := eq_true p102
        replace q102 := eq_true q102
        go_wp2
        repeat (go_quiet (fail); try go_wp2)
        go_roundg k1
        case measure => have := HK1.out; omega
        case rel => exact ⟨(wrap64 (x5_1 + 1)), (by first | rfl | (simp; done) | (simp [*]; done)), H', ⟨by have := HK1.out; omega⟩, by repeat (first | exact Drawn0.refl _ | apply Drawn0.step)⟩
      ·rw [if_neg c6] at H
       exact absurd H (by simp)
     ·rw [if_neg c5] at H
      exact absurd H (by simp)
    ·rw [if_neg c4] at H
     have c4b0 : decide (x5_1 < (l0.length : Int)) = false := decide_eq_false c4
     clear c4
     obtain rfl := Option.some.inj H
     go_wp2
     repeat (go_quiet (fail); try go_wp2)
     go_ret
     exact ⟨by first | rfl | (simp; done) | (simp [*]; done), by repeat (first | exact Drawn0.refl _ | apply Drawn0.step)⟩
 ·rw [if_neg c3] at H
  have c3b0 : ((l0.length : Int) == (l1.length : Int)) = false := beq_eq_false_iff_ne.mpr c3
  have c3b1 : ((l0.length : Int) != (l1.length : Int)) = true := bne_iff_ne.mpr c3
  have c3b2 : (l0.length == l1.length) = false := by first | simpa using c3 | (simp at c3 ⊢; omega)
  obtain rfl := Option.some.inj H
  go_enter Try.func32, Try.ntmps32
  go_wp2
  repeat (go_quiet (fail); try go_wp2)
  go_ret
  exact ⟨by first | rfl | (simp; done) | (simp [*]; done), by repeat (first | exact Drawn0.refl _ | apply Drawn0.step)⟩
end Go.Proofs.Ytkkfkdncddbaeaa.Fn
namespace Go.Proofs.Ytkkfkdncddbaeaa.Fn
open Go.RowKit Go.Proofs.YtkkfkdncddbaeaaW.PrintWords Go.Proofs.YtkkfkdncddbaeaaW.PrintLast Go.Proofs.YtkkfkdncddbaeaaW.PrintMore
attribute [local go_sem] max2_int min2_int max_two min_two max_three min_three max_four min_four
set_option linter.unusedVariables false
set_option linter.unusedSimpArgs false
def flagstonelaw09_Alike.l0 : Nat → List (S94) → List (S86) → Int → Option (Int)
 | 0, _, _, _ => none
 | k + 1, x0, x1, x5 => if x5 < (x0.length : Int) then (if 0 ≤ x5 then (if x5 < (x1.length : Int) then (if ((rd_T94 x0 x5).f0) = ((rd_T86 x1 x5).f0) then ((flagstoneplain_SameExtents.f k ((rd_T94 x0 x5).f1) ((rd_T86 x1 x5).f1)).bind fun t105 => (if t105 = true then (flagstonelaw09_Alike.l0 k x0 x1 (wrap64 (x5 + 1))) else (some 1))) else (some 1)) else (none)) else (none)) else (some 0)
def flagstonelaw09_Alike.f (k : Nat) (l0 : List (S94)) (l1 : List (S86)) : Option (Int) := if (l0.length : Int) = (l1.length : Int) then (flagstonelaw09_Alike.l0 k l0 l1 0) else (some 1)
theorem flagstonelaw09_Alike.mono_l : ∀ k, (∀ y0 y1 y2, LeO (flagstonelaw09_Alike.l0 k y0 y1 y2) (flagstonelaw09_Alike.l0 (k + 1) y0 y1 y2))
 | 0 => fun _ _ _ r h => by simp [flagstonelaw09_Alike.l0] at h
 | k + 1 => by
  have ih0 := flagstonelaw09_Alike.mono_l k
  ·intro y0 y1 y2
   unfold flagstonelaw09_Alike.l0
   repeat' first
   | (with_reducible exact ih0 _ _ _)
   | (with_reducible exact flagstoneplain_SameExtents.mono _ _ _)
   | (with_reducible exact LeO.refl _)
   | (with_reducible exact LeO.none _)
   | (with_reducible refine LeO.ite ?_ ?_)
   | (with_reducible refine LeO.bind ?_ (fun _ => ?_))
   | exact ih0 _ _ _
   | exact flagstoneplain_SameExtents.mono _ _ _
   | exact LeO.none _
   | refine LeO.ite ?_ ?_
   | refine LeO.bind ?_ (fun _ => ?_)
theorem flagstonelaw09_Alike.mono : ∀ a0 a1 k, LeO (flagstonelaw09_Alike.f k a0 a1) (flagstonelaw09_Alike.f (k + 1) a0 a1) := by
 intro a0 a1 k
 have ih0 := flagstonelaw09_Alike.mono_l k
 unfold flagstonelaw09_Alike.f
 repeat' first
  | (with_reducible exact ih0 _ _ _)
  | (with_reducible exact flagstoneplain_SameExtents.mono _ _ _)
  | (with_reducible exact LeO.refl _)
  | (with_reducible exact LeO.none _)
  | (with_reducible refine LeO.ite ?_ ?_)
  | (with_reducible refine LeO.bind ?_ (fun _ => ?_))
  | exact ih0 _ _ _
  | exact flagstoneplain_SameExtents.mono _ _ _
  | exact LeO.none _
  | refine LeO.ite ?_ ?_
  | refine LeO.bind ?_ (fun _ => ?_)
set_option maxHeartbeats 8000000 in
set_option maxRecDepth 100000 in
theorem flagstonelaw09_Alike.calls (k : Nat) (A0 : Option Addr) (c0 : Nat) (l0 : List (S94)) (A1 : Option Addr) (c1 : Nat) (l1 : List (S86)) (r : Int) (w : World) (hr0 : Kd.C k94 w A0 l0.length l0) (hc0 : l0.length ≤ c0) (hr1 : Kd.C k86 w A1 l1.length l1) (hc1 : l1.length ≤ c1) (h : flagstonelaw09_Alike.f k l0 l1 = some r) :
 Calls Try.prog 74 #[.slice A0 l0.length c0, .slice A1 l1.length c1] w fun e w' => e = .returned (.int .i64 r) ∧ Drawn0 w w' := by
 have HR0 := Aside0.mk hr0
 have HC0 := Aside0.mk hc0
 clear hr0 hc0
 have HR1 := Aside0.mk hr1
 have HC1 := Aside0.mk hc1
 clear hr1 hc1
 have H : (if (l0.length : Int) = (l1.length : Int) then (flagstonelaw09_Alike.l0 k l0 l1 0) else (some 1)) = some r := h
 clear h
 by_cases c3 : (l0.length : Int) = (l1.length : Int)
 ·rw [if_pos c3] at H
  have c3b0 : ((l0.length : Int) == (l1.length : Int)) = true := beq_iff_eq.mpr c3
  have c3b1 : ((l0.length : Int) != (l1.length : Int)) = false := bne_eq_false_iff_eq.mpr c3
  have c3b2 : (l0.length == l1.length) = true := by first | simpa using c3 | (simp at c3 ⊢; omega)
  clear c3
  have H' := Aside0.mk H
  clear H
  go_enter Try.func74, Try.ntmps74
  go_wp2
  repeat (go_quiet (fail); try go_wp2)
  go_loopg [5] k (fun kq v5 w' => ∃ (x5_1 : Int), v5 = .int .i64 x5_1 ∧ Aside0 (flagstonelaw09_Alike.l0 kq l0 l1 x5_1 = some r) ∧ Aside0 (kq ≤ k) ∧ Drawn0 w w')
  case atStart => exact ⟨(0), (by first | rfl | (simp; done) | (simp [*]; done)), H', ⟨Nat.le_refl _⟩, by repeat (first | exact Drawn0.refl _ | apply Drawn0.step)⟩
  case round =>
   clear H'
   try clear c1
   try clear p2
   try clear c3
   try clear c3b0
   try clear c3b1
   try clear c3b2
   obtain ⟨x5_1, rfl, HA, HK1, ⟨m1, rfl⟩⟩ := hrel
   cases gk with
   | zero => exact absurd HA.out (by simp [flagstonelaw09_Alike.l0])
   | succ k1 =>
    have H := HA.out
    clear HA
    simp only [flagstonelaw09_Alike.l0] at H
    by_cases c4 : x5_1 < (l0.length : Int)
    ·rw [if_pos c4] at H
     have c4b0 : decide (x5_1 < (l0.length : Int)) = true := decide_eq_true c4
     clear c4
     by_cases c5 : 0 ≤ x5_1
     ·rw [if_pos c5] at H
      have c5b0 : decide (0 ≤ x5_1) = true := decide_eq_true c5
      clear c5
      by_cases c6 : x5_1 < (l1.length : Int)
      ·rw [if_pos c6] at H
       have c6b0 : decide (x5_1 < (l1.length : Int)) = true := decide_eq_true c6
       clear c6
       by_cases c7 : ((rd_T94 l0 x5_1).f0) = ((rd_T86 l1 x5_1).f0)
       ·rw [if_pos c7] at H
        have c7b0 : (((rd_T94 l0 x5_1).f0) == ((rd_T86 l1 x5_1).f0)) = true := beq_iff_eq.mpr c7
        have c7b1 : (((rd_T94 l0 x5_1).f0) != ((rd_T86 l1 x5_1).f0)) = false := bne_eq_false_iff_eq.mpr c7
        clear c7
        replace H := Option.bind_eq_some_iff.mp H
        obtain ⟨t105, A80, H⟩ := H
        replace H : (if t105 = true then (flagstonelaw09_Alike.l0 k1 l0 l1 (wrap64 (x5_1 + 1))) else (some 1)) = some r := H
        have A8 := Aside0.mk A80
        clear A80
        by_cases c9 : t105 = true
        ·subst c9
         have H1 : (flagstonelaw09_Alike.l0 k1 l0 l1 (wrap64 (x5_1 + 1))) = some r := by rw [if_pos rfl] at H; exact H
         clear H
         have H := H1
         clear H1
         have H' := Aside0.mk H
         clear H
         have p101 : 0 ≤ (x5_1 : Int) := of_decide_eq_true (by first | (with_reducible assumption) | assumption)
         have q101 : x5_1 < (l0.length : Int) := of_decide_eq_true (by first | (with_reducible assumption) | assumption)
         obtain ⟨ad101, A101_1, c101_1, e101, hx101_0, hx101_1, hl101_1, hi101_1⟩ := at_T94 HR0.out x5_1 p101 q101
         cases e101
         have HR101_1 := Aside0.mk hi101_1
         have HC101_1 := Aside0.mk hl101_1
         clear hi101_1 hl101_1
         replace p101 := eq_true p101
         replace q101 := eq_true q101
         have p102 : 0 ≤ (x5_1 : Int) := of_decide_eq_true (by first | (with_reducible assumption) | assumption)
         have q102 : x5_1 < (l1.length : Int) := of_decide_eq_true (by first | (with_reducible assumption) | assumption)
         obtain ⟨ad102, A102_1, c102_1, e102, hx102_0, hx102_1, hl102_1, hi102_1⟩ := at_T86 HR1.out x5_1 p102 q102
         cases e102
         have HR102_1 := Aside0.mk hi102_1
         have HC102_1 := Aside0.mk hl102_1
         clear hi102_1 hl102_1
         replace p102 := eq_true p102
         replace q102 := eq_true q102
         have p103 : 0 ≤ (x5_1 : Int) := of_decide_eq_true (by first | (with_reducible assumption) | assumption)
         have q103 : x5_1 < (l0.length : Int) := of_decide_eq_true (by first | (with_reducible assumption) | assumption)
         obtain ⟨ad103, A103_1, c103_1, e103, hx103_0, hx103_1, hl103_1, hi103_1⟩ := at_T94 HR0.out x5_1 p103 q103
         obtain rfl : ad101 = ad103 := (by injection e103)
         have HR103_1 := Aside0.mk hi103_1
         have HC103_1 := Aside0.mk hl103_1
         clear hi103_1 hl103_1
         replace p103 := eq_true p103
         replace q103 := eq_true q103
         have ea_ := Option.some.inj (hx101_1.symm.trans hx103_1)
         injection ea_ with ea_ en_ ec_
         subst ea_
         subst ec_
         clear en_
         have p104 : 0 ≤ (x5_1 : Int) := of_decide_eq_true (by first | (with_reducible assumption) | assumption)
         have q104 : x5_1 < (l1.length : Int) := of_decide_eq_true (by first | (with_reducible assumption) | assumption)
         obtain ⟨ad104, A104_1, c104_1, e104, hx104_0, hx104_1, hl104_1, hi104_1⟩ := at_T86 HR1.out x5_1 p104 q104
         obtain rfl : ad102 = ad104 := (by injection e104)
         have HR104_1 := Aside0.mk hi104_1
         have HC104_1 := Aside0.mk hl104_1
         clear hi104_1 hl104_1
         replace p104 := eq_true p104
         replace q104 := eq_true q104
         have ea_ := Option.some.inj (hx102_1.symm.trans hx104_1)
         injection ea_ with ea_ en_ ec_
         subst ea_
         subst ec_
         clear en_
         go_wp2_with (first | (go_at_call 32; (with_reducible refine (flagstoneplain_SameExtents.calls k1 _ _ ((rd_T94 l0 x5_1).f1) _ _ ((rd_T86 l1 x5_1).f1) true _ ?side1 ?side2 ?side3 ?side4 A8.out).mono ?_); (case side1 => repeat (first | exact HR103_1.out | (with_reducible refine Kd.C_alloc ?_ _) | (with_reducible refine Kd.C_drewN ?_ _) | (with_reducible refine Kd.C_drew ?_))); (case side2 => exact HC103_1.out); (case side3 => repeat (first | exact HR104_1.out | (with_reducible refine Kd.C_alloc ?_ _) | (with_reducible refine Kd.C_drewN ?_ _) | (with_reducible refine Kd.C_drew ?_))); (case side4 => exact HC104_1.out); rintro e w' ⟨rfl, ⟨nd, rfl⟩⟩; (try first | exact ⟨rfl, _, World.drewN_drewN _ _ _⟩ | exact ⟨rfl, _, Eq.trans (World.drewN_drewN _ _ _) (congrArg (World.drewN _) (Nat.add_assoc _ _ _))⟩)))
         repeat (go_quiet (first | (go_at_call 32; (with_reducible refine (flagstoneplain_SameExtents.calls k1 _ _ ((rd_T94 l0 x5_1).f1) _ _ ((rd_T86 l1 x5_1).f1) true _ ?side1 ?side2 ?side3 ?side4 A8.out).mono ?_); (case side1 => repeat (first | exact HR103_1.out | (with_reducible refine Kd.C_alloc ?_ _) | (with_reducible refine Kd.C_drewN ?_ _) | (with_reducible refine Kd.C_drew ?_))); (case side2 => exact HC103_1.out); (case side3 => repeat (first | exact HR104_1.out | (with_reducible refine Kd.C_alloc ?_ _) | (with_reducible refine Kd.C_drewN ?_ _) | (with_reducible refine Kd.C_drew ?_))); (case side4 => exact HC104_1.out); rintro e w' ⟨rfl, ⟨nd, rfl⟩⟩; (try first | exact ⟨rfl, _, World.drewN_drewN _ _ _⟩ | exact ⟨rfl, _, Eq.trans (World.drewN_drewN _ _ _) (congrArg (World.drewN _) (Nat.add_assoc _ _ _))⟩))); try go_wp2_with (first | (go_at_call 32; (with_reducible refine (flagstoneplain_SameExtents.calls k1 _ _ ((rd_T94 l0 x5_1).f1) _ _ ((rd_T86 l1 x5_1).f1) true _ ?side1 ?side2 ?side3 ?side4 A8.out).mono ?_); (case side1 => repeat (first | exact HR103_1.out | (with_reducible refine Kd.C_alloc ?_ _) | (with_reducible refine Kd.C_drewN ?_ _) | (with_reducible refine Kd.C_drew ?_))); (case side2 => exact HC103_1.out); (case side3 => repeat (first | exact HR104_1.out | (with_reducible refine Kd.C_alloc ?_ _) | (with_reducible refine Kd.C_drewN ?_ _) | (with_reducible refine Kd.C_drew ?_))); (case side4 => exact HC104_1.out); rintro e w' ⟨rfl, ⟨nd, rfl⟩⟩; (try first | exact ⟨rfl, _, World.drewN_drewN _ _ _⟩ | exact ⟨rfl, _, Eq.trans (World.drewN_drewN _ _ _) (congrArg (World.drewN _) (Nat.add_assoc _ _ _))⟩))))
         go_roundg k1
         case measure => have := HK1.out; omega
         case rel => exact ⟨(wrap64 (x5_1 + 1)), (by first | rfl | (simp; done) | (simp [*]; done)), H', ⟨by have := HK1.out; omega⟩, by repeat (first | exact Drawn0.refl _ | apply Drawn0.step)⟩
        ·replace c9 := Bool.eq_false_iff.mpr c9
         subst c9
         have H1 : (some 1) = some r := by rw [if_neg (show ¬ (false = true) by decide)] at H; exact H
         clear H
         have H := H1
         clear H1
         obtain rfl := Option.some.inj H
         have p101 : 0 ≤ (x5_1 : Int) := of_decide_eq_true (by first | (with_reducible assumption) | assumption)
         have q101 : x5_1 < (l0.length : Int) := of_decide_eq_true (by first | (with_reducible assumption) | assumption)
         obtain ⟨ad101, A101_1, c101_1, e101, hx101_0, hx101_1, hl101_1, hi101_1⟩ := at_T94 HR0.out x5_1 p101 q101
         cases e101
         have HR101_1 := Aside0.mk hi101_1
         have HC101_1 := Aside0.mk hl101_1
         clear hi101_1 hl101_1
         replace p101 := eq_true p101
         replace q101 := eq_true q101
         have p102 : 0 ≤ (x5_1 : Int) := of_decide_eq_true (by first | (with_reducible assumption) | assumption)
         have q102 : x5_1 < (l1.length : Int) := of_decide_eq_true (by first | (with_reducible assumption) | assumption)
         obtain ⟨ad102, A102_1, c102_1, e102, hx102_0, hx102_1, hl102_1, hi102_1⟩ := at_T86 HR1.out x5_1 p102 q102
         cases e102
         have HR102_1 := Aside0.mk hi102_1
         have HC102_1 := Aside0.mk hl102_1
         clear hi102_1 hl102_1
         replace p102 := eq_true p102
         replace q102 := eq_true q102
         have p103 : 0 ≤ (x5_1 : Int) := of_decide_eq_true (by first | (with_reducible assumption) | assumption)
         have q103 : x5_1 < (l0.length : Int) := of_decide_eq_true (by first | (with_reducible assumption) | assumption)
         obtain ⟨ad103, A103_1, c103_1, e103, hx103_0, hx103_1, hl103_1, hi103_1⟩ := at_T94 HR0.out x5_1 p103 q103
         obtain rfl : ad101 = ad103 := (by injection e103)
         have HR103_1 := Aside0.mk hi103_1
         have HC103_1 := Aside0.mk hl103_1
         clear hi103_1 hl103_1
         replace p103 := eq_true p103
         replace q103 := eq_true q103
         have ea_ := Option.some.inj (hx101_1.symm.trans hx103_1)
         injection ea_ with ea_ en_ ec_
         subst ea_
         subst ec_
         clear en_
         have p104 : 0 ≤ (x5_1 : Int) := of_decide_eq_true (by first | (with_reducible assumption) | assumption)
         have q104 : x5_1 < (l1.length : Int) := of_decide_eq_true (by first | (with_reducible assumption) | assumption)
         obtain ⟨ad104, A104_1, c104_1, e104, hx104_0, hx104_1, hl104_1, hi104_1⟩ := at_T86 HR1.out x5_1 p104 q104
         obtain rfl : ad102 = ad104 := (by injection e104)
         have HR104_1 := Aside0.mk hi104_1
         have HC104_1 := Aside0.mk hl104_1
         clear hi104_1 hl104_1
         replace p104 := eq_true p104
         replace q104 := eq_true q104
         have ea_ := Option.some.inj (hx102_1.symm.trans hx104_1)
         injection ea_ with ea_ en_ ec_
         subst ea_
         subst ec_
         clear en_
         go_wp2_with (first | (go_at_call 32; (with_reducible refine (flagstoneplain_SameExtents.calls k1 _ _ ((rd_T94 l0 x5_1).f1) _ _ ((rd_T86 l1 x5_1).f1) false _ ?side1 ?side2 ?side3 ?side4 A8.out).mono ?_); (case side1 => repeat (first | exact HR103_1.out | (with_reducible refine Kd.C_alloc ?_ _) | (with_reducible refine Kd.C_drewN ?_ _) | (with_reducible refine Kd.C_drew ?_))); (case side2 => exact HC103_1.out); (case side3 => repeat (first | exact HR104_1.out | (with_reducible refine Kd.C_alloc ?_ _) | (with_reducible refine Kd.C_drewN ?_ _) | (with_reducible refine Kd.C_drew ?_))); (case side4 => exact HC104_1.out); rintro e w' ⟨rfl, ⟨nd, rfl⟩⟩; (try first | exact ⟨rfl, _, World.drewN_drewN _ _ _⟩ | exact ⟨rfl, _, Eq.trans (World.drewN_drewN _ _ _) (congrArg (World.drewN _) (Nat.add_assoc _ _ _))⟩)))
         repeat (go_quiet (first | (go_at_call 32; (with_reducible refine (flagstoneplain_SameExtents.calls k1 _ _ ((rd_T94 l0 x5_1).f1) _ _ ((rd_T86 l1 x5_1).f1) false _ ?side1 ?side2 ?side3 ?side4 A8.out).mono ?_); (case side1 => repeat (first | exact HR103_1.out | (with_reducible refine Kd.C_alloc ?_ _) | (with_reducible refine Kd.C_drewN ?_ _) | (with_reducible refine Kd.C_drew ?_))); (case side2 => exact HC103_1.out); (case side3 => repeat (first | exact HR104_1.out | (with_reducible refine Kd.C_alloc ?_ _) | (with_reducible refine Kd.C_drewN ?_ _) | (with_reducible refine Kd.C_drew ?_))); (case side4 => exact HC104_1.out); rintro e w' ⟨rfl, ⟨nd, rfl⟩⟩; (try first | exact ⟨rfl, _, World.drewN_drewN _ _ _⟩ | exact ⟨rfl, _, Eq.trans (World.drewN_drewN _ _ _) (congrArg (World.drewN _) (Nat.add_assoc _ _ _))⟩))); try go_wp2_with (first | (go_at_call 32; (with_reducible refine (flagstoneplain_SameExtents.calls k1 _ _ ((rd_T94 l0 x5_1).f1) _ _ ((rd_T86 l1 x5_1).f1) false _ ?side1 ?side2 ?side3 ?side4 A8.out).mono ?_); (case side1 => repeat (first | exact HR103_1.out | (with_reducible refine Kd.C_alloc ?_ _) | (with_reducible refine Kd.C_drewN ?_ _) | (with_reducible refine Kd.C_drew ?_))); (case side2 => exact HC103_1.out); (case side3 => repeat (first | exact HR104_1.out | (with_reducible refine Kd.C_alloc ?_ _) | (with_reducible refine Kd.C_drewN ?_ _) | (with_reducible refine Kd.C_drew ?_))); (case side4 => exact HC104_1.out); rintro e w' ⟨rfl, ⟨nd, rfl⟩⟩; (try first | exact ⟨rfl, _, World.drewN_drewN _ _ _⟩ | exact ⟨rfl, _, Eq.trans (World.drewN_drewN _ _ _) (congrArg (World.drewN _) (Nat.add_assoc _ _ _))⟩))))
         go_ret
         exact ⟨by first | rfl | (simp; done) | (simp [*]; done), by repeat (first | exact Drawn0.refl _ | apply Drawn0.step)⟩
       ·rw [if_neg c7] at H
        have c7b0 : (((rd_T94 l0 x5_1).f0) == ((rd_T86 l1 x5_1).f0)) = false := beq_eq_false_iff_ne.mpr c7
        have c7b1 : (((rd_T94 l0 x5_1).f0) != ((rd_T86 l1 x5_1).f0)) = true := bne_iff_ne.mpr c7
        obtain rfl := Option.some.inj H
        have p101 : 0 ≤ (x5_1 : Int) := of_decide_eq_true (by first | (with_reducible assumption) | assumption)
        have q101 : x5_1 < (l0.length : Int) := of_decide_eq_true (by first | (with_reducible assumption) | assumption)
        obtain ⟨ad101, A101_1, c101_1, e101, hx101_0, hx101_1, hl101_1, hi101_1⟩ := at_T94 HR0.out x5_1 p101 q101
        cases e101
        have HR101_1 := Aside0.mk hi101_1
        have HC101_1 := Aside0.mk hl101_1
        clear hi101_1 hl101_1
        replace p101 := eq_true p101
        replace q101 := eq_true q101
        have p102 : 0 ≤ (x5_1 : Int) := of_decide_eq_true (by first | (with_reducible assumption) | assumption)
        have q102 : x5_1 < (l1.length : Int) := of_decide_eq_true (by first | (with_reducible assumption) | assumption)
        obtain ⟨ad102, A102_1, c102_1, e102, hx102_0, hx102_1, hl102_1, hi102_1⟩ := at_T86 HR1.out x5_1 p102 q102
        cases e102
        have HR102_1 := Aside0.mk hi102_1
        have HC102_1 := Aside0.mk hl102_1
        clear hi102_1 hl102_1
        replace p102 := eq_true p102
        replace q102 := eq_true q102
        go_wp2
        repeat (go_quiet (fail); try go_wp2)
        go_ret
        exact ⟨by first | rfl | (simp; done) | (simp [*]; done), by repeat (first | exact Drawn0.refl _ | apply Drawn0.step)⟩
      ·rw [if_neg c6] at H
       exact absurd H (by simp)
     ·rw [if_neg c5] at H
      exact absurd H (by simp)
    ·rw [if_neg c4] at H
     have c4b0 : decide (x5_1 < (l0.length : Int)) = false := decide_eq_false c4
     clear c4
     obtain rfl := Option.some.inj H
     go_wp2
     repeat (go_quiet (fail); try go_wp2)
     go_ret
     exact ⟨by first | rfl | (simp; done) | (simp [*]; done), by repeat (first | exact Drawn0.refl _ | apply Drawn0.step)⟩
 ·rw [if_neg c3] at H
  have c3b0 : ((l0.length : Int) == (l1.length : Int)) = false := beq_eq_false_iff_ne.mpr c3
  have c3b1 : ((l0.length : Int) != (l1.length : Int)) = true := bne_iff_ne.mpr c3
  have c3b2 : (l0.length == l1.length) = false := by first | simpa using c3 | (simp at c3 ⊢; omega)
  obtain rfl := Option.some.inj H
  go_enter Try.func74, Try.ntmps74
  go_wp2
  repeat (go_quiet (fail); try go_wp2)
  go_ret
  exact ⟨by first | rfl | (simp; done) | (simp [*]; done), by repeat (first | exact Drawn0.refl _ | apply Drawn0.step)⟩
namespace Flag
theorem Rising_flatMap {l : List Ex} {f : Ex → List Ex} (h : Rising l) (h0 : ∀ y ∈ l, 0 < y.n) (hf : ∀ y ∈ l, Rising (f y)) (hi : ∀ y ∈ l, ∀ z ∈ f y, 0 < z.n → y.v ≤ z.v ∧ z.v + z.n ≤ y.v + y.n) : Rising (l.flatMap f) := by
  induction l with
  | nil => trivial
  | cons y t ih =>
    rw [List.flatMap_cons]
    refine Rising_append (hf y List.mem_cons_self) (ih h.2 (fun z hz => h0 z (List.mem_cons_of_mem _ hz)) (fun z hz => hf z (List.mem_cons_of_mem _ hz)) (fun z hz => hi z (List.mem_cons_of_mem _ hz))) ?_
    intro a ha ha0 b hb hb0
    obtain ⟨c, hc, hbc⟩ := List.mem_flatMap.1 hb
    have h1 := hi y List.mem_cons_self a ha ha0
    have h2 := hi c (List.mem_cons_of_mem _ hc) b hbc hb0
    have h3 := h.1 (h0 y List.mem_cons_self) c hc (h0 c (List.mem_cons_of_mem _ hc))
    omega
def withE (v n : Int) (x : Ex) : List Ex :=
  if min (x.v + x.n) (max x.v v) ≥ max x.v (min (x.v + x.n) (v + n)) then [x] else
    [⟨x.v, x.p, min (x.v + x.n) (max x.v v) - x.v⟩, ⟨max x.v (min (x.v + x.n) (v + n)), x.p + max x.v (min (x.v + x.n) (v + n)) - x.v, x.v + x.n - max x.v (min (x.v + x.n) (v + n))⟩]
theorem withE_in {v n : Int} {x : Ex} (hx : okMap x) : ∀ z ∈ withE v n x, 0 < z.n → x.v ≤ z.v ∧ z.v + z.n ≤ x.v + x.n := by
  obtain ⟨h1, h2, h3, h4, h5⟩ := hx
  intro z hz h0
  unfold withE at hz
  split at hz
  · have : z = x := by simpa using hz
    subst this; omega
  · rename_i hc
    simp only [List.mem_cons, List.not_mem_nil, or_false] at hz
    rcases hz with rfl | rfl <;> dsimp only at h0 ⊢ <;> omega
theorem withE_rising {v n : Int} {x : Ex} (hx : okMap x) : Rising (withE v n x) := by
  obtain ⟨h1, h2, h3, h4, h5⟩ := hx
  unfold withE
  split
  · exact ⟨fun _ y hy => by simp at hy, trivial⟩
  · refine ⟨fun a y hy b => ?_, ⟨fun _ y hy => by simp at hy, trivial⟩⟩
    have : y = ⟨max x.v (min (x.v + x.n) (v + n)), x.p + max x.v (min (x.v + x.n) (v + n)) - x.v, x.v + x.n - max x.v (min (x.v + x.n) (v + n))⟩ := by simpa using hy
    subst this
    dsimp only at a b ⊢
    omega
theorem withE_look {v n : Int} {x : Ex} (hx : okMap x) (t : List Ex) (i : Int) : lookE (withE v n x ++ t) i = if (x.v ≤ i ∧ i < x.v + x.n) ∧ ¬ (v ≤ i ∧ i < v + n) then some (valAt x i) else lookE t i := by
  obtain ⟨h1, h2, h3, h4, h5⟩ := hx
  unfold withE
  split
  · rename_i hc
    show lookE (x :: t) i = _
    rw [lookE]
    by_cases ha : x.v ≤ i ∧ i < x.v + x.n
    · rw [if_pos ha, if_pos ⟨ha, by omega⟩]
    · rw [if_neg ha, if_neg (fun h => ha h.1)]
  · rename_i hc
    show lookE (_ :: _ :: t) i = _
    rw [lookE, lookE]
    have hv0 : valAt x i = x.p + (i - x.v) := by unfold valAt; rw [if_neg (by omega)]
    by_cases ha : x.v ≤ i ∧ i < x.v + (min (x.v + x.n) (max x.v v) - x.v)
    · rw [if_pos ha, if_pos (by omega), hv0]
      unfold valAt; rw [if_neg (by dsimp only; omega)]
    · rw [if_neg ha]
      by_cases hb : max x.v (min (x.v + x.n) (v + n)) ≤ i ∧ i < max x.v (min (x.v + x.n) (v + n)) + (x.v + x.n - max x.v (min (x.v + x.n) (v + n)))
      · rw [if_pos hb]
        by_cases hn : (x.v ≤ i ∧ i < x.v + x.n) ∧ ¬ (v ≤ i ∧ i < v + n)
        · rw [if_pos hn, hv0]
          unfold valAt; rw [if_neg (by dsimp only; omega)]
          congr 1; dsimp only; omega
        · omega
      · rw [if_neg hb, if_neg (by omega)]
def cutE (l : List Ex) (v n : Int) : List Ex := l.flatMap (withE v n)
theorem cutE_look {l : List Ex} (h : ∀ x ∈ l, okMap x) (v n i : Int) : NF l → lookE (cutE l v n) i = if v ≤ i ∧ i < v + n then none else lookE l i := by
  intro hn
  induction l with
  | nil => simp [cutE, lookE]
  | cons x t ih =>
    have hx := h x List.mem_cons_self
    have ih := ih (fun y hy => h y (List.mem_cons_of_mem _ hy)) hn.tail
    have e : cutE (x :: t) v n = withE v n x ++ cutE t v n := by simp [cutE]
    rw [e, withE_look hx, ih, lookE]
    by_cases ha : x.v ≤ i ∧ i < x.v + x.n
    · by_cases hb : v ≤ i ∧ i < v + n
      · rw [if_neg (fun h => h.2 hb), if_pos hb, if_pos hb]
      · rw [if_pos ⟨ha, hb⟩, if_neg hb, if_pos ha]
    · rw [if_neg (fun h => ha h.1), if_neg ha]
theorem cutE_rising {l : List Ex} (h : ∀ x ∈ l, okMap x) (hn : NF l) (v n : Int) : Rising (cutE l v n) :=
  Rising_flatMap hn.rising hn.all (fun y hy => withE_rising (h y hy)) (fun y hy => withE_in (h y hy))
def mergeE : List Ex → List Ex → List Ex
  | [], b => b
  | x :: a, [] => x :: a
  | x :: a, y :: b => if x.v < y.v then x :: mergeE a (y :: b) else y :: mergeE (x :: a) b
termination_by a b => a.length + b.length
theorem mem_mergeE {z : Ex} : ∀ {a b : List Ex}, z ∈ mergeE a b → z ∈ a ∨ z ∈ b
  | [], b, h => by rw [mergeE] at h; exact .inr h
  | x :: a, [], h => by rw [mergeE] at h; exact .inl h
  | x :: a, y :: b, h => by
    rw [mergeE] at h
    split at h
    · rcases List.mem_cons.1 h with rfl | h
      · exact .inl List.mem_cons_self
      · rcases mem_mergeE h with h | h
        · exact .inl (List.mem_cons_of_mem _ h)
        · exact .inr h
    · rcases List.mem_cons.1 h with rfl | h
      · exact .inr List.mem_cons_self
      · rcases mem_mergeE h with h | h
        · exact .inl h
        · exact .inr (List.mem_cons_of_mem _ h)
termination_by a b => a.length + b.length
def Apart (a b : List Ex) : Prop := ∀ x ∈ a, ∀ y ∈ b, x.v + x.n ≤ y.v ∨ y.v + y.n ≤ x.v
theorem mergeE_rising : ∀ {a b : List Ex}, Rising a → Rising b → (∀ x ∈ a, 0 < x.n) → (∀ x ∈ b, 0 < x.n) → Apart a b → Rising (mergeE a b)
  | [], b, _, hb, _, _, _ => by rw [mergeE]; exact hb
  | x :: a, [], ha, _, _, _, _ => by rw [mergeE]; exact ha
  | x :: a, y :: b, ha, hb, pa, pb, hab => by
    rw [mergeE]
    have hx := pa x List.mem_cons_self
    have hy := pb y List.mem_cons_self
    have hxy := hab x List.mem_cons_self y List.mem_cons_self
    split
    · rename_i hlt
      refine ⟨fun _ z hz z0 => ?_, mergeE_rising ha.2 hb (fun z hz => pa z (List.mem_cons_of_mem _ hz)) pb (fun u hu => hab u (List.mem_cons_of_mem _ hu))⟩
      rcases mem_mergeE hz with hz | hz
      · exact ha.1 hx z hz z0
      · rcases List.mem_cons.1 hz with rfl | hz
        · omega
        · have := hb.1 hy z hz z0
          omega
    · rename_i hlt
      refine ⟨fun _ z hz z0 => ?_, mergeE_rising ha hb.2 pa (fun z hz => pb z (List.mem_cons_of_mem _ hz)) (fun u hu w hw => hab u hu w (List.mem_cons_of_mem _ hw))⟩
      rcases mem_mergeE hz with hz | hz
      · rcases List.mem_cons.1 hz with rfl | hz
        · omega
        · have := ha.1 hx z hz z0
          omega
      · exact hb.1 hy z hz z0
termination_by a b => a.length + b.length
theorem mergeE_look (i : Int) : ∀ {a b : List Ex}, Apart a b → lookE (mergeE a b) i = match lookE a i with | some r => some r | none => lookE b i
  | [], b, _ => by rw [mergeE]; rfl
  | x :: a, [], _ => by
    rw [mergeE]
    cases lookE (x :: a) i <;> rfl
  | x :: a, y :: b, hab => by
    rw [mergeE]
    split
    · rw [lookE, mergeE_look i (a := a) (b := y :: b) (fun u hu => hab u (List.mem_cons_of_mem _ hu)), lookE.eq_2 i x a]
      split <;> rfl
    · rw [lookE, mergeE_look i (a := x :: a) (b := b) (fun u hu w hw => hab u hu w (List.mem_cons_of_mem _ hw)), lookE.eq_2 i y b]
      by_cases hy : y.v ≤ i ∧ i < y.v + y.n
      · rw [if_pos hy]
        cases h : lookE (x :: a) i with
        | none => rw [if_pos hy]
        | some r =>
          obtain ⟨z, hz, h1, h2, _⟩ := lookE_some_mem h
          have := hab z hz y List.mem_cons_self
          omega
      · rw [if_neg hy]
        cases h : lookE (x :: a) i with
        | none => rw [if_neg hy]
        | some r => rfl
termination_by a b => a.length + b.length
theorem apart_of {a b : List Ex} (ha : NF a) (hb : ∀ y ∈ b, 0 < y.n) (h : ∀ y ∈ b, ∀ i, y.v ≤ i → i < y.v + y.n → lookE a i = none) : Apart a b := by
  intro x hx y hy
  have h1 := ha.all x hx
  have h2 := hb y hy
  have h10 := h1
  rcases Int.lt_or_le (max x.v y.v) (min (x.v + x.n) (y.v + y.n)) with h3 | h3
  · have h4 := h y hy (max x.v y.v) (by omega) (by omega)
    rw [lookE_mem ha hx (by omega) (by omega)] at h4
    cases h4
  · unfold okE at h10
    omega
end Flag
def flagstoneref05_Add.f (l0 : List (S24)) (a1_0 : Int) (a1_1 : Int) (a1_2 : Int) : Option ((List (S24))) :=
  if l0.length < 2147483648 then some (addG l0 ⟨a1_0, a1_1, a1_2⟩) else none
set_option maxHeartbeats 4000000 in
set_option maxRecDepth 100000 in
theorem flagstoneref05_Add.calls (P0_ : Nat → Prop) (u9000_ : Value) (l0 : List (S24)) (a1_0 : Int) (a1_1 : Int) (a1_2 : Int) (r : List (S24)) (w0 w : World) (hB : Below w0.heap.size w0 w) (ho0 : Kd.R k24 24 w w0.heap.size P0_ u9000_ l0) (h : flagstoneref05_Add.f l0 a1_0 a1_1 a1_2 = some r) :
    Calls Try.prog 99 #[u9000_, .agg #[.int .i64 a1_0, .int .i64 a1_1, .int .i64 a1_2]] w fun e w' => ∃ v0_ : Value, e = .returned (v0_) ∧ Kd.R k24 24 w' w0.heap.size (fun k_ => (P0_ k_ ∨ w.heap.size ≤ k_)) v0_ r ∧ Below w0.heap.size w0 w' ∧ Kept w w' (fun k_ => P0_ k_) := by
  have hu24 := Try.underlying24
  unfold flagstoneref05_Add.f at h
  split at h
  · rename_i hlen
    obtain rfl := Option.some.inj h
    clear h
    obtain ⟨A, c, rfl, hlc, hC⟩ := Kd.R_reads ho0
    have HO0 := Aside0.mk ho0
    have HB0 := Aside0.mk hB
    have hw0 : w0.heap.size ≤ w.heap.size := hB.size
    have HW0 := Aside0.mk hw0
    clear hC ho0 hB hw0
    by_cases h2 : a1_2 < 1
    · have hd : decide (a1_2 < 1) = true := decide_eq_true h2
      have hag : addG l0 ⟨a1_0, a1_1, a1_2⟩ = l0 := by rw [addG, if_pos (show a1_2 ≤ 0 by omega)]
      have HAG := Aside0.mk hag
      clear hag h2
      go_enter Try.func99, Try.ntmps99
      go_wp2
      go_ret
      refine ⟨.slice A l0.length c, rfl, ?_, HB0.out.alloc HW0.out _, ?_⟩
      · rw [HAG.out]
        exact Kd.R_mono (Kd.R_alloc HO0.out _) (fun k hk => .inl hk)
      · exact ⟨by simp, fun i hi _ => Below.heap_alloc _ _ _ hi⟩
    · have hd : decide (a1_2 < 1) = false := decide_eq_false h2
      have h2' : ¬ a1_2 ≤ 0 := by omega
      have HN2 := Aside0.mk h2'
      clear h2 h2'
      by_cases hn : l0.length = 0
      · have hag : addG l0 ⟨a1_0, a1_1, a1_2⟩ = l0 ++ [⟨a1_0, a1_1, a1_2⟩] := by
          rw [addG, if_neg HN2.out, if_neg (by rintro ⟨h, _⟩; omega)]
        have HAG := Aside0.mk hag
        have hm : IntKind.i64.wrap ((l0.length : Int) - 1) = -1 := by rw [hn]; rfl
        have hz : (l0.length : Int) = 0 := by omega
        clear hag hn
        go_enter Try.func99, Try.ntmps99
        go_wp2_with fail
        obtain ⟨W1, hW1⟩ : ∃ W, W = w.alloc (.cells #[.int .i64 a1_0, .int .i64 a1_1, .int .i64 a1_2] 24) := ⟨_, rfl⟩
        rw [← hW1]
        have hbx : W1.heap[w.heap.size]? = some (.cells #[.int .i64 a1_0, .int .i64 a1_1, .int .i64 a1_2] 24 (0, 0)) := by rw [hW1]; exact blk_new w _
        have hsz : W1.heap.size = w.heap.size + 1 := by rw [hW1]; simp
        have hkp : ∀ i, i < w.heap.size → W1.heap[i]? = w.heap[i]? := fun i hi => by rw [hW1]; exact Below.heap_alloc _ _ _ hi
        have hO1 : Kd.R k24 24 W1 w0.heap.size P0_ (.slice A l0.length c) l0 := by rw [hW1]; exact Kd.R_alloc HO0.out _
        have hB1 : Below w0.heap.size w0 W1 := by rw [hW1]; exact HB0.out.alloc HW0.out _
        clear hW1
        have hx0 : W1.cell? ⟨w.heap.size, 0, none⟩ = some (.int .i64 a1_0) := (blk_cell hbx 0).trans rfl
        have hx1 : W1.cell? ⟨w.heap.size, 1, none⟩ = some (.int .i64 a1_1) := (blk_cell hbx 1).trans rfl
        have hx2 : W1.cell? ⟨w.heap.size, 2, none⟩ = some (.int .i64 a1_2) := (blk_cell hbx 2).trans rfl
        have HSZ := Aside0.mk hsz
        have HKP := Aside0.mk hkp
        have HO1 := Aside0.mk hO1
        have HB1 := Aside0.mk hB1
        clear hsz hkp hO1 hB1 hbx
        go_quiet (fail)
        obtain ⟨W2, hW2⟩ : ∃ W, W = W1.drewN nq := ⟨_, rfl⟩
        rw [← hW2]
        have hO2 : Kd.R k24 24 W2 w0.heap.size P0_ (.slice A l0.length c) l0 := by rw [hW2]; exact Kd.R_drewN HO1.out _
        have hB2 : Below w0.heap.size w0 W2 := by rw [hW2]; exact pw_below_drewN HB1.out _
        have hk2 : ∀ i : Nat, W2.heap[i]? = W1.heap[i]? := fun i => by rw [hW2]; rfl
        have hs2z : W2.heap.size = W1.heap.size := by rw [hW2]; rfl
        have y0 : W2.cell? ⟨w.heap.size, 0, none⟩ = some (.int .i64 a1_0) := by rw [hW2]; exact hx0
        have y1 : W2.cell? ⟨w.heap.size, 1, none⟩ = some (.int .i64 a1_1) := by rw [hW2]; exact hx1
        have y2 : W2.cell? ⟨w.heap.size, 2, none⟩ = some (.int .i64 a1_2) := by rw [hW2]; exact hx2
        have HO2 := Aside0.mk hO2
        have HB2 := Aside0.mk hB2
        have HK2 := Aside0.mk hk2
        have HS2 := Aside0.mk hs2z
        clear hW2 hO2 hB2 hk2 hs2z hx0 hx1 hx2
        go_wp2_with (at_builtin; refine Kd.R_append k24 (w0 := w0) (W := W2) w0.heap.size rfl (.tmp 86) (.tmp 88) 22 24 (.agg #[(.int .i64 0), (.int .i64 0), (.int .i64 0)]) 24 rfl Try.underlying22 info24 rfl (by decide) (by omega) (.slice A l0.length c) l0 (⟨a1_0, a1_1, a1_2⟩ : S24) [.int .i64 a1_0, .int .i64 a1_1, .int .i64 a1_2] (fun k => P0_ k ∨ w.heap.size ≤ k) (fun _ => False) rfl rfl ?aP (fun _ hk => hk.elim) ?aF ?aO ?aB ?aS ?aL ?_; (case aP => exact k24_mkM _ _ _ (⟨a1_0, a1_1, a1_2⟩ : S24)); (case aF => intro k hk; exact Or.inr (Nat.le_trans (by rw [HS2.out, HSZ.out]; omega) hk)); (case aO => exact (Kd.R_mono HO2.out (fun k hk => .inl hk))); (case aB => exact HB2.out); (case aS => rw [HS2.out, HSZ.out]; have := HW0.out; omega); (case aL => omega); intro v1 w3 hO3 hB3 hg3 hat3; have HO3 := Aside0.mk hO3; have HB3 := Aside0.mk hB3; have HG3 := Aside0.mk hg3; clear hO3 hB3 hg3 hat3)
        go_ret
        refine ⟨v1, rfl, ?_, HB3.out, ?_, fun i hi hP => ?_⟩
        · rw [HAG.out]
          exact HO3.out
        · have h1 := HG3.out.size
          have := HS2.out
          have := HSZ.out
          omega
        · have h2 := HSZ.out
          have h3 := HS2.out
          rw [HG3.out.block i (show i < W2.heap.size by omega) (fun e => hP (HO0.out.1 i e.symm))]
          exact (HK2.out i).trans (HKP.out i hi)
      · have hn1 : 0 < l0.length := by omega
        obtain ⟨y, hy⟩ : ∃ y, y = rd_T24 l0 (l0.length - 1) := ⟨_, rfl⟩
        have hag : addG l0 ⟨a1_0, a1_1, a1_2⟩ = if extent_goesOn.f y.f0 y.f1 y.f2 a1_0 a1_1 a1_2 = some true then l0.set ((l0.length : Int) - 1).toNat ⟨(rd_T24 l0 (l0.length - 1)).f0, (rd_T24 l0 (l0.length - 1)).f1, wrap64 ((rd_T24 l0 (l0.length - 1)).f2 + a1_2)⟩ else l0 ++ [⟨a1_0, a1_1, a1_2⟩] := by
          rw [addG, if_neg HN2.out, hy]
          simp only [hn1, true_and]
        have HY := Aside0.mk hy
        clear hy hn
        by_cases h0 : wrap64 (y.f0 + y.f2) = a1_0
        · have b0 : (wrap64 (y.f0 + y.f2) == a1_0) = true := beq_iff_eq.mpr h0
          have d0 : (wrap64 (y.f0 + y.f2) != a1_0) = false := bne_eq_false_iff_eq.mpr h0
          clear h0
          by_cases h1 : y.f1 = -1
          · have b1 : (y.f1 == -1) = true := beq_iff_eq.mpr h1
            have d1 : (y.f1 != -1) = false := bne_eq_false_iff_eq.mpr h1
            clear h1
            by_cases h2 : a1_1 = -1
            · have b2 : (a1_1 == -1) = true := beq_iff_eq.mpr h2
              have d2 : (a1_1 != -1) = false := bne_eq_false_iff_eq.mpr h2
              clear h2
              have hgo : extent_goesOn.f y.f0 y.f1 y.f2 a1_0 a1_1 a1_2 = some true := by simp [extent_goesOn.f, b0, b1, b2]
              rw [hgo] at hag
              rw [if_pos rfl] at hag
              have HAG := Aside0.mk hag
              clear hag hgo
              go_enter Try.func99, Try.ntmps99
              go_wp2_with fail
              obtain ⟨W1, hW1⟩ : ∃ W, W = w.alloc (.cells #[.int .i64 a1_0, .int .i64 a1_1, .int .i64 a1_2] 24) := ⟨_, rfl⟩
              rw [← hW1]
              have hbx : W1.heap[w.heap.size]? = some (.cells #[.int .i64 a1_0, .int .i64 a1_1, .int .i64 a1_2] 24 (0, 0)) := by rw [hW1]; exact blk_new w _
              have hsz : W1.heap.size = w.heap.size + 1 := by rw [hW1]; simp
              have hkp : ∀ i, i < w.heap.size → W1.heap[i]? = w.heap[i]? := fun i hi => by rw [hW1]; exact Below.heap_alloc _ _ _ hi
              have hO1 : Kd.R k24 24 W1 w0.heap.size P0_ (.slice A l0.length c) l0 := by rw [hW1]; exact Kd.R_alloc HO0.out _
              have hB1 : Below w0.heap.size w0 W1 := by rw [hW1]; exact HB0.out.alloc HW0.out _
              clear hW1
              have hx0 : W1.cell? ⟨w.heap.size, 0, none⟩ = some (.int .i64 a1_0) := (blk_cell hbx 0).trans rfl
              have hx1 : W1.cell? ⟨w.heap.size, 1, none⟩ = some (.int .i64 a1_1) := (blk_cell hbx 1).trans rfl
              have hx2 : W1.cell? ⟨w.heap.size, 2, none⟩ = some (.int .i64 a1_2) := (blk_cell hbx 2).trans rfl
              have HSZ := Aside0.mk hsz
              have HKP := Aside0.mk hkp
              have HO1 := Aside0.mk hO1
              have HB1 := Aside0.mk hB1
              clear hsz hkp hO1 hB1 hbx
              obtain ⟨g, cap, hv, hgb, hgl, cells, hgc⟩ := Kd.R_form HO1.out hn1
              injection hv with hv1 _ hv2
              subst hv1 hv2
              obtain ⟨j, hj⟩ : ∃ j : Int, j = (l0.length : Int) - 1 := ⟨_, rfl⟩
              have hi0 : 0 ≤ j := by omega
              have hi1 : j < (l0.length : Int) := by omega
              have hge : decide (0 ≤ j) = true := decide_eq_true hi0
              have hwr : IntKind.i64.wrap ((l0.length : Int) - 1) = j := by rw [hj]; exact IntWalk.i64_in _ (by omega)
              have hwr2 : (l0.length : Int) - 1 = j := hj.symm
              have hwr3 : IntKind.i64.wrap j = j := IntWalk.i64_in _ (by omega)
              have HJ := Aside0.mk hj
              clear hj
              obtain ⟨ce, hcl, hM, hcc, hfz⟩ := Kd.R_elem HO1.out z24 j hi0 hi1
              obtain rfl := k24_openM hM
              have e0 : W1.cell? ⟨g, j.toNat * 3, none⟩ = some (.int .i64 (l0.getD j.toNat z24).f0) := hcc 0 _ rfl
              have e1 : W1.cell? ⟨g, j.toNat * 3 + 1, none⟩ = some (.int .i64 (l0.getD j.toNat z24).f1) := hcc 1 _ rfl
              have e2 : W1.cell? ⟨g, j.toNat * 3 + 2, none⟩ = some (.int .i64 (l0.getD j.toNat z24).f2) := hcc 2 _ rfl
              have hy : y = l0.getD j.toNat z24 := by rw [HY.out, HJ.out]; rfl
              rw [← hy] at e0 e1 e2 hM hcc
              have HYJ := Aside0.mk hy
              clear hy
              have HCC := Aside0.mk hcc
              clear hcc hM hgc hfz hcl
              have hs1 : IntKind.i64.wrap (y.f0 + y.f2) = wrap64 (y.f0 + y.f2) := IntWalk.i64_left _
              have hs2 : IntKind.i64.wrap (y.f1 + y.f2) = wrap64 (y.f1 + y.f2) := IntWalk.i64_left _
              go_wp2_with fail
              go_quiet (fail)
              obtain ⟨s, hs⟩ : ∃ s : Int, s = wrap64 (y.f2 + a1_2) := ⟨_, rfl⟩
              have hsw : IntKind.i64.wrap (y.f2 + a1_2) = s := by rw [hs]; exact IntWalk.i64_left _
              have hsw2 : wrap64 (y.f2 + a1_2) = s := hs.symm
              have HSS := Aside0.mk hs
              clear hs
              obtain ⟨W2, hW2⟩ : ∃ W, W = W1.drewN nq := ⟨_, rfl⟩
              rw [← hW2]
              have hO2 : Kd.R k24 24 W2 w0.heap.size P0_ (.slice (some ⟨g, 0, none⟩) l0.length c) l0 := by rw [hW2]; exact Kd.R_drewN HO1.out _
              have hB2 : Below w0.heap.size w0 W2 := by rw [hW2]; exact pw_below_drewN HB1.out _
              have hk2 : ∀ i : Nat, W2.heap[i]? = W1.heap[i]? := fun i => by rw [hW2]; rfl
              have hs2z : W2.heap.size = W1.heap.size := by rw [hW2]; rfl
              have y0 : W2.cell? ⟨w.heap.size, 0, none⟩ = some (.int .i64 a1_0) := by rw [hW2]; exact hx0
              have y1 : W2.cell? ⟨w.heap.size, 1, none⟩ = some (.int .i64 a1_1) := by rw [hW2]; exact hx1
              have y2 : W2.cell? ⟨w.heap.size, 2, none⟩ = some (.int .i64 a1_2) := by rw [hW2]; exact hx2
              have f0 : W2.cell? ⟨g, j.toNat * 3, none⟩ = some (.int .i64 y.f0) := by rw [hW2]; exact e0
              have f1 : W2.cell? ⟨g, j.toNat * 3 + 1, none⟩ = some (.int .i64 y.f1) := by rw [hW2]; exact e1
              have f2 : W2.cell? ⟨g, j.toNat * 3 + 2, none⟩ = some (.int .i64 y.f2) := by rw [hW2]; exact e2
              have HCC2 : Aside0 (∀ (j_1 : Nat) (u : Value), [Value.int .i64 y.f0, .int .i64 y.f1, .int .i64 y.f2][j_1]? = some u → W2.cell? ⟨g, j.toNat * k24.sz + j_1, none⟩ = some u) := ⟨by rw [hW2]; exact HCC.out⟩
              have HO2 := Aside0.mk hO2
              have HB2 := Aside0.mk hB2
              have HK2 := Aside0.mk hk2
              have HS2 := Aside0.mk hs2z
              clear hW2 hO2 hB2 hk2 hs2z hx0 hx1 hx2 e0 e1 e2
              go_wp2_with fail
              go_still_tail 12, (by kernel_rfl)
              change wpList _ _ _ _ _ W2.drew
              refine Kd.R_store k24 (w0 := w0) (W := W2.drew) w0.heap.size rfl rfl 3 (.tmp 84) (.tmp 82) rfl 24 j 2 l0 (⟨y.f0, y.f1, s⟩ : S24) (.int .i64 s) [.int .i64 s] [.int .i64 y.f0, .int .i64 y.f1, .int .i64 y.f2] P0_ (fun _ => False) rfl rfl rfl rfl (by kernel_rfl) (by simp [Value.oneCell']) (Kd.R_drew HO2.out) hi0 hi1 rfl (fun j u hu => HCC2.out j u hu) (Nat.le_refl 3) (k24_mkM _ _ _ (⟨y.f0, y.f1, s⟩ : S24)) (fun _ hk => hk.elim) (below_drew HB2.out) ?_
              intro w3 hO3 hB3 hg3
              have HO3 := Aside0.mk hO3
              have HB3 := Aside0.mk hB3
              have HG3 := Aside0.mk hg3
              clear hO3 hB3 hg3
              go_wp2
              go_ret
              refine ⟨.slice (some ⟨g, 0, none⟩) l0.length c, rfl, ?_, HB3.out, ?_, fun i hi hP => ?_⟩
              · have hyy : y = rd_T24 l0 j := HYJ.out
                rw [HAG.out, ← HJ.out, ← hyy, ← HSS.out]
                exact Kd.R_mono HO3.out (fun k hk => .inl hk)
              · have h1 := HG3.out.size
                have h4 : W2.drew.heap.size = W2.heap.size := rfl
                have := HSZ.out
                have := HS2.out
                omega
              · have h2 := HSZ.out
                have h3 := HS2.out
                rw [HG3.out.block i (show i < W2.heap.size by omega) (fun e => hP (HO0.out.1 i e.symm))]
                exact (HK2.out i).trans (HKP.out i hi)
            · have b2 : (a1_1 == -1) = false := beq_eq_false_iff_ne.mpr h2
              have d2 : (a1_1 != -1) = true := bne_iff_ne.mpr h2
              clear h2
              have hgo : extent_goesOn.f y.f0 y.f1 y.f2 a1_0 a1_1 a1_2 = some false := by simp [extent_goesOn.f, b0, b1, b2]
              rw [hgo] at hag
              rw [if_neg (by simp)] at hag
              have HAG := Aside0.mk hag
              clear hag hgo
              go_enter Try.func99, Try.ntmps99
              go_wp2_with fail
              obtain ⟨W1, hW1⟩ : ∃ W, W = w.alloc (.cells #[.int .i64 a1_0, .int .i64 a1_1, .int .i64 a1_2] 24) := ⟨_, rfl⟩
              rw [← hW1]
              have hbx : W1.heap[w.heap.size]? = some (.cells #[.int .i64 a1_0, .int .i64 a1_1, .int .i64 a1_2] 24 (0, 0)) := by rw [hW1]; exact blk_new w _
              have hsz : W1.heap.size = w.heap.size + 1 := by rw [hW1]; simp
              have hkp : ∀ i, i < w.heap.size → W1.heap[i]? = w.heap[i]? := fun i hi => by rw [hW1]; exact Below.heap_alloc _ _ _ hi
              have hO1 : Kd.R k24 24 W1 w0.heap.size P0_ (.slice A l0.length c) l0 := by rw [hW1]; exact Kd.R_alloc HO0.out _
              have hB1 : Below w0.heap.size w0 W1 := by rw [hW1]; exact HB0.out.alloc HW0.out _
              clear hW1
              have hx0 : W1.cell? ⟨w.heap.size, 0, none⟩ = some (.int .i64 a1_0) := (blk_cell hbx 0).trans rfl
              have hx1 : W1.cell? ⟨w.heap.size, 1, none⟩ = some (.int .i64 a1_1) := (blk_cell hbx 1).trans rfl
              have hx2 : W1.cell? ⟨w.heap.size, 2, none⟩ = some (.int .i64 a1_2) := (blk_cell hbx 2).trans rfl
              have HSZ := Aside0.mk hsz
              have HKP := Aside0.mk hkp
              have HO1 := Aside0.mk hO1
              have HB1 := Aside0.mk hB1
              clear hsz hkp hO1 hB1 hbx
              obtain ⟨g, cap, hv, hgb, hgl, cells, hgc⟩ := Kd.R_form HO1.out hn1
              injection hv with hv1 _ hv2
              subst hv1 hv2
              obtain ⟨j, hj⟩ : ∃ j : Int, j = (l0.length : Int) - 1 := ⟨_, rfl⟩
              have hi0 : 0 ≤ j := by omega
              have hi1 : j < (l0.length : Int) := by omega
              have hge : decide (0 ≤ j) = true := decide_eq_true hi0
              have hwr : IntKind.i64.wrap ((l0.length : Int) - 1) = j := by rw [hj]; exact IntWalk.i64_in _ (by omega)
              have hwr2 : (l0.length : Int) - 1 = j := hj.symm
              have hwr3 : IntKind.i64.wrap j = j := IntWalk.i64_in _ (by omega)
              have HJ := Aside0.mk hj
              clear hj
              obtain ⟨ce, hcl, hM, hcc, hfz⟩ := Kd.R_elem HO1.out z24 j hi0 hi1
              obtain rfl := k24_openM hM
              have e0 : W1.cell? ⟨g, j.toNat * 3, none⟩ = some (.int .i64 (l0.getD j.toNat z24).f0) := hcc 0 _ rfl
              have e1 : W1.cell? ⟨g, j.toNat * 3 + 1, none⟩ = some (.int .i64 (l0.getD j.toNat z24).f1) := hcc 1 _ rfl
              have e2 : W1.cell? ⟨g, j.toNat * 3 + 2, none⟩ = some (.int .i64 (l0.getD j.toNat z24).f2) := hcc 2 _ rfl
              have hy : y = l0.getD j.toNat z24 := by rw [HY.out, HJ.out]; rfl
              rw [← hy] at e0 e1 e2 hM hcc
              have HYJ := Aside0.mk hy
              clear hy
              have HCC := Aside0.mk hcc
              clear hcc hM hgc hfz hcl
              have hs1 : IntKind.i64.wrap (y.f0 + y.f2) = wrap64 (y.f0 + y.f2) := IntWalk.i64_left _
              have hs2 : IntKind.i64.wrap (y.f1 + y.f2) = wrap64 (y.f1 + y.f2) := IntWalk.i64_left _
              go_wp2_with fail
              go_quiet (fail)
              obtain ⟨W2, hW2⟩ : ∃ W, W = W1.drewN nq := ⟨_, rfl⟩
              rw [← hW2]
              have hO2 : Kd.R k24 24 W2 w0.heap.size P0_ (.slice (some ⟨g, 0, none⟩) l0.length c) l0 := by rw [hW2]; exact Kd.R_drewN HO1.out _
              have hB2 : Below w0.heap.size w0 W2 := by rw [hW2]; exact pw_below_drewN HB1.out _
              have hk2 : ∀ i : Nat, W2.heap[i]? = W1.heap[i]? := fun i => by rw [hW2]; rfl
              have hs2z : W2.heap.size = W1.heap.size := by rw [hW2]; rfl
              have y0 : W2.cell? ⟨w.heap.size, 0, none⟩ = some (.int .i64 a1_0) := by rw [hW2]; exact hx0
              have y1 : W2.cell? ⟨w.heap.size, 1, none⟩ = some (.int .i64 a1_1) := by rw [hW2]; exact hx1
              have y2 : W2.cell? ⟨w.heap.size, 2, none⟩ = some (.int .i64 a1_2) := by rw [hW2]; exact hx2
              have HO2 := Aside0.mk hO2
              have HB2 := Aside0.mk hB2
              have HK2 := Aside0.mk hk2
              have HS2 := Aside0.mk hs2z
              clear hW2 hO2 hB2 hk2 hs2z hx0 hx1 hx2
              go_wp2_with (at_builtin; refine Kd.R_append k24 (w0 := w0) (W := W2) w0.heap.size rfl (.tmp 86) (.tmp 88) 22 24 (.agg #[(.int .i64 0), (.int .i64 0), (.int .i64 0)]) 24 rfl Try.underlying22 info24 rfl (by decide) (by omega) (.slice (some ⟨g, 0, none⟩) l0.length c) l0 (⟨a1_0, a1_1, a1_2⟩ : S24) [.int .i64 a1_0, .int .i64 a1_1, .int .i64 a1_2] (fun k => P0_ k ∨ w.heap.size ≤ k) (fun _ => False) rfl rfl ?aP (fun _ hk => hk.elim) ?aF ?aO ?aB ?aS ?aL ?_; (case aP => exact k24_mkM _ _ _ (⟨a1_0, a1_1, a1_2⟩ : S24)); (case aF => intro k hk; exact Or.inr (Nat.le_trans (by rw [HS2.out, HSZ.out]; omega) hk)); (case aO => exact (Kd.R_mono HO2.out (fun k hk => .inl hk))); (case aB => exact HB2.out); (case aS => rw [HS2.out, HSZ.out]; have := HW0.out; omega); (case aL => omega); intro v1 w3 hO3 hB3 hg3 hat3; have HO3 := Aside0.mk hO3; have HB3 := Aside0.mk hB3; have HG3 := Aside0.mk hg3; clear hO3 hB3 hg3 hat3)
              go_ret
              refine ⟨v1, rfl, ?_, HB3.out, ?_, fun i hi hP => ?_⟩
              · rw [HAG.out]
                exact HO3.out
              · have h1 := HG3.out.size
                have := HS2.out
                have := HSZ.out
                omega
              · have h2 := HSZ.out
                have h3 := HS2.out
                rw [HG3.out.block i (show i < W2.heap.size by omega) (fun e => hP (HO0.out.1 i e.symm))]
                exact (HK2.out i).trans (HKP.out i hi)
          · have b1 : (y.f1 == -1) = false := beq_eq_false_iff_ne.mpr h1
            have d1 : (y.f1 != -1) = true := bne_iff_ne.mpr h1
            clear h1
            by_cases h2 : a1_1 = -1
            · have b2 : (a1_1 == -1) = true := beq_iff_eq.mpr h2
              have d2 : (a1_1 != -1) = false := bne_eq_false_iff_eq.mpr h2
              clear h2
              have hgo : extent_goesOn.f y.f0 y.f1 y.f2 a1_0 a1_1 a1_2 = some false := by simp [extent_goesOn.f, b0, b1, b2]
              rw [hgo] at hag
              rw [if_neg (by simp)] at hag
              have HAG := Aside0.mk hag
              clear hag hgo
              go_enter Try.func99, Try.ntmps99
              go_wp2_with fail
              obtain ⟨W1, hW1⟩ : ∃ W, W = w.alloc (.cells #[.int .i64 a1_0, .int .i64 a1_1, .int .i64 a1_2] 24) := ⟨_, rfl⟩
              rw [← hW1]
              have hbx : W1.heap[w.heap.size]? = some (.cells #[.int .i64 a1_0, .int .i64 a1_1, .int .i64 a1_2] 24 (0, 0)) := by rw [hW1]; exact blk_new w _
              have hsz : W1.heap.size = w.heap.size + 1 := by rw [hW1]; simp
              have hkp : ∀ i, i < w.heap.size → W1.heap[i]? = w.heap[i]? := fun i hi => by rw [hW1]; exact Below.heap_alloc _ _ _ hi
              have hO1 : Kd.R k24 24 W1 w0.heap.size P0_ (.slice A l0.length c) l0 := by rw [hW1]; exact Kd.R_alloc HO0.out _
              have hB1 : Below w0.heap.size w0 W1 := by rw [hW1]; exact HB0.out.alloc HW0.out _
              clear hW1
              have hx0 : W1.cell? ⟨w.heap.size, 0, none⟩ = some (.int .i64 a1_0) := (blk_cell hbx 0).trans rfl
              have hx1 : W1.cell? ⟨w.heap.size, 1, none⟩ = some (.int .i64 a1_1) := (blk_cell hbx 1).trans rfl
              have hx2 : W1.cell? ⟨w.heap.size, 2, none⟩ = some (.int .i64 a1_2) := (blk_cell hbx 2).trans rfl
              have HSZ := Aside0.mk hsz
              have HKP := Aside0.mk hkp
              have HO1 := Aside0.mk hO1
              have HB1 := Aside0.mk hB1
              clear hsz hkp hO1 hB1 hbx
              obtain ⟨g, cap, hv, hgb, hgl, cells, hgc⟩ := Kd.R_form HO1.out hn1
              injection hv with hv1 _ hv2
              subst hv1 hv2
              obtain ⟨j, hj⟩ : ∃ j : Int, j = (l0.length : Int) - 1 := ⟨_, rfl⟩
              have hi0 : 0 ≤ j := by omega
              have hi1 : j < (l0.length : Int) := by omega
              have hge : decide (0 ≤ j) = true := decide_eq_true hi0
              have hwr : IntKind.i64.wrap ((l0.length : Int) - 1) = j := by rw [hj]; exact IntWalk.i64_in _ (by omega)
              have hwr2 : (l0.length : Int) - 1 = j := hj.symm
              have hwr3 : IntKind.i64.wrap j = j := IntWalk.i64_in _ (by omega)
              have HJ := Aside0.mk hj
              clear hj
              obtain ⟨ce, hcl, hM, hcc, hfz⟩ := Kd.R_elem HO1.out z24 j hi0 hi1
              obtain rfl := k24_openM hM
              have e0 : W1.cell? ⟨g, j.toNat * 3, none⟩ = some (.int .i64 (l0.getD j.toNat z24).f0) := hcc 0 _ rfl
              have e1 : W1.cell? ⟨g, j.toNat * 3 + 1, none⟩ = some (.int .i64 (l0.getD j.toNat z24).f1) := hcc 1 _ rfl
              have e2 : W1.cell? ⟨g, j.toNat * 3 + 2, none⟩ = some (.int .i64 (l0.getD j.toNat z24).f2) := hcc 2 _ rfl
              have hy : y = l0.getD j.toNat z24 := by rw [HY.out, HJ.out]; rfl
              rw [← hy] at e0 e1 e2 hM hcc
              have HYJ := Aside0.mk hy
              clear hy
              have HCC := Aside0.mk hcc
              clear hcc hM hgc hfz hcl
              have hs1 : IntKind.i64.wrap (y.f0 + y.f2) = wrap64 (y.f0 + y.f2) := IntWalk.i64_left _
              have hs2 : IntKind.i64.wrap (y.f1 + y.f2) = wrap64 (y.f1 + y.f2) := IntWalk.i64_left _
              go_wp2_with fail
              go_quiet (fail)
              obtain ⟨W2, hW2⟩ : ∃ W, W = W1.drewN nq := ⟨_, rfl⟩
              rw [← hW2]
              have hO2 : Kd.R k24 24 W2 w0.heap.size P0_ (.slice (some ⟨g, 0, none⟩) l0.length c) l0 := by rw [hW2]; exact Kd.R_drewN HO1.out _
              have hB2 : Below w0.heap.size w0 W2 := by rw [hW2]; exact pw_below_drewN HB1.out _
              have hk2 : ∀ i : Nat, W2.heap[i]? = W1.heap[i]? := fun i => by rw [hW2]; rfl
              have hs2z : W2.heap.size = W1.heap.size := by rw [hW2]; rfl
              have y0 : W2.cell? ⟨w.heap.size, 0, none⟩ = some (.int .i64 a1_0) := by rw [hW2]; exact hx0
              have y1 : W2.cell? ⟨w.heap.size, 1, none⟩ = some (.int .i64 a1_1) := by rw [hW2]; exact hx1
              have y2 : W2.cell? ⟨w.heap.size, 2, none⟩ = some (.int .i64 a1_2) := by rw [hW2]; exact hx2
              have HO2 := Aside0.mk hO2
              have HB2 := Aside0.mk hB2
              have HK2 := Aside0.mk hk2
              have HS2 := Aside0.mk hs2z
              clear hW2 hO2 hB2 hk2 hs2z hx0 hx1 hx2
              go_wp2_with (at_builtin; refine Kd.R_append k24 (w0 := w0) (W := W2) w0.heap.size rfl (.tmp 86) (.tmp 88) 22 24 (.agg #[(.int .i64 0), (.int .i64 0), (.int .i64 0)]) 24 rfl Try.underlying22 info24 rfl (by decide) (by omega) (.slice (some ⟨g, 0, none⟩) l0.length c) l0 (⟨a1_0, a1_1, a1_2⟩ : S24) [.int .i64 a1_0, .int .i64 a1_1, .int .i64 a1_2] (fun k => P0_ k ∨ w.heap.size ≤ k) (fun _ => False) rfl rfl ?aP (fun _ hk => hk.elim) ?aF ?aO ?aB ?aS ?aL ?_; (case aP => exact k24_mkM _ _ _ (⟨a1_0, a1_1, a1_2⟩ : S24)); (case aF => intro k hk; exact Or.inr (Nat.le_trans (by rw [HS2.out, HSZ.out]; omega) hk)); (case aO => exact (Kd.R_mono HO2.out (fun k hk => .inl hk))); (case aB => exact HB2.out); (case aS => rw [HS2.out, HSZ.out]; have := HW0.out; omega); (case aL => omega); intro v1 w3 hO3 hB3 hg3 hat3; have HO3 := Aside0.mk hO3; have HB3 := Aside0.mk hB3; have HG3 := Aside0.mk hg3; clear hO3 hB3 hg3 hat3)
              go_ret
              refine ⟨v1, rfl, ?_, HB3.out, ?_, fun i hi hP => ?_⟩
              · rw [HAG.out]
                exact HO3.out
              · have h1 := HG3.out.size
                have := HS2.out
                have := HSZ.out
                omega
              · have h2 := HSZ.out
                have h3 := HS2.out
                rw [HG3.out.block i (show i < W2.heap.size by omega) (fun e => hP (HO0.out.1 i e.symm))]
                exact (HK2.out i).trans (HKP.out i hi)
            · have b2 : (a1_1 == -1) = false := beq_eq_false_iff_ne.mpr h2
              have d2 : (a1_1 != -1) = true := bne_iff_ne.mpr h2
              clear h2
              by_cases h3 : wrap64 (y.f1 + y.f2) = a1_1
              · have b3 : (wrap64 (y.f1 + y.f2) == a1_1) = true := beq_iff_eq.mpr h3
                have d3 : (wrap64 (y.f1 + y.f2) != a1_1) = false := bne_eq_false_iff_eq.mpr h3
                clear h3
                have hgo : extent_goesOn.f y.f0 y.f1 y.f2 a1_0 a1_1 a1_2 = some true := by simp [extent_goesOn.f, b0, b1, b2, b3]
                rw [hgo] at hag
                rw [if_pos rfl] at hag
                have HAG := Aside0.mk hag
                clear hag hgo
                go_enter Try.func99, Try.ntmps99
                go_wp2_with fail
                obtain ⟨W1, hW1⟩ : ∃ W, W = w.alloc (.cells #[.int .i64 a1_0, .int .i64 a1_1, .int .i64 a1_2] 24) := ⟨_, rfl⟩
                rw [← hW1]
                have hbx : W1.heap[w.heap.size]? = some (.cells #[.int .i64 a1_0, .int .i64 a1_1, .int .i64 a1_2] 24 (0, 0)) := by rw [hW1]; exact blk_new w _
                have hsz : W1.heap.size = w.heap.size + 1 := by rw [hW1]; simp
                have hkp : ∀ i, i < w.heap.size → W1.heap[i]? = w.heap[i]? := fun i hi => by rw [hW1]; exact Below.heap_alloc _ _ _ hi
                have hO1 : Kd.R k24 24 W1 w0.heap.size P0_ (.slice A l0.length c) l0 := by rw [hW1]; exact Kd.R_alloc HO0.out _
                have hB1 : Below w0.heap.size w0 W1 := by rw [hW1]; exact HB0.out.alloc HW0.out _
                clear hW1
                have hx0 : W1.cell? ⟨w.heap.size, 0, none⟩ = some (.int .i64 a1_0) := (blk_cell hbx 0).trans rfl
                have hx1 : W1.cell? ⟨w.heap.size, 1, none⟩ = some (.int .i64 a1_1) := (blk_cell hbx 1).trans rfl
                have hx2 : W1.cell? ⟨w.heap.size, 2, none⟩ = some (.int .i64 a1_2) := (blk_cell hbx 2).trans rfl
                have HSZ := Aside0.mk hsz
                have HKP := Aside0.mk hkp
                have HO1 := Aside0.mk hO1
                have HB1 := Aside0.mk hB1
                clear hsz hkp hO1 hB1 hbx
                obtain ⟨g, cap, hv, hgb, hgl, cells, hgc⟩ := Kd.R_form HO1.out hn1
                injection hv with hv1 _ hv2
                subst hv1 hv2
                obtain ⟨j, hj⟩ : ∃ j : Int, j = (l0.length : Int) - 1 := ⟨_, rfl⟩
                have hi0 : 0 ≤ j := by omega
                have hi1 : j < (l0.length : Int) := by omega
                have hge : decide (0 ≤ j) = true := decide_eq_true hi0
                have hwr : IntKind.i64.wrap ((l0.length : Int) - 1) = j := by rw [hj]; exact IntWalk.i64_in _ (by omega)
                have hwr2 : (l0.length : Int) - 1 = j := hj.symm
                have hwr3 : IntKind.i64.wrap j = j := IntWalk.i64_in _ (by omega)
                have HJ := Aside0.mk hj
                clear hj
                obtain ⟨ce, hcl, hM, hcc, hfz⟩ := Kd.R_elem HO1.out z24 j hi0 hi1
                obtain rfl := k24_openM hM
                have e0 : W1.cell? ⟨g, j.toNat * 3, none⟩ = some (.int .i64 (l0.getD j.toNat z24).f0) := hcc 0 _ rfl
                have e1 : W1.cell? ⟨g, j.toNat * 3 + 1, none⟩ = some (.int .i64 (l0.getD j.toNat z24).f1) := hcc 1 _ rfl
                have e2 : W1.cell? ⟨g, j.toNat * 3 + 2, none⟩ = some (.int .i64 (l0.getD j.toNat z24).f2) := hcc 2 _ rfl
                have hy : y = l0.getD j.toNat z24 := by rw [HY.out, HJ.out]; rfl
                rw [← hy] at e0 e1 e2 hM hcc
                have HYJ := Aside0.mk hy
                clear hy
                have HCC := Aside0.mk hcc
                clear hcc hM hgc hfz hcl
                have hs1 : IntKind.i64.wrap (y.f0 + y.f2) = wrap64 (y.f0 + y.f2) := IntWalk.i64_left _
                have hs2 : IntKind.i64.wrap (y.f1 + y.f2) = wrap64 (y.f1 + y.f2) := IntWalk.i64_left _
                go_wp2_with fail
                go_quiet (fail)
                obtain ⟨s, hs⟩ : ∃ s : Int, s = wrap64 (y.f2 + a1_2) := ⟨_, rfl⟩
                have hsw : IntKind.i64.wrap (y.f2 + a1_2) = s := by rw [hs]; exact IntWalk.i64_left _
                have hsw2 : wrap64 (y.f2 + a1_2) = s := hs.symm
                have HSS := Aside0.mk hs
                clear hs
                obtain ⟨W2, hW2⟩ : ∃ W, W = W1.drewN nq := ⟨_, rfl⟩
                rw [← hW2]
                have hO2 : Kd.R k24 24 W2 w0.heap.size P0_ (.slice (some ⟨g, 0, none⟩) l0.length c) l0 := by rw [hW2]; exact Kd.R_drewN HO1.out _
                have hB2 : Below w0.heap.size w0 W2 := by rw [hW2]; exact pw_below_drewN HB1.out _
                have hk2 : ∀ i : Nat, W2.heap[i]? = W1.heap[i]? := fun i => by rw [hW2]; rfl
                have hs2z : W2.heap.size = W1.heap.size := by rw [hW2]; rfl
                have y0 : W2.cell? ⟨w.heap.size, 0, none⟩ = some (.int .i64 a1_0) := by rw [hW2]; exact hx0
                have y1 : W2.cell? ⟨w.heap.size, 1, none⟩ = some (.int .i64 a1_1) := by rw [hW2]; exact hx1
                have y2 : W2.cell? ⟨w.heap.size, 2, none⟩ = some (.int .i64 a1_2) := by rw [hW2]; exact hx2
                have f0 : W2.cell? ⟨g, j.toNat * 3, none⟩ = some (.int .i64 y.f0) := by rw [hW2]; exact e0
                have f1 : W2.cell? ⟨g, j.toNat * 3 + 1, none⟩ = some (.int .i64 y.f1) := by rw [hW2]; exact e1
                have f2 : W2.cell? ⟨g, j.toNat * 3 + 2, none⟩ = some (.int .i64 y.f2) := by rw [hW2]; exact e2
                have HCC2 : Aside0 (∀ (j_1 : Nat) (u : Value), [Value.int .i64 y.f0, .int .i64 y.f1, .int .i64 y.f2][j_1]? = some u → W2.cell? ⟨g, j.toNat * k24.sz + j_1, none⟩ = some u) := ⟨by rw [hW2]; exact HCC.out⟩
                have HO2 := Aside0.mk hO2
                have HB2 := Aside0.mk hB2
                have HK2 := Aside0.mk hk2
                have HS2 := Aside0.mk hs2z
                clear hW2 hO2 hB2 hk2 hs2z hx0 hx1 hx2 e0 e1 e2
                go_wp2_with fail
                go_still_tail 12, (by kernel_rfl)
                change wpList _ _ _ _ _ W2.drew
                refine Kd.R_store k24 (w0 := w0) (W := W2.drew) w0.heap.size rfl rfl 3 (.tmp 84) (.tmp 82) rfl 24 j 2 l0 (⟨y.f0, y.f1, s⟩ : S24) (.int .i64 s) [.int .i64 s] [.int .i64 y.f0, .int .i64 y.f1, .int .i64 y.f2] P0_ (fun _ => False) rfl rfl rfl rfl (by kernel_rfl) (by simp [Value.oneCell']) (Kd.R_drew HO2.out) hi0 hi1 rfl (fun j u hu => HCC2.out j u hu) (Nat.le_refl 3) (k24_mkM _ _ _ (⟨y.f0, y.f1, s⟩ : S24)) (fun _ hk => hk.elim) (below_drew HB2.out) ?_
                intro w3 hO3 hB3 hg3
                have HO3 := Aside0.mk hO3
                have HB3 := Aside0.mk hB3
                have HG3 := Aside0.mk hg3
                clear hO3 hB3 hg3
                go_wp2
                go_ret
                refine ⟨.slice (some ⟨g, 0, none⟩) l0.length c, rfl, ?_, HB3.out, ?_, fun i hi hP => ?_⟩
                · have hyy : y = rd_T24 l0 j := HYJ.out
                  rw [HAG.out, ← HJ.out, ← hyy, ← HSS.out]
                  exact Kd.R_mono HO3.out (fun k hk => .inl hk)
                · have h1 := HG3.out.size
                  have h4 : W2.drew.heap.size = W2.heap.size := rfl
                  have := HSZ.out
                  have := HS2.out
                  omega
                · have h2 := HSZ.out
                  have h3 := HS2.out
                  rw [HG3.out.block i (show i < W2.heap.size by omega) (fun e => hP (HO0.out.1 i e.symm))]
                  exact (HK2.out i).trans (HKP.out i hi)
              · have b3 : (wrap64 (y.f1 + y.f2) == a1_1) = false := beq_eq_false_iff_ne.mpr h3
                have d3 : (wrap64 (y.f1 + y.f2) != a1_1) = true := bne_iff_ne.mpr h3
                clear h3
                have hgo : extent_goesOn.f y.f0 y.f1 y.f2 a1_0 a1_1 a1_2 = some false := by simp [extent_goesOn.f, b0, b1, b2, b3]
                rw [hgo] at hag
                rw [if_neg (by simp)] at hag
                have HAG := Aside0.mk hag
                clear hag hgo
                go_enter Try.func99, Try.ntmps99
                go_wp2_with fail
                obtain ⟨W1, hW1⟩ : ∃ W, W = w.alloc (.cells #[.int .i64 a1_0, .int .i64 a1_1, .int .i64 a1_2] 24) := ⟨_, rfl⟩
                rw [← hW1]
                have hbx : W1.heap[w.heap.size]? = some (.cells #[.int .i64 a1_0, .int .i64 a1_1, .int .i64 a1_2] 24 (0, 0)) := by rw [hW1]; exact blk_new w _
                have hsz : W1.heap.size = w.heap.size + 1 := by rw [hW1]; simp
                have hkp : ∀ i, i < w.heap.size → W1.heap[i]? = w.heap[i]? := fun i hi => by rw [hW1]; exact Below.heap_alloc _ _ _ hi
                have hO1 : Kd.R k24 24 W1 w0.heap.size P0_ (.slice A l0.length c) l0 := by rw [hW1]; exact Kd.R_alloc HO0.out _
                have hB1 : Below w0.heap.size w0 W1 := by rw [hW1]; exact HB0.out.alloc HW0.out _
                clear hW1
                have hx0 : W1.cell? ⟨w.heap.size, 0, none⟩ = some (.int .i64 a1_0) := (blk_cell hbx 0).trans rfl
                have hx1 : W1.cell? ⟨w.heap.size, 1, none⟩ = some (.int .i64 a1_1) := (blk_cell hbx 1).trans rfl
                have hx2 : W1.cell? ⟨w.heap.size, 2, none⟩ = some (.int .i64 a1_2) := (blk_cell hbx 2).trans rfl
                have HSZ := Aside0.mk hsz
                have HKP := Aside0.mk hkp
                have HO1 := Aside0.mk hO1
                have HB1 := Aside0.mk hB1
                clear hsz hkp hO1 hB1 hbx
                obtain ⟨g, cap, hv, hgb, hgl, cells, hgc⟩ := Kd.R_form HO1.out hn1
                injection hv with hv1 _ hv2
                subst hv1 hv2
                obtain ⟨j, hj⟩ : ∃ j : Int, j = (l0.length : Int) - 1 := ⟨_, rfl⟩
                have hi0 : 0 ≤ j := by omega
                have hi1 : j < (l0.length : Int) := by omega
                have hge : decide (0 ≤ j) = true := decide_eq_true hi0
                have hwr : IntKind.i64.wrap ((l0.length : Int) - 1) = j := by rw [hj]; exact IntWalk.i64_in _ (by omega)
                have hwr2 : (l0.length : Int) - 1 = j := hj.symm
                have hwr3 : IntKind.i64.wrap j = j := IntWalk.i64_in _ (by omega)
                have HJ := Aside0.mk hj
                clear hj
                obtain ⟨ce, hcl, hM, hcc, hfz⟩ := Kd.R_elem HO1.out z24 j hi0 hi1
                obtain rfl := k24_openM hM
                have e0 : W1.cell? ⟨g, j.toNat * 3, none⟩ = some (.int .i64 (l0.getD j.toNat z24).f0) := hcc 0 _ rfl
                have e1 : W1.cell? ⟨g, j.toNat * 3 + 1, none⟩ = some (.int .i64 (l0.getD j.toNat z24).f1) := hcc 1 _ rfl
                have e2 : W1.cell? ⟨g, j.toNat * 3 + 2, none⟩ = some (.int .i64 (l0.getD j.toNat z24).f2) := hcc 2 _ rfl
                have hy : y = l0.getD j.toNat z24 := by rw [HY.out, HJ.out]; rfl
                rw [← hy] at e0 e1 e2 hM hcc
                have HYJ := Aside0.mk hy
                clear hy
                have HCC := Aside0.mk hcc
                clear hcc hM hgc hfz hcl
                have hs1 : IntKind.i64.wrap (y.f0 + y.f2) = wrap64 (y.f0 + y.f2) := IntWalk.i64_left _
                have hs2 : IntKind.i64.wrap (y.f1 + y.f2) = wrap64 (y.f1 + y.f2) := IntWalk.i64_left _
                go_wp2_with fail
                go_quiet (fail)
                obtain ⟨W2, hW2⟩ : ∃ W, W = W1.drewN nq := ⟨_, rfl⟩
                rw [← hW2]
                have hO2 : Kd.R k24 24 W2 w0.heap.size P0_ (.slice (some ⟨g, 0, none⟩) l0.length c) l0 := by rw [hW2]; exact Kd.R_drewN HO1.out _
                have hB2 : Below w0.heap.size w0 W2 := by rw [hW2]; exact pw_below_drewN HB1.out _
                have hk2 : ∀ i : Nat, W2.heap[i]? = W1.heap[i]? := fun i => by rw [hW2]; rfl
                have hs2z : W2.heap.size = W1.heap.size := by rw [hW2]; rfl
                have y0 : W2.cell? ⟨w.heap.size, 0, none⟩ = some (.int .i64 a1_0) := by rw [hW2]; exact hx0
                have y1 : W2.cell? ⟨w.heap.size, 1, none⟩ = some (.int .i64 a1_1) := by rw [hW2]; exact hx1
                have y2 : W2.cell? ⟨w.heap.size, 2, none⟩ = some (.int .i64 a1_2) := by rw [hW2]; exact hx2
                have HO2 := Aside0.mk hO2
                have HB2 := Aside0.mk hB2
                have HK2 := Aside0.mk hk2
                have HS2 := Aside0.mk hs2z
                clear hW2 hO2 hB2 hk2 hs2z hx0 hx1 hx2
                go_wp2_with (at_builtin; refine Kd.R_append k24 (w0 := w0) (W := W2) w0.heap.size rfl (.tmp 86) (.tmp 88) 22 24 (.agg #[(.int .i64 0), (.int .i64 0), (.int .i64 0)]) 24 rfl Try.underlying22 info24 rfl (by decide) (by omega) (.slice (some ⟨g, 0, none⟩) l0.length c) l0 (⟨a1_0, a1_1, a1_2⟩ : S24) [.int .i64 a1_0, .int .i64 a1_1, .int .i64 a1_2] (fun k => P0_ k ∨ w.heap.size ≤ k) (fun _ => False) rfl rfl ?aP (fun _ hk => hk.elim) ?aF ?aO ?aB ?aS ?aL ?_; (case aP => exact k24_mkM _ _ _ (⟨a1_0, a1_1, a1_2⟩ : S24)); (case aF => intro k hk; exact Or.inr (Nat.le_trans (by rw [HS2.out, HSZ.out]; omega) hk)); (case aO => exact (Kd.R_mono HO2.out (fun k hk => .inl hk))); (case aB => exact HB2.out); (case aS => rw [HS2.out, HSZ.out]; have := HW0.out; omega); (case aL => omega); intro v1 w3 hO3 hB3 hg3 hat3; have HO3 := Aside0.mk hO3; have HB3 := Aside0.mk hB3; have HG3 := Aside0.mk hg3; clear hO3 hB3 hg3 hat3)
                go_ret
                refine ⟨v1, rfl, ?_, HB3.out, ?_, fun i hi hP => ?_⟩
                · rw [HAG.out]
                  exact HO3.out
                · have h1 := HG3.out.size
                  have := HS2.out
                  have := HSZ.out
                  omega
                · have h2 := HSZ.out
                  have h3 := HS2.out
                  rw [HG3.out.block i (show i < W2.heap.size by omega) (fun e => hP (HO0.out.1 i e.symm))]
                  exact (HK2.out i).trans (HKP.out i hi)
        · have b0 : (wrap64 (y.f0 + y.f2) == a1_0) = false := beq_eq_false_iff_ne.mpr h0
          have d0 : (wrap64 (y.f0 + y.f2) != a1_0) = true := bne_iff_ne.mpr h0
          clear h0
          have hgo : extent_goesOn.f y.f0 y.f1 y.f2 a1_0 a1_1 a1_2 = some false := by simp [extent_goesOn.f, b0]
          rw [hgo] at hag
          rw [if_neg (by simp)] at hag
          have HAG := Aside0.mk hag
          clear hag hgo
          go_enter Try.func99, Try.ntmps99
          go_wp2_with fail
          obtain ⟨W1, hW1⟩ : ∃ W, W = w.alloc (.cells #[.int .i64 a1_0, .int .i64 a1_1, .int .i64 a1_2] 24) := ⟨_, rfl⟩
          rw [← hW1]
          have hbx : W1.heap[w.heap.size]? = some (.cells #[.int .i64 a1_0, .int .i64 a1_1, .int .i64 a1_2] 24 (0, 0)) := by rw [hW1]; exact blk_new w _
          have hsz : W1.heap.size = w.heap.size + 1 := by rw [hW1]; simp
          have hkp : ∀ i, i < w.heap.size → W1.heap[i]? = w.heap[i]? := fun i hi => by rw [hW1]; exact Below.heap_alloc _ _ _ hi
          have hO1 : Kd.R k24 24 W1 w0.heap.size P0_ (.slice A l0.length c) l0 := by rw [hW1]; exact Kd.R_alloc HO0.out _
          have hB1 : Below w0.heap.size w0 W1 := by rw [hW1]; exact HB0.out.alloc HW0.out _
          clear hW1
          have hx0 : W1.cell? ⟨w.heap.size, 0, none⟩ = some (.int .i64 a1_0) := (blk_cell hbx 0).trans rfl
          have hx1 : W1.cell? ⟨w.heap.size, 1, none⟩ = some (.int .i64 a1_1) := (blk_cell hbx 1).trans rfl
          have hx2 : W1.cell? ⟨w.heap.size, 2, none⟩ = some (.int .i64 a1_2) := (blk_cell hbx 2).trans rfl
          have HSZ := Aside0.mk hsz
          have HKP := Aside0.mk hkp
          have HO1 := Aside0.mk hO1
          have HB1 := Aside0.mk hB1
          clear hsz hkp hO1 hB1 hbx
          obtain ⟨g, cap, hv, hgb, hgl, cells, hgc⟩ := Kd.R_form HO1.out hn1
          injection hv with hv1 _ hv2
          subst hv1 hv2
          obtain ⟨j, hj⟩ : ∃ j : Int, j = (l0.length : Int) - 1 := ⟨_, rfl⟩
          have hi0 : 0 ≤ j := by omega
          have hi1 : j < (l0.length : Int) := by omega
          have hge : decide (0 ≤ j) = true := decide_eq_true hi0
          have hwr : IntKind.i64.wrap ((l0.length : Int) - 1) = j := by rw [hj]; exact IntWalk.i64_in _ (by omega)
          have hwr2 : (l0.length : Int) - 1 = j := hj.symm
          have hwr3 : IntKind.i64.wrap j = j := IntWalk.i64_in _ (by omega)
          have HJ := Aside0.mk hj
          clear hj
          obtain ⟨ce, hcl, hM, hcc, hfz⟩ := Kd.R_elem HO1.out z24 j hi0 hi1
          obtain rfl := k24_openM hM
          have e0 : W1.cell? ⟨g, j.toNat * 3, none⟩ = some (.int .i64 (l0.getD j.toNat z24).f0) := hcc 0 _ rfl
          have e1 : W1.cell? ⟨g, j.toNat * 3 + 1, none⟩ = some (.int .i64 (l0.getD j.toNat z24).f1) := hcc 1 _ rfl
          have e2 : W1.cell? ⟨g, j.toNat * 3 + 2, none⟩ = some (.int .i64 (l0.getD j.toNat z24).f2) := hcc 2 _ rfl
          have hy : y = l0.getD j.toNat z24 := by rw [HY.out, HJ.out]; rfl
          rw [← hy] at e0 e1 e2 hM hcc
          have HYJ := Aside0.mk hy
          clear hy
          have HCC := Aside0.mk hcc
          clear hcc hM hgc hfz hcl
          have hs1 : IntKind.i64.wrap (y.f0 + y.f2) = wrap64 (y.f0 + y.f2) := IntWalk.i64_left _
          have hs2 : IntKind.i64.wrap (y.f1 + y.f2) = wrap64 (y.f1 + y.f2) := IntWalk.i64_left _
          go_wp2_with fail
          go_quiet (fail)
          obtain ⟨W2, hW2⟩ : ∃ W, W = W1.drewN nq := ⟨_, rfl⟩
          rw [← hW2]
          have hO2 : Kd.R k24 24 W2 w0.heap.size P0_ (.slice (some ⟨g, 0, none⟩) l0.length c) l0 := by rw [hW2]; exact Kd.R_drewN HO1.out _
          have hB2 : Below w0.heap.size w0 W2 := by rw [hW2]; exact pw_below_drewN HB1.out _
          have hk2 : ∀ i : Nat, W2.heap[i]? = W1.heap[i]? := fun i => by rw [hW2]; rfl
          have hs2z : W2.heap.size = W1.heap.size := by rw [hW2]; rfl
          have y0 : W2.cell? ⟨w.heap.size, 0, none⟩ = some (.int .i64 a1_0) := by rw [hW2]; exact hx0
          have y1 : W2.cell? ⟨w.heap.size, 1, none⟩ = some (.int .i64 a1_1) := by rw [hW2]; exact hx1
          have y2 : W2.cell? ⟨w.heap.size, 2, none⟩ = some (.int .i64 a1_2) := by rw [hW2]; exact hx2
          have HO2 := Aside0.mk hO2
          have HB2 := Aside0.mk hB2
          have HK2 := Aside0.mk hk2
          have HS2 := Aside0.mk hs2z
          clear hW2 hO2 hB2 hk2 hs2z hx0 hx1 hx2
          go_wp2_with (at_builtin; refine Kd.R_append k24 (w0 := w0) (W := W2) w0.heap.size rfl (.tmp 86) (.tmp 88) 22 24 (.agg #[(.int .i64 0), (.int .i64 0), (.int .i64 0)]) 24 rfl Try.underlying22 info24 rfl (by decide) (by omega) (.slice (some ⟨g, 0, none⟩) l0.length c) l0 (⟨a1_0, a1_1, a1_2⟩ : S24) [.int .i64 a1_0, .int .i64 a1_1, .int .i64 a1_2] (fun k => P0_ k ∨ w.heap.size ≤ k) (fun _ => False) rfl rfl ?aP (fun _ hk => hk.elim) ?aF ?aO ?aB ?aS ?aL ?_; (case aP => exact k24_mkM _ _ _ (⟨a1_0, a1_1, a1_2⟩ : S24)); (case aF => intro k hk; exact Or.inr (Nat.le_trans (by rw [HS2.out, HSZ.out]; omega) hk)); (case aO => exact (Kd.R_mono HO2.out (fun k hk => .inl hk))); (case aB => exact HB2.out); (case aS => rw [HS2.out, HSZ.out]; have := HW0.out; omega); (case aL => omega); intro v1 w3 hO3 hB3 hg3 hat3; have HO3 := Aside0.mk hO3; have HB3 := Aside0.mk hB3; have HG3 := Aside0.mk hg3; clear hO3 hB3 hg3 hat3)
          go_ret
          refine ⟨v1, rfl, ?_, HB3.out, ?_, fun i hi hP => ?_⟩
          · rw [HAG.out]
            exact HO3.out
          · have h1 := HG3.out.size
            have := HS2.out
            have := HSZ.out
            omega
          · have h2 := HSZ.out
            have h3 := HS2.out
            rw [HG3.out.block i (show i < W2.heap.size by omega) (fun e => hP (HO0.out.1 i e.symm))]
            exact (HK2.out i).trans (HKP.out i hi)
  · cases h
def flagstoneref05_without.l0 : Nat → List (S24) → Int → Int → List (S24) → Int → Option ((List (S24)))
 | 0, _, _, _, _, _ => none
 | k + 1, x0, x1, x2, x7, x8 => if x8 < (x0.length : Int) then (if 0 ≤ x8 then (if (mn (wrap64 (((rd_T24 x0 x8).f0) + ((rd_T24 x0 x8).f2))) (mx ((rd_T24 x0 x8).f0) x1)) ≥ (mx ((rd_T24 x0 x8).f0) (mn (wrap64 (((rd_T24 x0 x8).f0) + ((rd_T24 x0 x8).f2))) (wrap64 (x1 + x2)))) then ((flagstoneref05_Add.f x7 ((rd_T24 x0 x8).f0) ((rd_T24 x0 x8).f1) ((rd_T24 x0 x8).f2)).bind fun t103 => (flagstoneref05_without.l0 k x0 x1 x2 t103 (wrap64 (x8 + 1)))) else ((flagstoneref05_Add.f x7 ((rd_T24 x0 x8).f0) ((rd_T24 x0 x8).f1) (wrap64 ((mn (wrap64 (((rd_T24 x0 x8).f0) + ((rd_T24 x0 x8).f2))) (mx ((rd_T24 x0 x8).f0) x1)) - ((rd_T24 x0 x8).f0)))).bind fun t106 => ((flagstoneref05_Add.f t106 (mx ((rd_T24 x0 x8).f0) (mn (wrap64 (((rd_T24 x0 x8).f0) + ((rd_T24 x0 x8).f2))) (wrap64 (x1 + x2)))) (wrap64 ((wrap64 (((rd_T24 x0 x8).f1) + (mx ((rd_T24 x0 x8).f0) (mn (wrap64 (((rd_T24 x0 x8).f0) + ((rd_T24 x0 x8).f2))) (wrap64 (x1 + x2)))))) - ((rd_T24 x0 x8).f0))) (wrap64 ((wrap64 (((rd_T24 x0 x8).f0) + ((rd_T24 x0 x8).f2))) - (mx ((rd_T24 x0 x8).f0) (mn (wrap64 (((rd_T24 x0 x8).f0) + ((rd_T24 x0 x8).f2))) (wrap64 (x1 + x2))))))).bind fun t109 => (flagstoneref05_without.l0 k x0 x1 x2 t109 (wrap64 (x8 + 1)))))) else (none)) else (some x7)
def flagstoneref05_without.f (k : Nat) (l0 : List (S24)) (a1 : Int) (a2 : Int) : Option ((List (S24))) := flagstoneref05_without.l0 k l0 a1 a2 ([] : List (S24)) 0
theorem flagstoneref05_without.mono_l : ∀ k, (∀ y0 y1 y2 y3 y4, LeO (flagstoneref05_without.l0 k y0 y1 y2 y3 y4) (flagstoneref05_without.l0 (k + 1) y0 y1 y2 y3 y4))
 | 0 => fun _ _ _ _ _ r h => by simp [flagstoneref05_without.l0] at h
 | k + 1 => by
  have ih0 := flagstoneref05_without.mono_l k
  ·intro y0 y1 y2 y3 y4
   unfold flagstoneref05_without.l0
   repeat' first
   | (with_reducible exact ih0 _ _ _ _ _)
   | (with_reducible exact LeO.refl _)
   | (with_reducible exact LeO.none _)
   | (with_reducible refine LeO.ite ?_ ?_)
   | (with_reducible refine LeO.bind ?_ (fun _ => ?_))
   | exact ih0 _ _ _ _ _
   | exact LeO.none _
   | refine LeO.ite ?_ ?_
   | refine LeO.bind ?_ (fun _ => ?_)
theorem flagstoneref05_without.mono : ∀ a0 a1 a2 k, LeO (flagstoneref05_without.f k a0 a1 a2) (flagstoneref05_without.f (k + 1) a0 a1 a2) := by
 intro a0 a1 a2 k
 have ih0 := flagstoneref05_without.mono_l k
 unfold flagstoneref05_without.f
 repeat' first
  | (with_reducible exact ih0 _ _ _ _ _)
  | (with_reducible exact LeO.refl _)
  | (with_reducible exact LeO.none _)
  | (with_reducible refine LeO.ite ?_ ?_)
  | (with_reducible refine LeO.bind ?_ (fun _ => ?_))
  | exact ih0 _ _ _ _ _
  | exact LeO.none _
  | refine LeO.ite ?_ ?_
  | refine LeO.bind ?_ (fun _ => ?_)
set_option maxHeartbeats 8000000 in
set_option maxRecDepth 100000 in
theorem flagstoneref05_without.calls (k : Nat) (A0 : Option Addr) (c0 : Nat) (l0 : List (S24)) (a1 : Int) (a2 : Int) (r : List (S24)) (w : World) (hr0 : Kd.C k24 w A0 l0.length l0) (hc0 : l0.length ≤ c0) (h : flagstoneref05_without.f k l0 a1 a2 = some r) :
 Calls Try.prog 91 #[.slice A0 l0.length c0, .int .i64 a1, .int .i64 a2] w fun e w' => ∃ v0_ : Value, e = .returned (v0_) ∧ Kd.R k24 24 w' w.heap.size (fun _ => True) v0_ r ∧ Below w.heap.size w w' := by
 have hu24 := Try.underlying24
 have HR0 := Aside0.mk hr0
 have HC0 := Aside0.mk hc0
 clear hr0 hc0
 have HB := Aside0.mk (Below.refl w.heap.size w)
 have H : (flagstoneref05_without.l0 k l0 a1 a2 ([] : List (S24)) 0) = some r := h
 clear h
 have H' := Aside0.mk H
 clear H
 go_enter Try.func91, Try.ntmps91
 go_wp2
 repeat (go_quiet (fail); try go_wp2)
 go_loopg [7, 8] k (fun kq v7 v8 w' => ∃ (x7_1 : List (S24)) (x8_1 : Int), v8 = .int .i64 x8_1 ∧ Aside0 (flagstoneref05_without.l0 kq l0 a1 a2 x7_1 x8_1 = some r) ∧ Aside0 (kq ≤ k) ∧ Aside0 (Kd.R k24 24 w' w.heap.size (fun _ => True) v7 x7_1) ∧ Aside0 (Below w.heap.size w w'))
 case atStart => exact ⟨(([] : List (S24))), (0), (by first | rfl | (simp; done) | (simp [*]; done)), H', ⟨Nat.le_refl _⟩, ⟨by first | exact Kd.R_nil _ _ _ _ _ | exact Kd.N_nil _ _ _ _ _ | exact Kd.V_nil _ _ _ _ _ | exact Kd.Q_nil _ _ _ _ _ | exact Kd.S_nil _ _ _ _ _⟩, ⟨by repeat (first | (with_reducible first | exact HB.out | apply below_alloc | apply pw_below_drewN | apply below_drew1) | exact HB.out)⟩⟩
 case round =>
  clear H'
  try clear p2
  obtain ⟨x7_1, x8_1, rfl, HA, HK1, HO_7, HB⟩ := hrel
  cases gk with
  | zero => exact absurd HA.out (by simp [flagstoneref05_without.l0])
  | succ k1 =>
   have H := HA.out
   clear HA
   simp only [flagstoneref05_without.l0] at H
   by_cases c4 : x8_1 < (l0.length : Int)
   ·rw [if_pos c4] at H
    have c4b0 : decide (x8_1 < (l0.length : Int)) = true := decide_eq_true c4
    clear c4
    by_cases c5 : 0 ≤ x8_1
    ·rw [if_pos c5] at H
     have c5b0 : decide (0 ≤ x8_1) = true := decide_eq_true c5
     clear c5
     obtain ⟨ji6, hji6⟩ : ∃ j_ : Int, (mx ((rd_T24 l0 x8_1).f0) a1) = j_ := ⟨_, rfl⟩
     replace H : (if (mn (wrap64 (((rd_T24 l0 x8_1).f0) + ((rd_T24 l0 x8_1).f2))) (ji6)) ≥ (mx ((rd_T24 l0 x8_1).f0) (mn (wrap64 (((rd_T24 l0 x8_1).f0) + ((rd_T24 l0 x8_1).f2))) (wrap64 (a1 + a2)))) then ((flagstoneref05_Add.f x7_1 ((rd_T24 l0 x8_1).f0) ((rd_T24 l0 x8_1).f1) ((rd_T24 l0 x8_1).f2)).bind fun t103 => (flagstoneref05_without.l0 k1 l0 a1 a2 t103 (wrap64 (x8_1 + 1)))) else ((flagstoneref05_Add.f x7_1 ((rd_T24 l0 x8_1).f0) ((rd_T24 l0 x8_1).f1) (wrap64 ((mn (wrap64 (((rd_T24 l0 x8_1).f0) + ((rd_T24 l0 x8_1).f2))) (ji6)) - ((rd_T24 l0 x8_1).f0)))).bind fun t106 => ((flagstoneref05_Add.f t106 (mx ((rd_T24 l0 x8_1).f0) (mn (wrap64 (((rd_T24 l0 x8_1).f0) + ((rd_T24 l0 x8_1).f2))) (wrap64 (a1 + a2)))) (wrap64 ((wrap64 (((rd_T24 l0 x8_1).f1) + (mx ((rd_T24 l0 x8_1).f0) (mn (wrap64 (((rd_T24 l0 x8_1).f0) + ((rd_T24 l0 x8_1).f2))) (wrap64 (a1 + a2)))))) - ((rd_T24 l0 x8_1).f0))) (wrap64 ((wrap64 (((rd_T24 l0 x8_1).f0) + ((rd_T24 l0 x8_1).f2))) - (mx ((rd_T24 l0 x8_1).f0) (mn (wrap64 (((rd_T24 l0 x8_1).f0) + ((rd_T24 l0 x8_1).f2))) (wrap64 (a1 + a2))))))).bind fun t109 => (flagstoneref05_without.l0 k1 l0 a1 a2 t109 (wrap64 (x8_1 + 1)))))) = some r := by first | (rw [hji6] at H; exact H) | (simp only [hji6] at H ⊢; exact H)
     have hji6_ : (if ((rd_T24 l0 x8_1).f0) < a1 then a1 else ((rd_T24 l0 x8_1).f0)) = ji6 := hji6
     obtain ⟨ji7, hji7⟩ : ∃ j_ : Int, (mn (wrap64 (((rd_T24 l0 x8_1).f0) + ((rd_T24 l0 x8_1).f2))) (ji6)) = j_ := ⟨_, rfl⟩
     replace H : (if (ji7) ≥ (mx ((rd_T24 l0 x8_1).f0) (mn (wrap64 (((rd_T24 l0 x8_1).f0) + ((rd_T24 l0 x8_1).f2))) (wrap64 (a1 + a2)))) then ((flagstoneref05_Add.f x7_1 ((rd_T24 l0 x8_1).f0) ((rd_T24 l0 x8_1).f1) ((rd_T24 l0 x8_1).f2)).bind fun t103 => (flagstoneref05_without.l0 k1 l0 a1 a2 t103 (wrap64 (x8_1 + 1)))) else ((flagstoneref05_Add.f x7_1 ((rd_T24 l0 x8_1).f0) ((rd_T24 l0 x8_1).f1) (wrap64 ((ji7) - ((rd_T24 l0 x8_1).f0)))).bind fun t106 => ((flagstoneref05_Add.f t106 (mx ((rd_T24 l0 x8_1).f0) (mn (wrap64 (((rd_T24 l0 x8_1).f0) + ((rd_T24 l0 x8_1).f2))) (wrap64 (a1 + a2)))) (wrap64 ((wrap64 (((rd_T24 l0 x8_1).f1) + (mx ((rd_T24 l0 x8_1).f0) (mn (wrap64 (((rd_T24 l0 x8_1).f0) + ((rd_T24 l0 x8_1).f2))) (wrap64 (a1 + a2)))))) - ((rd_T24 l0 x8_1).f0))) (wrap64 ((wrap64 (((rd_T24 l0 x8_1).f0) + ((rd_T24 l0 x8_1).f2))) - (mx ((rd_T24 l0 x8_1).f0) (mn (wrap64 (((rd_T24 l0 x8_1).f0) + ((rd_T24 l0 x8_1).f2))) (wrap64 (a1 + a2))))))).bind fun t109 => (flagstoneref05_without.l0 k1 l0 a1 a2 t109 (wrap64 (x8_1 + 1)))))) = some r := by first | (rw [hji7] at H; exact H) | (simp only [hji7] at H ⊢; exact H)
     have hji7_ : (if (ji6) < (IntKind.i64.wrap (((rd_T24 l0 x8_1).f0) + ((rd_T24 l0 x8_1).f2))) then (ji6) else (IntKind.i64.wrap (((rd_T24 l0 x8_1).f0) + ((rd_T24 l0 x8_1).f2)))) = ji7 := by simp only [Go.Proofs.YtkkfkdncddbaeaaW.PrintLast.i64_w]; exact hji7
     obtain ⟨ji8, hji8⟩ : ∃ j_ : Int, (mn (wrap64 (((rd_T24 l0 x8_1).f0) + ((rd_T24 l0 x8_1).f2))) (wrap64 (a1 + a2))) = j_ := ⟨_, rfl⟩
     replace H : (if (ji7) ≥ (mx ((rd_T24 l0 x8_1).f0) (ji8)) then ((flagstoneref05_Add.f x7_1 ((rd_T24 l0 x8_1).f0) ((rd_T24 l0 x8_1).f1) ((rd_T24 l0 x8_1).f2)).bind fun t103 => (flagstoneref05_without.l0 k1 l0 a1 a2 t103 (wrap64 (x8_1 + 1)))) else ((flagstoneref05_Add.f x7_1 ((rd_T24 l0 x8_1).f0) ((rd_T24 l0 x8_1).f1) (wrap64 ((ji7) - ((rd_T24 l0 x8_1).f0)))).bind fun t106 => ((flagstoneref05_Add.f t106 (mx ((rd_T24 l0 x8_1).f0) (ji8)) (wrap64 ((wrap64 (((rd_T24 l0 x8_1).f1) + (mx ((rd_T24 l0 x8_1).f0) (ji8)))) - ((rd_T24 l0 x8_1).f0))) (wrap64 ((wrap64 (((rd_T24 l0 x8_1).f0) + ((rd_T24 l0 x8_1).f2))) - (mx ((rd_T24 l0 x8_1).f0) (ji8))))).bind fun t109 => (flagstoneref05_without.l0 k1 l0 a1 a2 t109 (wrap64 (x8_1 + 1)))))) = some r := by first | (rw [hji8] at H; exact H) | (simp only [hji8] at H ⊢; exact H)
     have hji8_ : (if (IntKind.i64.wrap (a1 + a2)) < (IntKind.i64.wrap (((rd_T24 l0 x8_1).f0) + ((rd_T24 l0 x8_1).f2))) then (IntKind.i64.wrap (a1 + a2)) else (IntKind.i64.wrap (((rd_T24 l0 x8_1).f0) + ((rd_T24 l0 x8_1).f2)))) = ji8 := by simp only [Go.Proofs.YtkkfkdncddbaeaaW.PrintLast.i64_w]; exact hji8
     obtain ⟨ji9, hji9⟩ : ∃ j_ : Int, (mx ((rd_T24 l0 x8_1).f0) (ji8)) = j_ := ⟨_, rfl⟩
     replace H : (if (ji7) ≥ (ji9) then ((flagstoneref05_Add.f x7_1 ((rd_T24 l0 x8_1).f0) ((rd_T24 l0 x8_1).f1) ((rd_T24 l0 x8_1).f2)).bind fun t103 => (flagstoneref05_without.l0 k1 l0 a1 a2 t103 (wrap64 (x8_1 + 1)))) else ((flagstoneref05_Add.f x7_1 ((rd_T24 l0 x8_1).f0) ((rd_T24 l0 x8_1).f1) (wrap64 ((ji7) - ((rd_T24 l0 x8_1).f0)))).bind fun t106 => ((flagstoneref05_Add.f t106 (ji9) (wrap64 ((wrap64 (((rd_T24 l0 x8_1).f1) + (ji9))) - ((rd_T24 l0 x8_1).f0))) (wrap64 ((wrap64 (((rd_T24 l0 x8_1).f0) + ((rd_T24 l0 x8_1).f2))) - (ji9)))).bind fun t109 => (flagstoneref05_without.l0 k1 l0 a1 a2 t109 (wrap64 (x8_1 + 1)))))) = some r := by first | (rw [hji9] at H; exact H) | (simp only [hji9] at H ⊢; exact H)
     have hji9_ : (if ((rd_T24 l0 x8_1).f0) < (ji8) then (ji8) else ((rd_T24 l0 x8_1).f0)) = ji9 := hji9
     by_cases c10 : (ji7) ≥ (ji9)
     ·rw [if_pos c10] at H
      have c10b0 : decide ((ji9) ≤ (ji7)) = true := decide_eq_true c10
      clear c10
      replace H := Option.bind_eq_some_iff.mp H
      obtain ⟨t103, A110, H⟩ := H
      replace H : (flagstoneref05_without.l0 k1 l0 a1 a2 t103 (wrap64 (x8_1 + 1))) = some r := H
      have A11 := Aside0.mk A110
      clear A110
      have H' := Aside0.mk H
      clear H
      have p101 : 0 ≤ (x8_1 : Int) := of_decide_eq_true (by first | (with_reducible assumption) | assumption)
      have q101 : x8_1 < (l0.length : Int) := of_decide_eq_true (by first | (with_reducible assumption) | assumption)
      obtain ⟨ad101, e101, hx101_0, hx101_1, hx101_2⟩ := at_T24 HR0.out x8_1 p101 q101
      cases e101
      replace hx101_0 := (HB.out.cell (World.block_lt_of_cell? w _ hx101_0)).trans hx101_0
      replace hx101_1 := (HB.out.cell (World.block_lt_of_cell? w _ hx101_1)).trans hx101_1
      replace hx101_2 := (HB.out.cell (World.block_lt_of_cell? w _ hx101_2)).trans hx101_2
      replace p101 := eq_true p101
      replace q101 := eq_true q101
      go_wp2_with (first | ((with_reducible refine gate_dst (N := 9) rfl ?_); refine box_event ?hg (N := 9) ?hd (cs := #[.int .i64 0, .int .i64 0, .int .i64 0]) (t := 24) ?hr ?_; (case hd => rfl); (case hg => rfl); (case hr => first | (go_simp; done) | (go_simp; rfl)); intro gb102 hg w12 hbox hb; have n0_ := Aside0.mk (Kd.R_below (Kd.R_elderB (by (with_reducible repeat (first | apply Kd.R_alloc | apply Kd.R_drewN | apply Kd.R_drew)); exact HO_7.out) gb102 (Nat.le_of_eq hg.symm)) hb); have n1_ := Aside0.mk (below_step (by repeat (first | (with_reducible first | exact HB.out | apply below_alloc | apply pw_below_drewN | apply below_drew1) | exact HB.out)) hb); have n2_ := Aside0.mk (hbox); have n3_ := Aside0.mk ((by rw [hg]; exact (below_size (by repeat (first | (with_reducible first | exact HB.out | apply below_alloc | apply pw_below_drewN | apply below_drew1) | exact HB.out))) : w.heap.size ≤ gb102)); have n4_ := Aside0.mk ((by rw [hg]; exact (below_size (by repeat (first | (with_reducible first | exact HB.out | apply below_alloc | apply pw_below_drewN | apply below_drew1) | exact HB.out))) : w.heap.size ≤ gb102)); clear HO_7; clear HB; have HO_7 := n0_; have HB := n1_; have BK102 := n2_; have GW102 := n3_; have GE102 := n4_; clear n0_ n1_ n2_ n3_ n4_; clear hb hbox hg; have hcz13_0 : w12.cell? ⟨gb102, 0, none⟩ = some (.int .i64 0) := (blk_cell BK102.out 0).trans rfl; have hcz13_1 : w12.cell? ⟨gb102, 1, none⟩ = some (.int .i64 0) := (blk_cell BK102.out 1).trans rfl; have hcz13_2 : w12.cell? ⟨gb102, 2, none⟩ = some (.int .i64 0) := (blk_cell BK102.out 2).trans rfl; have hfz13_0 := blk_frozen BK102.out 0; have hfz13_1 := blk_frozen BK102.out 1; have hfz13_2 := blk_frozen BK102.out 2) | ((with_reducible refine gate_store (t := 24) (p := 9) rfl ?_); (try (rw [drewN_self w12]; generalize hq_ : World.drewN w12 _ = w12; have n0_ := Aside0.mk (Kd.R_at hq_ HO_7.out); have n1_ := Aside0.mk (blk_at hq_ BK102.out); have n2_ := Aside0.mk (below_at hq_ HB.out); clear hq_ HO_7 BK102 HB; have HO_7 := n0_; have BK102 := n1_; have HB := n2_; clear n0_ n1_ n2_)); refine store_event (t := 24) (p := 9) (v := ?vo_w14) (w1 := (((w12.setCell ⟨gb102, 0, none⟩ (.int .i64 ((rd_T24 l0 x8_1).f0))).setCell ⟨gb102, 1, none⟩ (.int .i64 ((rd_T24 l0 x8_1).f1))).setCell ⟨gb102, 2, none⟩ (.int .i64 ((rd_T24 l0 x8_1).f2)))) ?hg ?ho ?hn ?hr ?_; (case ho => rfl); (case hg => rfl); (case hn => rfl); (case hr => first | (go_simp; done) | (go_simp; rfl)); intro w14 hw; have n0_ : Aside0 (Kd.R k24 24 w14 w.heap.size (fun k_ => k_ ≠ gb102) u7 x7_1) := ⟨(by rw [hw]; exact (by (with_reducible repeat (first | apply Kd.R_alloc | apply Kd.R_drewN | apply Kd.R_drew)); exact Kd.R_mono (Kd.R_far (p := ⟨gb102, 2, none⟩) (Kd.R_far (p := ⟨gb102, 1, none⟩) (Kd.R_far (p := ⟨gb102, 0, none⟩) (Kd.R_mono HO_7.out (fun k_ hk => (⟨hk, hk.2⟩ : _ ∧ k_ ≠ gb102))) (fun _ hk => hk.2) (.int .i64 ((rd_T24 l0 x8_1).f0))) (fun _ hk => hk.2) (.int .i64 ((rd_T24 l0 x8_1).f1))) (fun _ hk => hk.2) (.int .i64 ((rd_T24 l0 x8_1).f2))) (fun _ hk => hk.1.2)))⟩; have n1_ : Aside0 (w14.heap[gb102]? = some (.cells #[.int .i64 ((rd_T24 l0 x8_1).f0), .int .i64 ((rd_T24 l0 x8_1).f1), .int .i64 ((rd_T24 l0 x8_1).f2)] 24 (0, 0))) := ⟨(by rw [hw]; exact (by (with_reducible repeat (first | refine blk_drewN ?_ _ | refine blk_drew ?_ | refine blk_alloc ?_ _)); refine blk_put (cs := #[.int .i64 ((rd_T24 l0 x8_1).f0), .int .i64 ((rd_T24 l0 x8_1).f1), .int .i64 0]) ?_ 2 _ rfl; (with_reducible repeat (first | refine blk_drewN ?_ _ | refine blk_drew ?_ | refine blk_alloc ?_ _)); refine blk_put (cs := #[.int .i64 ((rd_T24 l0 x8_1).f0), .int .i64 0, .int .i64 0]) ?_ 1 _ rfl; (with_reducible repeat (first | refine blk_drewN ?_ _ | refine blk_drew ?_ | refine blk_alloc ?_ _)); refine blk_put (cs := #[.int .i64 0, .int .i64 0, .int .i64 0]) ?_ 0 _ rfl; (with_reducible repeat (first | refine blk_drewN ?_ _ | refine blk_drew ?_ | refine blk_alloc ?_ _)); exact BK102.out))⟩; have n2_ : Aside0 (Below w.heap.size w w14) := ⟨(by rw [hw]; exact (by repeat (first | (with_reducible first | exact HB.out | apply below_alloc | apply pw_below_drewN | apply below_drew1 | refine below_set ?_ GE102.out) | exact HB.out)))⟩; clear hw; clear HO_7; clear BK102; clear HB; have HO_7 := n0_; have BK102 := n1_; have HB := n2_; clear n0_ n1_ n2_; have hcz15_0 : w14.cell? ⟨gb102, 0, none⟩ = some (.int .i64 ((rd_T24 l0 x8_1).f0)) := (blk_cell BK102.out 0).trans rfl; have hcz15_1 : w14.cell? ⟨gb102, 1, none⟩ = some (.int .i64 ((rd_T24 l0 x8_1).f1)) := (blk_cell BK102.out 1).trans rfl; have hcz15_2 : w14.cell? ⟨gb102, 2, none⟩ = some (.int .i64 ((rd_T24 l0 x8_1).f2)) := (blk_cell BK102.out 2).trans rfl; have hfz15_0 := blk_frozen BK102.out 0; have hfz15_1 := blk_frozen BK102.out 1; have hfz15_2 := blk_frozen BK102.out 2; obtain ⟨Ao16, co16, eo16⟩ := Kd.R_slice HO_7.out; subst eo16) | (go_at_call 99; (with_reducible refine (flagstoneref05_Add.calls (fun k_ => some k_ = (.slice Ao16 x7_1.length co16 : Value).ownBlock) (.slice Ao16 x7_1.length co16) x7_1 ((rd_T24 l0 x8_1).f0) ((rd_T24 l0 x8_1).f1) ((rd_T24 l0 x8_1).f2) t103 w _ ?side1 ?side2 A11.out).mono ?_); (case side1 => repeat (first | (with_reducible first | exact HB.out | apply below_alloc | apply pw_below_drewN | apply below_drew1 | refine below_set ?_ GE102.out) | exact HB.out)); (case side2 => exact Kd.R_tight rfl HO_7.out); rintro e w17 ⟨v104, rfl, ho0, hb, hkp⟩; have n0_ := Aside0.mk (blk_kept (by (with_reducible repeat (first | refine blk_drewN ?_ _ | refine blk_drew ?_ | refine blk_alloc ?_ _)); exact BK102.out) hkp (fun hs_ => (fun e_ => (Kd.R_away HO_7.out (fun _ hk => hk)) e_) hs_)); have n1_ := Aside0.mk (Kd.R_mono (ok' := fun k_ => k_ ≠ gb102) ho0 (fun k_ hk_ => Or.elim hk_ (fun hs_ => fun e_ => (Kd.R_away HO_7.out (fun _ hk => hk)) (by rw [← e_]; exact hs_)) (fun hn_ => (Kd.freshB (g := gb102) (o := .cells #[.int .i64 ((rd_T24 l0 x8_1).f0), .int .i64 ((rd_T24 l0 x8_1).f1), .int .i64 ((rd_T24 l0 x8_1).f2)] 24 (0, 0)) (by (with_reducible repeat (first | refine blk_drewN ?_ _ | refine blk_drew ?_ | refine blk_alloc ?_ _)); exact BK102.out) k_ hn_)))); have n2_ := Aside0.mk (hb); clear BK102; clear HB; clear HO_7; have BK102 := n0_; have HO105 := n1_; have HB := n2_; clear n0_ n1_ n2_; (try clear hb); (try clear hkp); (try clear ho0)))
      repeat (go_quiet (first | ((with_reducible refine gate_dst (N := 9) rfl ?_); refine box_event ?hg (N := 9) ?hd (cs := #[.int .i64 0, .int .i64 0, .int .i64 0]) (t := 24) ?hr ?_; (case hd => rfl); (case hg => rfl); (case hr => first | (go_simp; done) | (go_simp; rfl)); intro gb102 hg w12 hbox hb; have n0_ := Aside0.mk (Kd.R_below (Kd.R_elderB (by (with_reducible repeat (first | apply Kd.R_alloc | apply Kd.R_drewN | apply Kd.R_drew)); exact HO_7.out) gb102 (Nat.le_of_eq hg.symm)) hb); have n1_ := Aside0.mk (below_step (by repeat (first | (with_reducible first | exact HB.out | apply below_alloc | apply pw_below_drewN | apply below_drew1) | exact HB.out)) hb); have n2_ := Aside0.mk (hbox); have n3_ := Aside0.mk ((by rw [hg]; exact (below_size (by repeat (first | (with_reducible first | exact HB.out | apply below_alloc | apply pw_below_drewN | apply below_drew1) | exact HB.out))) : w.heap.size ≤ gb102)); have n4_ := Aside0.mk ((by rw [hg]; exact (below_size (by repeat (first | (with_reducible first | exact HB.out | apply below_alloc | apply pw_below_drewN | apply below_drew1) | exact HB.out))) : w.heap.size ≤ gb102)); clear HO_7; clear HB; have HO_7 := n0_; have HB := n1_; have BK102 := n2_; have GW102 := n3_; have GE102 := n4_; clear n0_ n1_ n2_ n3_ n4_; clear hb hbox hg; have hcz13_0 : w12.cell? ⟨gb102, 0, none⟩ = some (.int .i64 0) := (blk_cell BK102.out 0).trans rfl; have hcz13_1 : w12.cell? ⟨gb102, 1, none⟩ = some (.int .i64 0) := (blk_cell BK102.out 1).trans rfl; have hcz13_2 : w12.cell? ⟨gb102, 2, none⟩ = some (.int .i64 0) := (blk_cell BK102.out 2).trans rfl; have hfz13_0 := blk_frozen BK102.out 0; have hfz13_1 := blk_frozen BK102.out 1; have hfz13_2 := blk_frozen BK102.out 2) | ((with_reducible refine gate_store (t := 24) (p := 9) rfl ?_); (try (rw [drewN_self w12]; generalize hq_ : World.drewN w12 _ = w12; have n0_ := Aside0.mk (Kd.R_at hq_ HO_7.out); have n1_ := Aside0.mk (blk_at hq_ BK102.out); have n2_ := Aside0.mk (below_at hq_ HB.out); clear hq_ HO_7 BK102 HB; have HO_7 := n0_; have BK102 := n1_; have HB := n2_; clear n0_ n1_ n2_)); refine store_event (t := 24) (p := 9) (v := ?vo_w14) (w1 := (((w12.setCell ⟨gb102, 0, none⟩ (.int .i64 ((rd_T24 l0 x8_1).f0))).setCell ⟨gb102, 1, none⟩ (.int .i64 ((rd_T24 l0 x8_1).f1))).setCell ⟨gb102, 2, none⟩ (.int .i64 ((rd_T24 l0 x8_1).f2)))) ?hg ?ho ?hn ?hr ?_; (case ho => rfl); (case hg => rfl); (case hn => rfl); (case hr => first | (go_simp; done) | (go_simp; rfl)); intro w14 hw; have n0_ : Aside0 (Kd.R k24 24 w14 w.heap.size (fun k_ => k_ ≠ gb102) u7 x7_1) := ⟨(by rw [hw]; exact (by (with_reducible repeat (first | apply Kd.R_alloc | apply Kd.R_drewN | apply Kd.R_drew)); exact Kd.R_mono (Kd.R_far (p := ⟨gb102, 2, none⟩) (Kd.R_far (p := ⟨gb102, 1, none⟩) (Kd.R_far (p := ⟨gb102, 0, none⟩) (Kd.R_mono HO_7.out (fun k_ hk => (⟨hk, hk.2⟩ : _ ∧ k_ ≠ gb102))) (fun _ hk => hk.2) (.int .i64 ((rd_T24 l0 x8_1).f0))) (fun _ hk => hk.2) (.int .i64 ((rd_T24 l0 x8_1).f1))) (fun _ hk => hk.2) (.int .i64 ((rd_T24 l0 x8_1).f2))) (fun _ hk => hk.1.2)))⟩; have n1_ : Aside0 (w14.heap[gb102]? = some (.cells #[.int .i64 ((rd_T24 l0 x8_1).f0), .int .i64 ((rd_T24 l0 x8_1).f1), .int .i64 ((rd_T24 l0 x8_1).f2)] 24 (0, 0))) := ⟨(by rw [hw]; exact (by (with_reducible repeat (first | refine blk_drewN ?_ _ | refine blk_drew ?_ | refine blk_alloc ?_ _)); refine blk_put (cs := #[.int .i64 ((rd_T24 l0 x8_1).f0), .int .i64 ((rd_T24 l0 x8_1).f1), .int .i64 0]) ?_ 2 _ rfl; (with_reducible repeat (first | refine blk_drewN ?_ _ | refine blk_drew ?_ | refine blk_alloc ?_ _)); refine blk_put (cs := #[.int .i64 ((rd_T24 l0 x8_1).f0), .int .i64 0, .int .i64 0]) ?_ 1 _ rfl; (with_reducible repeat (first | refine blk_drewN ?_ _ | refine blk_drew ?_ | refine blk_alloc ?_ _)); refine blk_put (cs := #[.int .i64 0, .int .i64 0, .int .i64 0]) ?_ 0 _ rfl; (with_reducible repeat (first | refine blk_drewN ?_ _ | refine blk_drew ?_ | refine blk_alloc ?_ _)); exact BK102.out))⟩; have n2_ : Aside0 (Below w.heap.size w w14) := ⟨(by rw [hw]; exact (by repeat (first | (with_reducible first | exact HB.out | apply below_alloc | apply pw_below_drewN | apply below_drew1 | refine below_set ?_ GE102.out) | exact HB.out)))⟩; clear hw; clear HO_7; clear BK102; clear HB; have HO_7 := n0_; have BK102 := n1_; have HB := n2_; clear n0_ n1_ n2_; have hcz15_0 : w14.cell? ⟨gb102, 0, none⟩ = some (.int .i64 ((rd_T24 l0 x8_1).f0)) := (blk_cell BK102.out 0).trans rfl; have hcz15_1 : w14.cell? ⟨gb102, 1, none⟩ = some (.int .i64 ((rd_T24 l0 x8_1).f1)) := (blk_cell BK102.out 1).trans rfl; have hcz15_2 : w14.cell? ⟨gb102, 2, none⟩ = some (.int .i64 ((rd_T24 l0 x8_1).f2)) := (blk_cell BK102.out 2).trans rfl; have hfz15_0 := blk_frozen BK102.out 0; have hfz15_1 := blk_frozen BK102.out 1; have hfz15_2 := blk_frozen BK102.out 2; obtain ⟨Ao16, co16, eo16⟩ := Kd.R_slice HO_7.out; subst eo16) | (go_at_call 99; (with_reducible refine (flagstoneref05_Add.calls (fun k_ => some k_ = (.slice Ao16 x7_1.length co16 : Value).ownBlock) (.slice Ao16 x7_1.length co16) x7_1 ((rd_T24 l0 x8_1).f0) ((rd_T24 l0 x8_1).f1) ((rd_T24 l0 x8_1).f2) t103 w _ ?side1 ?side2 A11.out).mono ?_); (case side1 => repeat (first | (with_reducible first | exact HB.out | apply below_alloc | apply pw_below_drewN | apply below_drew1 | refine below_set ?_ GE102.out) | exact HB.out)); (case side2 => exact Kd.R_tight rfl HO_7.out); rintro e w17 ⟨v104, rfl, ho0, hb, hkp⟩; have n0_ := Aside0.mk (blk_kept (by (with_reducible repeat (first | refine blk_drewN ?_ _ | refine blk_drew ?_ | refine blk_alloc ?_ _)); exact BK102.out) hkp (fun hs_ => (fun e_ => (Kd.R_away HO_7.out (fun _ hk => hk)) e_) hs_)); have n1_ := Aside0.mk (Kd.R_mono (ok' := fun k_ => k_ ≠ gb102) ho0 (fun k_ hk_ => Or.elim hk_ (fun hs_ => fun e_ => (Kd.R_away HO_7.out (fun _ hk => hk)) (by rw [← e_]; exact hs_)) (fun hn_ => (Kd.freshB (g := gb102) (o := .cells #[.int .i64 ((rd_T24 l0 x8_1).f0), .int .i64 ((rd_T24 l0 x8_1).f1), .int .i64 ((rd_T24 l0 x8_1).f2)] 24 (0, 0)) (by (with_reducible repeat (first | refine blk_drewN ?_ _ | refine blk_drew ?_ | refine blk_alloc ?_ _)); exact BK102.out) k_ hn_)))); have n2_ := Aside0.mk (hb); clear BK102; clear HB; clear HO_7; have BK102 := n0_; have HO105 := n1_; have HB := n2_; clear n0_ n1_ n2_; (try clear hb); (try clear hkp); (try clear ho0))); try go_wp2_with (first | ((with_reducible refine gate_dst (N := 9) rfl ?_); refine box_event ?hg (N := 9) ?hd (cs := #[.int .i64 0, .int .i64 0, .int .i64 0]) (t := 24) ?hr ?_; (case hd => rfl); (case hg => rfl); (case hr => first | (go_simp; done) | (go_simp; rfl)); intro gb102 hg w12 hbox hb; have n0_ := Aside0.mk (Kd.R_below (Kd.R_elderB (by (with_reducible repeat (first | apply Kd.R_alloc | apply Kd.R_drewN | apply Kd.R_drew)); exact HO_7.out) gb102 (Nat.le_of_eq hg.symm)) hb); have n1_ := Aside0.mk (below_step (by repeat (first | (with_reducible first | exact HB.out | apply below_alloc | apply pw_below_drewN | apply below_drew1) | exact HB.out)) hb); have n2_ := Aside0.mk (hbox); have n3_ := Aside0.mk ((by rw [hg]; exact (below_size (by repeat (first | (with_reducible first | exact HB.out | apply below_alloc | apply pw_below_drewN | apply below_drew1) | exact HB.out))) : w.heap.size ≤ gb102)); have n4_ := Aside0.mk ((by rw [hg]; exact (below_size (by repeat (first | (with_reducible first | exact HB.out | apply below_alloc | apply pw_below_drewN | apply below_drew1) | exact HB.out))) : w.heap.size ≤ gb102)); clear HO_7; clear HB; have HO_7 := n0_; have HB := n1_; have BK102 := n2_; have GW102 := n3_; have GE102 := n4_; clear n0_ n1_ n2_ n3_ n4_; clear hb hbox hg; have hcz13_0 : w12.cell? ⟨gb102, 0, none⟩ = some (.int .i64 0) := (blk_cell BK102.out 0).trans rfl; have hcz13_1 : w12.cell? ⟨gb102, 1, none⟩ = some (.int .i64 0) := (blk_cell BK102.out 1).trans rfl; have hcz13_2 : w12.cell? ⟨gb102, 2, none⟩ = some (.int .i64 0) := (blk_cell BK102.out 2).trans rfl; have hfz13_0 := blk_frozen BK102.out 0; have hfz13_1 := blk_frozen BK102.out 1; have hfz13_2 := blk_frozen BK102.out 2) | ((with_reducible refine gate_store (t := 24) (p := 9) rfl ?_); (try (rw [drewN_self w12]; generalize hq_ : World.drewN w12 _ = w12; have n0_ := Aside0.mk (Kd.R_at hq_ HO_7.out); have n1_ := Aside0.mk (blk_at hq_ BK102.out); have n2_ := Aside0.mk (below_at hq_ HB.out); clear hq_ HO_7 BK102 HB; have HO_7 := n0_; have BK102 := n1_; have HB := n2_; clear n0_ n1_ n2_)); refine store_event (t := 24) (p := 9) (v := ?vo_w14) (w1 := (((w12.setCell ⟨gb102, 0, none⟩ (.int .i64 ((rd_T24 l0 x8_1).f0))).setCell ⟨gb102, 1, none⟩ (.int .i64 ((rd_T24 l0 x8_1).f1))).setCell ⟨gb102, 2, none⟩ (.int .i64 ((rd_T24 l0 x8_1).f2)))) ?hg ?ho ?hn ?hr ?_; (case ho => rfl); (case hg => rfl); (case hn => rfl); (case hr => first | (go_simp; done) | (go_simp; rfl)); intro w14 hw; have n0_ : Aside0 (Kd.R k24 24 w14 w.heap.size (fun k_ => k_ ≠ gb102) u7 x7_1) := ⟨(by rw [hw]; exact (by (with_reducible repeat (first | apply Kd.R_alloc | apply Kd.R_drewN | apply Kd.R_drew)); exact Kd.R_mono (Kd.R_far (p := ⟨gb102, 2, none⟩) (Kd.R_far (p := ⟨gb102, 1, none⟩) (Kd.R_far (p := ⟨gb102, 0, none⟩) (Kd.R_mono HO_7.out (fun k_ hk => (⟨hk, hk.2⟩ : _ ∧ k_ ≠ gb102))) (fun _ hk => hk.2) (.int .i64 ((rd_T24 l0 x8_1).f0))) (fun _ hk => hk.2) (.int .i64 ((rd_T24 l0 x8_1).f1))) (fun _ hk => hk.2) (.int .i64 ((rd_T24 l0 x8_1).f2))) (fun _ hk => hk.1.2)))⟩; have n1_ : Aside0 (w14.heap[gb102]? = some (.cells #[.int .i64 ((rd_T24 l0 x8_1).f0), .int .i64 ((rd_T24 l0 x8_1).f1), .int .i64 ((rd_T24 l0 x8_1).f2)] 24 (0, 0))) := ⟨(by rw [hw]; exact (by (with_reducible repeat (first | refine blk_drewN ?_ _ | refine blk_drew ?_ | refine blk_alloc ?_ _)); refine blk_put (cs := #[.int .i64 ((rd_T24 l0 x8_1).f0), .int .i64 ((rd_T24 l0 x8_1).f1), .int .i64 0]) ?_ 2 _ rfl; (with_reducible repeat (first | refine blk_drewN ?_ _ | refine blk_drew ?_ | refine blk_alloc ?_ _)); refine blk_put (cs := #[.int .i64 ((rd_T24 l0 x8_1).f0), .int .i64 0, .int .i64 0]) ?_ 1 _ rfl; (with_reducible repeat (first | refine blk_drewN ?_ _ | refine blk_drew ?_ | refine blk_alloc ?_ _)); refine blk_put (cs := #[.int .i64 0, .int .i64 0, .int .i64 0]) ?_ 0 _ rfl; (with_reducible repeat (first | refine blk_drewN ?_ _ | refine blk_drew ?_ | refine blk_alloc ?_ _)); exact BK102.out))⟩; have n2_ : Aside0 (Below w.heap.size w w14) := ⟨(by rw [hw]; exact (by repeat (first | (with_reducible first | exact HB.out | apply below_alloc | apply pw_below_drewN | apply below_drew1 | refine below_set ?_ GE102.out) | exact HB.out)))⟩; clear hw; clear HO_7; clear BK102; clear HB; have HO_7 := n0_; have BK102 := n1_; have HB := n2_; clear n0_ n1_ n2_; have hcz15_0 : w14.cell? ⟨gb102, 0, none⟩ = some (.int .i64 ((rd_T24 l0 x8_1).f0)) := (blk_cell BK102.out 0).trans rfl; have hcz15_1 : w14.cell? ⟨gb102, 1, none⟩ = some (.int .i64 ((rd_T24 l0 x8_1).f1)) := (blk_cell BK102.out 1).trans rfl; have hcz15_2 : w14.cell? ⟨gb102, 2, none⟩ = some (.int .i64 ((rd_T24 l0 x8_1).f2)) := (blk_cell BK102.out 2).trans rfl; have hfz15_0 := blk_frozen BK102.out 0; have hfz15_1 := blk_frozen BK102.out 1; have hfz15_2 := blk_frozen BK102.out 2; obtain ⟨Ao16, co16, eo16⟩ := Kd.R_slice HO_7.out; subst eo16) | (go_at_call 99; (with_reducible refine (flagstoneref05_Add.calls (fun k_ => some k_ = (.slice Ao16 x7_1.length co16 : Value).ownBlock) (.slice Ao16 x7_1.length co16) x7_1 ((rd_T24 l0 x8_1).f0) ((rd_T24 l0 x8_1).f1) ((rd_T24 l0 x8_1).f2) t103 w _ ?side1 ?side2 A11.out).mono ?_); (case side1 => repeat (first | (with_reducible first | exact HB.out | apply below_alloc | apply pw_below_drewN | apply below_drew1 | refine below_set ?_ GE102.out) | exact HB.out)); (case side2 => exact Kd.R_tight rfl HO_7.out); rintro e w17 ⟨v104, rfl, ho0, hb, hkp⟩; have n0_ := Aside0.mk (blk_kept (by (with_reducible repeat (first | refine blk_drewN ?_ _ | refine blk_drew ?_ | refine blk_alloc ?_ _)); exact BK102.out) hkp (fun hs_ => (fun e_ => (Kd.R_away HO_7.out (fun _ hk => hk)) e_) hs_)); have n1_ := Aside0.mk (Kd.R_mono (ok' := fun k_ => k_ ≠ gb102) ho0 (fun k_ hk_ => Or.elim hk_ (fun hs_ => fun e_ => (Kd.R_away HO_7.out (fun _ hk => hk)) (by rw [← e_]; exact hs_)) (fun hn_ => (Kd.freshB (g := gb102) (o := .cells #[.int .i64 ((rd_T24 l0 x8_1).f0), .int .i64 ((rd_T24 l0 x8_1).f1), .int .i64 ((rd_T24 l0 x8_1).f2)] 24 (0, 0)) (by (with_reducible repeat (first | refine blk_drewN ?_ _ | refine blk_drew ?_ | refine blk_alloc ?_ _)); exact BK102.out) k_ hn_)))); have n2_ := Aside0.mk (hb); clear BK102; clear HB; clear HO_7; have BK102 := n0_; have HO105 := n1_; have HB := n2_; clear n0_ n1_ n2_; (try clear hb); (try clear hkp); (try clear ho0))))
      go_roundg k1
      case measure => have := HK1.out; omega
      case rel => exact ⟨(t103), (wrap64 (x8_1 + 1)), (by first | rfl | (simp; done) | (simp [*]; done)), H', ⟨by have := HK1.out; omega⟩, ⟨by (with_reducible repeat (first | apply Kd.R_alloc | apply Kd.R_drewN | apply Kd.R_drew)); exact Kd.R_mono HO105.out (fun _ hk => trivial)⟩, ⟨by repeat (first | (with_reducible first | exact HB.out | apply below_alloc | apply pw_below_drewN | apply below_drew1 | refine below_set ?_ GE102.out) | exact HB.out)⟩⟩
     ·rw [if_neg c10] at H
      have c10b0 : decide ((ji9) ≤ (ji7)) = false := decide_eq_false c10
      clear c10
      replace H := Option.bind_eq_some_iff.mp H
      obtain ⟨t106, A180, H⟩ := H
      replace H : ((flagstoneref05_Add.f t106 (ji9) (wrap64 ((wrap64 (((rd_T24 l0 x8_1).f1) + (ji9))) - ((rd_T24 l0 x8_1).f0))) (wrap64 ((wrap64 (((rd_T24 l0 x8_1).f0) + ((rd_T24 l0 x8_1).f2))) - (ji9)))).bind fun t109 => (flagstoneref05_without.l0 k1 l0 a1 a2 t109 (wrap64 (x8_1 + 1)))) = some r := H
      have A18 := Aside0.mk A180
      clear A180
      replace H := Option.bind_eq_some_iff.mp H
      obtain ⟨t109, A190, H⟩ := H
      replace H : (flagstoneref05_without.l0 k1 l0 a1 a2 t109 (wrap64 (x8_1 + 1))) = some r := H
      have A19 := Aside0.mk A190
      clear A190
      have H' := Aside0.mk H
      clear H
      have p101 : 0 ≤ (x8_1 : Int) := of_decide_eq_true (by first | (with_reducible assumption) | assumption)
      have q101 : x8_1 < (l0.length : Int) := of_decide_eq_true (by first | (with_reducible assumption) | assumption)
      obtain ⟨ad101, e101, hx101_0, hx101_1, hx101_2⟩ := at_T24 HR0.out x8_1 p101 q101
      cases e101
      replace hx101_0 := (HB.out.cell (World.block_lt_of_cell? w _ hx101_0)).trans hx101_0
      replace hx101_1 := (HB.out.cell (World.block_lt_of_cell? w _ hx101_1)).trans hx101_1
      replace hx101_2 := (HB.out.cell (World.block_lt_of_cell? w _ hx101_2)).trans hx101_2
      replace p101 := eq_true p101
      replace q101 := eq_true q101
      go_wp2_with (first | ((with_reducible refine gate_dst (N := 9) rfl ?_); refine box_event ?hg (N := 9) ?hd (cs := #[.int .i64 0, .int .i64 0, .int .i64 0]) (t := 24) ?hr ?_; (case hd => rfl); (case hg => rfl); (case hr => first | (go_simp; done) | (go_simp; rfl)); intro gb102 hg w20 hbox hb; have n0_ := Aside0.mk (Kd.R_below (Kd.R_elderB (by (with_reducible repeat (first | apply Kd.R_alloc | apply Kd.R_drewN | apply Kd.R_drew)); exact HO_7.out) gb102 (Nat.le_of_eq hg.symm)) hb); have n1_ := Aside0.mk (below_step (by repeat (first | (with_reducible first | exact HB.out | apply below_alloc | apply pw_below_drewN | apply below_drew1) | exact HB.out)) hb); have n2_ := Aside0.mk (hbox); have n3_ := Aside0.mk ((by rw [hg]; exact (below_size (by repeat (first | (with_reducible first | exact HB.out | apply below_alloc | apply pw_below_drewN | apply below_drew1) | exact HB.out))) : w.heap.size ≤ gb102)); have n4_ := Aside0.mk ((by rw [hg]; exact (below_size (by repeat (first | (with_reducible first | exact HB.out | apply below_alloc | apply pw_below_drewN | apply below_drew1) | exact HB.out))) : w.heap.size ≤ gb102)); clear HO_7; clear HB; have HO_7 := n0_; have HB := n1_; have BK102 := n2_; have GW102 := n3_; have GE102 := n4_; clear n0_ n1_ n2_ n3_ n4_; clear hb hbox hg; have hcz21_0 : w20.cell? ⟨gb102, 0, none⟩ = some (.int .i64 0) := (blk_cell BK102.out 0).trans rfl; have hcz21_1 : w20.cell? ⟨gb102, 1, none⟩ = some (.int .i64 0) := (blk_cell BK102.out 1).trans rfl; have hcz21_2 : w20.cell? ⟨gb102, 2, none⟩ = some (.int .i64 0) := (blk_cell BK102.out 2).trans rfl; have hfz21_0 := blk_frozen BK102.out 0; have hfz21_1 := blk_frozen BK102.out 1; have hfz21_2 := blk_frozen BK102.out 2) | ((with_reducible refine gate_store (t := 24) (p := 9) rfl ?_); (try (rw [drewN_self w20]; generalize hq_ : World.drewN w20 _ = w20; have n0_ := Aside0.mk (Kd.R_at hq_ HO_7.out); have n1_ := Aside0.mk (blk_at hq_ BK102.out); have n2_ := Aside0.mk (below_at hq_ HB.out); clear hq_ HO_7 BK102 HB; have HO_7 := n0_; have BK102 := n1_; have HB := n2_; clear n0_ n1_ n2_)); refine store_event (t := 24) (p := 9) (v := ?vo_w22) (w1 := (((w20.setCell ⟨gb102, 0, none⟩ (.int .i64 ((rd_T24 l0 x8_1).f0))).setCell ⟨gb102, 1, none⟩ (.int .i64 ((rd_T24 l0 x8_1).f1))).setCell ⟨gb102, 2, none⟩ (.int .i64 ((rd_T24 l0 x8_1).f2)))) ?hg ?ho ?hn ?hr ?_; (case ho => rfl); (case hg => rfl); (case hn => rfl); (case hr => first | (go_simp; done) | (go_simp; rfl)); intro w22 hw; have n0_ : Aside0 (Kd.R k24 24 w22 w.heap.size (fun k_ => k_ ≠ gb102) u7 x7_1) := ⟨(by rw [hw]; exact (by (with_reducible repeat (first | apply Kd.R_alloc | apply Kd.R_drewN | apply Kd.R_drew)); exact Kd.R_mono (Kd.R_far (p := ⟨gb102, 2, none⟩) (Kd.R_far (p := ⟨gb102, 1, none⟩) (Kd.R_far (p := ⟨gb102, 0, none⟩) (Kd.R_mono HO_7.out (fun k_ hk => (⟨hk, hk.2⟩ : _ ∧ k_ ≠ gb102))) (fun _ hk => hk.2) (.int .i64 ((rd_T24 l0 x8_1).f0))) (fun _ hk => hk.2) (.int .i64 ((rd_T24 l0 x8_1).f1))) (fun _ hk => hk.2) (.int .i64 ((rd_T24 l0 x8_1).f2))) (fun _ hk => hk.1.2)))⟩; have n1_ : Aside0 (w22.heap[gb102]? = some (.cells #[.int .i64 ((rd_T24 l0 x8_1).f0), .int .i64 ((rd_T24 l0 x8_1).f1), .int .i64 ((rd_T24 l0 x8_1).f2)] 24 (0, 0))) := ⟨(by rw [hw]; exact (by (with_reducible repeat (first | refine blk_drewN ?_ _ | refine blk_drew ?_ | refine blk_alloc ?_ _)); refine blk_put (cs := #[.int .i64 ((rd_T24 l0 x8_1).f0), .int .i64 ((rd_T24 l0 x8_1).f1), .int .i64 0]) ?_ 2 _ rfl; (with_reducible repeat (first | refine blk_drewN ?_ _ | refine blk_drew ?_ | refine blk_alloc ?_ _)); refine blk_put (cs := #[.int .i64 ((rd_T24 l0 x8_1).f0), .int .i64 0, .int .i64 0]) ?_ 1 _ rfl; (with_reducible repeat (first | refine blk_drewN ?_ _ | refine blk_drew ?_ | refine blk_alloc ?_ _)); refine blk_put (cs := #[.int .i64 0, .int .i64 0, .int .i64 0]) ?_ 0 _ rfl; (with_reducible repeat (first | refine blk_drewN ?_ _ | refine blk_drew ?_ | refine blk_alloc ?_ _)); exact BK102.out))⟩; have n2_ : Aside0 (Below w.heap.size w w22) := ⟨(by rw [hw]; exact (by repeat (first | (with_reducible first | exact HB.out | apply below_alloc | apply pw_below_drewN | apply below_drew1 | refine below_set ?_ GE102.out) | exact HB.out)))⟩; clear hw; clear HO_7; clear BK102; clear HB; have HO_7 := n0_; have BK102 := n1_; have HB := n2_; clear n0_ n1_ n2_; have hcz23_0 : w22.cell? ⟨gb102, 0, none⟩ = some (.int .i64 ((rd_T24 l0 x8_1).f0)) := (blk_cell BK102.out 0).trans rfl; have hcz23_1 : w22.cell? ⟨gb102, 1, none⟩ = some (.int .i64 ((rd_T24 l0 x8_1).f1)) := (blk_cell BK102.out 1).trans rfl; have hcz23_2 : w22.cell? ⟨gb102, 2, none⟩ = some (.int .i64 ((rd_T24 l0 x8_1).f2)) := (blk_cell BK102.out 2).trans rfl; have hfz23_0 := blk_frozen BK102.out 0; have hfz23_1 := blk_frozen BK102.out 1; have hfz23_2 := blk_frozen BK102.out 2; obtain ⟨Ao24, co24, eo24⟩ := Kd.R_slice HO_7.out; subst eo24) | (go_at_call 99; (with_reducible refine (flagstoneref05_Add.calls (fun k_ => some k_ = (.slice Ao24 x7_1.length co24 : Value).ownBlock) (.slice Ao24 x7_1.length co24) x7_1 ((rd_T24 l0 x8_1).f0) ((rd_T24 l0 x8_1).f1) (wrap64 ((ji7) - ((rd_T24 l0 x8_1).f0))) t106 w _ ?side1 ?side2 A18.out).mono ?_); (case side1 => repeat (first | (with_reducible first | exact HB.out | apply below_alloc | apply pw_below_drewN | apply below_drew1 | refine below_set ?_ GE102.out) | exact HB.out)); (case side2 => exact Kd.R_tight rfl HO_7.out); rintro e w25 ⟨v107, rfl, ho0, hb, hkp⟩; have n0_ := Aside0.mk (blk_kept (by (with_reducible repeat (first | refine blk_drewN ?_ _ | refine blk_drew ?_ | refine blk_alloc ?_ _)); exact BK102.out) hkp (fun hs_ => (fun e_ => (Kd.R_away HO_7.out (fun _ hk => hk)) e_) hs_)); have n1_ := Aside0.mk (Kd.R_mono (ok' := fun k_ => k_ ≠ gb102) ho0 (fun k_ hk_ => Or.elim hk_ (fun hs_ => fun e_ => (Kd.R_away HO_7.out (fun _ hk => hk)) (by rw [← e_]; exact hs_)) (fun hn_ => (Kd.freshB (g := gb102) (o := .cells #[.int .i64 ((rd_T24 l0 x8_1).f0), .int .i64 ((rd_T24 l0 x8_1).f1), .int .i64 ((rd_T24 l0 x8_1).f2)] 24 (0, 0)) (by (with_reducible repeat (first | refine blk_drewN ?_ _ | refine blk_drew ?_ | refine blk_alloc ?_ _)); exact BK102.out) k_ hn_)))); have n2_ := Aside0.mk (hb); clear BK102; clear HB; clear HO_7; have BK102 := n0_; have HO108 := n1_; have HB := n2_; clear n0_ n1_ n2_; (try clear hb); (try clear hkp); (try clear ho0); have hcz26_0 : w25.cell? ⟨gb102, 0, none⟩ = some (.int .i64 ((rd_T24 l0 x8_1).f0)) := (blk_cell BK102.out 0).trans rfl; have hcz26_1 : w25.cell? ⟨gb102, 1, none⟩ = some (.int .i64 ((rd_T24 l0 x8_1).f1)) := (blk_cell BK102.out 1).trans rfl; have hcz26_2 : w25.cell? ⟨gb102, 2, none⟩ = some (.int .i64 ((rd_T24 l0 x8_1).f2)) := (blk_cell BK102.out 2).trans rfl; have hfz26_0 := blk_frozen BK102.out 0; have hfz26_1 := blk_frozen BK102.out 1; have hfz26_2 := blk_frozen BK102.out 2; obtain ⟨Ao27, co27, eo27⟩ := Kd.R_slice HO108.out; subst eo27) | (go_at_call 99; (with_reducible refine (flagstoneref05_Add.calls (fun k_ => some k_ = (.slice Ao27 t106.length co27 : Value).ownBlock) (.slice Ao27 t106.length co27) t106 ji9 (wrap64 ((wrap64 (((rd_T24 l0 x8_1).f1) + (ji9))) - ((rd_T24 l0 x8_1).f0))) (wrap64 ((wrap64 (((rd_T24 l0 x8_1).f0) + ((rd_T24 l0 x8_1).f2))) - (ji9))) t109 w _ ?side1 ?side2 A19.out).mono ?_); (case side1 => repeat (first | (with_reducible first | exact HB.out | apply below_alloc | apply pw_below_drewN | apply below_drew1 | refine below_set ?_ GE102.out) | exact HB.out)); (case side2 => exact Kd.R_tight rfl HO108.out); rintro e w28 ⟨v110, rfl, ho0, hb, hkp⟩; have n0_ := Aside0.mk (blk_kept (by (with_reducible repeat (first | refine blk_drewN ?_ _ | refine blk_drew ?_ | refine blk_alloc ?_ _)); exact BK102.out) hkp (fun hs_ => (fun e_ => (Kd.R_away HO108.out (fun _ hk => hk)) e_) hs_)); have n1_ := Aside0.mk (Kd.R_mono (ok' := fun k_ => k_ ≠ gb102) ho0 (fun k_ hk_ => Or.elim hk_ (fun hs_ => fun e_ => (Kd.R_away HO108.out (fun _ hk => hk)) (by rw [← e_]; exact hs_)) (fun hn_ => (Kd.freshB (g := gb102) (o := .cells #[.int .i64 ((rd_T24 l0 x8_1).f0), .int .i64 ((rd_T24 l0 x8_1).f1), .int .i64 ((rd_T24 l0 x8_1).f2)] 24 (0, 0)) (by (with_reducible repeat (first | refine blk_drewN ?_ _ | refine blk_drew ?_ | refine blk_alloc ?_ _)); exact BK102.out) k_ hn_)))); have n2_ := Aside0.mk (hb); clear BK102; clear HB; clear HO108; have BK102 := n0_; have HO111 := n1_; have HB := n2_; clear n0_ n1_ n2_; (try clear hb); (try clear hkp); (try clear ho0)))
      repeat (go_quiet (first | ((with_reducible refine gate_dst (N := 9) rfl ?_); refine box_event ?hg (N := 9) ?hd (cs := #[.int .i64 0, .int .i64 0, .int .i64 0]) (t := 24) ?hr ?_; (case hd => rfl); (case hg => rfl); (case hr => first | (go_simp; done) | (go_simp; rfl)); intro gb102 hg w20 hbox hb; have n0_ := Aside0.mk (Kd.R_below (Kd.R_elderB (by (with_reducible repeat (first | apply Kd.R_alloc | apply Kd.R_drewN | apply Kd.R_drew)); exact HO_7.out) gb102 (Nat.le_of_eq hg.symm)) hb); have n1_ := Aside0.mk (below_step (by repeat (first | (with_reducible first | exact HB.out | apply below_alloc | apply pw_below_drewN | apply below_drew1) | exact HB.out)) hb); have n2_ := Aside0.mk (hbox); have n3_ := Aside0.mk ((by rw [hg]; exact (below_size (by repeat (first | (with_reducible first | exact HB.out | apply below_alloc | apply pw_below_drewN | apply below_drew1) | exact HB.out))) : w.heap.size ≤ gb102)); have n4_ := Aside0.mk ((by rw [hg]; exact (below_size (by repeat (first | (with_reducible first | exact HB.out | apply below_alloc | apply pw_below_drewN | apply below_drew1) | exact HB.out))) : w.heap.size ≤ gb102)); clear HO_7; clear HB; have HO_7 := n0_; have HB := n1_; have BK102 := n2_; have GW102 := n3_; have GE102 := n4_; clear n0_ n1_ n2_ n3_ n4_; clear hb hbox hg; have hcz21_0 : w20.cell? ⟨gb102, 0, none⟩ = some (.int .i64 0) := (blk_cell BK102.out 0).trans rfl; have hcz21_1 : w20.cell? ⟨gb102, 1, none⟩ = some (.int .i64 0) := (blk_cell BK102.out 1).trans rfl; have hcz21_2 : w20.cell? ⟨gb102, 2, none⟩ = some (.int .i64 0) := (blk_cell BK102.out 2).trans rfl; have hfz21_0 := blk_frozen BK102.out 0; have hfz21_1 := blk_frozen BK102.out 1; have hfz21_2 := blk_frozen BK102.out 2) | ((with_reducible refine gate_store (t := 24) (p := 9) rfl ?_); (try (rw [drewN_self w20]; generalize hq_ : World.drewN w20 _ = w20; have n0_ := Aside0.mk (Kd.R_at hq_ HO_7.out); have n1_ := Aside0.mk (blk_at hq_ BK102.out); have n2_ := Aside0.mk (below_at hq_ HB.out); clear hq_ HO_7 BK102 HB; have HO_7 := n0_; have BK102 := n1_; have HB := n2_; clear n0_ n1_ n2_)); refine store_event (t := 24) (p := 9) (v := ?vo_w22) (w1 := (((w20.setCell ⟨gb102, 0, none⟩ (.int .i64 ((rd_T24 l0 x8_1).f0))).setCell ⟨gb102, 1, none⟩ (.int .i64 ((rd_T24 l0 x8_1).f1))).setCell ⟨gb102, 2, none⟩ (.int .i64 ((rd_T24 l0 x8_1).f2)))) ?hg ?ho ?hn ?hr ?_; (case ho => rfl); (case hg => rfl); (case hn => rfl); (case hr => first | (go_simp; done) | (go_simp; rfl)); intro w22 hw; have n0_ : Aside0 (Kd.R k24 24 w22 w.heap.size (fun k_ => k_ ≠ gb102) u7 x7_1) := ⟨(by rw [hw]; exact (by (with_reducible repeat (first | apply Kd.R_alloc | apply Kd.R_drewN | apply Kd.R_drew)); exact Kd.R_mono (Kd.R_far (p := ⟨gb102, 2, none⟩) (Kd.R_far (p := ⟨gb102, 1, none⟩) (Kd.R_far (p := ⟨gb102, 0, none⟩) (Kd.R_mono HO_7.out (fun k_ hk => (⟨hk, hk.2⟩ : _ ∧ k_ ≠ gb102))) (fun _ hk => hk.2) (.int .i64 ((rd_T24 l0 x8_1).f0))) (fun _ hk => hk.2) (.int .i64 ((rd_T24 l0 x8_1).f1))) (fun _ hk => hk.2) (.int .i64 ((rd_T24 l0 x8_1).f2))) (fun _ hk => hk.1.2)))⟩; have n1_ : Aside0 (w22.heap[gb102]? = some (.cells #[.int .i64 ((rd_T24 l0 x8_1).f0), .int .i64 ((rd_T24 l0 x8_1).f1), .int .i64 ((rd_T24 l0 x8_1).f2)] 24 (0, 0))) := ⟨(by rw [hw]; exact (by (with_reducible repeat (first | refine blk_drewN ?_ _ | refine blk_drew ?_ | refine blk_alloc ?_ _)); refine blk_put (cs := #[.int .i64 ((rd_T24 l0 x8_1).f0), .int .i64 ((rd_T24 l0 x8_1).f1), .int .i64 0]) ?_ 2 _ rfl; (with_reducible repeat (first | refine blk_drewN ?_ _ | refine blk_drew ?_ | refine blk_alloc ?_ _)); refine blk_put (cs := #[.int .i64 ((rd_T24 l0 x8_1).f0), .int .i64 0, .int .i64 0]) ?_ 1 _ rfl; (with_reducible repeat (first | refine blk_drewN ?_ _ | refine blk_drew ?_ | refine blk_alloc ?_ _)); refine blk_put (cs := #[.int .i64 0, .int .i64 0, .int .i64 0]) ?_ 0 _ rfl; (with_reducible repeat (first | refine blk_drewN ?_ _ | refine blk_drew ?_ | refine blk_alloc ?_ _)); exact BK102.out))⟩; have n2_ : Aside0 (Below w.heap.size w w22) := ⟨(by rw [hw]; exact (by repeat (first | (with_reducible first | exact HB.out | apply below_alloc | apply pw_below_drewN | apply below_drew1 | refine below_set ?_ GE102.out) | exact HB.out)))⟩; clear hw; clear HO_7; clear BK102; clear HB; have HO_7 := n0_; have BK102 := n1_; have HB := n2_; clear n0_ n1_ n2_; have hcz23_0 : w22.cell? ⟨gb102, 0, none⟩ = some (.int .i64 ((rd_T24 l0 x8_1).f0)) := (blk_cell BK102.out 0).trans rfl; have hcz23_1 : w22.cell? ⟨gb102, 1, none⟩ = some (.int .i64 ((rd_T24 l0 x8_1).f1)) := (blk_cell BK102.out 1).trans rfl; have hcz23_2 : w22.cell? ⟨gb102, 2, none⟩ = some (.int .i64 ((rd_T24 l0 x8_1).f2)) := (blk_cell BK102.out 2).trans rfl; have hfz23_0 := blk_frozen BK102.out 0; have hfz23_1 := blk_frozen BK102.out 1; have hfz23_2 := blk_frozen BK102.out 2; obtain ⟨Ao24, co24, eo24⟩ := Kd.R_slice HO_7.out; subst eo24) | (go_at_call 99; (with_reducible refine (flagstoneref05_Add.calls (fun k_ => some k_ = (.slice Ao24 x7_1.length co24 : Value).ownBlock) (.slice Ao24 x7_1.length co24) x7_1 ((rd_T24 l0 x8_1).f0) ((rd_T24 l0 x8_1).f1) (wrap64 ((ji7) - ((rd_T24 l0 x8_1).f0))) t106 w _ ?side1 ?side2 A18.out).mono ?_); (case side1 => repeat (first | (with_reducible first | exact HB.out | apply below_alloc | apply pw_below_drewN | apply below_drew1 | refine below_set ?_ GE102.out) | exact HB.out)); (case side2 => exact Kd.R_tight rfl HO_7.out); rintro e w25 ⟨v107, rfl, ho0, hb, hkp⟩; have n0_ := Aside0.mk (blk_kept (by (with_reducible repeat (first | refine blk_drewN ?_ _ | refine blk_drew ?_ | refine blk_alloc ?_ _)); exact BK102.out) hkp (fun hs_ => (fun e_ => (Kd.R_away HO_7.out (fun _ hk => hk)) e_) hs_)); have n1_ := Aside0.mk (Kd.R_mono (ok' := fun k_ => k_ ≠ gb102) ho0 (fun k_ hk_ => Or.elim hk_ (fun hs_ => fun e_ => (Kd.R_away HO_7.out (fun _ hk => hk)) (by rw [← e_]; exact hs_)) (fun hn_ => (Kd.freshB (g := gb102) (o := .cells #[.int .i64 ((rd_T24 l0 x8_1).f0), .int .i64 ((rd_T24 l0 x8_1).f1), .int .i64 ((rd_T24 l0 x8_1).f2)] 24 (0, 0)) (by (with_reducible repeat (first | refine blk_drewN ?_ _ | refine blk_drew ?_ | refine blk_alloc ?_ _)); exact BK102.out) k_ hn_)))); have n2_ := Aside0.mk (hb); clear BK102; clear HB; clear HO_7; have BK102 := n0_; have HO108 := n1_; have HB := n2_; clear n0_ n1_ n2_; (try clear hb); (try clear hkp); (try clear ho0); have hcz26_0 : w25.cell? ⟨gb102, 0, none⟩ = some (.int .i64 ((rd_T24 l0 x8_1).f0)) := (blk_cell BK102.out 0).trans rfl; have hcz26_1 : w25.cell? ⟨gb102, 1, none⟩ = some (.int .i64 ((rd_T24 l0 x8_1).f1)) := (blk_cell BK102.out 1).trans rfl; have hcz26_2 : w25.cell? ⟨gb102, 2, none⟩ = some (.int .i64 ((rd_T24 l0 x8_1).f2)) := (blk_cell BK102.out 2).trans rfl; have hfz26_0 := blk_frozen BK102.out 0; have hfz26_1 := blk_frozen BK102.out 1; have hfz26_2 := blk_frozen BK102.out 2; obtain ⟨Ao27, co27, eo27⟩ := Kd.R_slice HO108.out; subst eo27) | (go_at_call 99; (with_reducible refine (flagstoneref05_Add.calls (fun k_ => some k_ = (.slice Ao27 t106.length co27 : Value).ownBlock) (.slice Ao27 t106.length co27) t106 ji9 (wrap64 ((wrap64 (((rd_T24 l0 x8_1).f1) + (ji9))) - ((rd_T24 l0 x8_1).f0))) (wrap64 ((wrap64 (((rd_T24 l0 x8_1).f0) + ((rd_T24 l0 x8_1).f2))) - (ji9))) t109 w _ ?side1 ?side2 A19.out).mono ?_); (case side1 => repeat (first | (with_reducible first | exact HB.out | apply below_alloc | apply pw_below_drewN | apply below_drew1 | refine below_set ?_ GE102.out) | exact HB.out)); (case side2 => exact Kd.R_tight rfl HO108.out); rintro e w28 ⟨v110, rfl, ho0, hb, hkp⟩; have n0_ := Aside0.mk (blk_kept (by (with_reducible repeat (first | refine blk_drewN ?_ _ | refine blk_drew ?_ | refine blk_alloc ?_ _)); exact BK102.out) hkp (fun hs_ => (fun e_ => (Kd.R_away HO108.out (fun _ hk => hk)) e_) hs_)); have n1_ := Aside0.mk (Kd.R_mono (ok' := fun k_ => k_ ≠ gb102) ho0 (fun k_ hk_ => Or.elim hk_ (fun hs_ => fun e_ => (Kd.R_away HO108.out (fun _ hk => hk)) (by rw [← e_]; exact hs_)) (fun hn_ => (Kd.freshB (g := gb102) (o := .cells #[.int .i64 ((rd_T24 l0 x8_1).f0), .int .i64 ((rd_T24 l0 x8_1).f1), .int .i64 ((rd_T24 l0 x8_1).f2)] 24 (0, 0)) (by (with_reducible repeat (first | refine blk_drewN ?_ _ | refine blk_drew ?_ | refine blk_alloc ?_ _)); exact BK102.out) k_ hn_)))); have n2_ := Aside0.mk (hb); clear BK102; clear HB; clear HO108; have BK102 := n0_; have HO111 := n1_; have HB := n2_; clear n0_ n1_ n2_; (try clear hb); (try clear hkp); (try clear ho0))); try go_wp2_with (first | ((with_reducible refine gate_dst (N := 9) rfl ?_); refine box_event ?hg (N := 9) ?hd (cs := #[.int .i64 0, .int .i64 0, .int .i64 0]) (t := 24) ?hr ?_; (case hd => rfl); (case hg => rfl); (case hr => first | (go_simp; done) | (go_simp; rfl)); intro gb102 hg w20 hbox hb; have n0_ := Aside0.mk (Kd.R_below (Kd.R_elderB (by (with_reducible repeat (first | apply Kd.R_alloc | apply Kd.R_drewN | apply Kd.R_drew)); exact HO_7.out) gb102 (Nat.le_of_eq hg.symm)) hb); have n1_ := Aside0.mk (below_step (by repeat (first | (with_reducible first | exact HB.out | apply below_alloc | apply pw_below_drewN | apply below_drew1) | exact HB.out)) hb); have n2_ := Aside0.mk (hbox); have n3_ := Aside0.mk ((by rw [hg]; exact (below_size (by repeat (first | (with_reducible first | exact HB.out | apply below_alloc | apply pw_below_drewN | apply below_drew1) | exact HB.out))) : w.heap.size ≤ gb102)); have n4_ := Aside0.mk ((by rw [hg]; exact (below_size (by repeat (first | (with_reducible first | exact HB.out | apply below_alloc | apply pw_below_drewN | apply below_drew1) | exact HB.out))) : w.heap.size ≤ gb102)); clear HO_7; clear HB; have HO_7 := n0_; have HB := n1_; have BK102 := n2_; have GW102 := n3_; have GE102 := n4_; clear n0_ n1_ n2_ n3_ n4_; clear hb hbox hg; have hcz21_0 : w20.cell? ⟨gb102, 0, none⟩ = some (.int .i64 0) := (blk_cell BK102.out 0).trans rfl; have hcz21_1 : w20.cell? ⟨gb102, 1, none⟩ = some (.int .i64 0) := (blk_cell BK102.out 1).trans rfl; have hcz21_2 : w20.cell? ⟨gb102, 2, none⟩ = some (.int .i64 0) := (blk_cell BK102.out 2).trans rfl; have hfz21_0 := blk_frozen BK102.out 0; have hfz21_1 := blk_frozen BK102.out 1; have hfz21_2 := blk_frozen BK102.out 2) | ((with_reducible refine gate_store (t := 24) (p := 9) rfl ?_); (try (rw [drewN_self w20]; generalize hq_ : World.drewN w20 _ = w20; have n0_ := Aside0.mk (Kd.R_at hq_ HO_7.out); have n1_ := Aside0.mk (blk_at hq_ BK102.out); have n2_ := Aside0.mk (below_at hq_ HB.out); clear hq_ HO_7 BK102 HB; have HO_7 := n0_; have BK102 := n1_; have HB := n2_; clear n0_ n1_ n2_)); refine store_event (t := 24) (p := 9) (v := ?vo_w22) (w1 := (((w20.setCell ⟨gb102, 0, none⟩ (.int .i64 ((rd_T24 l0 x8_1).f0))).setCell ⟨gb102, 1, none⟩ (.int .i64 ((rd_T24 l0 x8_1).f1))).setCell ⟨gb102, 2, none⟩ (.int .i64 ((rd_T24 l0 x8_1).f2)))) ?hg ?ho ?hn ?hr ?_; (case ho => rfl); (case hg => rfl); (case hn => rfl); (case hr => first | (go_simp; done) | (go_simp; rfl)); intro w22 hw; have n0_ : Aside0 (Kd.R k24 24 w22 w.heap.size (fun k_ => k_ ≠ gb102) u7 x7_1) := ⟨(by rw [hw]; exact (by (with_reducible repeat (first | apply Kd.R_alloc | apply Kd.R_drewN | apply Kd.R_drew)); exact Kd.R_mono (Kd.R_far (p := ⟨gb102, 2, none⟩) (Kd.R_far (p := ⟨gb102, 1, none⟩) (Kd.R_far (p := ⟨gb102, 0, none⟩) (Kd.R_mono HO_7.out (fun k_ hk => (⟨hk, hk.2⟩ : _ ∧ k_ ≠ gb102))) (fun _ hk => hk.2) (.int .i64 ((rd_T24 l0 x8_1).f0))) (fun _ hk => hk.2) (.int .i64 ((rd_T24 l0 x8_1).f1))) (fun _ hk => hk.2) (.int .i64 ((rd_T24 l0 x8_1).f2))) (fun _ hk => hk.1.2)))⟩; have n1_ : Aside0 (w22.heap[gb102]? = some (.cells #[.int .i64 ((rd_T24 l0 x8_1).f0), .int .i64 ((rd_T24 l0 x8_1).f1), .int .i64 ((rd_T24 l0 x8_1).f2)] 24 (0, 0))) := ⟨(by rw [hw]; exact (by (with_reducible repeat (first | refine blk_drewN ?_ _ | refine blk_drew ?_ | refine blk_alloc ?_ _)); refine blk_put (cs := #[.int .i64 ((rd_T24 l0 x8_1).f0), .int .i64 ((rd_T24 l0 x8_1).f1), .int .i64 0]) ?_ 2 _ rfl; (with_reducible repeat (first | refine blk_drewN ?_ _ | refine blk_drew ?_ | refine blk_alloc ?_ _)); refine blk_put (cs := #[.int .i64 ((rd_T24 l0 x8_1).f0), .int .i64 0, .int .i64 0]) ?_ 1 _ rfl; (with_reducible repeat (first | refine blk_drewN ?_ _ | refine blk_drew ?_ | refine blk_alloc ?_ _)); refine blk_put (cs := #[.int .i64 0, .int .i64 0, .int .i64 0]) ?_ 0 _ rfl; (with_reducible repeat (first | refine blk_drewN ?_ _ | refine blk_drew ?_ | refine blk_alloc ?_ _)); exact BK102.out))⟩; have n2_ : Aside0 (Below w.heap.size w w22) := ⟨(by rw [hw]; exact (by repeat (first | (with_reducible first | exact HB.out | apply below_alloc | apply pw_below_drewN | apply below_drew1 | refine below_set ?_ GE102.out) | exact HB.out)))⟩; clear hw; clear HO_7; clear BK102; clear HB; have HO_7 := n0_; have BK102 := n1_; have HB := n2_; clear n0_ n1_ n2_; have hcz23_0 : w22.cell? ⟨gb102, 0, none⟩ = some (.int .i64 ((rd_T24 l0 x8_1).f0)) := (blk_cell BK102.out 0).trans rfl; have hcz23_1 : w22.cell? ⟨gb102, 1, none⟩ = some (.int .i64 ((rd_T24 l0 x8_1).f1)) := (blk_cell BK102.out 1).trans rfl; have hcz23_2 : w22.cell? ⟨gb102, 2, none⟩ = some (.int .i64 ((rd_T24 l0 x8_1).f2)) := (blk_cell BK102.out 2).trans rfl; have hfz23_0 := blk_frozen BK102.out 0; have hfz23_1 := blk_frozen BK102.out 1; have hfz23_2 := blk_frozen BK102.out 2; obtain ⟨Ao24, co24, eo24⟩ := Kd.R_slice HO_7.out; subst eo24) | (go_at_call 99; (with_reducible refine (flagstoneref05_Add.calls (fun k_ => some k_ = (.slice Ao24 x7_1.length co24 : Value).ownBlock) (.slice Ao24 x7_1.length co24) x7_1 ((rd_T24 l0 x8_1).f0) ((rd_T24 l0 x8_1).f1) (wrap64 ((ji7) - ((rd_T24 l0 x8_1).f0))) t106 w _ ?side1 ?side2 A18.out).mono ?_); (case side1 => repeat (first | (with_reducible first | exact HB.out | apply below_alloc | apply pw_below_drewN | apply below_drew1 | refine below_set ?_ GE102.out) | exact HB.out)); (case side2 => exact Kd.R_tight rfl HO_7.out); rintro e w25 ⟨v107, rfl, ho0, hb, hkp⟩; have n0_ := Aside0.mk (blk_kept (by (with_reducible repeat (first | refine blk_drewN ?_ _ | refine blk_drew ?_ | refine blk_alloc ?_ _)); exact BK102.out) hkp (fun hs_ => (fun e_ => (Kd.R_away HO_7.out (fun _ hk => hk)) e_) hs_)); have n1_ := Aside0.mk (Kd.R_mono (ok' := fun k_ => k_ ≠ gb102) ho0 (fun k_ hk_ => Or.elim hk_ (fun hs_ => fun e_ => (Kd.R_away HO_7.out (fun _ hk => hk)) (by rw [← e_]; exact hs_)) (fun hn_ => (Kd.freshB (g := gb102) (o := .cells #[.int .i64 ((rd_T24 l0 x8_1).f0), .int .i64 ((rd_T24 l0 x8_1).f1), .int .i64 ((rd_T24 l0 x8_1).f2)] 24 (0, 0)) (by (with_reducible repeat (first | refine blk_drewN ?_ _ | refine blk_drew ?_ | refine blk_alloc ?_ _)); exact BK102.out) k_ hn_)))); have n2_ := Aside0.mk (hb); clear BK102; clear HB; clear HO_7; have BK102 := n0_; have HO108 := n1_; have HB := n2_; clear n0_ n1_ n2_; (try clear hb); (try clear hkp); (try clear ho0); have hcz26_0 : w25.cell? ⟨gb102, 0, none⟩ = some (.int .i64 ((rd_T24 l0 x8_1).f0)) := (blk_cell BK102.out 0).trans rfl; have hcz26_1 : w25.cell? ⟨gb102, 1, none⟩ = some (.int .i64 ((rd_T24 l0 x8_1).f1)) := (blk_cell BK102.out 1).trans rfl; have hcz26_2 : w25.cell? ⟨gb102, 2, none⟩ = some (.int .i64 ((rd_T24 l0 x8_1).f2)) := (blk_cell BK102.out 2).trans rfl; have hfz26_0 := blk_frozen BK102.out 0; have hfz26_1 := blk_frozen BK102.out 1; have hfz26_2 := blk_frozen BK102.out 2; obtain ⟨Ao27, co27, eo27⟩ := Kd.R_slice HO108.out; subst eo27) | (go_at_call 99; (with_reducible refine (flagstoneref05_Add.calls (fun k_ => some k_ = (.slice Ao27 t106.length co27 : Value).ownBlock) (.slice Ao27 t106.length co27) t106 ji9 (wrap64 ((wrap64 (((rd_T24 l0 x8_1).f1) + (ji9))) - ((rd_T24 l0 x8_1).f0))) (wrap64 ((wrap64 (((rd_T24 l0 x8_1).f0) + ((rd_T24 l0 x8_1).f2))) - (ji9))) t109 w _ ?side1 ?side2 A19.out).mono ?_); (case side1 => repeat (first | (with_reducible first | exact HB.out | apply below_alloc | apply pw_below_drewN | apply below_drew1 | refine below_set ?_ GE102.out) | exact HB.out)); (case side2 => exact Kd.R_tight rfl HO108.out); rintro e w28 ⟨v110, rfl, ho0, hb, hkp⟩; have n0_ := Aside0.mk (blk_kept (by (with_reducible repeat (first | refine blk_drewN ?_ _ | refine blk_drew ?_ | refine blk_alloc ?_ _)); exact BK102.out) hkp (fun hs_ => (fun e_ => (Kd.R_away HO108.out (fun _ hk => hk)) e_) hs_)); have n1_ := Aside0.mk (Kd.R_mono (ok' := fun k_ => k_ ≠ gb102) ho0 (fun k_ hk_ => Or.elim hk_ (fun hs_ => fun e_ => (Kd.R_away HO108.out (fun _ hk => hk)) (by rw [← e_]; exact hs_)) (fun hn_ => (Kd.freshB (g := gb102) (o := .cells #[.int .i64 ((rd_T24 l0 x8_1).f0), .int .i64 ((rd_T24 l0 x8_1).f1), .int .i64 ((rd_T24 l0 x8_1).f2)] 24 (0, 0)) (by (with_reducible repeat (first | refine blk_drewN ?_ _ | refine blk_drew ?_ | refine blk_alloc ?_ _)); exact BK102.out) k_ hn_)))); have n2_ := Aside0.mk (hb); clear BK102; clear HB; clear HO108; have BK102 := n0_; have HO111 := n1_; have HB := n2_; clear n0_ n1_ n2_; (try clear hb); (try clear hkp); (try clear ho0))))
      go_roundg k1
      case measure => have := HK1.out; omega
      case rel => exact ⟨(t109), (wrap64 (x8_1 + 1)), (by first | rfl | (simp; done) | (simp [*]; done)), H', ⟨by have := HK1.out; omega⟩, ⟨by (with_reducible repeat (first | apply Kd.R_alloc | apply Kd.R_drewN | apply Kd.R_drew)); exact Kd.R_mono HO111.out (fun _ hk => trivial)⟩, ⟨by repeat (first | (with_reducible first | exact HB.out | apply below_alloc | apply pw_below_drewN | apply below_drew1 | refine below_set ?_ GE102.out) | exact HB.out)⟩⟩
    ·rw [if_neg c5] at H
     exact absurd H (by simp)
   ·rw [if_neg c4] at H
    have c4b0 : decide (x8_1 < (l0.length : Int)) = false := decide_eq_false c4
    clear c4
    obtain rfl := Option.some.inj H
    go_wp2
    repeat (go_quiet (fail); try go_wp2)
    go_ret
    exact ⟨_, by first | rfl | (simp [errW_none, errW_some] <;> rfl) | (simp [*, errW_none, errW_some] <;> rfl), by (with_reducible repeat (first | apply Kd.R_alloc | apply Kd.R_drewN | apply Kd.R_drew)); exact HO_7.out, by repeat (first | (with_reducible first | exact HB.out | apply below_alloc | apply pw_below_drewN | apply below_drew1) | exact HB.out)⟩
mutual
def flagstoneref05_merged.l0 : Nat → List (S24) → List (S24) → List (S24) → Int → Int → Option ((List (S24)))
 | 0, _, _, _, _, _ => none
 | k + 1, x0, x1, x5, x6, x7 => if x6 < (x0.length : Int) then (flagstoneref05_merged.j1 k x0 x1 x5 x6 x7 true) else (flagstoneref05_merged.j1 k x0 x1 x5 x6 x7 (decide (x7 < (x1.length : Int))))
def flagstoneref05_merged.j1 : Nat → List (S24) → List (S24) → List (S24) → Int → Int → Bool → Option ((List (S24)))
 | 0, _, _, _, _, _, _ => none
 | k + 1, x0, x1, x5, x6, x7, x17 => if x17 = true then (if x7 = (x1.length : Int) then (flagstoneref05_merged.j2 k x0 x1 x5 x6 x7 true) else (if x6 < (x0.length : Int) then (if 0 ≤ x6 then (if 0 ≤ x7 then (if x7 < (x1.length : Int) then (flagstoneref05_merged.j2 k x0 x1 x5 x6 x7 (decide (((rd_T24 x0 x6).f0) < ((rd_T24 x1 x7).f0)))) else (none)) else (none)) else (none)) else (flagstoneref05_merged.j2 k x0 x1 x5 x6 x7 false))) else (some x5)
def flagstoneref05_merged.j2 : Nat → List (S24) → List (S24) → List (S24) → Int → Int → Bool → Option ((List (S24)))
 | 0, _, _, _, _, _, _ => none
 | k + 1, x0, x1, x5, x6, x7, x40 => if x40 = true then (if 0 ≤ x6 then (if x6 < (x0.length : Int) then ((flagstoneref05_Add.f x5 ((rd_T24 x0 x6).f0) ((rd_T24 x0 x6).f1) ((rd_T24 x0 x6).f2)).bind fun t104 => (flagstoneref05_merged.l0 k x0 x1 t104 (wrap64 (x6 + 1)) x7)) else (none)) else (none)) else (if 0 ≤ x7 then (if x7 < (x1.length : Int) then ((flagstoneref05_Add.f x5 ((rd_T24 x1 x7).f0) ((rd_T24 x1 x7).f1) ((rd_T24 x1 x7).f2)).bind fun t108 => (flagstoneref05_merged.l0 k x0 x1 t108 x6 (wrap64 (x7 + 1)))) else (none)) else (none))
end
def flagstoneref05_merged.f (k : Nat) (l0 : List (S24)) (l1 : List (S24)) : Option ((List (S24))) := flagstoneref05_merged.l0 k l0 l1 ([] : List (S24)) 0 0
theorem flagstoneref05_merged.mono_l : ∀ k, (∀ y0 y1 y2 y3 y4, LeO (flagstoneref05_merged.l0 k y0 y1 y2 y3 y4) (flagstoneref05_merged.l0 (k + 1) y0 y1 y2 y3 y4)) ∧ (∀ y0 y1 y2 y3 y4 y5, LeO (flagstoneref05_merged.j1 k y0 y1 y2 y3 y4 y5) (flagstoneref05_merged.j1 (k + 1) y0 y1 y2 y3 y4 y5)) ∧ (∀ y0 y1 y2 y3 y4 y5, LeO (flagstoneref05_merged.j2 k y0 y1 y2 y3 y4 y5) (flagstoneref05_merged.j2 (k + 1) y0 y1 y2 y3 y4 y5))
 | 0 => ⟨fun _ _ _ _ _ r h => by simp [flagstoneref05_merged.l0] at h, fun _ _ _ _ _ _ r h => by simp [flagstoneref05_merged.j1] at h, fun _ _ _ _ _ _ r h => by simp [flagstoneref05_merged.j2] at h⟩
 | k + 1 => by
  obtain ⟨ih0, ih1, ih2⟩ := flagstoneref05_merged.mono_l k
  refine ⟨?_, ?_, ?_⟩
  ·intro y0 y1 y2 y3 y4
   unfold flagstoneref05_merged.l0
   repeat' first
   | (with_reducible exact ih0 _ _ _ _ _)
   | (with_reducible exact ih1 _ _ _ _ _ _)
   | (with_reducible exact ih2 _ _ _ _ _ _)
   | (with_reducible exact LeO.refl _)
   | (with_reducible exact LeO.none _)
   | (with_reducible refine LeO.ite ?_ ?_)
   | (with_reducible refine LeO.bind ?_ (fun _ => ?_))
   | exact ih0 _ _ _ _ _
   | exact ih1 _ _ _ _ _ _
   | exact ih2 _ _ _ _ _ _
   | exact LeO.none _
   | refine LeO.ite ?_ ?_
   | refine LeO.bind ?_ (fun _ => ?_)
  ·intro y0 y1 y2 y3 y4 y5
   unfold flagstoneref05_merged.j1
   repeat' first
   | (with_reducible exact ih0 _ _ _ _ _)
   | (with_reducible exact ih1 _ _ _ _ _ _)
   | (with_reducible exact ih2 _ _ _ _ _ _)
   | (with_reducible exact LeO.refl _)
   | (with_reducible exact LeO.none _)
   | (with_reducible refine LeO.ite ?_ ?_)
   | (with_reducible refine LeO.bind ?_ (fun _ => ?_))
   | exact ih0 _ _ _ _ _
   | exact ih1 _ _ _ _ _ _
   | exact ih2 _ _ _ _ _ _
   | exact LeO.none _
   | refine LeO.ite ?_ ?_
   | refine LeO.bind ?_ (fun _ => ?_)
  ·intro y0 y1 y2 y3 y4 y5
   unfold flagstoneref05_merged.j2
   repeat' first
   | (with_reducible exact ih0 _ _ _ _ _)
   | (with_reducible exact ih1 _ _ _ _ _ _)
   | (with_reducible exact ih2 _ _ _ _ _ _)
   | (with_reducible exact LeO.refl _)
   | (with_reducible exact LeO.none _)
   | (with_reducible refine LeO.ite ?_ ?_)
   | (with_reducible refine LeO.bind ?_ (fun _ => ?_))
   | exact ih0 _ _ _ _ _
   | exact ih1 _ _ _ _ _ _
   | exact ih2 _ _ _ _ _ _
   | exact LeO.none _
   | refine LeO.ite ?_ ?_
   | refine LeO.bind ?_ (fun _ => ?_)
theorem flagstoneref05_merged.mono : ∀ a0 a1 k, LeO (flagstoneref05_merged.f k a0 a1) (flagstoneref05_merged.f (k + 1) a0 a1) := by
 intro a0 a1 k
 obtain ⟨ih0, ih1, ih2⟩ := flagstoneref05_merged.mono_l k
 unfold flagstoneref05_merged.f
 repeat' first
  | (with_reducible exact ih0 _ _ _ _ _)
  | (with_reducible exact ih1 _ _ _ _ _ _)
  | (with_reducible exact ih2 _ _ _ _ _ _)
  | (with_reducible exact LeO.refl _)
  | (with_reducible exact LeO.none _)
  | (with_reducible refine LeO.ite ?_ ?_)
  | (with_reducible refine LeO.bind ?_ (fun _ => ?_))
  | exact ih0 _ _ _ _ _
  | exact ih1 _ _ _ _ _ _
  | exact ih2 _ _ _ _ _ _
  | exact LeO.none _
  | refine LeO.ite ?_ ?_
  | refine LeO.bind ?_ (fun _ => ?_)
set_option maxHeartbeats 8000000 in
set_option maxRecDepth 100000 in
theorem flagstoneref05_merged.calls (k : Nat) (A0 : Option Addr) (c0 : Nat) (l0 : List (S24)) (A1 : Option Addr) (c1 : Nat) (l1 : List (S24)) (r : List (S24)) (w : World) (hr0 : Kd.C k24 w A0 l0.length l0) (hc0 : l0.length ≤ c0) (hr1 : Kd.C k24 w A1 l1.length l1) (hc1 : l1.length ≤ c1) (h : flagstoneref05_merged.f k l0 l1 = some r) :
 Calls Try.prog 90 #[.slice A0 l0.length c0, .slice A1 l1.length c1] w fun e w' => ∃ v0_ : Value, e = .returned (v0_) ∧ Kd.R k24 24 w' w.heap.size (fun _ => True) v0_ r ∧ Below w.heap.size w w' := by
 have hu24 := Try.underlying24
 have HR0 := Aside0.mk hr0
 have HC0 := Aside0.mk hc0
 clear hr0 hc0
 have HR1 := Aside0.mk hr1
 have HC1 := Aside0.mk hc1
 clear hr1 hc1
 have HB := Aside0.mk (Below.refl w.heap.size w)
 have H : (flagstoneref05_merged.l0 k l0 l1 ([] : List (S24)) 0 0) = some r := h
 clear h
 have H' := Aside0.mk H
 clear H
 go_enter Try.func90, Try.ntmps90
 go_wp2
 repeat (go_quiet (fail); try go_wp2)
 go_loopg [5, 6, 7] k (fun kq v5 v6 v7 w' => ∃ (x5_1 : List (S24)) (x6_1 : Int) (x7_1 : Int), v6 = .int .i64 x6_1 ∧ v7 = .int .i64 x7_1 ∧ Aside0 (flagstoneref05_merged.l0 kq l0 l1 x5_1 x6_1 x7_1 = some r) ∧ Aside0 (kq ≤ k) ∧ Aside0 (Kd.R k24 24 w' w.heap.size (fun _ => True) v5 x5_1) ∧ Aside0 (Below w.heap.size w w'))
 case atStart => exact ⟨(([] : List (S24))), (0), (0), (by first | rfl | (simp; done) | (simp [*]; done)), (by first | rfl | (simp; done) | (simp [*]; done)), H', ⟨Nat.le_refl _⟩, ⟨by first | exact Kd.R_nil _ _ _ _ _ | exact Kd.N_nil _ _ _ _ _ | exact Kd.V_nil _ _ _ _ _ | exact Kd.Q_nil _ _ _ _ _ | exact Kd.S_nil _ _ _ _ _⟩, ⟨by repeat (first | (with_reducible first | exact HB.out | apply below_alloc | apply pw_below_drewN | apply below_drew1) | exact HB.out)⟩⟩
 case round =>
  clear H'
  try clear c1
  try clear p2
  obtain ⟨x5_1, x6_1, x7_1, rfl, rfl, HA, HK1, HO_5, HB⟩ := hrel
  cases gk with
  | zero => exact absurd HA.out (by simp [flagstoneref05_merged.l0])
  | succ k1 =>
   have H := HA.out
   clear HA
   simp only [flagstoneref05_merged.l0] at H
   have HC3 := Aside0.mk H
   clear H
   go_upto_region 3 with (fail)
   repeat (go_quiet (fail); go_upto_region 3 with (fail))
   go_cut [17] (fun v17 wc => ∃ (kq : Nat) (x17_2 : Bool), v17 = .bool x17_2 ∧ Aside0 (flagstoneref05_merged.j1 kq l0 l1 x5_1 x6_1 x7_1 x17_2 = some r) ∧ Aside0 (kq ≤ k1) ∧ Aside0 (Kd.R k24 24 wc w.heap.size (fun _ => True) u5 x5_1) ∧ Aside0 (Below w.heap.size w wc))
   case first =>
    have H := HC3.out
    clear HC3
    by_cases c4 : x6_1 < (l0.length : Int)
    ·rw [if_pos c4] at H
     have c4b0 : decide (x6_1 < (l0.length : Int)) = true := decide_eq_true c4
     clear c4
     (first | rw [c4b0] | (simp only [i64_w, i32_w]; rw [c4b0]) | skip)
     have H' := Aside0.mk H
     clear H
     go_wp2
     repeat (go_quiet (fail); try go_wp2)
     go_meet
     case rel => exact ⟨_, (true), (by first | rfl | (simp; done) | (simp [*]; done)), H', ⟨by have := HK1.out; first | omega | exact Nat.le_refl _⟩, ⟨by (with_reducible repeat (first | apply Kd.R_alloc | apply Kd.R_drewN | apply Kd.R_drew)); exact HO_5.out⟩, ⟨by repeat (first | (with_reducible first | exact HB.out | apply below_alloc | apply pw_below_drewN | apply below_drew1) | exact HB.out)⟩⟩
    ·rw [if_neg c4] at H
     have c4b0 : decide (x6_1 < (l0.length : Int)) = false := decide_eq_false c4
     clear c4
     (first | rw [c4b0] | (simp only [i64_w, i32_w]; rw [c4b0]) | skip)
     have H' := Aside0.mk H
     clear H
     go_wp2
     repeat (go_quiet (fail); try go_wp2)
     go_meet
     case rel => exact ⟨_, (decide (x7_1 < (l1.length : Int))), (by first | rfl | (simp; done) | (simp [*]; done)), H', ⟨by have := HK1.out; first | omega | exact Nat.le_refl _⟩, ⟨by (with_reducible repeat (first | apply Kd.R_alloc | apply Kd.R_drewN | apply Kd.R_drew)); exact HO_5.out⟩, ⟨by repeat (first | (with_reducible first | exact HB.out | apply below_alloc | apply pw_below_drewN | apply below_drew1) | exact HB.out)⟩⟩
   case rest =>
    clear HC3
    try clear c1
    try clear p2
    try clear c4
    try clear c4b0
    try clear p2
    obtain ⟨kq, x17_2, rfl, HA, HJ2, HO_5, HB⟩ := hcut
    cases kq with
    | zero => exact absurd HA.out (by simp [flagstoneref05_merged.j1])
    | succ kj2 =>
     have H := HA.out
     clear HA
     simp only [flagstoneref05_merged.j1] at H
     by_cases c5 : x17_2 = true
     ·subst c5
      have H1 : (if x7_1 = (l1.length : Int) then (flagstoneref05_merged.j2 kj2 l0 l1 x5_1 x6_1 x7_1 true) else (if x6_1 < (l0.length : Int) then (if 0 ≤ x6_1 then (if 0 ≤ x7_1 then (if x7_1 < (l1.length : Int) then (flagstoneref05_merged.j2 kj2 l0 l1 x5_1 x6_1 x7_1 (decide (((rd_T24 l0 x6_1).f0) < ((rd_T24 l1 x7_1).f0)))) else (none)) else (none)) else (none)) else (flagstoneref05_merged.j2 kj2 l0 l1 x5_1 x6_1 x7_1 false))) = some r := by rw [if_pos rfl] at H; exact H
      clear H
      have H := H1
      clear H1
      have HC6 := Aside0.mk H
      clear H
      go_upto_region 4 with (fail)
      repeat (go_quiet (fail); go_upto_region 4 with (fail))
      go_cut [40] (fun v40 wc => ∃ (kq : Nat) (x40_5 : Bool), v40 = .bool x40_5 ∧ Aside0 (flagstoneref05_merged.j2 kq l0 l1 x5_1 x6_1 x7_1 x40_5 = some r) ∧ Aside0 (kq ≤ kj2) ∧ Aside0 (Kd.R k24 24 wc w.heap.size (fun _ => True) u5 x5_1) ∧ Aside0 (Below w.heap.size w wc))
      case first =>
       have H := HC6.out
       clear HC6
       by_cases c7 : x7_1 = (l1.length : Int)
       ·rw [if_pos c7] at H
        have c7b0 : (x7_1 == (l1.length : Int)) = true := beq_iff_eq.mpr c7
        have c7b1 : (x7_1 != (l1.length : Int)) = false := bne_eq_false_iff_eq.mpr c7
        clear c7
        (first | rw [c7b0] | (simp only [i64_w, i32_w]; rw [c7b0]) | skip)
        have H' := Aside0.mk H
        clear H
        go_wp2
        repeat (go_quiet (fail); try go_wp2)
        go_meet
        case rel => exact ⟨_, (true), (by first | rfl | (simp; done) | (simp [*]; done)), H', ⟨by have := HK1.out; have := HJ2.out; first | omega | exact Nat.le_refl _⟩, ⟨by (with_reducible repeat (first | apply Kd.R_alloc | apply Kd.R_drewN | apply Kd.R_drew)); exact HO_5.out⟩, ⟨by repeat (first | (with_reducible first | exact HB.out | apply below_alloc | apply pw_below_drewN | apply below_drew1) | exact HB.out)⟩⟩
       ·rw [if_neg c7] at H
        have c7b0 : (x7_1 == (l1.length : Int)) = false := beq_eq_false_iff_ne.mpr c7
        have c7b1 : (x7_1 != (l1.length : Int)) = true := bne_iff_ne.mpr c7
        (first | rw [c7b0] | (simp only [i64_w, i32_w]; rw [c7b0]) | skip)
        by_cases c8 : x6_1 < (l0.length : Int)
        ·rw [if_pos c8] at H
         have c8b0 : decide (x6_1 < (l0.length : Int)) = true := decide_eq_true c8
         clear c8
         by_cases c9 : 0 ≤ x6_1
         ·rw [if_pos c9] at H
          have c9b0 : decide (0 ≤ x6_1) = true := decide_eq_true c9
          clear c9
          by_cases c10 : 0 ≤ x7_1
          ·rw [if_pos c10] at H
           have c10b0 : decide (0 ≤ x7_1) = true := decide_eq_true c10
           clear c10
           by_cases c11 : x7_1 < (l1.length : Int)
           ·rw [if_pos c11] at H
            have c11b0 : decide (x7_1 < (l1.length : Int)) = true := decide_eq_true c11
            clear c11
            have H' := Aside0.mk H
            clear H
            have p101 : 0 ≤ (x6_1 : Int) := of_decide_eq_true (by first | (with_reducible assumption) | assumption)
            have q101 : x6_1 < (l0.length : Int) := of_decide_eq_true (by first | (with_reducible assumption) | assumption)
            obtain ⟨ad101, e101, hx101_0, hx101_1, hx101_2⟩ := at_T24 HR0.out x6_1 p101 q101
            cases e101
            replace hx101_0 := (HB.out.cell (World.block_lt_of_cell? w _ hx101_0)).trans hx101_0
            replace hx101_1 := (HB.out.cell (World.block_lt_of_cell? w _ hx101_1)).trans hx101_1
            replace hx101_2 := (HB.out.cell (World.block_lt_of_cell? w _ hx101_2)).trans hx101_2
            replace p101 := eq_true p101
            replace q101 := eq_true q101
            have p102 : 0 ≤ (x7_1 : Int) := of_decide_eq_true (by first | (with_reducible assumption) | assumption)
            have q102 : x7_1 < (l1.length : Int) := of_decide_eq_true (by first | (with_reducible assumption) | assumption)
            obtain ⟨ad102, e102, hx102_0, hx102_1, hx102_2⟩ := at_T24 HR1.out x7_1 p102 q102
            cases e102
            replace hx102_0 := (HB.out.cell (World.block_lt_of_cell? w _ hx102_0)).trans hx102_0
            replace hx102_1 := (HB.out.cell (World.block_lt_of_cell? w _ hx102_1)).trans hx102_1
            replace hx102_2 := (HB.out.cell (World.block_lt_of_cell? w _ hx102_2)).trans hx102_2
            replace p102 := eq_true p102
            replace q102 := eq_true q102
            go_wp2
            repeat (go_quiet (fail); try go_wp2)
            go_meet
            case rel => exact ⟨_, (decide (((rd_T24 l0 x6_1).f0) < ((rd_T24 l1 x7_1).f0))), (by first | rfl | (simp; done) | (simp [*]; done)), H', ⟨by have := HK1.out; have := HJ2.out; first | omega | exact Nat.le_refl _⟩, ⟨by (with_reducible repeat (first | apply Kd.R_alloc | apply Kd.R_drewN | apply Kd.R_drew)); exact HO_5.out⟩, ⟨by repeat (first | (with_reducible first | exact HB.out | apply below_alloc | apply pw_below_drewN | apply below_drew1) | exact HB.out)⟩⟩
           ·rw [if_neg c11] at H
            exact absurd H (by simp)
          ·rw [if_neg c10] at H
           exact absurd H (by simp)
         ·rw [if_neg c9] at H
          exact absurd H (by simp)
        ·rw [if_neg c8] at H
         have c8b0 : decide (x6_1 < (l0.length : Int)) = false := decide_eq_false c8
         clear c8
         have H' := Aside0.mk H
         clear H
         go_wp2
         repeat (go_quiet (fail); try go_wp2)
         go_meet
         case rel => exact ⟨_, (false), (by first | rfl | (simp; done) | (simp [*]; done)), H', ⟨by have := HK1.out; have := HJ2.out; first | omega | exact Nat.le_refl _⟩, ⟨by (with_reducible repeat (first | apply Kd.R_alloc | apply Kd.R_drewN | apply Kd.R_drew)); exact HO_5.out⟩, ⟨by repeat (first | (with_reducible first | exact HB.out | apply below_alloc | apply pw_below_drewN | apply below_drew1) | exact HB.out)⟩⟩
      case rest =>
       clear HC6
       try clear c1
       try clear p1
       try clear q1
       try clear hx1
       try clear p2
       try clear c4
       try clear c4b0
       try clear c5
       try clear c7
       try clear c7b0
       try clear c7b1
       try clear c8
       try clear c8b0
       try clear c9
       try clear c9b0
       try clear c10
       try clear c10b0
       try clear p10
       try clear q10
       try clear hx10
       try clear c11
       try clear c11b0
       try clear hx101_0
       try clear hx101_1
       try clear hx101_2
       try clear hx102_0
       try clear hx102_1
       try clear hx102_2
       try clear p101
       try clear p102
       try clear p2
       try clear q101
       try clear q102
       obtain ⟨kq, x40_5, rfl, HA, HJ5, HO_5, HB⟩ := hcut
       cases kq with
       | zero => exact absurd HA.out (by simp [flagstoneref05_merged.j2])
       | succ kj5 =>
        have H := HA.out
        clear HA
        simp only [flagstoneref05_merged.j2] at H
        by_cases c12 : x40_5 = true
        ·subst c12
         have H1 : (if 0 ≤ x6_1 then (if x6_1 < (l0.length : Int) then ((flagstoneref05_Add.f x5_1 ((rd_T24 l0 x6_1).f0) ((rd_T24 l0 x6_1).f1) ((rd_T24 l0 x6_1).f2)).bind fun t104 => (flagstoneref05_merged.l0 kj5 l0 l1 t104 (wrap64 (x6_1 + 1)) x7_1)) else (none)) else (none)) = some r := by rw [if_pos rfl] at H; exact H
         clear H
         have H := H1
         clear H1
         by_cases c13 : 0 ≤ x6_1
         ·rw [if_pos c13] at H
          have c13b0 : decide (0 ≤ x6_1) = true := decide_eq_true c13
          clear c13
          by_cases c14 : x6_1 < (l0.length : Int)
          ·rw [if_pos c14] at H
           have c14b0 : decide (x6_1 < (l0.length : Int)) = true := decide_eq_true c14
           clear c14
           replace H := Option.bind_eq_some_iff.mp H
           obtain ⟨t104, A150, H⟩ := H
           replace H : (flagstoneref05_merged.l0 kj5 l0 l1 t104 (wrap64 (x6_1 + 1)) x7_1) = some r := H
           have A15 := Aside0.mk A150
           clear A150
           have H' := Aside0.mk H
           clear H
           have p103 : 0 ≤ (x6_1 : Int) := of_decide_eq_true (by first | (with_reducible assumption) | assumption)
           have q103 : x6_1 < (l0.length : Int) := of_decide_eq_true (by first | (with_reducible assumption) | assumption)
           obtain ⟨ad103, e103, hx103_0, hx103_1, hx103_2⟩ := at_T24 HR0.out x6_1 p103 q103
           cases e103
           replace hx103_0 := (HB.out.cell (World.block_lt_of_cell? w _ hx103_0)).trans hx103_0
           replace hx103_1 := (HB.out.cell (World.block_lt_of_cell? w _ hx103_1)).trans hx103_1
           replace hx103_2 := (HB.out.cell (World.block_lt_of_cell? w _ hx103_2)).trans hx103_2
           replace p103 := eq_true p103
           replace q103 := eq_true q103
           obtain ⟨Ao16, co16, eo16⟩ := Kd.R_slice HO_5.out
           subst eo16
           go_wp2_with (first | (go_at_call 99; (with_reducible refine (flagstoneref05_Add.calls (fun k_ => some k_ = (.slice Ao16 x5_1.length co16 : Value).ownBlock) (.slice Ao16 x5_1.length co16) x5_1 ((rd_T24 l0 x6_1).f0) ((rd_T24 l0 x6_1).f1) ((rd_T24 l0 x6_1).f2) t104 w _ ?side1 ?side2 A15.out).mono ?_); (case side1 => repeat (first | (with_reducible first | exact HB.out | apply below_alloc | apply pw_below_drewN | apply below_drew1) | exact HB.out)); (case side2 => exact Kd.R_tight rfl HO_5.out); rintro e w17 ⟨v105, rfl, ho0, hb, hkp⟩; have n0_ := Aside0.mk (Kd.R_mono (ok' := fun k_ => True) ho0 (fun k_ hk_ => trivial)); have n1_ := Aside0.mk (hb); clear HB; clear HO_5; have HO106 := n0_; have HB := n1_; clear n0_ n1_; (try clear hb); (try clear hkp); (try clear ho0)))
           repeat (go_quiet (first | (go_at_call 99; (with_reducible refine (flagstoneref05_Add.calls (fun k_ => some k_ = (.slice Ao16 x5_1.length co16 : Value).ownBlock) (.slice Ao16 x5_1.length co16) x5_1 ((rd_T24 l0 x6_1).f0) ((rd_T24 l0 x6_1).f1) ((rd_T24 l0 x6_1).f2) t104 w _ ?side1 ?side2 A15.out).mono ?_); (case side1 => repeat (first | (with_reducible first | exact HB.out | apply below_alloc | apply pw_below_drewN | apply below_drew1) | exact HB.out)); (case side2 => exact Kd.R_tight rfl HO_5.out); rintro e w17 ⟨v105, rfl, ho0, hb, hkp⟩; have n0_ := Aside0.mk (Kd.R_mono (ok' := fun k_ => True) ho0 (fun k_ hk_ => trivial)); have n1_ := Aside0.mk (hb); clear HB; clear HO_5; have HO106 := n0_; have HB := n1_; clear n0_ n1_; (try clear hb); (try clear hkp); (try clear ho0))); try go_wp2_with (first | (go_at_call 99; (with_reducible refine (flagstoneref05_Add.calls (fun k_ => some k_ = (.slice Ao16 x5_1.length co16 : Value).ownBlock) (.slice Ao16 x5_1.length co16) x5_1 ((rd_T24 l0 x6_1).f0) ((rd_T24 l0 x6_1).f1) ((rd_T24 l0 x6_1).f2) t104 w _ ?side1 ?side2 A15.out).mono ?_); (case side1 => repeat (first | (with_reducible first | exact HB.out | apply below_alloc | apply pw_below_drewN | apply below_drew1) | exact HB.out)); (case side2 => exact Kd.R_tight rfl HO_5.out); rintro e w17 ⟨v105, rfl, ho0, hb, hkp⟩; have n0_ := Aside0.mk (Kd.R_mono (ok' := fun k_ => True) ho0 (fun k_ hk_ => trivial)); have n1_ := Aside0.mk (hb); clear HB; clear HO_5; have HO106 := n0_; have HB := n1_; clear n0_ n1_; (try clear hb); (try clear hkp); (try clear ho0))))
           go_roundg kj5
           case measure => have := HK1.out; have := HJ2.out; have := HJ5.out; omega
           case rel => exact ⟨(t104), (wrap64 (x6_1 + 1)), (x7_1), (by first | rfl | (simp; done) | (simp [*]; done)), (by first | rfl | (simp; done) | (simp [*]; done)), H', ⟨by have := HK1.out; have := HJ2.out; have := HJ5.out; omega⟩, ⟨by (with_reducible repeat (first | apply Kd.R_alloc | apply Kd.R_drewN | apply Kd.R_drew)); exact HO106.out⟩, ⟨by repeat (first | (with_reducible first | exact HB.out | apply below_alloc | apply pw_below_drewN | apply below_drew1) | exact HB.out)⟩⟩
          ·rw [if_neg c14] at H
           exact absurd H (by simp)
         ·rw [if_neg c13] at H
          exact absurd H (by simp)
        ·replace c12 := Bool.eq_false_iff.mpr c12
         subst c12
         have H1 : (if 0 ≤ x7_1 then (if x7_1 < (l1.length : Int) then ((flagstoneref05_Add.f x5_1 ((rd_T24 l1 x7_1).f0) ((rd_T24 l1 x7_1).f1) ((rd_T24 l1 x7_1).f2)).bind fun t108 => (flagstoneref05_merged.l0 kj5 l0 l1 t108 x6_1 (wrap64 (x7_1 + 1)))) else (none)) else (none)) = some r := by rw [if_neg (show ¬ (false = true) by decide)] at H; exact H
         clear H
         have H := H1
         clear H1
         by_cases c18 : 0 ≤ x7_1
         ·rw [if_pos c18] at H
          have c18b0 : decide (0 ≤ x7_1) = true := decide_eq_true c18
          clear c18
          by_cases c19 : x7_1 < (l1.length : Int)
          ·rw [if_pos c19] at H
           have c19b0 : decide (x7_1 < (l1.length : Int)) = true := decide_eq_true c19
           clear c19
           replace H := Option.bind_eq_some_iff.mp H
           obtain ⟨t108, A200, H⟩ := H
           replace H : (flagstoneref05_merged.l0 kj5 l0 l1 t108 x6_1 (wrap64 (x7_1 + 1))) = some r := H
           have A20 := Aside0.mk A200
           clear A200
           have H' := Aside0.mk H
           clear H
           have p107 : 0 ≤ (x7_1 : Int) := of_decide_eq_true (by first | (with_reducible assumption) | assumption)
           have q107 : x7_1 < (l1.length : Int) := of_decide_eq_true (by first | (with_reducible assumption) | assumption)
           obtain ⟨ad107, e107, hx107_0, hx107_1, hx107_2⟩ := at_T24 HR1.out x7_1 p107 q107
           cases e107
           replace hx107_0 := (HB.out.cell (World.block_lt_of_cell? w _ hx107_0)).trans hx107_0
           replace hx107_1 := (HB.out.cell (World.block_lt_of_cell? w _ hx107_1)).trans hx107_1
           replace hx107_2 := (HB.out.cell (World.block_lt_of_cell? w _ hx107_2)).trans hx107_2
           replace p107 := eq_true p107
           replace q107 := eq_true q107
           obtain ⟨Ao21, co21, eo21⟩ := Kd.R_slice HO_5.out
           subst eo21
           go_wp2_with (first | (go_at_call 99; (with_reducible refine (flagstoneref05_Add.calls (fun k_ => some k_ = (.slice Ao21 x5_1.length co21 : Value).ownBlock) (.slice Ao21 x5_1.length co21) x5_1 ((rd_T24 l1 x7_1).f0) ((rd_T24 l1 x7_1).f1) ((rd_T24 l1 x7_1).f2) t108 w _ ?side1 ?side2 A20.out).mono ?_); (case side1 => repeat (first | (with_reducible first | exact HB.out | apply below_alloc | apply pw_below_drewN | apply below_drew1) | exact HB.out)); (case side2 => exact Kd.R_tight rfl HO_5.out); rintro e w22 ⟨v109, rfl, ho0, hb, hkp⟩; have n0_ := Aside0.mk (Kd.R_mono (ok' := fun k_ => True) ho0 (fun k_ hk_ => trivial)); have n1_ := Aside0.mk (hb); clear HB; clear HO_5; have HO110 := n0_; have HB := n1_; clear n0_ n1_; (try clear hb); (try clear hkp); (try clear ho0)))
           repeat (go_quiet (first | (go_at_call 99; (with_reducible refine (flagstoneref05_Add.calls (fun k_ => some k_ = (.slice Ao21 x5_1.length co21 : Value).ownBlock) (.slice Ao21 x5_1.length co21) x5_1 ((rd_T24 l1 x7_1).f0) ((rd_T24 l1 x7_1).f1) ((rd_T24 l1 x7_1).f2) t108 w _ ?side1 ?side2 A20.out).mono ?_); (case side1 => repeat (first | (with_reducible first | exact HB.out | apply below_alloc | apply pw_below_drewN | apply below_drew1) | exact HB.out)); (case side2 => exact Kd.R_tight rfl HO_5.out); rintro e w22 ⟨v109, rfl, ho0, hb, hkp⟩; have n0_ := Aside0.mk (Kd.R_mono (ok' := fun k_ => True) ho0 (fun k_ hk_ => trivial)); have n1_ := Aside0.mk (hb); clear HB; clear HO_5; have HO110 := n0_; have HB := n1_; clear n0_ n1_; (try clear hb); (try clear hkp); (try clear ho0))); try go_wp2_with (first | (go_at_call 99; (with_reducible refine (flagstoneref05_Add.calls (fun k_ => some k_ = (.slice Ao21 x5_1.length co21 : Value).ownBlock) (.slice Ao21 x5_1.length co21) x5_1 ((rd_T24 l1 x7_1).f0) ((rd_T24 l1 x7_1).f1) ((rd_T24 l1 x7_1).f2) t108 w _ ?side1 ?side2 A20.out).mono ?_); (case side1 => repeat (first | (with_reducible first | exact HB.out | apply below_alloc | apply pw_below_drewN | apply below_drew1) | exact HB.out)); (case side2 => exact Kd.R_tight rfl HO_5.out); rintro e w22 ⟨v109, rfl, ho0, hb, hkp⟩; have n0_ := Aside0.mk (Kd.R_mono (ok' := fun k_ => True) ho0 (fun k_ hk_ => trivial)); have n1_ := Aside0.mk (hb); clear HB; clear HO_5; have HO110 := n0_; have HB := n1_; clear n0_ n1_; (try clear hb); (try clear hkp); (try clear ho0))))
           go_roundg kj5
           case measure => have := HK1.out; have := HJ2.out; have := HJ5.out; omega
           case rel => exact ⟨(t108), (x6_1), (wrap64 (x7_1 + 1)), (by first | rfl | (simp; done) | (simp [*]; done)), (by first | rfl | (simp; done) | (simp [*]; done)), H', ⟨by have := HK1.out; have := HJ2.out; have := HJ5.out; omega⟩, ⟨by (with_reducible repeat (first | apply Kd.R_alloc | apply Kd.R_drewN | apply Kd.R_drew)); exact HO110.out⟩, ⟨by repeat (first | (with_reducible first | exact HB.out | apply below_alloc | apply pw_below_drewN | apply below_drew1) | exact HB.out)⟩⟩
          ·rw [if_neg c19] at H
           exact absurd H (by simp)
         ·rw [if_neg c18] at H
          exact absurd H (by simp)
     ·replace c5 := Bool.eq_false_iff.mpr c5
      subst c5
      have H1 : (some x5_1) = some r := by rw [if_neg (show ¬ (false = true) by decide)] at H; exact H
      clear H
      have H := H1
      clear H1
      obtain rfl := Option.some.inj H
      go_wp2
      repeat (go_quiet (fail); try go_wp2)
      go_ret
      exact ⟨_, by first | rfl | (simp [errW_none, errW_some] <;> rfl) | (simp [*, errW_none, errW_some] <;> rfl), by (with_reducible repeat (first | apply Kd.R_alloc | apply Kd.R_drewN | apply Kd.R_drew)); exact HO_5.out, by repeat (first | (with_reducible first | exact HB.out | apply below_alloc | apply pw_below_drewN | apply below_drew1) | exact HB.out)⟩
def withG (v n : Int) (x : S24) : List S24 :=
  if (mn (wrap64 (x.f0 + x.f2)) (mx x.f0 v)) ≥ (mx x.f0 (mn (wrap64 (x.f0 + x.f2)) (wrap64 (v + n)))) then [x] else
    [⟨x.f0, x.f1, wrap64 ((mn (wrap64 (x.f0 + x.f2)) (mx x.f0 v)) - x.f0)⟩, ⟨mx x.f0 (mn (wrap64 (x.f0 + x.f2)) (wrap64 (v + n))), wrap64 ((wrap64 (x.f1 + (mx x.f0 (mn (wrap64 (x.f0 + x.f2)) (wrap64 (v + n)))))) - x.f0), wrap64 ((wrap64 (x.f0 + x.f2)) - (mx x.f0 (mn (wrap64 (x.f0 + x.f2)) (wrap64 (v + n)))))⟩]
theorem withG_len (v n : Int) (x : S24) : (withG v n x).length ≤ 2 := by unfold withG; split <;> simp
theorem withG_toE {x : S24} {v n : Int} (hx : Flag.okMap (toE x)) (hv : 0 ≤ v) (hn : 0 ≤ n) (he : v + n ≤ 65536) : (withG v n x).map toE = Flag.withE v n (toE x) := by
  obtain ⟨h1, h2, h3, h4, h5⟩ := hx
  simp only [toE] at h1 h2 h3 h4 h5
  unfold withG Flag.withE
  simp only [mx_max, mn_min]
  rw [w64 (n := x.f0 + x.f2) (by omega), w64 (n := v + n) (by omega)]
  have e : (toE x) = ⟨x.f0, x.f1, x.f2⟩ := rfl
  rw [e]
  dsimp only
  split
  · rfl
  · rw [w64 (n := min (x.f0 + x.f2) (max x.f0 v) - x.f0) (by omega), w64 (n := x.f1 + max x.f0 (min (x.f0 + x.f2) (v + n))) (by omega), w64 (n := x.f1 + max x.f0 (min (x.f0 + x.f2) (v + n)) - x.f0) (by omega), w64 (n := x.f0 + x.f2 - max x.f0 (min (x.f0 + x.f2) (v + n))) (by omega)]
    rfl
theorem withG_in {x : S24} {v n : Int} (hx : Flag.okMap (toE x)) (hv : 0 ≤ v) (hn : 0 ≤ n) (he : v + n ≤ 65536) : ∀ y ∈ withG v n x, y.f2 ≤ 0 ∨ InM y := by
  intro y hy
  have h := withG_toE hx hv hn he
  have hm : toE y ∈ Flag.withE v n (toE x) := by rw [← h]; exact List.mem_map_of_mem hy
  obtain ⟨h1, h2, h3, h4, h5⟩ := hx
  simp only [toE] at h1 h2 h3 h4 h5
  by_cases h0 : y.f2 ≤ 0
  · exact .inl h0
  · right
    unfold Flag.withE at hm
    split at hm
    · have e : toE y = toE x := by simpa using hm
      rw [toE_inj e]
      exact ⟨h2, by omega, by omega, by omega, h1⟩
    · simp only [List.mem_cons, List.not_mem_nil, or_false, toE, Flag.Ex.mk.injEq] at hm
      rcases hm with ⟨a, b, c⟩ | ⟨a, b, c⟩
      · exact ⟨by omega, by omega, by omega, by omega, by omega⟩
      · exact ⟨by omega, by omega, by omega, by omega, by omega⟩
theorem add_r {l : List S24} {x : S24} (h : l.length < 2147483648) : flagstoneref05_Add.f l x.f0 x.f1 x.f2 = some (addG l x) := by unfold flagstoneref05_Add.f; rw [if_pos h]
theorem without_loop (l : List S24) (hl : l.length ≤ 1024) (v n : Int) (t : List S24) : ∀ (pre acc : List S24) (k : Nat), l = pre ++ t → t.length < k → acc.length ≤ 2 * pre.length →
    flagstoneref05_without.l0 k l v n acc (pre.length : Int) = some ((t.flatMap (withG v n)).foldl addG acc) := by
  induction t with
  | nil =>
    intro pre acc k he hk _
    obtain ⟨k, rfl⟩ : ∃ k', k = k' + 1 := ⟨k - 1, by simp at hk; omega⟩
    rw [flagstoneref05_without.l0, if_neg (by rw [he]; simp)]
    rfl
  | cons x t ih =>
    intro pre acc k he hk ha
    obtain ⟨k, rfl⟩ : ∃ k', k = k' + 1 := ⟨k - 1, by simp at hk; omega⟩
    have hlen : l.length = pre.length + t.length + 1 := by rw [he]; simp; omega
    have hx : rd_T24 l (pre.length : Int) = x := by rw [he]; exact rd_at pre x t rfl
    have e1 : wrap64 ((pre.length : Int) + 1) = ((pre ++ [x]).length : Int) := by rw [w64 (by omega)]; simp
    have hnext := fun acc' h => ih (pre ++ [x]) acc' k (by rw [he]; simp) (by simp at hk; omega) h
    rw [flagstoneref05_without.l0, if_pos (by omega), if_pos (by omega), hx, e1, List.flatMap_cons, List.foldl_append, withG]
    split
    · rw [add_r (by omega), Option.bind_some, hnext _ (by have := addG_length acc x; simp; omega)]
      rfl
    · have h1 := addG_length acc ⟨x.f0, x.f1, wrap64 ((mn (wrap64 (x.f0 + x.f2)) (mx x.f0 v)) - x.f0)⟩
      rw [add_r (x := ⟨x.f0, x.f1, wrap64 ((mn (wrap64 (x.f0 + x.f2)) (mx x.f0 v)) - x.f0)⟩) (by omega), Option.bind_some]
      rw [add_r (x := ⟨mx x.f0 (mn (wrap64 (x.f0 + x.f2)) (wrap64 (v + n))), wrap64 ((wrap64 (x.f1 + (mx x.f0 (mn (wrap64 (x.f0 + x.f2)) (wrap64 (v + n)))))) - x.f0), wrap64 ((wrap64 (x.f0 + x.f2)) - (mx x.f0 (mn (wrap64 (x.f0 + x.f2)) (wrap64 (v + n)))))⟩) (by omega), Option.bind_some]
      rw [hnext _ (by have := addG_length (addG acc ⟨x.f0, x.f1, wrap64 ((mn (wrap64 (x.f0 + x.f2)) (mx x.f0 v)) - x.f0)⟩) ⟨mx x.f0 (mn (wrap64 (x.f0 + x.f2)) (wrap64 (v + n))), wrap64 ((wrap64 (x.f1 + (mx x.f0 (mn (wrap64 (x.f0 + x.f2)) (wrap64 (v + n)))))) - x.f0), wrap64 ((wrap64 (x.f0 + x.f2)) - (mx x.f0 (mn (wrap64 (x.f0 + x.f2)) (wrap64 (v + n)))))⟩; simp; omega)]
      rfl
def cutG (l : List S24) (v n : Int) : List S24 := (l.flatMap (withG v n)).foldl addG []
theorem without_x {l : List S24} (hl : l.length ≤ 1024) (v n : Int) {k : Nat} (hk : l.length < k) : flagstoneref05_without.f k l v n = some (cutG l v n) := by
  unfold flagstoneref05_without.f
  exact without_loop l hl v n l [] [] k rfl hk (by simp)
theorem flatMap_len (v n : Int) (l : List S24) : (l.flatMap (withG v n)).length ≤ 2 * l.length := by
  induction l with
  | nil => simp
  | cons x t ih => have := withG_len v n x; simp only [List.flatMap_cons, List.length_append, List.length_cons]; omega
theorem cutG_len (l : List S24) (v n : Int) : (cutG l v n).length ≤ 2 * l.length := by
  have h1 := addG_fold_length (l.flatMap (withG v n)) []
  have h2 := flatMap_len v n l
  simp only [List.length_nil] at h1
  unfold cutG
  omega
theorem map_flatMap_toE {l : List S24} {v n : Int} (h : ∀ x ∈ l, Flag.okMap (toE x)) (hv : 0 ≤ v) (hn : 0 ≤ n) (he : v + n ≤ 65536) : (l.flatMap (withG v n)).map toE = Flag.cutE (l.map toE) v n := by
  induction l with
  | nil => rfl
  | cons x t ih =>
    rw [List.flatMap_cons, List.map_append, withG_toE (h x List.mem_cons_self) hv hn he, ih (fun y hy => h y (List.mem_cons_of_mem _ hy))]
    simp [Flag.cutE]
theorem cutG_spec {l : List S24} (hm : Flag.Map5 (l.map toE)) {v n : Int} (hv : 0 ≤ v) (hn : 0 ≤ n) (he : v + n ≤ 65536) :
    Flag.NF ((cutG l v n).map toE) ∧ (∀ i, Flag.lookE ((cutG l v n).map toE) i = if v ≤ i ∧ i < v + n then none else Flag.lookE (l.map toE) i) ∧ ∀ y ∈ cutG l v n, InM y := by
  have hl : ∀ x ∈ l, Flag.okMap (toE x) := fun x hx => hm.ok _ (List.mem_map_of_mem hx)
  obtain ⟨h1, h2⟩ := fold_join (ps := l.flatMap (withG v n)) (fun y hy => by
    obtain ⟨x, hx, hy⟩ := List.mem_flatMap.1 hy
    exact withG_in (hl x hx) hv hn he y hy)
  rw [map_flatMap_toE hl hv hn he] at h1
  obtain ⟨h3, h4⟩ := Flag.joinE_spec (Flag.cutE_rising hm.ok hm.nf v n)
  unfold cutG
  rw [h1]
  exact ⟨h3, fun i => by rw [h4, Flag.cutE_look hm.ok v n i hm.nf], h2⟩
def mergeS : List S24 → List S24 → List S24
  | [], b => b
  | x :: a, [] => x :: a
  | x :: a, y :: b => if x.f0 < y.f0 then x :: mergeS a (y :: b) else y :: mergeS (x :: a) b
termination_by a b => a.length + b.length
theorem mergeS_toE : ∀ a b : List S24, (mergeS a b).map toE = Flag.mergeE (a.map toE) (b.map toE)
  | [], b => by rw [mergeS]; simp [Flag.mergeE]
  | x :: a, [] => by rw [mergeS]; simp [Flag.mergeE]
  | x :: a, y :: b => by
    rw [mergeS, List.map_cons, List.map_cons, Flag.mergeE]
    by_cases h : x.f0 < y.f0
    · rw [if_pos h, if_pos (show (toE x).v < (toE y).v from h), List.map_cons, mergeS_toE a (y :: b)]; rfl
    · rw [if_neg h, if_neg (show ¬ (toE x).v < (toE y).v from h), List.map_cons, mergeS_toE (x :: a) b]; rfl
termination_by a b => a.length + b.length
theorem mergeS_mem {z : S24} : ∀ {a b : List S24}, z ∈ mergeS a b → z ∈ a ∨ z ∈ b
  | [], b, h => by rw [mergeS] at h; exact .inr h
  | x :: a, [], h => by rw [mergeS] at h; exact .inl h
  | x :: a, y :: b, h => by
    rw [mergeS] at h
    split at h
    · rcases List.mem_cons.1 h with rfl | h
      · exact .inl List.mem_cons_self
      · rcases mergeS_mem h with h | h
        · exact .inl (List.mem_cons_of_mem _ h)
        · exact .inr h
    · rcases List.mem_cons.1 h with rfl | h
      · exact .inr List.mem_cons_self
      · rcases mergeS_mem h with h | h
        · exact .inl h
        · exact .inr (List.mem_cons_of_mem _ h)
termination_by a b => a.length + b.length
theorem merged_loop (a b : List S24) (hb : a.length + b.length < 1048576) (m : Nat) : ∀ (ta tb pa pb acc : List S24) (k : Nat), m = ta.length + tb.length → a = pa ++ ta → b = pb ++ tb → 3 * m + 1 < k → acc.length ≤ pa.length + pb.length →
    flagstoneref05_merged.l0 k a b acc (pa.length : Int) (pb.length : Int) = some ((mergeS ta tb).foldl addG acc) := by
  induction m with
  | zero =>
    intro ta tb pa pb acc k hm ha hb' hk _
    have e1 : ta = [] := List.length_eq_zero_iff.1 (by omega)
    have e2 : tb = [] := List.length_eq_zero_iff.1 (by omega)
    subst e1 e2
    simp only [List.append_nil] at ha hb'
    subst ha hb'
    obtain ⟨k, rfl⟩ : ∃ k', k = k' + 1 := ⟨k - 1, by omega⟩
    rw [flagstoneref05_merged.l0, if_neg (by simp)]
    cases k with
    | zero => omega
    | succ k =>
    rw [flagstoneref05_merged.j1, if_neg (by simp)]
    rw [mergeS]; rfl
  | succ m ih =>
    intro ta tb pa pb acc k hm ha hb' hk hacc
    obtain ⟨k, rfl⟩ : ∃ k', k = k' + 3 := ⟨k - 3, by omega⟩
    have la : a.length = pa.length + ta.length := by rw [ha]; simp
    have lb : b.length = pb.length + tb.length := by rw [hb']; simp
    have takeA : ∀ (x : S24) (t : List S24), ta = x :: t → flagstoneref05_merged.j2 (k + 1) a b acc (pa.length : Int) (pb.length : Int) true = some ((mergeS t tb).foldl addG (addG acc x)) := by
      intro x t e
      subst e
      have hx : rd_T24 a (pa.length : Int) = x := by rw [ha]; exact rd_at pa x t rfl
      have e1 : wrap64 ((pa.length : Int) + 1) = ((pa ++ [x]).length : Int) := by rw [w64 (by omega)]; simp
      rw [flagstoneref05_merged.j2, if_pos rfl, if_pos (by omega), if_pos (by simp at la; omega), hx, add_r (by omega), Option.bind_some, e1]
      exact ih t tb (pa ++ [x]) pb _ k (by simp at hm; omega) (by rw [ha]; simp) hb' (by omega) (by have := addG_length acc x; simp; omega)
    have takeB : ∀ (y : S24) (t : List S24), tb = y :: t → flagstoneref05_merged.j2 (k + 1) a b acc (pa.length : Int) (pb.length : Int) false = some ((mergeS ta t).foldl addG (addG acc y)) := by
      intro y t e
      subst e
      have hx : rd_T24 b (pb.length : Int) = y := by rw [hb']; exact rd_at pb y t rfl
      have e1 : wrap64 ((pb.length : Int) + 1) = ((pb ++ [y]).length : Int) := by rw [w64 (by omega)]; simp
      rw [flagstoneref05_merged.j2, if_neg (by simp), if_pos (by omega), if_pos (by simp at lb; omega), hx, add_r (by omega), Option.bind_some, e1]
      exact ih ta t pa (pb ++ [y]) _ k (by simp at hm; omega) ha (by rw [hb']; simp) (by omega) (by have := addG_length acc y; simp; omega)
    cases ta with
    | nil =>
      cases tb with
      | nil => simp at hm
      | cons y t =>
        simp only [List.length_nil, List.length_cons, Nat.add_zero] at la lb
        rw [flagstoneref05_merged.l0, if_neg (by omega), flagstoneref05_merged.j1]
        rw [if_pos (by apply decide_eq_true; omega), if_neg (by omega), if_neg (by omega), takeB y t rfl, mergeS, mergeS]
        rfl
    | cons x s =>
      simp only [List.length_cons] at la
      rw [flagstoneref05_merged.l0, if_pos (by omega), flagstoneref05_merged.j1, if_pos rfl]
      cases tb with
      | nil =>
        simp only [List.length_nil, Nat.add_zero] at lb
        rw [if_pos (by omega), takeA x s rfl, mergeS]
        cases s with
        | nil => rw [mergeS]; rfl
        | cons => rw [mergeS]; rfl
      | cons y t =>
        simp only [List.length_cons] at lb
        have hx : rd_T24 a (pa.length : Int) = x := by rw [ha]; exact rd_at pa x s rfl
        have hy : rd_T24 b (pb.length : Int) = y := by rw [hb']; exact rd_at pb y t rfl
        rw [if_neg (by omega), if_pos (by omega), if_pos (by omega), if_pos (by omega), if_pos (by omega), hx, hy, mergeS]
        by_cases h : x.f0 < y.f0
        · rw [decide_eq_true h, if_pos h, takeA x s rfl]; rfl
        · rw [decide_eq_false h, if_neg h, takeB y t rfl]; rfl
theorem merged_x (a b : List S24) (hb : a.length + b.length < 1048576) {k : Nat} (hk : 3 * (a.length + b.length) + 1 < k) : flagstoneref05_merged.f k a b = some ((mergeS a b).foldl addG []) := by
  unfold flagstoneref05_merged.f
  exact merged_loop a b hb _ a b [] [] [] k rfl rfl rfl hk (by simp)
def extent_Put.f (k : Nat) (l0 : List (S24)) (a1_0 : Int) (a1_1 : Int) (a1_2 : Int) : Option ((List (S24)) × Int) := (extent_Check.f k l0).bind fun t102 => (if t102 = 0 then ((extent_may.f a1_0 a1_1 a1_2).bind fun t103 => (if t103 = true then ((extent_replaced.f l0 a1_0 a1_2 (([(⟨a1_0, a1_1, a1_2⟩ : S24)] : List (S24)))).bind fun t107 => ((extent_full.f t107).bind fun bt110 => (some (bt110.1, bt110.2)))) else (some (([] : List (S24)), 4)))) else (some (([] : List (S24)), t102)))
theorem extent_Put.mono : ∀ a0 a1 a2 a3 k, LeO (extent_Put.f k a0 a1 a2 a3) (extent_Put.f (k + 1) a0 a1 a2 a3) := by
 intro a0 a1 a2 a3 k
 unfold extent_Put.f
 repeat' first
  | (with_reducible exact extent_Check.mono _ _)
  | (with_reducible exact LeO.refl _)
  | (with_reducible exact LeO.none _)
  | (with_reducible refine LeO.ite ?_ ?_)
  | (with_reducible refine LeO.bind ?_ (fun _ => ?_))
  | exact extent_Check.mono _ _
  | exact LeO.none _
  | refine LeO.ite ?_ ?_
  | refine LeO.bind ?_ (fun _ => ?_)
set_option maxHeartbeats 8000000 in
set_option maxRecDepth 100000 in
theorem extent_Put.calls (k : Nat) (A0 : Option Addr) (c0 : Nat) (l0 : List (S24)) (a1_0 : Int) (a1_1 : Int) (a1_2 : Int) (r1 : List (S24)) (r2 : Int) (w : World) (hr0 : Kd.C k24 w A0 l0.length l0) (hc0 : l0.length ≤ c0) (h : extent_Put.f k l0 a1_0 a1_1 a1_2 = some (r1, r2)) :
 Calls Try.prog 27 #[.slice A0 l0.length c0, .agg #[.int .i64 a1_0, .int .i64 a1_1, .int .i64 a1_2]] w fun e w' => ∃ v0_ : Value, e = .returned (.tuple #[v0_, .int .i64 r2]) ∧ Kd.R k24 24 w' w.heap.size (fun _ => True) v0_ r1 ∧ Below w.heap.size w w' := by
 have hu24 := Try.underlying24
 have HR0 := Aside0.mk hr0
 have HC0 := Aside0.mk hc0
 clear hr0 hc0
 have HB := Aside0.mk (Below.refl w.heap.size w)
 have H : ((extent_Check.f k l0).bind fun t102 => (if t102 = 0 then ((extent_may.f a1_0 a1_1 a1_2).bind fun t103 => (if t103 = true then ((extent_replaced.f l0 a1_0 a1_2 (([(⟨a1_0, a1_1, a1_2⟩ : S24)] : List (S24)))).bind fun t107 => ((extent_full.f t107).bind fun bt110 => (some (bt110.1, bt110.2)))) else (some (([] : List (S24)), 4)))) else (some (([] : List (S24)), t102)))) = some (r1, r2) := h
 clear h
 replace H := Option.bind_eq_some_iff.mp H
 obtain ⟨t102, A30, H⟩ := H
 replace H : (if t102 = 0 then ((extent_may.f a1_0 a1_1 a1_2).bind fun t103 => (if t103 = true then ((extent_replaced.f l0 a1_0 a1_2 (([(⟨a1_0, a1_1, a1_2⟩ : S24)] : List (S24)))).bind fun t107 => ((extent_full.f t107).bind fun bt110 => (some (bt110.1, bt110.2)))) else (some (([] : List (S24)), 4)))) else (some (([] : List (S24)), t102))) = some (r1, r2) := H
 have A3 := Aside0.mk A30
 clear A30
 by_cases c4 : t102 = 0
 ·rw [if_pos c4] at H
  have c4b0 : (t102 == 0) = true := beq_iff_eq.mpr c4
  have c4b1 : (t102 != 0) = false := bne_eq_false_iff_eq.mpr c4
  clear c4
  replace H := Option.bind_eq_some_iff.mp H
  obtain ⟨t103, A50, H⟩ := H
  replace H : (if t103 = true then ((extent_replaced.f l0 a1_0 a1_2 (([(⟨a1_0, a1_1, a1_2⟩ : S24)] : List (S24)))).bind fun t107 => ((extent_full.f t107).bind fun bt110 => (some (bt110.1, bt110.2)))) else (some (([] : List (S24)), 4))) = some (r1, r2) := H
  have A5 := Aside0.mk A50
  clear A50
  by_cases c6 : t103 = true
  ·subst c6
   have H1 : ((extent_replaced.f l0 a1_0 a1_2 (([(⟨a1_0, a1_1, a1_2⟩ : S24)] : List (S24)))).bind fun t107 => ((extent_full.f t107).bind fun bt110 => (some (bt110.1, bt110.2)))) = some (r1, r2) := by rw [if_pos rfl] at H; exact H
   clear H
   have H := H1
   clear H1
   obtain ⟨y104, hy104⟩ : ∃ y_ : List (S24), y_ = (([(⟨a1_0, a1_1, a1_2⟩ : S24)] : List (S24))) := ⟨_, rfl⟩
   replace H : ((extent_replaced.f l0 a1_0 a1_2 y104).bind fun t107 => ((extent_full.f t107).bind fun bt110 => (some (bt110.1, bt110.2)))) = some (r1, r2) := by first | (rw [hy104]; with_reducible exact H) | (have H2_ := (Option.bind_some _ _).symm.trans H; rw [hy104]; with_reducible exact H2_) | (have H2_ := (Option.bind_some _ _).symm.trans H; with_reducible exact H2_) | with_reducible exact H | (rw [hy104]; exact H) | exact H
   have Ny104 := Aside0.mk hy104
   clear hy104
   replace H := Option.bind_eq_some_iff.mp H
   obtain ⟨t107, A70, H⟩ := H
   replace H : ((extent_full.f t107).bind fun bt110 => (some (bt110.1, bt110.2))) = some (r1, r2) := H
   have A7 := Aside0.mk A70
   clear A70
   replace H := Option.bind_eq_some_iff.mp H
   obtain ⟨⟨t110, t113⟩, A80, H⟩ := H
   replace H : (some (t110, t113)) = some (r1, r2) := H
   have A8 := Aside0.mk A80
   clear A80
   simp only [Option.some.injEq, Prod.mk.injEq] at H
   obtain ⟨rfl, rfl⟩ := H
   go_enter Try.func27, Try.ntmps27
   go_wp2_with (first | ((with_reducible refine gate_dst (N := 3) rfl ?_); refine box_event ?hg (N := 3) ?hd (cs := #[.int .i64 a1_0, .int .i64 a1_1, .int .i64 a1_2]) (t := 24) ?hr ?_; (case hd => rfl); (case hg => rfl); (case hr => first | (go_simp; done) | (go_simp; rfl)); intro gb101 hg w9 hbox hb; have n0_ := Aside0.mk (below_step (by repeat (first | (with_reducible first | exact HB.out | apply below_alloc | apply pw_below_drewN | apply below_drew1) | exact HB.out)) hb); have n1_ := Aside0.mk (hbox); have n2_ := Aside0.mk ((by rw [hg]; exact (below_size (by repeat (first | (with_reducible first | exact HB.out | apply below_alloc | apply pw_below_drewN | apply below_drew1) | exact HB.out))) : w.heap.size ≤ gb101)); have n3_ := Aside0.mk ((by rw [hg]; exact (below_size (by repeat (first | (with_reducible first | exact HB.out | apply below_alloc | apply pw_below_drewN | apply below_drew1) | exact HB.out))) : w.heap.size ≤ gb101)); clear HB; have HB := n0_; have BK101 := n1_; have GW101 := n2_; have GE101 := n3_; clear n0_ n1_ n2_ n3_; clear hb hbox hg) | ((with_reducible refine gate_callee (f := 36) rfl ?_); refine goesL_ (some 8) rfl rfl Try.func36 (by kernel_rfl) rfl #[.slice A0 l0.length c0] rfl (by (try simp only [List.map_toArray, List.map_cons, List.map_nil]); first | done | rfl | (simp only [List.length_drop, List.length_take]; rfl)) ?_; (with_reducible refine (extent_Check.calls k _ _ l0 t102 _ ?side1 ?side2 A3.out).mono ?_); (case side1 => repeat (first | exact (Kd.C_below HR0.out HB.out) | (with_reducible refine Kd.C_alloc ?_ _) | (with_reducible refine Kd.C_drewN ?_ _) | (with_reducible refine Kd.C_drew ?_))); (case side2 => exact HC0.out); rintro e w10 ⟨rfl, hb⟩; refine ⟨_, rfl, ?_⟩; have n0_ := Aside0.mk (blk_below (g := gb101) (o := .cells #[.int .i64 a1_0, .int .i64 a1_1, .int .i64 a1_2] 24 (0, 0)) (by (with_reducible repeat (first | refine blk_drewN ?_ _ | refine blk_drew ?_ | refine blk_alloc ?_ _)); exact BK101.out) hb); have n1_ := Aside0.mk (below_step (by repeat (first | (with_reducible first | exact HB.out | apply below_alloc | apply pw_below_drewN | apply below_drew1 | refine below_set ?_ GE101.out) | exact HB.out)) hb); clear BK101; clear HB; have BK101 := n0_; have HB := n1_; clear n0_ n1_; (try clear hb); (try clear hb2); (try clear hk); (try clear hi); have hcz11_0 : w10.cell? ⟨gb101, 0, none⟩ = some (.int .i64 a1_0) := (blk_cell BK101.out 0).trans rfl; have hcz11_1 : w10.cell? ⟨gb101, 1, none⟩ = some (.int .i64 a1_1) := (blk_cell BK101.out 1).trans rfl; have hcz11_2 : w10.cell? ⟨gb101, 2, none⟩ = some (.int .i64 a1_2) := (blk_cell BK101.out 2).trans rfl; have hfz11_0 := blk_frozen BK101.out 0; have hfz11_1 := blk_frozen BK101.out 1; have hfz11_2 := blk_frozen BK101.out 2) | ((with_reducible refine gate_callee (f := 86) rfl ?_); refine goesL_ (some 13) rfl rfl Try.func86 (by kernel_rfl) rfl #[.agg #[.int .i64 a1_0, .int .i64 a1_1, .int .i64 a1_2]] rfl (by (try simp only [List.map_toArray, List.map_cons, List.map_nil]); first | done | rfl | (simp only [List.length_drop, List.length_take]; rfl)) ?_; (with_reducible refine (extent_may.calls a1_0 a1_1 a1_2 true _ A5.out).mono ?_); rintro e w12 ⟨rfl, hb⟩; refine ⟨_, rfl, ?_⟩; have n0_ := Aside0.mk (blk_below (g := gb101) (o := .cells #[.int .i64 a1_0, .int .i64 a1_1, .int .i64 a1_2] 24 (0, 0)) (by (with_reducible repeat (first | refine blk_drewN ?_ _ | refine blk_drew ?_ | refine blk_alloc ?_ _)); exact BK101.out) hb); have n1_ := Aside0.mk (below_step (by repeat (first | (with_reducible first | exact HB.out | apply below_alloc | apply pw_below_drewN | apply below_drew1 | refine below_set ?_ GE101.out) | exact HB.out)) hb); clear BK101; clear HB; have BK101 := n0_; have HB := n1_; clear n0_ n1_; (try clear hb); (try clear hb2); (try clear hk); (try clear hi); have hcz13_0 : w12.cell? ⟨gb101, 0, none⟩ = some (.int .i64 a1_0) := (blk_cell BK101.out 0).trans rfl; have hcz13_1 : w12.cell? ⟨gb101, 1, none⟩ = some (.int .i64 a1_1) := (blk_cell BK101.out 1).trans rfl; have hcz13_2 : w12.cell? ⟨gb101, 2, none⟩ = some (.int .i64 a1_2) := (blk_cell BK101.out 2).trans rfl; have hfz13_0 := blk_frozen BK101.out 0; have hfz13_1 := blk_frozen BK101.out 1; have hfz13_2 := blk_frozen BK101.out 2) | ((with_reducible refine gate_dst (N := 21) rfl ?_); refine Kd.R_lit k24 _ 24 ?hg (N := 21) ?hd (xs := ([(⟨a1_0, a1_1, a1_2⟩ : S24)] : List (S24))) (inner := [.int .i64 a1_0, .int .i64 a1_1, .int .i64 a1_2]) (ok := fun _ => True) (okp := fun _ => True) ?hr ?hp (fun _ hk => hk) trivial (Below.refl _ _) (Nat.le_refl _) (by simp) ?_; (case hd => rfl); (case hg => rfl); (case hr => first | (go_simp; done) | (go_simp; rfl)); (case hp => exact (Reps.c3 (show Kd.M k24 _ _ _ (⟨a1_0, a1_1, a1_2⟩ : S24) [.int .i64 a1_0, .int .i64 a1_1, .int .i64 a1_2] from (k24_mkM _ _ _ (⟨a1_0, a1_1, a1_2⟩ : S24) )) (Reps.none _ _))); intro v105 w14 ho15 hb hg_ hnew_; clear hg_ hnew_; (first | rw [← Ny104.out] at ho15 | (simp only [Int.reduceToNat] at ho15; rw [← Ny104.out] at ho15)); have n0_ := Aside0.mk (Kd.R_lower (Kd.R_newB ho15 (g := gb101) (o := .cells #[.int .i64 a1_0, .int .i64 a1_1, .int .i64 a1_2] 24 (0, 0)) (by (with_reducible repeat (first | refine blk_drewN ?_ _ | refine blk_drew ?_ | refine blk_alloc ?_ _)); exact BK101.out)) (below_size (by repeat (first | (with_reducible first | exact HB.out | apply below_alloc | apply pw_below_drewN | apply below_drew1 | refine below_set ?_ GE101.out) | exact HB.out)))); have n1_ := Aside0.mk (blk_below (g := gb101) (o := .cells #[.int .i64 a1_0, .int .i64 a1_1, .int .i64 a1_2] 24 (0, 0)) (by (with_reducible repeat (first | refine blk_drewN ?_ _ | refine blk_drew ?_ | refine blk_alloc ?_ _)); exact BK101.out) hb); have n2_ := Aside0.mk (below_step (by repeat (first | (with_reducible first | exact HB.out | apply below_alloc | apply pw_below_drewN | apply below_drew1 | refine below_set ?_ GE101.out) | exact HB.out)) hb); clear BK101; clear HB; have HO106 := n0_; have BK101 := n1_; have HB := n2_; clear n0_ n1_ n2_; clear hb ho15; obtain ⟨Ao16, co16, eo16⟩ := Kd.R_slice HO106.out; subst eo16) | ((with_reducible refine gate_callee (f := 88) rfl ?_); refine goesL_ (some 22) rfl rfl Try.func88 (by kernel_rfl) rfl #[.slice A0 l0.length c0, .int .i64 a1_0, .int .i64 a1_2, .slice Ao16 y104.length co16] rfl (by (try simp only [List.map_toArray, List.map_cons, List.map_nil]); first | done | rfl | (simp only [List.length_drop, List.length_take]; rfl)) ?_; (with_reducible refine (extent_replaced.calls _ _ l0 a1_0 a1_2 _ _ y104 t107 _ ?side1 ?side2 ?side3 ?side4 A7.out).mono ?_); (case side1 => repeat (first | exact (Kd.C_below HR0.out HB.out) | (with_reducible refine Kd.C_alloc ?_ _) | (with_reducible refine Kd.C_drewN ?_ _) | (with_reducible refine Kd.C_drew ?_))); (case side2 => exact HC0.out); (case side3 => repeat (first | exact (Kd.R_reads' HO106.out).2.2 | (with_reducible refine Kd.C_alloc ?_ _) | (with_reducible refine Kd.C_drewN ?_ _) | (with_reducible refine Kd.C_drew ?_))); (case side4 => exact (Kd.R_reads' HO106.out).2.1); rintro e w17 ⟨v108, rfl, ho0, hb⟩; refine ⟨_, rfl, ?_⟩; have n0_ := Aside0.mk (Kd.R_elder' (by (with_reducible repeat (first | apply Kd.R_alloc | apply Kd.R_drewN | apply Kd.R_drew)); exact HO106.out) (Kd.R_base ho0) hb); have n1_ := Aside0.mk (Kd.R_lower (Kd.R_newB (Kd.R_new' ho0 (Kd.R_lt (by (with_reducible repeat (first | apply Kd.R_alloc | apply Kd.R_drewN | apply Kd.R_drew)); exact HO106.out))) (g := gb101) (o := .cells #[.int .i64 a1_0, .int .i64 a1_1, .int .i64 a1_2] 24 (0, 0)) (by (with_reducible repeat (first | refine blk_drewN ?_ _ | refine blk_drew ?_ | refine blk_alloc ?_ _)); exact BK101.out)) (below_size (by repeat (first | (with_reducible first | exact HB.out | apply below_alloc | apply pw_below_drewN | apply below_drew1 | refine below_set ?_ GE101.out) | exact HB.out)))); have n2_ := Aside0.mk (blk_below (g := gb101) (o := .cells #[.int .i64 a1_0, .int .i64 a1_1, .int .i64 a1_2] 24 (0, 0)) (by (with_reducible repeat (first | refine blk_drewN ?_ _ | refine blk_drew ?_ | refine blk_alloc ?_ _)); exact BK101.out) hb); have n3_ := Aside0.mk (below_step (by repeat (first | (with_reducible first | exact HB.out | apply below_alloc | apply pw_below_drewN | apply below_drew1 | refine below_set ?_ GE101.out) | exact HB.out)) hb); clear HO106; clear BK101; clear HB; have HO106 := n0_; have HO109 := n1_; have BK101 := n2_; have HB := n3_; clear n0_ n1_ n2_ n3_; (try clear hb); (try clear hb2); (try clear hk); (try clear hi); (try clear ho0); obtain ⟨Ao18, co18, eo18⟩ := Kd.R_slice HO109.out; subst eo18) | ((with_reducible refine gate_callee (f := 87) rfl ?_); refine goesL_ (some 23) rfl rfl Try.func87 (by kernel_rfl) rfl #[.slice Ao18 t107.length co18] rfl (by (try simp only [List.map_toArray, List.map_cons, List.map_nil]); first | done | rfl | (simp only [List.length_drop, List.length_take]; rfl)) ?_; (with_reducible refine (extent_full.calls (fun k_ => some k_ = (.slice Ao18 t107.length co18 : Value).ownBlock) (.slice Ao18 t107.length co18) t107 t110 t113 w _ ?side1 ?side2 A8.out).mono ?_); (case side1 => repeat (first | (with_reducible first | exact HB.out | apply below_alloc | apply pw_below_drewN | apply below_drew1 | refine below_set ?_ GE101.out) | exact HB.out)); (case side2 => exact Kd.R_tight rfl HO109.out); rintro e w19 ⟨v111, rfl, ho0, hb, hkp⟩; refine ⟨_, rfl, ?_⟩; have n0_ := Aside0.mk (blk_kept (by (with_reducible repeat (first | refine blk_drewN ?_ _ | refine blk_drew ?_ | refine blk_alloc ?_ _)); exact BK101.out) hkp (fun hs_ => (fun e_ => (Kd.R_away HO109.out (fun _ hk => hk.2)) e_) hs_)); have n1_ := Aside0.mk (Kd.R_mono (ok' := fun k_ => k_ ≠ gb101 ∧ some k_ ≠ (v111 : Value).ownBlock) (Kd.R_keptB (HO106.out) hkp (fun k_ hk_ hs_ => (hk_.2) hs_)) (fun k_ hk_ => ⟨hk_.1.1.2, fun e_ => Or.elim (ho0.1 k_ e_.symm) (fun hs_ => hk_.2.1 hs_) (fun hn_ => Nat.not_le.2 hk_.2.2 hn_)⟩)); have n2_ := Aside0.mk (Kd.R_mono (ok' := fun k_ => some k_ ≠ (.slice Ao16 y104.length co16 : Value).ownBlock ∧ k_ ≠ gb101) ho0 (fun k_ hk_ => ⟨Or.elim hk_ (fun hs_ => fun e_ => (((HO106.out).1 k_ e_.symm).2) hs_) (fun hn_ => (Kd.fresh' (Kd.R_lt (by (with_reducible repeat (first | apply Kd.R_alloc | apply Kd.R_drewN | apply Kd.R_drew)); exact HO106.out)) k_ hn_)), Or.elim hk_ (fun hs_ => fun e_ => (Kd.R_away HO109.out (fun _ hk => hk.2)) (by rw [← e_]; exact hs_)) (fun hn_ => (Kd.freshB (g := gb101) (o := .cells #[.int .i64 a1_0, .int .i64 a1_1, .int .i64 a1_2] 24 (0, 0)) (by (with_reducible repeat (first | refine blk_drewN ?_ _ | refine blk_drew ?_ | refine blk_alloc ?_ _)); exact BK101.out) k_ hn_))⟩)); have n3_ := Aside0.mk (hb); clear BK101; clear HO106; clear HB; clear HO109; have BK101 := n0_; have HO106 := n1_; have HO112 := n2_; have HB := n3_; clear n0_ n1_ n2_ n3_; (try clear hb); (try clear hkp); (try clear ho0)))
   go_ret2
   exact ⟨_, by first | rfl | (simp [errW_none, errW_some] <;> rfl) | (simp [*, errW_none, errW_some] <;> rfl), by (with_reducible repeat (first | apply Kd.R_alloc | apply Kd.R_drewN | apply Kd.R_drew)); exact Kd.R_mono HO112.out (fun _ hk => trivial), by repeat (first | (with_reducible first | exact HB.out | apply below_alloc | apply pw_below_drewN | apply below_drew1 | refine below_set ?_ GE101.out) | exact HB.out)⟩
  ·replace c6 := Bool.eq_false_iff.mpr c6
   subst c6
   have H1 : (some (([] : List (S24)), 4)) = some (r1, r2) := by rw [if_neg (show ¬ (false = true) by decide)] at H; exact H
   clear H
   have H := H1
   clear H1
   simp only [Option.some.injEq, Prod.mk.injEq] at H
   obtain ⟨rfl, rfl⟩ := H
   go_enter Try.func27, Try.ntmps27
   go_wp2_with (first | ((with_reducible refine gate_dst (N := 3) rfl ?_); refine box_event ?hg (N := 3) ?hd (cs := #[.int .i64 a1_0, .int .i64 a1_1, .int .i64 a1_2]) (t := 24) ?hr ?_; (case hd => rfl); (case hg => rfl); (case hr => first | (go_simp; done) | (go_simp; rfl)); intro gb101 hg w20 hbox hb; have n0_ := Aside0.mk (below_step (by repeat (first | (with_reducible first | exact HB.out | apply below_alloc | apply pw_below_drewN | apply below_drew1) | exact HB.out)) hb); have n1_ := Aside0.mk (hbox); have n2_ := Aside0.mk ((by rw [hg]; exact (below_size (by repeat (first | (with_reducible first | exact HB.out | apply below_alloc | apply pw_below_drewN | apply below_drew1) | exact HB.out))) : w.heap.size ≤ gb101)); have n3_ := Aside0.mk ((by rw [hg]; exact (below_size (by repeat (first | (with_reducible first | exact HB.out | apply below_alloc | apply pw_below_drewN | apply below_drew1) | exact HB.out))) : w.heap.size ≤ gb101)); clear HB; have HB := n0_; have BK101 := n1_; have GW101 := n2_; have GE101 := n3_; clear n0_ n1_ n2_ n3_; clear hb hbox hg) | ((with_reducible refine gate_callee (f := 36) rfl ?_); refine goesL_ (some 8) rfl rfl Try.func36 (by kernel_rfl) rfl #[.slice A0 l0.length c0] rfl (by (try simp only [List.map_toArray, List.map_cons, List.map_nil]); first | done | rfl | (simp only [List.length_drop, List.length_take]; rfl)) ?_; (with_reducible refine (extent_Check.calls k _ _ l0 t102 _ ?side1 ?side2 A3.out).mono ?_); (case side1 => repeat (first | exact (Kd.C_below HR0.out HB.out) | (with_reducible refine Kd.C_alloc ?_ _) | (with_reducible refine Kd.C_drewN ?_ _) | (with_reducible refine Kd.C_drew ?_))); (case side2 => exact HC0.out); rintro e w21 ⟨rfl, hb⟩; refine ⟨_, rfl, ?_⟩; have n0_ := Aside0.mk (blk_below (g := gb101) (o := .cells #[.int .i64 a1_0, .int .i64 a1_1, .int .i64 a1_2] 24 (0, 0)) (by (with_reducible repeat (first | refine blk_drewN ?_ _ | refine blk_drew ?_ | refine blk_alloc ?_ _)); exact BK101.out) hb); have n1_ := Aside0.mk (below_step (by repeat (first | (with_reducible first | exact HB.out | apply below_alloc | apply pw_below_drewN | apply below_drew1 | refine below_set ?_ GE101.out) | exact HB.out)) hb); clear BK101; clear HB; have BK101 := n0_; have HB := n1_; clear n0_ n1_; (try clear hb); (try clear hb2); (try clear hk); (try clear hi); have hcz22_0 : w21.cell? ⟨gb101, 0, none⟩ = some (.int .i64 a1_0) := (blk_cell BK101.out 0).trans rfl; have hcz22_1 : w21.cell? ⟨gb101, 1, none⟩ = some (.int .i64 a1_1) := (blk_cell BK101.out 1).trans rfl; have hcz22_2 : w21.cell? ⟨gb101, 2, none⟩ = some (.int .i64 a1_2) := (blk_cell BK101.out 2).trans rfl; have hfz22_0 := blk_frozen BK101.out 0; have hfz22_1 := blk_frozen BK101.out 1; have hfz22_2 := blk_frozen BK101.out 2) | ((with_reducible refine gate_callee (f := 86) rfl ?_); refine goesL_ (some 13) rfl rfl Try.func86 (by kernel_rfl) rfl #[.agg #[.int .i64 a1_0, .int .i64 a1_1, .int .i64 a1_2]] rfl (by (try simp only [List.map_toArray, List.map_cons, List.map_nil]); first | done | rfl | (simp only [List.length_drop, List.length_take]; rfl)) ?_; (with_reducible refine (extent_may.calls a1_0 a1_1 a1_2 false _ A5.out).mono ?_); rintro e w23 ⟨rfl, hb⟩; refine ⟨_, rfl, ?_⟩; have n0_ := Aside0.mk (blk_below (g := gb101) (o := .cells #[.int .i64 a1_0, .int .i64 a1_1, .int .i64 a1_2] 24 (0, 0)) (by (with_reducible repeat (first | refine blk_drewN ?_ _ | refine blk_drew ?_ | refine blk_alloc ?_ _)); exact BK101.out) hb); have n1_ := Aside0.mk (below_step (by repeat (first | (with_reducible first | exact HB.out | apply below_alloc | apply pw_below_drewN | apply below_drew1 | refine below_set ?_ GE101.out) | exact HB.out)) hb); clear BK101; clear HB; have BK101 := n0_; have HB := n1_; clear n0_ n1_; (try clear hb); (try clear hb2); (try clear hk); (try clear hi)))
   go_ret2
   exact ⟨_, by first | rfl | (simp [errW_none, errW_some] <;> rfl) | (simp [*, errW_none, errW_some] <;> rfl), by first | exact Kd.R_nil _ _ _ _ _ | exact Kd.N_nil _ _ _ _ _ | exact Kd.V_nil _ _ _ _ _ | exact Kd.Q_nil _ _ _ _ _ | exact Kd.S_nil _ _ _ _ _, by repeat (first | (with_reducible first | exact HB.out | apply below_alloc | apply pw_below_drewN | apply below_drew1 | refine below_set ?_ GE101.out) | exact HB.out)⟩
 ·rw [if_neg c4] at H
  have c4b0 : (t102 == 0) = false := beq_eq_false_iff_ne.mpr c4
  have c4b1 : (t102 != 0) = true := bne_iff_ne.mpr c4
  simp only [Option.some.injEq, Prod.mk.injEq] at H
  obtain ⟨rfl, rfl⟩ := H
  go_enter Try.func27, Try.ntmps27
  go_wp2_with (first | ((with_reducible refine gate_dst (N := 3) rfl ?_); refine box_event ?hg (N := 3) ?hd (cs := #[.int .i64 a1_0, .int .i64 a1_1, .int .i64 a1_2]) (t := 24) ?hr ?_; (case hd => rfl); (case hg => rfl); (case hr => first | (go_simp; done) | (go_simp; rfl)); intro gb101 hg w24 hbox hb; have n0_ := Aside0.mk (below_step (by repeat (first | (with_reducible first | exact HB.out | apply below_alloc | apply pw_below_drewN | apply below_drew1) | exact HB.out)) hb); have n1_ := Aside0.mk (hbox); have n2_ := Aside0.mk ((by rw [hg]; exact (below_size (by repeat (first | (with_reducible first | exact HB.out | apply below_alloc | apply pw_below_drewN | apply below_drew1) | exact HB.out))) : w.heap.size ≤ gb101)); have n3_ := Aside0.mk ((by rw [hg]; exact (below_size (by repeat (first | (with_reducible first | exact HB.out | apply below_alloc | apply pw_below_drewN | apply below_drew1) | exact HB.out))) : w.heap.size ≤ gb101)); clear HB; have HB := n0_; have BK101 := n1_; have GW101 := n2_; have GE101 := n3_; clear n0_ n1_ n2_ n3_; clear hb hbox hg) | ((with_reducible refine gate_callee (f := 36) rfl ?_); refine goesL_ (some 8) rfl rfl Try.func36 (by kernel_rfl) rfl #[.slice A0 l0.length c0] rfl (by (try simp only [List.map_toArray, List.map_cons, List.map_nil]); first | done | rfl | (simp only [List.length_drop, List.length_take]; rfl)) ?_; (with_reducible refine (extent_Check.calls k _ _ l0 t102 _ ?side1 ?side2 A3.out).mono ?_); (case side1 => repeat (first | exact (Kd.C_below HR0.out HB.out) | (with_reducible refine Kd.C_alloc ?_ _) | (with_reducible refine Kd.C_drewN ?_ _) | (with_reducible refine Kd.C_drew ?_))); (case side2 => exact HC0.out); rintro e w25 ⟨rfl, hb⟩; refine ⟨_, rfl, ?_⟩; have n0_ := Aside0.mk (blk_below (g := gb101) (o := .cells #[.int .i64 a1_0, .int .i64 a1_1, .int .i64 a1_2] 24 (0, 0)) (by (with_reducible repeat (first | refine blk_drewN ?_ _ | refine blk_drew ?_ | refine blk_alloc ?_ _)); exact BK101.out) hb); have n1_ := Aside0.mk (below_step (by repeat (first | (with_reducible first | exact HB.out | apply below_alloc | apply pw_below_drewN | apply below_drew1 | refine below_set ?_ GE101.out) | exact HB.out)) hb); clear BK101; clear HB; have BK101 := n0_; have HB := n1_; clear n0_ n1_; (try clear hb); (try clear hb2); (try clear hk); (try clear hi)))
  go_ret2
  exact ⟨_, by first | rfl | (simp [errW_none, errW_some] <;> rfl) | (simp [*, errW_none, errW_some] <;> rfl), by first | exact Kd.R_nil _ _ _ _ _ | exact Kd.N_nil _ _ _ _ _ | exact Kd.V_nil _ _ _ _ _ | exact Kd.Q_nil _ _ _ _ _ | exact Kd.S_nil _ _ _ _ _, by repeat (first | (with_reducible first | exact HB.out | apply below_alloc | apply pw_below_drewN | apply below_drew1 | refine below_set ?_ GE101.out) | exact HB.out)⟩
end Go.Proofs.Ytkkfkdncddbaeaa.Fn
