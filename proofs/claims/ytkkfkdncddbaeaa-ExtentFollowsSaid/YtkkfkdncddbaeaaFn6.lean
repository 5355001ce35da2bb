-- Laid by a program of this session, by way of the kit's print.
import Derived.Test.YtkkfkdncddbaeaaFnBase
import Derived.Test.YtkkfkdncddbaeaaFn25
import Derived.Test.YtkkfkdncddbaeaaFn29
import Derived.Test.YtkkfkdncddbaeaaFn33
import Derived.Test.YtkkfkdncddbaeaaFn35
import Derived.Test.YtkkfkdncddbaeaaFn36
namespace Go.Proofs.Ytkkfkdncddbaeaa.Fn
open Go.RowKit Go.Proofs.YtkkfkdncddbaeaaW.PrintWords Go.Proofs.YtkkfkdncddbaeaaW.PrintLast Go.Proofs.YtkkfkdncddbaeaaW.PrintMore
attribute [local go_sem] max2_int min2_int max_two min_two max_three min_three max_four min_four   -- for this text's walks alone
set_option linter.unusedVariables false
set_option linter.unusedSimpArgs false

/-! ### flagstonelaw05_ExtentCuts: function 6 -/
mutual
def flagstonelaw05_ExtentCuts.j0 : Nat → List (S24) → Int → Int → Int → Int → Bool → Option (Bool)
  | 0, _, _, _, _, _, _ => none
  | k + 1, x9, x11, x12, x13, x14, x55 => if x55 = true then (flagstonelaw05_ExtentCuts.j1 k x9 x11 x12 (-1) x14) else (flagstonelaw05_ExtentCuts.j1 k x9 x11 x12 x13 x14)
def flagstonelaw05_ExtentCuts.j1 : Nat → List (S24) → Int → Int → Int → Int → Option (Bool)
  | 0, _, _, _, _, _ => none
  | k + 1, x9, x11, x12, x13, x14 => (flagstonelaw05_num.f x12).bind fun t111 => ((flagstonelaw05_num.f x14).bind fun t112 => (if (wrap64 (t111 + t112)) = 0 then (if x11 = x13 then ((extent_Check.f k x9).bind fun t113 => ((flagstonelaw05_num.f t113).bind fun t114 => (some (t114 == 0)))) else (some false)) else (some false)))
end
def flagstonelaw05_ExtentCuts.f (k : Nat) (l0 : List (S24)) (a1 : Int) (a2 : Int) (a3 : Int) : Option (Bool) := (flagstonelaw05_alive.f k).bind fun t101 => (if t101 = true then ((extent_Cut.f k l0 a1 a2).bind fun bt102 => ((flagstonelaw05_num.f bt102.2).bind fun t106 => (if t106 = 0 then ((extent_Find.f bt102.1 (Int.tmod (wrap64 ((Int.tmod a3 65536) + 65536)) 65536)).bind fun bt107 => ((extent_Find.f l0 (Int.tmod (wrap64 ((Int.tmod a3 65536) + 65536)) 65536)).bind fun bt109 => (if (Int.tmod (wrap64 ((Int.tmod a3 65536) + 65536)) 65536) ≥ a1 then (flagstonelaw05_ExtentCuts.j0 k bt102.1 bt107.1 bt107.2 bt109.1 bt109.2 (decide ((wrap64 ((Int.tmod (wrap64 ((Int.tmod a3 65536) + 65536)) 65536) - a1)) < a2))) else (flagstonelaw05_ExtentCuts.j0 k bt102.1 bt107.1 bt107.2 bt109.1 bt109.2 false)))) else (some ((bt102.1.length : Int) == 0))))) else (some false))
theorem flagstonelaw05_ExtentCuts.mono_l : ∀ k, (∀ y0 y1 y2 y3 y4 y5, LeO (flagstonelaw05_ExtentCuts.j0 k y0 y1 y2 y3 y4 y5) (flagstonelaw05_ExtentCuts.j0 (k + 1) y0 y1 y2 y3 y4 y5)) ∧ (∀ y0 y1 y2 y3 y4, LeO (flagstonelaw05_ExtentCuts.j1 k y0 y1 y2 y3 y4) (flagstonelaw05_ExtentCuts.j1 (k + 1) y0 y1 y2 y3 y4))
  | 0 => ⟨fun _ _ _ _ _ _ r h => by simp [flagstonelaw05_ExtentCuts.j0] at h, fun _ _ _ _ _ r h => by simp [flagstonelaw05_ExtentCuts.j1] at h⟩
  | k + 1 => by
    obtain ⟨ih0, ih1⟩ := flagstonelaw05_ExtentCuts.mono_l k
    refine ⟨?_, ?_⟩
    · intro y0 y1 y2 y3 y4 y5
      unfold flagstonelaw05_ExtentCuts.j0
      repeat' first
      | (with_reducible exact ih0 _ _ _ _ _ _)
      | (with_reducible exact ih1 _ _ _ _ _)
      | (with_reducible exact extent_Check.mono _ _)
      | (with_reducible exact extent_Cut.mono _ _ _ _)
      | (with_reducible exact flagstonelaw05_alive.mono _)
      | (with_reducible exact LeO.refl _)
      | (with_reducible exact LeO.none _)
      | (with_reducible refine LeO.ite ?_ ?_)
      | (with_reducible refine LeO.bind ?_ (fun _ => ?_))
      | exact ih0 _ _ _ _ _ _
      | exact ih1 _ _ _ _ _
      | exact extent_Check.mono _ _
      | exact extent_Cut.mono _ _ _ _
      | exact flagstonelaw05_alive.mono _
      | exact LeO.none _
      | refine LeO.ite ?_ ?_
      | refine LeO.bind ?_ (fun _ => ?_)
    · intro y0 y1 y2 y3 y4
      unfold flagstonelaw05_ExtentCuts.j1
      repeat' first
      | (with_reducible exact ih0 _ _ _ _ _ _)
      | (with_reducible exact ih1 _ _ _ _ _)
      | (with_reducible exact extent_Check.mono _ _)
      | (with_reducible exact extent_Cut.mono _ _ _ _)
      | (with_reducible exact flagstonelaw05_alive.mono _)
      | (with_reducible exact LeO.refl _)
      | (with_reducible exact LeO.none _)
      | (with_reducible refine LeO.ite ?_ ?_)
      | (with_reducible refine LeO.bind ?_ (fun _ => ?_))
      | exact ih0 _ _ _ _ _ _
      | exact ih1 _ _ _ _ _
      | exact extent_Check.mono _ _
      | exact extent_Cut.mono _ _ _ _
      | exact flagstonelaw05_alive.mono _
      | exact LeO.none _
      | refine LeO.ite ?_ ?_
      | refine LeO.bind ?_ (fun _ => ?_)
theorem flagstonelaw05_ExtentCuts.mono : ∀ a0 a1 a2 a3 k, LeO (flagstonelaw05_ExtentCuts.f k a0 a1 a2 a3) (flagstonelaw05_ExtentCuts.f (k + 1) a0 a1 a2 a3) := by
  intro a0 a1 a2 a3 k
  obtain ⟨ih0, ih1⟩ := flagstonelaw05_ExtentCuts.mono_l k
  unfold flagstonelaw05_ExtentCuts.f
  repeat' first
      | (with_reducible exact ih0 _ _ _ _ _ _)
      | (with_reducible exact ih1 _ _ _ _ _)
      | (with_reducible exact extent_Check.mono _ _)
      | (with_reducible exact extent_Cut.mono _ _ _ _)
      | (with_reducible exact flagstonelaw05_alive.mono _)
      | (with_reducible exact LeO.refl _)
      | (with_reducible exact LeO.none _)
      | (with_reducible refine LeO.ite ?_ ?_)
      | (with_reducible refine LeO.bind ?_ (fun _ => ?_))
      | exact ih0 _ _ _ _ _ _
      | exact ih1 _ _ _ _ _
      | exact extent_Check.mono _ _
      | exact extent_Cut.mono _ _ _ _
      | exact flagstonelaw05_alive.mono _
      | exact LeO.none _
      | refine LeO.ite ?_ ?_
      | refine LeO.bind ?_ (fun _ => ?_)
set_option maxHeartbeats 8000000 in
set_option maxRecDepth 100000 in
theorem flagstonelaw05_ExtentCuts.calls (k : Nat) (A0 : Option Addr) (c0 : Nat) (l0 : List (S24)) (a1 : Int) (a2 : Int) (a3 : Int) (r : Bool) (w : World) (hr0 : Kd.C k24 w A0 l0.length l0) (hc0 : l0.length ≤ c0) (h : flagstonelaw05_ExtentCuts.f k l0 a1 a2 a3 = some r) :
    Calls Try.prog 6 #[.slice A0 l0.length c0, .int .i64 a1, .int .i64 a2, .int .i64 a3] w fun e w' => e = .returned (.bool r) ∧ Below w.heap.size w w' := by
  have HR0 := Aside0.mk hr0
  have HC0 := Aside0.mk hc0
  clear hr0 hc0
  have HB := Aside0.mk (Below.refl w.heap.size w)
  have H : ((flagstonelaw05_alive.f k).bind fun t101 => (if t101 = true then ((extent_Cut.f k l0 a1 a2).bind fun bt102 => ((flagstonelaw05_num.f bt102.2).bind fun t106 => (if t106 = 0 then ((extent_Find.f bt102.1 (Int.tmod (wrap64 ((Int.tmod a3 65536) + 65536)) 65536)).bind fun bt107 => ((extent_Find.f l0 (Int.tmod (wrap64 ((Int.tmod a3 65536) + 65536)) 65536)).bind fun bt109 => (if (Int.tmod (wrap64 ((Int.tmod a3 65536) + 65536)) 65536) ≥ a1 then (flagstonelaw05_ExtentCuts.j0 k bt102.1 bt107.1 bt107.2 bt109.1 bt109.2 (decide ((wrap64 ((Int.tmod (wrap64 ((Int.tmod a3 65536) + 65536)) 65536) - a1)) < a2))) else (flagstonelaw05_ExtentCuts.j0 k bt102.1 bt107.1 bt107.2 bt109.1 bt109.2 false)))) else (some ((bt102.1.length : Int) == 0))))) else (some false))) = some r := h
  clear h
  replace H := Option.bind_eq_some_iff.mp H
  obtain ⟨t101, A50, H⟩ := H
  replace H : (if t101 = true then ((extent_Cut.f k l0 a1 a2).bind fun bt102 => ((flagstonelaw05_num.f bt102.2).bind fun t106 => (if t106 = 0 then ((extent_Find.f bt102.1 (Int.tmod (wrap64 ((Int.tmod a3 65536) + 65536)) 65536)).bind fun bt107 => ((extent_Find.f l0 (Int.tmod (wrap64 ((Int.tmod a3 65536) + 65536)) 65536)).bind fun bt109 => (if (Int.tmod (wrap64 ((Int.tmod a3 65536) + 65536)) 65536) ≥ a1 then (flagstonelaw05_ExtentCuts.j0 k bt102.1 bt107.1 bt107.2 bt109.1 bt109.2 (decide ((wrap64 ((Int.tmod (wrap64 ((Int.tmod a3 65536) + 65536)) 65536) - a1)) < a2))) else (flagstonelaw05_ExtentCuts.j0 k bt102.1 bt107.1 bt107.2 bt109.1 bt109.2 false)))) else (some ((bt102.1.length : Int) == 0))))) else (some false)) = some r := H
  have A5 := Aside0.mk A50
  clear A50
  by_cases c6 : t101 = true
  · subst c6
    have H1 : ((extent_Cut.f k l0 a1 a2).bind fun bt102 => ((flagstonelaw05_num.f bt102.2).bind fun t106 => (if t106 = 0 then ((extent_Find.f bt102.1 (Int.tmod (wrap64 ((Int.tmod a3 65536) + 65536)) 65536)).bind fun bt107 => ((extent_Find.f l0 (Int.tmod (wrap64 ((Int.tmod a3 65536) + 65536)) 65536)).bind fun bt109 => (if (Int.tmod (wrap64 ((Int.tmod a3 65536) + 65536)) 65536) ≥ a1 then (flagstonelaw05_ExtentCuts.j0 k bt102.1 bt107.1 bt107.2 bt109.1 bt109.2 (decide ((wrap64 ((Int.tmod (wrap64 ((Int.tmod a3 65536) + 65536)) 65536) - a1)) < a2))) else (flagstonelaw05_ExtentCuts.j0 k bt102.1 bt107.1 bt107.2 bt109.1 bt109.2 false)))) else (some ((bt102.1.length : Int) == 0))))) = some r := by rw [if_pos rfl] at H; exact H
    clear H
    have H := H1
    clear H1
    replace H := Option.bind_eq_some_iff.mp H
    obtain ⟨⟨t102, t103⟩, A70, H⟩ := H
    replace H : ((flagstonelaw05_num.f t103).bind fun t106 => (if t106 = 0 then ((extent_Find.f t102 (Int.tmod (wrap64 ((Int.tmod a3 65536) + 65536)) 65536)).bind fun bt107 => ((extent_Find.f l0 (Int.tmod (wrap64 ((Int.tmod a3 65536) + 65536)) 65536)).bind fun bt109 => (if (Int.tmod (wrap64 ((Int.tmod a3 65536) + 65536)) 65536) ≥ a1 then (flagstonelaw05_ExtentCuts.j0 k t102 bt107.1 bt107.2 bt109.1 bt109.2 (decide ((wrap64 ((Int.tmod (wrap64 ((Int.tmod a3 65536) + 65536)) 65536) - a1)) < a2))) else (flagstonelaw05_ExtentCuts.j0 k t102 bt107.1 bt107.2 bt109.1 bt109.2 false)))) else (some ((t102.length : Int) == 0)))) = some r := H
    have A7 := Aside0.mk A70
    clear A70
    replace H := Option.bind_eq_some_iff.mp H
    obtain ⟨t106, A80, H⟩ := H
    replace H : (if t106 = 0 then ((extent_Find.f t102 (Int.tmod (wrap64 ((Int.tmod a3 65536) + 65536)) 65536)).bind fun bt107 => ((extent_Find.f l0 (Int.tmod (wrap64 ((Int.tmod a3 65536) + 65536)) 65536)).bind fun bt109 => (if (Int.tmod (wrap64 ((Int.tmod a3 65536) + 65536)) 65536) ≥ a1 then (flagstonelaw05_ExtentCuts.j0 k t102 bt107.1 bt107.2 bt109.1 bt109.2 (decide ((wrap64 ((Int.tmod (wrap64 ((Int.tmod a3 65536) + 65536)) 65536) - a1)) < a2))) else (flagstonelaw05_ExtentCuts.j0 k t102 bt107.1 bt107.2 bt109.1 bt109.2 false)))) else (some ((t102.length : Int) == 0))) = some r := H
    have A8 := Aside0.mk A80
    clear A80
    by_cases c9 : t106 = 0
    · rw [if_pos c9] at H
      have c9b0 : (t106 == 0) = true := beq_iff_eq.mpr c9
      have c9b1 : (t106 != 0) = false := bne_eq_false_iff_eq.mpr c9
      clear c9
      replace H := Option.bind_eq_some_iff.mp H
      obtain ⟨⟨t107, t108⟩, A100, H⟩ := H
      replace H : ((extent_Find.f l0 (Int.tmod (wrap64 ((Int.tmod a3 65536) + 65536)) 65536)).bind fun bt109 => (if (Int.tmod (wrap64 ((Int.tmod a3 65536) + 65536)) 65536) ≥ a1 then (flagstonelaw05_ExtentCuts.j0 k t102 t107 t108 bt109.1 bt109.2 (decide ((wrap64 ((Int.tmod (wrap64 ((Int.tmod a3 65536) + 65536)) 65536) - a1)) < a2))) else (flagstonelaw05_ExtentCuts.j0 k t102 t107 t108 bt109.1 bt109.2 false))) = some r := H
      have A10 := Aside0.mk A100
      clear A100
      replace H := Option.bind_eq_some_iff.mp H
      obtain ⟨⟨t109, t110⟩, A110, H⟩ := H
      replace H : (if (Int.tmod (wrap64 ((Int.tmod a3 65536) + 65536)) 65536) ≥ a1 then (flagstonelaw05_ExtentCuts.j0 k t102 t107 t108 t109 t110 (decide ((wrap64 ((Int.tmod (wrap64 ((Int.tmod a3 65536) + 65536)) 65536) - a1)) < a2))) else (flagstonelaw05_ExtentCuts.j0 k t102 t107 t108 t109 t110 false)) = some r := H
      have A11 := Aside0.mk A110
      clear A110
      have HC12 := Aside0.mk H
      clear H
      go_enter Try.func6, Try.ntmps6
      go_upto_region 9 with (first | ((with_reducible refine gate_callee (f := 25) rfl ?_); refine goesL_ (some 15) rfl rfl Try.func25 (by kernel_rfl) rfl #[] rfl (by (try simp only [List.map_toArray, List.map_cons, List.map_nil]); first | done | rfl | (simp only [List.length_drop, List.length_take]; rfl)) ?_; (with_reducible refine (flagstonelaw05_alive.calls k  true _ A5.out).mono ?_); rintro e w13 ⟨rfl, hb⟩; refine ⟨_, rfl, ?_⟩; have n0_ := Aside0.mk (below_step (by repeat (first | (with_reducible first | exact HB.out | apply below_alloc | apply pw_below_drewN | apply below_drew1) | exact HB.out)) hb); clear HB; have HB := n0_; clear n0_; (try clear hb); (try clear hb2); (try clear hk); (try clear hi)) | ((with_reducible refine gate_callee (f := 29) rfl ?_); refine goesL_ (some 21) rfl rfl Try.func29 (by kernel_rfl) rfl #[.slice A0 l0.length c0, .int .i64 a1, .int .i64 a2] rfl (by (try simp only [List.map_toArray, List.map_cons, List.map_nil]); first | done | rfl | (simp only [List.length_drop, List.length_take]; rfl)) ?_; (with_reducible refine (extent_Cut.calls k _ _ l0 a1 a2 t102 t103 _ ?side1 ?side2 A7.out).mono ?_); (case side1 => repeat (first | exact (Kd.C_below HR0.out HB.out) | (with_reducible refine Kd.C_alloc ?_ _) | (with_reducible refine Kd.C_drewN ?_ _) | (with_reducible refine Kd.C_drew ?_))); (case side2 => exact HC0.out); rintro e w14 ⟨v104, rfl, ho0, hb⟩; refine ⟨_, rfl, ?_⟩; have n0_ := Aside0.mk (Kd.R_lower ho0 (below_size (by repeat (first | (with_reducible first | exact HB.out | apply below_alloc | apply pw_below_drewN | apply below_drew1) | exact HB.out)))); have n1_ := Aside0.mk (below_step (by repeat (first | (with_reducible first | exact HB.out | apply below_alloc | apply pw_below_drewN | apply below_drew1) | exact HB.out)) hb); clear HB; have HO105 := n0_; have HB := n1_; clear n0_ n1_; (try clear hb); (try clear hb2); (try clear hk); (try clear hi); (try clear ho0)) | ((with_reducible refine gate_callee (f := 33) rfl ?_); refine goesL_ (some 25) rfl rfl Try.func33 (by kernel_rfl) rfl #[.int .i64 t103] rfl (by (try simp only [List.map_toArray, List.map_cons, List.map_nil]); first | done | rfl | (simp only [List.length_drop, List.length_take]; rfl)) ?_; (with_reducible refine (flagstonelaw05_num.calls t103 t106 _ A8.out).mono ?_); rintro e w' ⟨rfl, ⟨nd, rfl⟩⟩; refine ⟨_, rfl, ?_⟩; obtain ⟨Ao15, co15, eo15⟩ := Kd.R_slice HO105.out; subst eo15) | ((with_reducible refine gate_callee (f := 35) rfl ?_); refine goesL_ (some 37) rfl rfl Try.func35 (by kernel_rfl) rfl #[.slice Ao15 t102.length co15, .int .i64 (Int.tmod (wrap64 ((Int.tmod a3 65536) + 65536)) 65536)] rfl (by (try simp only [List.map_toArray, List.map_cons, List.map_nil]); first | done | rfl | (simp only [List.length_drop, List.length_take]; rfl)) ?_; (with_reducible refine (extent_Find.calls _ _ t102 (Int.tmod (wrap64 ((Int.tmod a3 65536) + 65536)) 65536) t107 t108 _ ?side1 ?side2 A10.out).mono ?_); (case side1 => repeat (first | exact (Kd.R_reads' HO105.out).2.2 | (with_reducible refine Kd.C_alloc ?_ _) | (with_reducible refine Kd.C_drewN ?_ _) | (with_reducible refine Kd.C_drew ?_))); (case side2 => exact (Kd.R_reads' HO105.out).2.1); rintro e w16 ⟨rfl, hb⟩; refine ⟨_, rfl, ?_⟩; have n0_ := Aside0.mk (Kd.R_below (by (with_reducible repeat (first | apply Kd.R_alloc | apply Kd.R_drewN | apply Kd.R_drew)); exact HO105.out) hb); have n1_ := Aside0.mk (below_step (by repeat (first | (with_reducible first | exact HB.out | apply below_alloc | apply pw_below_drewN | apply below_drew1) | exact HB.out)) hb); clear HO105; clear HB; have HO105 := n0_; have HB := n1_; clear n0_ n1_; (try clear hb); (try clear hb2); (try clear hk); (try clear hi)) | ((with_reducible refine gate_callee (f := 35) rfl ?_); refine goesL_ (some 43) rfl rfl Try.func35 (by kernel_rfl) rfl #[.slice A0 l0.length c0, .int .i64 (Int.tmod (wrap64 ((Int.tmod a3 65536) + 65536)) 65536)] rfl (by (try simp only [List.map_toArray, List.map_cons, List.map_nil]); first | done | rfl | (simp only [List.length_drop, List.length_take]; rfl)) ?_; (with_reducible refine (extent_Find.calls _ _ l0 (Int.tmod (wrap64 ((Int.tmod a3 65536) + 65536)) 65536) t109 t110 _ ?side1 ?side2 A11.out).mono ?_); (case side1 => repeat (first | exact (Kd.C_below HR0.out HB.out) | (with_reducible refine Kd.C_alloc ?_ _) | (with_reducible refine Kd.C_drewN ?_ _) | (with_reducible refine Kd.C_drew ?_))); (case side2 => exact HC0.out); rintro e w17 ⟨rfl, hb⟩; refine ⟨_, rfl, ?_⟩; have n0_ := Aside0.mk (Kd.R_below (by (with_reducible repeat (first | apply Kd.R_alloc | apply Kd.R_drewN | apply Kd.R_drew)); exact HO105.out) hb); have n1_ := Aside0.mk (below_step (by repeat (first | (with_reducible first | exact HB.out | apply below_alloc | apply pw_below_drewN | apply below_drew1) | exact HB.out)) hb); clear HO105; clear HB; have HO105 := n0_; have HB := n1_; clear n0_ n1_; (try clear hb); (try clear hb2); (try clear hk); (try clear hi)))
      (try simp only [Act.put, List.setIfInBounds_toArray, List.set_cons_zero, List.set_cons_succ])
      go_cut [55] (fun v55 wc => ∃ (kq : Nat) (x55_11 : Bool), v55 = .bool x55_11 ∧ Aside0 (flagstonelaw05_ExtentCuts.j0 kq t102 t107 t108 t109 t110 x55_11 = some r) ∧ Aside0 (kq ≤ k) ∧ Aside0 (Kd.R k24 24 wc w.heap.size (fun _ => True) (.slice Ao15 t102.length co15) t102) ∧ Aside0 (Below w.heap.size w wc))
      case first =>
        have H := HC12.out
        clear HC12
        by_cases c18 : (Int.tmod (wrap64 ((Int.tmod a3 65536) + 65536)) 65536) ≥ a1
        · rw [if_pos c18] at H
          have c18b0 : decide (a1 ≤ (Int.tmod (wrap64 ((Int.tmod a3 65536) + 65536)) 65536)) = true := decide_eq_true c18
          clear c18
          (first | rw [c18b0] | (simp only [i64_w, i32_w]; rw [c18b0]) | skip)
          have H' := Aside0.mk H
          clear H
          go_wp2
          go_meet
          case rel => exact ⟨_, (decide ((wrap64 ((Int.tmod (wrap64 ((Int.tmod a3 65536) + 65536)) 65536) - a1)) < a2)), (by first | rfl | (simp; done) | (simp [*]; done)), H', ⟨by first | omega | exact Nat.le_refl _⟩, ⟨by (with_reducible repeat (first | apply Kd.R_alloc | apply Kd.R_drewN | apply Kd.R_drew)); exact HO105.out⟩, ⟨by repeat (first | (with_reducible first | exact HB.out | apply below_alloc | apply pw_below_drewN | apply below_drew1) | exact HB.out)⟩⟩
        · rw [if_neg c18] at H
          have c18b0 : decide (a1 ≤ (Int.tmod (wrap64 ((Int.tmod a3 65536) + 65536)) 65536)) = false := decide_eq_false c18
          clear c18
          (first | rw [c18b0] | (simp only [i64_w, i32_w]; rw [c18b0]) | skip)
          have H' := Aside0.mk H
          clear H
          go_wp2
          go_meet
          case rel => exact ⟨_, (false), (by first | rfl | (simp; done) | (simp [*]; done)), H', ⟨by first | omega | exact Nat.le_refl _⟩, ⟨by (with_reducible repeat (first | apply Kd.R_alloc | apply Kd.R_drewN | apply Kd.R_drew)); exact HO105.out⟩, ⟨by repeat (first | (with_reducible first | exact HB.out | apply below_alloc | apply pw_below_drewN | apply below_drew1) | exact HB.out)⟩⟩
      case rest =>
        clear HC12
        try clear c1
        try clear c2
        try clear p2
        try clear c3
        try clear c6
        try clear p6
        try clear c9
        try clear c9b0
        try clear c9b1
        try clear c18
        try clear c18b0
        obtain ⟨kq, x55_11, rfl, HA, HJ11, HO_9, HB⟩ := hcut
        cases kq with
        | zero => exact absurd HA.out (by simp [flagstonelaw05_ExtentCuts.j0])
        | succ kj11 =>
          have H := HA.out
          clear HA
          simp only [flagstonelaw05_ExtentCuts.j0] at H
          have HC19 := Aside0.mk H
          clear H
          go_upto_if 55 with (fail)
          go_cut [13] (fun v13 wc => ∃ (kq : Nat) (x13_18 : Int), v13 = .int .i64 x13_18 ∧ Aside0 (flagstonelaw05_ExtentCuts.j1 kq t102 t107 t108 x13_18 t110 = some r) ∧ Aside0 (kq ≤ kj11) ∧ Aside0 (Kd.R k24 24 wc w.heap.size (fun _ => True) (.slice Ao15 t102.length co15) t102) ∧ Aside0 (Below w.heap.size w wc))
          case first =>
            have H := HC19.out
            clear HC19
            by_cases c20 : x55_11 = true
            · subst c20
              have H1 : (flagstonelaw05_ExtentCuts.j1 kj11 t102 t107 t108 (-1) t110) = some r := by rw [if_pos rfl] at H; exact H
              clear H
              have H := H1
              clear H1
              have H' := Aside0.mk H
              clear H
              go_wp2
              go_meet
              case rel => exact ⟨_, ((-1)), (by first | rfl | (simp; done) | (simp [*]; done)), H', ⟨by have := HJ11.out; first | omega | exact Nat.le_refl _⟩, ⟨by (with_reducible repeat (first | apply Kd.R_alloc | apply Kd.R_drewN | apply Kd.R_drew)); exact HO_9.out⟩, ⟨by repeat (first | (with_reducible first | exact HB.out | apply below_alloc | apply pw_below_drewN | apply below_drew1) | exact HB.out)⟩⟩
            · replace c20 := Bool.eq_false_iff.mpr c20
              subst c20
              have H1 : (flagstonelaw05_ExtentCuts.j1 kj11 t102 t107 t108 t109 t110) = some r := by rw [if_neg (show ¬ (false = true) by decide)] at H; exact H
              clear H
              have H := H1
              clear H1
              have H' := Aside0.mk H
              clear H
              go_wp2
              go_meet
              case rel => exact ⟨_, (t109), (by first | rfl | (simp; done) | (simp [*]; done)), H', ⟨by have := HJ11.out; first | omega | exact Nat.le_refl _⟩, ⟨by (with_reducible repeat (first | apply Kd.R_alloc | apply Kd.R_drewN | apply Kd.R_drew)); exact HO_9.out⟩, ⟨by repeat (first | (with_reducible first | exact HB.out | apply below_alloc | apply pw_below_drewN | apply below_drew1) | exact HB.out)⟩⟩
          case rest =>
            clear HC19
            try clear c1
            try clear c2
            try clear p2
            try clear c3
            try clear c6
            try clear p6
            try clear c9
            try clear c9b0
            try clear c9b1
            try clear c18
            try clear c18b0
            try clear c20
            try clear p2
            try clear p6
            obtain ⟨kq, x13_18, rfl, HA, HJ18, HO_9, HB⟩ := hcut
            cases kq with
            | zero => exact absurd HA.out (by simp [flagstonelaw05_ExtentCuts.j1])
            | succ kj18 =>
              have H := HA.out
              clear HA
              simp only [flagstonelaw05_ExtentCuts.j1] at H
              replace H := Option.bind_eq_some_iff.mp H
              obtain ⟨t111, A210, H⟩ := H
              replace H : ((flagstonelaw05_num.f t110).bind fun t112 => (if (wrap64 (t111 + t112)) = 0 then (if t107 = x13_18 then ((extent_Check.f kj18 t102).bind fun t113 => ((flagstonelaw05_num.f t113).bind fun t114 => (some (t114 == 0)))) else (some false)) else (some false))) = some r := H
              have A21 := Aside0.mk A210
              clear A210
              replace H := Option.bind_eq_some_iff.mp H
              obtain ⟨t112, A220, H⟩ := H
              replace H : (if (wrap64 (t111 + t112)) = 0 then (if t107 = x13_18 then ((extent_Check.f kj18 t102).bind fun t113 => ((flagstonelaw05_num.f t113).bind fun t114 => (some (t114 == 0)))) else (some false)) else (some false)) = some r := H
              have A22 := Aside0.mk A220
              clear A220
              by_cases c23 : (wrap64 (t111 + t112)) = 0
              · rw [if_pos c23] at H
                have c23b0 : ((wrap64 (t111 + t112)) == 0) = true := beq_iff_eq.mpr c23
                have c23b1 : ((wrap64 (t111 + t112)) != 0) = false := bne_eq_false_iff_eq.mpr c23
                clear c23
                by_cases c24 : t107 = x13_18
                · rw [if_pos c24] at H
                  have c24b0 : (t107 == x13_18) = true := beq_iff_eq.mpr c24
                  have c24b1 : (t107 != x13_18) = false := bne_eq_false_iff_eq.mpr c24
                  clear c24
                  replace H := Option.bind_eq_some_iff.mp H
                  obtain ⟨t113, A250, H⟩ := H
                  replace H : ((flagstonelaw05_num.f t113).bind fun t114 => (some (t114 == 0))) = some r := H
                  have A25 := Aside0.mk A250
                  clear A250
                  replace H := Option.bind_eq_some_iff.mp H
                  obtain ⟨t114, A260, H⟩ := H
                  replace H : (some (t114 == 0)) = some r := H
                  have A26 := Aside0.mk A260
                  clear A260
                  obtain rfl := Option.some.inj H
                  go_wp2_with (first | ((with_reducible refine gate_callee (f := 33) rfl ?_); refine goesL_ (some 57) rfl rfl Try.func33 (by kernel_rfl) rfl #[.int .i64 t108] rfl (by (try simp only [List.map_toArray, List.map_cons, List.map_nil]); first | done | rfl | (simp only [List.length_drop, List.length_take]; rfl)) ?_; (with_reducible refine (flagstonelaw05_num.calls t108 t111 _ A21.out).mono ?_); rintro e w' ⟨rfl, ⟨nd, rfl⟩⟩; refine ⟨_, rfl, ?_⟩) | ((with_reducible refine gate_callee (f := 33) rfl ?_); refine goesL_ (some 59) rfl rfl Try.func33 (by kernel_rfl) rfl #[.int .i64 t110] rfl (by (try simp only [List.map_toArray, List.map_cons, List.map_nil]); first | done | rfl | (simp only [List.length_drop, List.length_take]; rfl)) ?_; (with_reducible refine (flagstonelaw05_num.calls t110 t112 _ A22.out).mono ?_); rintro e w' ⟨rfl, ⟨nd, rfl⟩⟩; refine ⟨_, rfl, ?_⟩) | (go_at_call 36; (with_reducible refine (extent_Check.calls kj18 _ _ t102 t113 _ ?side1 ?side2 A25.out).mono ?_); (case side1 => repeat (first | exact (Kd.R_reads' HO_9.out).2.2 | (with_reducible refine Kd.C_alloc ?_ _) | (with_reducible refine Kd.C_drewN ?_ _) | (with_reducible refine Kd.C_drew ?_))); (case side2 => exact (Kd.R_reads' HO_9.out).2.1); rintro e w27 ⟨rfl, hb⟩; have n0_ := Aside0.mk (Kd.R_below (by (with_reducible repeat (first | apply Kd.R_alloc | apply Kd.R_drewN | apply Kd.R_drew)); exact HO_9.out) hb); have n1_ := Aside0.mk (below_step (by repeat (first | (with_reducible first | exact HB.out | apply below_alloc | apply pw_below_drewN | apply below_drew1) | exact HB.out)) hb); clear HO_9; clear HB; have HO_9 := n0_; have HB := n1_; clear n0_ n1_; (try clear hb); (try clear hb2); (try clear hk); (try clear hi)) | (go_at_call 33; (with_reducible refine (flagstonelaw05_num.calls t113 t114 _ A26.out).mono ?_); rintro e w' ⟨rfl, ⟨nd, rfl⟩⟩))
                  go_ret
                  exact ⟨by first | rfl | (simp [errW_none, errW_some] <;> rfl) | (simp [*, errW_none, errW_some] <;> rfl), by repeat (first | (with_reducible first | exact HB.out | apply below_alloc | apply pw_below_drewN | apply below_drew1) | exact HB.out)⟩
                · rw [if_neg c24] at H
                  have c24b0 : (t107 == x13_18) = false := beq_eq_false_iff_ne.mpr c24
                  have c24b1 : (t107 != x13_18) = true := bne_iff_ne.mpr c24
                  obtain rfl := Option.some.inj H
                  go_wp2_with (first | ((with_reducible refine gate_callee (f := 33) rfl ?_); refine goesL_ (some 57) rfl rfl Try.func33 (by kernel_rfl) rfl #[.int .i64 t108] rfl (by (try simp only [List.map_toArray, List.map_cons, List.map_nil]); first | done | rfl | (simp only [List.length_drop, List.length_take]; rfl)) ?_; (with_reducible refine (flagstonelaw05_num.calls t108 t111 _ A21.out).mono ?_); rintro e w' ⟨rfl, ⟨nd, rfl⟩⟩; refine ⟨_, rfl, ?_⟩) | ((with_reducible refine gate_callee (f := 33) rfl ?_); refine goesL_ (some 59) rfl rfl Try.func33 (by kernel_rfl) rfl #[.int .i64 t110] rfl (by (try simp only [List.map_toArray, List.map_cons, List.map_nil]); first | done | rfl | (simp only [List.length_drop, List.length_take]; rfl)) ?_; (with_reducible refine (flagstonelaw05_num.calls t110 t112 _ A22.out).mono ?_); rintro e w' ⟨rfl, ⟨nd, rfl⟩⟩; refine ⟨_, rfl, ?_⟩))
                  go_ret
                  exact ⟨by first | rfl | (simp [errW_none, errW_some] <;> rfl) | (simp [*, errW_none, errW_some] <;> rfl), by repeat (first | (with_reducible first | exact HB.out | apply below_alloc | apply pw_below_drewN | apply below_drew1) | exact HB.out)⟩
              · rw [if_neg c23] at H
                have c23b0 : ((wrap64 (t111 + t112)) == 0) = false := beq_eq_false_iff_ne.mpr c23
                have c23b1 : ((wrap64 (t111 + t112)) != 0) = true := bne_iff_ne.mpr c23
                obtain rfl := Option.some.inj H
                go_wp2_with (first | ((with_reducible refine gate_callee (f := 33) rfl ?_); refine goesL_ (some 57) rfl rfl Try.func33 (by kernel_rfl) rfl #[.int .i64 t108] rfl (by (try simp only [List.map_toArray, List.map_cons, List.map_nil]); first | done | rfl | (simp only [List.length_drop, List.length_take]; rfl)) ?_; (with_reducible refine (flagstonelaw05_num.calls t108 t111 _ A21.out).mono ?_); rintro e w' ⟨rfl, ⟨nd, rfl⟩⟩; refine ⟨_, rfl, ?_⟩) | ((with_reducible refine gate_callee (f := 33) rfl ?_); refine goesL_ (some 59) rfl rfl Try.func33 (by kernel_rfl) rfl #[.int .i64 t110] rfl (by (try simp only [List.map_toArray, List.map_cons, List.map_nil]); first | done | rfl | (simp only [List.length_drop, List.length_take]; rfl)) ?_; (with_reducible refine (flagstonelaw05_num.calls t110 t112 _ A22.out).mono ?_); rintro e w' ⟨rfl, ⟨nd, rfl⟩⟩; refine ⟨_, rfl, ?_⟩))
                go_ret
                exact ⟨by first | rfl | (simp [errW_none, errW_some] <;> rfl) | (simp [*, errW_none, errW_some] <;> rfl), by repeat (first | (with_reducible first | exact HB.out | apply below_alloc | apply pw_below_drewN | apply below_drew1) | exact HB.out)⟩
    · rw [if_neg c9] at H
      have c9b0 : (t106 == 0) = false := beq_eq_false_iff_ne.mpr c9
      have c9b1 : (t106 != 0) = true := bne_iff_ne.mpr c9
      obtain rfl := Option.some.inj H
      go_enter Try.func6, Try.ntmps6
      go_wp2_with (first | ((with_reducible refine gate_callee (f := 25) rfl ?_); refine goesL_ (some 15) rfl rfl Try.func25 (by kernel_rfl) rfl #[] rfl (by (try simp only [List.map_toArray, List.map_cons, List.map_nil]); first | done | rfl | (simp only [List.length_drop, List.length_take]; rfl)) ?_; (with_reducible refine (flagstonelaw05_alive.calls k  true _ A5.out).mono ?_); rintro e w28 ⟨rfl, hb⟩; refine ⟨_, rfl, ?_⟩; have n0_ := Aside0.mk (below_step (by repeat (first | (with_reducible first | exact HB.out | apply below_alloc | apply pw_below_drewN | apply below_drew1) | exact HB.out)) hb); clear HB; have HB := n0_; clear n0_; (try clear hb); (try clear hb2); (try clear hk); (try clear hi)) | ((with_reducible refine gate_callee (f := 29) rfl ?_); refine goesL_ (some 21) rfl rfl Try.func29 (by kernel_rfl) rfl #[.slice A0 l0.length c0, .int .i64 a1, .int .i64 a2] rfl (by (try simp only [List.map_toArray, List.map_cons, List.map_nil]); first | done | rfl | (simp only [List.length_drop, List.length_take]; rfl)) ?_; (with_reducible refine (extent_Cut.calls k _ _ l0 a1 a2 t102 t103 _ ?side1 ?side2 A7.out).mono ?_); (case side1 => repeat (first | exact (Kd.C_below HR0.out HB.out) | (with_reducible refine Kd.C_alloc ?_ _) | (with_reducible refine Kd.C_drewN ?_ _) | (with_reducible refine Kd.C_drew ?_))); (case side2 => exact HC0.out); rintro e w29 ⟨v104, rfl, ho0, hb⟩; refine ⟨_, rfl, ?_⟩; have n0_ := Aside0.mk (Kd.R_lower ho0 (below_size (by repeat (first | (with_reducible first | exact HB.out | apply below_alloc | apply pw_below_drewN | apply below_drew1) | exact HB.out)))); have n1_ := Aside0.mk (below_step (by repeat (first | (with_reducible first | exact HB.out | apply below_alloc | apply pw_below_drewN | apply below_drew1) | exact HB.out)) hb); clear HB; have HO105 := n0_; have HB := n1_; clear n0_ n1_; (try clear hb); (try clear hb2); (try clear hk); (try clear hi); (try clear ho0)) | ((with_reducible refine gate_callee (f := 33) rfl ?_); refine goesL_ (some 25) rfl rfl Try.func33 (by kernel_rfl) rfl #[.int .i64 t103] rfl (by (try simp only [List.map_toArray, List.map_cons, List.map_nil]); first | done | rfl | (simp only [List.length_drop, List.length_take]; rfl)) ?_; (with_reducible refine (flagstonelaw05_num.calls t103 t106 _ A8.out).mono ?_); rintro e w' ⟨rfl, ⟨nd, rfl⟩⟩; refine ⟨_, rfl, ?_⟩; obtain ⟨Ao30, co30, eo30⟩ := Kd.R_slice HO105.out; subst eo30))
      go_ret
      exact ⟨by first | rfl | (simp [errW_none, errW_some] <;> rfl) | (simp [*, errW_none, errW_some] <;> rfl), by repeat (first | (with_reducible first | exact HB.out | apply below_alloc | apply pw_below_drewN | apply below_drew1) | exact HB.out)⟩
  · replace c6 := Bool.eq_false_iff.mpr c6
    subst c6
    have H1 : (some false) = some r := by rw [if_neg (show ¬ (false = true) by decide)] at H; exact H
    clear H
    have H := H1
    clear H1
    obtain rfl := Option.some.inj H
    go_enter Try.func6, Try.ntmps6
    go_wp2_with (first | ((with_reducible refine gate_callee (f := 25) rfl ?_); refine goesL_ (some 15) rfl rfl Try.func25 (by kernel_rfl) rfl #[] rfl (by (try simp only [List.map_toArray, List.map_cons, List.map_nil]); first | done | rfl | (simp only [List.length_drop, List.length_take]; rfl)) ?_; (with_reducible refine (flagstonelaw05_alive.calls k  false _ A5.out).mono ?_); rintro e w31 ⟨rfl, hb⟩; refine ⟨_, rfl, ?_⟩; have n0_ := Aside0.mk (below_step (by repeat (first | (with_reducible first | exact HB.out | apply below_alloc | apply pw_below_drewN | apply below_drew1) | exact HB.out)) hb); clear HB; have HB := n0_; clear n0_; (try clear hb); (try clear hb2); (try clear hk); (try clear hi)))
    go_ret
    exact ⟨by first | rfl | (simp [errW_none, errW_some] <;> rfl) | (simp [*, errW_none, errW_some] <;> rfl), by repeat (first | (with_reducible first | exact HB.out | apply below_alloc | apply pw_below_drewN | apply below_drew1) | exact HB.out)⟩

end Go.Proofs.Ytkkfkdncddbaeaa.Fn
