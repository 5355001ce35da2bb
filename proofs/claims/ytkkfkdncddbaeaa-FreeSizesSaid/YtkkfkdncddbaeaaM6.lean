/- Part 6 of the walk: printed by programs of this session (by way of the kit's print) or told by hand. -/
import Derived.Test.YtkkfkdncddbaeaaM5
namespace Go.Proofs.Ytkkfkdncddbaeaa.Fn
open Go.RowKit Go.Proofs.YtkkfkdncddbaeaaW.PrintWords Go.Proofs.YtkkfkdncddbaeaaW.PrintLast Go.Proofs.YtkkfkdncddbaeaaW.PrintMore
attribute [local go_sem] max2_int min2_int max_two min_two max_three min_three max_four min_four
set_option linter.unusedVariables false
set_option linter.unusedSimpArgs false
attribute [local go_sem high] eqA40
def flagstonelaw06_alive.f (k : Nat)  : Option (Bool) := (free_Alloc.f k 20 (([(⟨0, 5⟩ : S40), (⟨10, 3⟩ : S40)] : List (S40))) 2 20).bind fun bt104 => ((flagstonelaw06_num.f bt104.2.2.2).bind fun t111 => (if t111 = 0 then (if bt104.2.2.1 = 10 then (if (bt104.2.1.length : Int) = 2 then (if 1 < (bt104.2.1.length : Int) then (some (((rd_T40 bt104.2.1 1).f0) == 12 && (((rd_T40 bt104.2.1 1).f1) == 1))) else (none)) else (some false)) else (some false)) else (some false)))
theorem flagstonelaw06_alive.mono : ∀ k, LeO (flagstonelaw06_alive.f k ) (flagstonelaw06_alive.f (k + 1) ) := by
 intro  k
 unfold flagstonelaw06_alive.f
 repeat' first
  | (with_reducible exact free_Alloc.mono _ _ _ _ _)
  | (with_reducible exact LeO.refl _)
  | (with_reducible exact LeO.none _)
  | (with_reducible refine LeO.ite ?_ ?_)
  | (with_reducible refine LeO.bind ?_ (fun _ => ?_))
  | exact free_Alloc.mono _ _ _ _ _
  | exact LeO.none _
  | refine LeO.ite ?_ ?_
  | refine LeO.bind ?_ (fun _ => ?_)
set_option maxHeartbeats 8000000 in
set_option maxRecDepth 100000 in
theorem flagstonelaw06_alive.calls (k : Nat)  (r : Bool) (w : World) (h : flagstonelaw06_alive.f k  = some r) :
 Calls Try.prog 41 #[] w fun e w' => e = .returned (.bool r) ∧ Below w.heap.size w w' := by
 have hu40 := Try.underlying40
 have hu58 := Try.underlying58
 have HB := Aside0.mk (Below.refl w.heap.size w)
 have H : ((free_Alloc.f k 20 (([(⟨0, 5⟩ : S40), (⟨10, 3⟩ : S40)] : List (S40))) 2 20).bind fun bt104 => ((flagstonelaw06_num.f bt104.2.2.2).bind fun t111 => (if t111 = 0 then (if bt104.2.2.1 = 10 then (if (bt104.2.1.length : Int) = 2 then (if 1 < (bt104.2.1.length : Int) then (some (((rd_T40 bt104.2.1 1).f0) == 12 && (((rd_T40 bt104.2.1 1).f1) == 1))) else (none)) else (some false)) else (some false)) else (some false)))) = some r := h
 clear h
 obtain ⟨y101, hy101⟩ : ∃ y_ : List (S40), y_ = (([(⟨0, 5⟩ : S40), (⟨10, 3⟩ : S40)] : List (S40))) := ⟨_, rfl⟩
 replace H : ((free_Alloc.f k 20 y101 2 20).bind fun bt104 => ((flagstonelaw06_num.f bt104.2.2.2).bind fun t111 => (if t111 = 0 then (if bt104.2.2.1 = 10 then (if (bt104.2.1.length : Int) = 2 then (if 1 < (bt104.2.1.length : Int) then (some (((rd_T40 bt104.2.1 1).f0) == 12 && (((rd_T40 bt104.2.1 1).f1) == 1))) else (none)) else (some false)) else (some false)) else (some false)))) = some r := by first | (rw [hy101]; with_reducible exact H) | (have H2_ := (Option.bind_some _ _).symm.trans H; rw [hy101]; with_reducible exact H2_) | (have H2_ := (Option.bind_some _ _).symm.trans H; with_reducible exact H2_) | with_reducible exact H | (rw [hy101]; exact H) | exact H
 have Ny101 := Aside0.mk hy101
 clear hy101
 replace H := Option.bind_eq_some_iff.mp H
 obtain ⟨⟨t104, t105, t108, t109⟩, A10, H⟩ := H
 replace H : ((flagstonelaw06_num.f t109).bind fun t111 => (if t111 = 0 then (if t108 = 10 then (if (t105.length : Int) = 2 then (if 1 < (t105.length : Int) then (some (((rd_T40 t105 1).f0) == 12 && (((rd_T40 t105 1).f1) == 1))) else (none)) else (some false)) else (some false)) else (some false))) = some r := H
 have A1 := Aside0.mk A10
 clear A10
 replace H := Option.bind_eq_some_iff.mp H
 obtain ⟨t111, A20, H⟩ := H
 replace H : (if t111 = 0 then (if t108 = 10 then (if (t105.length : Int) = 2 then (if 1 < (t105.length : Int) then (some (((rd_T40 t105 1).f0) == 12 && (((rd_T40 t105 1).f1) == 1))) else (none)) else (some false)) else (some false)) else (some false)) = some r := H
 have A2 := Aside0.mk A20
 clear A20
 by_cases c3 : t111 = 0
 ·rw [if_pos c3] at H
  have c3b0 : (t111 == 0) = true := beq_iff_eq.mpr c3
  have c3b1 : (t111 != 0) = false := bne_eq_false_iff_eq.mpr c3
  clear c3
  by_cases c4 : t108 = 10
  ·rw [if_pos c4] at H
   have c4b0 : (t108 == 10) = true := beq_iff_eq.mpr c4
   have c4b1 : (t108 != 10) = false := bne_eq_false_iff_eq.mpr c4
   clear c4
   by_cases c5 : (t105.length : Int) = 2
   ·rw [if_pos c5] at H
    have c5b0 : ((t105.length : Int) == 2) = true := beq_iff_eq.mpr c5
    have c5b1 : ((t105.length : Int) != 2) = false := bne_eq_false_iff_eq.mpr c5
    clear c5
    by_cases c6 : 1 < (t105.length : Int)
    ·rw [if_pos c6] at H
     have c6b0 : decide (1 < (t105.length : Int)) = true := decide_eq_true c6
     have c6b1 : decide (1 < t105.length) = true := decide_eq_true (by omega)
     clear c6
     obtain rfl := Option.some.inj H
     go_enter Try.func41, Try.ntmps41
     go_wp2_with (first | ((with_reducible refine gate_dst (N := 7) rfl ?_); (try (refine gate_guard (by rfl) ?_; dsimp only)); refine Kd.R_lit k40 _ 40 ?hg (N := 7) ?hd (xs := ([(⟨0, 5⟩ : S40), (⟨10, 3⟩ : S40)] : List (S40))) (inner := [.int .i64 0, .int .i64 5, .int .i64 10, .int .i64 3]) (ok := fun _ => True) (okp := fun _ => True) ?hr ?hp (fun _ hk => hk) trivial (Below.refl _ _) (Nat.le_refl _) (by simp) ?_; (case hd => rfl); (case hg => rfl); (case hr => first | (go_simp; done) | (go_simp; rfl)); (case hp => exact (Reps.c2 (show Kd.M k40 _ _ _ (⟨0, 5⟩ : S40) [.int .i64 0, .int .i64 5] from (k40_mkM _ _ _ (⟨0, 5⟩ : S40) )) (Reps.c2 (show Kd.M k40 _ _ _ (⟨10, 3⟩ : S40) [.int .i64 10, .int .i64 3] from (k40_mkM _ _ _ (⟨10, 3⟩ : S40) )) (Reps.none _ _)))); intro v102 w7 ho8 hb hg_ hnew_; clear hg_ hnew_; (first | rw [← Ny101.out] at ho8 | (simp only [Int.reduceToNat] at ho8; rw [← Ny101.out] at ho8)); have n0_ := Aside0.mk (Kd.R_lower ho8 (below_size (by repeat (first | (with_reducible first | exact HB.out | apply below_alloc | apply pw_below_drewN | apply below_drew1) | exact HB.out)))); have n1_ := Aside0.mk (below_step (by repeat (first | (with_reducible first | exact HB.out | apply below_alloc | apply pw_below_drewN | apply below_drew1) | exact HB.out)) hb); clear HB; have HO103 := n0_; have HB := n1_; clear n0_ n1_; clear hb ho8; obtain ⟨Ao9, co9, eo9⟩ := Kd.R_slice HO103.out; subst eo9) | ((with_reducible refine gate_callee (f := 45) rfl ?_); refine goesL_ (some 9) rfl rfl Try.func45 (by kernel_rfl) rfl #[.agg #[.int .i64 20, .slice Ao9 y101.length co9], .int .i64 2, .int .i64 20] rfl (by (try simp only [List.map_toArray, List.map_cons, List.map_nil]); first | done | rfl | (simp only [List.length_drop, List.length_take]; rfl)) ?_; (with_reducible refine (free_Alloc.calls k 20 _ _ y101 2 20 t104 t105 t108 t109 _ ?side1 ?side2 A1.out).mono ?_); (case side1 => repeat (first | exact (Kd.R_reads' HO103.out).2.2 | (with_reducible refine Kd.C_alloc ?_ _) | (with_reducible refine Kd.C_drewN ?_ _) | (with_reducible refine Kd.C_drew ?_))); (case side2 => exact (Kd.R_reads' HO103.out).2.1); rintro e w10 ⟨v106, rfl, ho0, hb⟩; refine ⟨_, rfl, ?_⟩; have n0_ := Aside0.mk (Kd.R_elder' (by (with_reducible repeat (first | apply Kd.R_alloc | apply Kd.R_drewN | apply Kd.R_drew)); exact HO103.out) (Kd.R_base ho0) hb); have n1_ := Aside0.mk (Kd.R_lower (Kd.R_new' ho0 (Kd.R_lt (by (with_reducible repeat (first | apply Kd.R_alloc | apply Kd.R_drewN | apply Kd.R_drew)); exact HO103.out))) (below_size (by repeat (first | (with_reducible first | exact HB.out | apply below_alloc | apply pw_below_drewN | apply below_drew1) | exact HB.out)))); have n2_ := Aside0.mk (below_step (by repeat (first | (with_reducible first | exact HB.out | apply below_alloc | apply pw_below_drewN | apply below_drew1) | exact HB.out)) hb); clear HO103; clear HB; have HO103 := n0_; have HO107 := n1_; have HB := n2_; clear n0_ n1_ n2_; (try clear hb); (try clear hb2); (try clear hk); (try clear hi); (try clear ho0)) | ((with_reducible refine gate_dst (N := 1) rfl ?_); (try (refine gate_guard (by rfl) ?_; dsimp only)); refine box_event ?hg (N := 1) ?hd (cs := #[.int .i64 0, .slice none 0 0]) (t := 58) ?hr ?_; (case hd => rfl); (case hg => rfl); (case hr => first | (go_simp; done) | (go_simp; rfl)); intro gb110 hg w11 hbox hb; have n0_ := Aside0.mk (Kd.R_below (by (with_reducible repeat (first | apply Kd.R_alloc | apply Kd.R_drewN | apply Kd.R_drew)); exact HO103.out) hb); have n1_ := Aside0.mk (Kd.R_below (by (with_reducible repeat (first | apply Kd.R_alloc | apply Kd.R_drewN | apply Kd.R_drew)); exact HO107.out) hb); have n2_ := Aside0.mk (below_step (by repeat (first | (with_reducible first | exact HB.out | apply below_alloc | apply pw_below_drewN | apply below_drew1) | exact HB.out)) hb); have n3_ := Aside0.mk (hbox); have n4_ := Aside0.mk ((by rw [hg]; exact (below_size (by repeat (first | (with_reducible first | exact HB.out | apply below_alloc | apply pw_below_drewN | apply below_drew1) | exact HB.out))) : w.heap.size ≤ gb110)); have n5_ := Aside0.mk ((by rw [hg]; exact (below_size (by repeat (first | (with_reducible first | exact HB.out | apply below_alloc | apply pw_below_drewN | apply below_drew1) | exact HB.out))) : w.heap.size ≤ gb110)); clear HO103; clear HO107; clear HB; have HO103 := n0_; have HO107 := n1_; have HB := n2_; have BK110 := n3_; have GW110 := n4_; have GE110 := n5_; clear n0_ n1_ n2_ n3_ n4_ n5_; clear hb hbox hg; have hcz12_0 : w11.cell? ⟨gb110, 0, none⟩ = some (.int .i64 0) := (blk_cell BK110.out 0).trans rfl; have hcz12_1 : w11.cell? ⟨gb110, 1, none⟩ = some (.slice none 0 0) := (blk_cell BK110.out 1).trans rfl; have hfz12_0 := blk_frozen BK110.out 0; have hfz12_1 := blk_frozen BK110.out 1; obtain ⟨Ao13, co13, eo13⟩ := Kd.R_slice HO107.out; subst eo13) | ((with_reducible refine gate_callee (f := 44) rfl ?_); refine goesL_ (some 14) rfl rfl Try.func44 (by kernel_rfl) rfl #[.int .i64 t109] rfl (by (try simp only [List.map_toArray, List.map_cons, List.map_nil]); first | done | rfl | (simp only [List.length_drop, List.length_take]; rfl)) ?_; (with_reducible refine (flagstonelaw06_num.calls t109 t111 _ A2.out).mono ?_); rintro e w' ⟨rfl, ⟨nd, rfl⟩⟩; refine ⟨_, rfl, ?_⟩; have p112 : 0 ≤ (1 : Int) := (by omega); have q112 : 1 < (t105.length : Int) := of_decide_eq_true (by first | (with_reducible assumption) | assumption); obtain ⟨ad112, e112, hx112_0, hx112_1⟩ := at_T40 (Kd.R_reads' HO107.out).2.2 1 p112 q112; cases e112; (try simp only [show (1 : Int).toNat = 1 from rfl, Nat.reduceMul, Nat.reduceEqDiff, Go.Addr.add, ↓reduceIte] at hx112_0); (try simp only [show (1 : Int).toNat = 1 from rfl, Nat.reduceMul, Nat.reduceEqDiff, Go.Addr.add, ↓reduceIte] at hx112_1); have qi112 : (1 < t105.length) = True := eq_true (by omega); (try rw [show ((1 : Int)).toNat = 1 from rfl] at hx112_0); (try rw [show 1 * 2 = 2 from rfl] at hx112_0); (try rw [show ((1 : Int)).toNat = 1 from rfl] at hx112_1); (try rw [show 1 * 2 = 2 from rfl] at hx112_1); have hn112_0 : ad112.block ≠ gb110 := Kd.own_blk (Kd.R_ne HO107.out BK110.out (by decide)); have hn112_1 : ad112.block ≠ gb110 := Kd.own_blk (Kd.R_ne HO107.out BK110.out (by decide)); replace hx112_0 := (cell_far (p := ⟨gb110, 0, none⟩) (by first | (rw [add_block]; exact hn112_0) | (show (Addr.add _ _).block ≠ _; rw [add_block]; exact hn112_0) | exact hn112_0) (.int .i64 t104)).trans hx112_0; replace hx112_1 := (cell_far (p := ⟨gb110, 0, none⟩) (by first | (rw [add_block]; exact hn112_0) | (show (Addr.add _ _).block ≠ _; rw [add_block]; exact hn112_0) | exact hn112_0) (.int .i64 t104)).trans hx112_1; replace hx112_0 := (cell_far (p := ⟨gb110, 1, none⟩) (by first | (rw [add_block]; exact hn112_1) | (show (Addr.add _ _).block ≠ _; rw [add_block]; exact hn112_1) | exact hn112_1) (.slice (some ad112) t105.length co13)).trans hx112_0; replace hx112_1 := (cell_far (p := ⟨gb110, 1, none⟩) (by first | (rw [add_block]; exact hn112_1) | (show (Addr.add _ _).block ≠ _; rw [add_block]; exact hn112_1) | exact hn112_1) (.slice (some ad112) t105.length co13)).trans hx112_1; clear hn112_0; clear hn112_1; replace p112 := eq_true p112; replace q112 := eq_true q112))
     go_ret
     exact ⟨by first | rfl | (simp [errW_none, errW_some] <;> rfl) | (simp [*, errW_none, errW_some] <;> rfl), by repeat (first | (with_reducible first | exact HB.out | apply below_alloc | apply pw_below_drewN | apply below_drew1 | refine below_set ?_ GE110.out) | exact HB.out)⟩
    ·rw [if_neg c6] at H
     exact absurd H (by simp)
   ·rw [if_neg c5] at H
    have c5b0 : ((t105.length : Int) == 2) = false := beq_eq_false_iff_ne.mpr c5
    have c5b1 : ((t105.length : Int) != 2) = true := bne_iff_ne.mpr c5
    obtain rfl := Option.some.inj H
    go_enter Try.func41, Try.ntmps41
    go_wp2_with (first | ((with_reducible refine gate_dst (N := 7) rfl ?_); (try (refine gate_guard (by rfl) ?_; dsimp only)); refine Kd.R_lit k40 _ 40 ?hg (N := 7) ?hd (xs := ([(⟨0, 5⟩ : S40), (⟨10, 3⟩ : S40)] : List (S40))) (inner := [.int .i64 0, .int .i64 5, .int .i64 10, .int .i64 3]) (ok := fun _ => True) (okp := fun _ => True) ?hr ?hp (fun _ hk => hk) trivial (Below.refl _ _) (Nat.le_refl _) (by simp) ?_; (case hd => rfl); (case hg => rfl); (case hr => first | (go_simp; done) | (go_simp; rfl)); (case hp => exact (Reps.c2 (show Kd.M k40 _ _ _ (⟨0, 5⟩ : S40) [.int .i64 0, .int .i64 5] from (k40_mkM _ _ _ (⟨0, 5⟩ : S40) )) (Reps.c2 (show Kd.M k40 _ _ _ (⟨10, 3⟩ : S40) [.int .i64 10, .int .i64 3] from (k40_mkM _ _ _ (⟨10, 3⟩ : S40) )) (Reps.none _ _)))); intro v102 w14 ho15 hb hg_ hnew_; clear hg_ hnew_; (first | rw [← Ny101.out] at ho15 | (simp only [Int.reduceToNat] at ho15; rw [← Ny101.out] at ho15)); have n0_ := Aside0.mk (Kd.R_lower ho15 (below_size (by repeat (first | (with_reducible first | exact HB.out | apply below_alloc | apply pw_below_drewN | apply below_drew1) | exact HB.out)))); have n1_ := Aside0.mk (below_step (by repeat (first | (with_reducible first | exact HB.out | apply below_alloc | apply pw_below_drewN | apply below_drew1) | exact HB.out)) hb); clear HB; have HO103 := n0_; have HB := n1_; clear n0_ n1_; clear hb ho15; obtain ⟨Ao16, co16, eo16⟩ := Kd.R_slice HO103.out; subst eo16) | ((with_reducible refine gate_callee (f := 45) rfl ?_); refine goesL_ (some 9) rfl rfl Try.func45 (by kernel_rfl) rfl #[.agg #[.int .i64 20, .slice Ao16 y101.length co16], .int .i64 2, .int .i64 20] rfl (by (try simp only [List.map_toArray, List.map_cons, List.map_nil]); first | done | rfl | (simp only [List.length_drop, List.length_take]; rfl)) ?_; (with_reducible refine (free_Alloc.calls k 20 _ _ y101 2 20 t104 t105 t108 t109 _ ?side1 ?side2 A1.out).mono ?_); (case side1 => repeat (first | exact (Kd.R_reads' HO103.out).2.2 | (with_reducible refine Kd.C_alloc ?_ _) | (with_reducible refine Kd.C_drewN ?_ _) | (with_reducible refine Kd.C_drew ?_))); (case side2 => exact (Kd.R_reads' HO103.out).2.1); rintro e w17 ⟨v106, rfl, ho0, hb⟩; refine ⟨_, rfl, ?_⟩; have n0_ := Aside0.mk (Kd.R_elder' (by (with_reducible repeat (first | apply Kd.R_alloc | apply Kd.R_drewN | apply Kd.R_drew)); exact HO103.out) (Kd.R_base ho0) hb); have n1_ := Aside0.mk (Kd.R_lower (Kd.R_new' ho0 (Kd.R_lt (by (with_reducible repeat (first | apply Kd.R_alloc | apply Kd.R_drewN | apply Kd.R_drew)); exact HO103.out))) (below_size (by repeat (first | (with_reducible first | exact HB.out | apply below_alloc | apply pw_below_drewN | apply below_drew1) | exact HB.out)))); have n2_ := Aside0.mk (below_step (by repeat (first | (with_reducible first | exact HB.out | apply below_alloc | apply pw_below_drewN | apply below_drew1) | exact HB.out)) hb); clear HO103; clear HB; have HO103 := n0_; have HO107 := n1_; have HB := n2_; clear n0_ n1_ n2_; (try clear hb); (try clear hb2); (try clear hk); (try clear hi); (try clear ho0)) | ((with_reducible refine gate_dst (N := 1) rfl ?_); (try (refine gate_guard (by rfl) ?_; dsimp only)); refine box_event ?hg (N := 1) ?hd (cs := #[.int .i64 0, .slice none 0 0]) (t := 58) ?hr ?_; (case hd => rfl); (case hg => rfl); (case hr => first | (go_simp; done) | (go_simp; rfl)); intro gb110 hg w18 hbox hb; have n0_ := Aside0.mk (Kd.R_below (by (with_reducible repeat (first | apply Kd.R_alloc | apply Kd.R_drewN | apply Kd.R_drew)); exact HO103.out) hb); have n1_ := Aside0.mk (Kd.R_below (by (with_reducible repeat (first | apply Kd.R_alloc | apply Kd.R_drewN | apply Kd.R_drew)); exact HO107.out) hb); have n2_ := Aside0.mk (below_step (by repeat (first | (with_reducible first | exact HB.out | apply below_alloc | apply pw_below_drewN | apply below_drew1) | exact HB.out)) hb); have n3_ := Aside0.mk (hbox); have n4_ := Aside0.mk ((by rw [hg]; exact (below_size (by repeat (first | (with_reducible first | exact HB.out | apply below_alloc | apply pw_below_drewN | apply below_drew1) | exact HB.out))) : w.heap.size ≤ gb110)); have n5_ := Aside0.mk ((by rw [hg]; exact (below_size (by repeat (first | (with_reducible first | exact HB.out | apply below_alloc | apply pw_below_drewN | apply below_drew1) | exact HB.out))) : w.heap.size ≤ gb110)); clear HO103; clear HO107; clear HB; have HO103 := n0_; have HO107 := n1_; have HB := n2_; have BK110 := n3_; have GW110 := n4_; have GE110 := n5_; clear n0_ n1_ n2_ n3_ n4_ n5_; clear hb hbox hg; have hcz19_0 : w18.cell? ⟨gb110, 0, none⟩ = some (.int .i64 0) := (blk_cell BK110.out 0).trans rfl; have hcz19_1 : w18.cell? ⟨gb110, 1, none⟩ = some (.slice none 0 0) := (blk_cell BK110.out 1).trans rfl; have hfz19_0 := blk_frozen BK110.out 0; have hfz19_1 := blk_frozen BK110.out 1; obtain ⟨Ao20, co20, eo20⟩ := Kd.R_slice HO107.out; subst eo20) | ((with_reducible refine gate_callee (f := 44) rfl ?_); refine goesL_ (some 14) rfl rfl Try.func44 (by kernel_rfl) rfl #[.int .i64 t109] rfl (by (try simp only [List.map_toArray, List.map_cons, List.map_nil]); first | done | rfl | (simp only [List.length_drop, List.length_take]; rfl)) ?_; (with_reducible refine (flagstonelaw06_num.calls t109 t111 _ A2.out).mono ?_); rintro e w' ⟨rfl, ⟨nd, rfl⟩⟩; refine ⟨_, rfl, ?_⟩))
    go_ret
    exact ⟨by first | rfl | (simp [errW_none, errW_some] <;> rfl) | (simp [*, errW_none, errW_some] <;> rfl), by repeat (first | (with_reducible first | exact HB.out | apply below_alloc | apply pw_below_drewN | apply below_drew1 | refine below_set ?_ GE110.out) | exact HB.out)⟩
  ·rw [if_neg c4] at H
   have c4b0 : (t108 == 10) = false := beq_eq_false_iff_ne.mpr c4
   have c4b1 : (t108 != 10) = true := bne_iff_ne.mpr c4
   obtain rfl := Option.some.inj H
   go_enter Try.func41, Try.ntmps41
   go_wp2_with (first | ((with_reducible refine gate_dst (N := 7) rfl ?_); (try (refine gate_guard (by rfl) ?_; dsimp only)); refine Kd.R_lit k40 _ 40 ?hg (N := 7) ?hd (xs := ([(⟨0, 5⟩ : S40), (⟨10, 3⟩ : S40)] : List (S40))) (inner := [.int .i64 0, .int .i64 5, .int .i64 10, .int .i64 3]) (ok := fun _ => True) (okp := fun _ => True) ?hr ?hp (fun _ hk => hk) trivial (Below.refl _ _) (Nat.le_refl _) (by simp) ?_; (case hd => rfl); (case hg => rfl); (case hr => first | (go_simp; done) | (go_simp; rfl)); (case hp => exact (Reps.c2 (show Kd.M k40 _ _ _ (⟨0, 5⟩ : S40) [.int .i64 0, .int .i64 5] from (k40_mkM _ _ _ (⟨0, 5⟩ : S40) )) (Reps.c2 (show Kd.M k40 _ _ _ (⟨10, 3⟩ : S40) [.int .i64 10, .int .i64 3] from (k40_mkM _ _ _ (⟨10, 3⟩ : S40) )) (Reps.none _ _)))); intro v102 w21 ho22 hb hg_ hnew_; clear hg_ hnew_; (first | rw [← Ny101.out] at ho22 | (simp only [Int.reduceToNat] at ho22; rw [← Ny101.out] at ho22)); have n0_ := Aside0.mk (Kd.R_lower ho22 (below_size (by repeat (first | (with_reducible first | exact HB.out | apply below_alloc | apply pw_below_drewN | apply below_drew1) | exact HB.out)))); have n1_ := Aside0.mk (below_step (by repeat (first | (with_reducible first | exact HB.out | apply below_alloc | apply pw_below_drewN | apply below_drew1) | exact HB.out)) hb); clear HB; have HO103 := n0_; have HB := n1_; clear n0_ n1_; clear hb ho22; obtain ⟨Ao23, co23, eo23⟩ := Kd.R_slice HO103.out; subst eo23) | ((with_reducible refine gate_callee (f := 45) rfl ?_); refine goesL_ (some 9) rfl rfl Try.func45 (by kernel_rfl) rfl #[.agg #[.int .i64 20, .slice Ao23 y101.length co23], .int .i64 2, .int .i64 20] rfl (by (try simp only [List.map_toArray, List.map_cons, List.map_nil]); first | done | rfl | (simp only [List.length_drop, List.length_take]; rfl)) ?_; (with_reducible refine (free_Alloc.calls k 20 _ _ y101 2 20 t104 t105 t108 t109 _ ?side1 ?side2 A1.out).mono ?_); (case side1 => repeat (first | exact (Kd.R_reads' HO103.out).2.2 | (with_reducible refine Kd.C_alloc ?_ _) | (with_reducible refine Kd.C_drewN ?_ _) | (with_reducible refine Kd.C_drew ?_))); (case side2 => exact (Kd.R_reads' HO103.out).2.1); rintro e w24 ⟨v106, rfl, ho0, hb⟩; refine ⟨_, rfl, ?_⟩; have n0_ := Aside0.mk (Kd.R_elder' (by (with_reducible repeat (first | apply Kd.R_alloc | apply Kd.R_drewN | apply Kd.R_drew)); exact HO103.out) (Kd.R_base ho0) hb); have n1_ := Aside0.mk (Kd.R_lower (Kd.R_new' ho0 (Kd.R_lt (by (with_reducible repeat (first | apply Kd.R_alloc | apply Kd.R_drewN | apply Kd.R_drew)); exact HO103.out))) (below_size (by repeat (first | (with_reducible first | exact HB.out | apply below_alloc | apply pw_below_drewN | apply below_drew1) | exact HB.out)))); have n2_ := Aside0.mk (below_step (by repeat (first | (with_reducible first | exact HB.out | apply below_alloc | apply pw_below_drewN | apply below_drew1) | exact HB.out)) hb); clear HO103; clear HB; have HO103 := n0_; have HO107 := n1_; have HB := n2_; clear n0_ n1_ n2_; (try clear hb); (try clear hb2); (try clear hk); (try clear hi); (try clear ho0)) | ((with_reducible refine gate_dst (N := 1) rfl ?_); (try (refine gate_guard (by rfl) ?_; dsimp only)); refine box_event ?hg (N := 1) ?hd (cs := #[.int .i64 0, .slice none 0 0]) (t := 58) ?hr ?_; (case hd => rfl); (case hg => rfl); (case hr => first | (go_simp; done) | (go_simp; rfl)); intro gb110 hg w25 hbox hb; have n0_ := Aside0.mk (Kd.R_below (by (with_reducible repeat (first | apply Kd.R_alloc | apply Kd.R_drewN | apply Kd.R_drew)); exact HO103.out) hb); have n1_ := Aside0.mk (Kd.R_below (by (with_reducible repeat (first | apply Kd.R_alloc | apply Kd.R_drewN | apply Kd.R_drew)); exact HO107.out) hb); have n2_ := Aside0.mk (below_step (by repeat (first | (with_reducible first | exact HB.out | apply below_alloc | apply pw_below_drewN | apply below_drew1) | exact HB.out)) hb); have n3_ := Aside0.mk (hbox); have n4_ := Aside0.mk ((by rw [hg]; exact (below_size (by repeat (first | (with_reducible first | exact HB.out | apply below_alloc | apply pw_below_drewN | apply below_drew1) | exact HB.out))) : w.heap.size ≤ gb110)); have n5_ := Aside0.mk ((by rw [hg]; exact (below_size (by repeat (first | (with_reducible first | exact HB.out | apply below_alloc | apply pw_below_drewN | apply below_drew1) | exact HB.out))) : w.heap.size ≤ gb110)); clear HO103; clear HO107; clear HB; have HO103 := n0_; have HO107 := n1_; have HB := n2_; have BK110 := n3_; have GW110 := n4_; have GE110 := n5_; clear n0_ n1_ n2_ n3_ n4_ n5_; clear hb hbox hg; have hcz26_0 : w25.cell? ⟨gb110, 0, none⟩ = some (.int .i64 0) := (blk_cell BK110.out 0).trans rfl; have hcz26_1 : w25.cell? ⟨gb110, 1, none⟩ = some (.slice none 0 0) := (blk_cell BK110.out 1).trans rfl; have hfz26_0 := blk_frozen BK110.out 0; have hfz26_1 := blk_frozen BK110.out 1; obtain ⟨Ao27, co27, eo27⟩ := Kd.R_slice HO107.out; subst eo27) | ((with_reducible refine gate_callee (f := 44) rfl ?_); refine goesL_ (some 14) rfl rfl Try.func44 (by kernel_rfl) rfl #[.int .i64 t109] rfl (by (try simp only [List.map_toArray, List.map_cons, List.map_nil]); first | done | rfl | (simp only [List.length_drop, List.length_take]; rfl)) ?_; (with_reducible refine (flagstonelaw06_num.calls t109 t111 _ A2.out).mono ?_); rintro e w' ⟨rfl, ⟨nd, rfl⟩⟩; refine ⟨_, rfl, ?_⟩))
   go_ret
   exact ⟨by first | rfl | (simp [errW_none, errW_some] <;> rfl) | (simp [*, errW_none, errW_some] <;> rfl), by repeat (first | (with_reducible first | exact HB.out | apply below_alloc | apply pw_below_drewN | apply below_drew1 | refine below_set ?_ GE110.out) | exact HB.out)⟩
 ·rw [if_neg c3] at H
  have c3b0 : (t111 == 0) = false := beq_eq_false_iff_ne.mpr c3
  have c3b1 : (t111 != 0) = true := bne_iff_ne.mpr c3
  obtain rfl := Option.some.inj H
  go_enter Try.func41, Try.ntmps41
  go_wp2_with (first | ((with_reducible refine gate_dst (N := 7) rfl ?_); (try (refine gate_guard (by rfl) ?_; dsimp only)); refine Kd.R_lit k40 _ 40 ?hg (N := 7) ?hd (xs := ([(⟨0, 5⟩ : S40), (⟨10, 3⟩ : S40)] : List (S40))) (inner := [.int .i64 0, .int .i64 5, .int .i64 10, .int .i64 3]) (ok := fun _ => True) (okp := fun _ => True) ?hr ?hp (fun _ hk => hk) trivial (Below.refl _ _) (Nat.le_refl _) (by simp) ?_; (case hd => rfl); (case hg => rfl); (case hr => first | (go_simp; done) | (go_simp; rfl)); (case hp => exact (Reps.c2 (show Kd.M k40 _ _ _ (⟨0, 5⟩ : S40) [.int .i64 0, .int .i64 5] from (k40_mkM _ _ _ (⟨0, 5⟩ : S40) )) (Reps.c2 (show Kd.M k40 _ _ _ (⟨10, 3⟩ : S40) [.int .i64 10, .int .i64 3] from (k40_mkM _ _ _ (⟨10, 3⟩ : S40) )) (Reps.none _ _)))); intro v102 w28 ho29 hb hg_ hnew_; clear hg_ hnew_; (first | rw [← Ny101.out] at ho29 | (simp only [Int.reduceToNat] at ho29; rw [← Ny101.out] at ho29)); have n0_ := Aside0.mk (Kd.R_lower ho29 (below_size (by repeat (first | (with_reducible first | exact HB.out | apply below_alloc | apply pw_below_drewN | apply below_drew1) | exact HB.out)))); have n1_ := Aside0.mk (below_step (by repeat (first | (with_reducible first | exact HB.out | apply below_alloc | apply pw_below_drewN | apply below_drew1) | exact HB.out)) hb); clear HB; have HO103 := n0_; have HB := n1_; clear n0_ n1_; clear hb ho29; obtain ⟨Ao30, co30, eo30⟩ := Kd.R_slice HO103.out; subst eo30) | ((with_reducible refine gate_callee (f := 45) rfl ?_); refine goesL_ (some 9) rfl rfl Try.func45 (by kernel_rfl) rfl #[.agg #[.int .i64 20, .slice Ao30 y101.length co30], .int .i64 2, .int .i64 20] rfl (by (try simp only [List.map_toArray, List.map_cons, List.map_nil]); first | done | rfl | (simp only [List.length_drop, List.length_take]; rfl)) ?_; (with_reducible refine (free_Alloc.calls k 20 _ _ y101 2 20 t104 t105 t108 t109 _ ?side1 ?side2 A1.out).mono ?_); (case side1 => repeat (first | exact (Kd.R_reads' HO103.out).2.2 | (with_reducible refine Kd.C_alloc ?_ _) | (with_reducible refine Kd.C_drewN ?_ _) | (with_reducible refine Kd.C_drew ?_))); (case side2 => exact (Kd.R_reads' HO103.out).2.1); rintro e w31 ⟨v106, rfl, ho0, hb⟩; refine ⟨_, rfl, ?_⟩; have n0_ := Aside0.mk (Kd.R_elder' (by (with_reducible repeat (first | apply Kd.R_alloc | apply Kd.R_drewN | apply Kd.R_drew)); exact HO103.out) (Kd.R_base ho0) hb); have n1_ := Aside0.mk (Kd.R_lower (Kd.R_new' ho0 (Kd.R_lt (by (with_reducible repeat (first | apply Kd.R_alloc | apply Kd.R_drewN | apply Kd.R_drew)); exact HO103.out))) (below_size (by repeat (first | (with_reducible first | exact HB.out | apply below_alloc | apply pw_below_drewN | apply below_drew1) | exact HB.out)))); have n2_ := Aside0.mk (below_step (by repeat (first | (with_reducible first | exact HB.out | apply below_alloc | apply pw_below_drewN | apply below_drew1) | exact HB.out)) hb); clear HO103; clear HB; have HO103 := n0_; have HO107 := n1_; have HB := n2_; clear n0_ n1_ n2_; (try clear hb); (try clear hb2); (try clear hk); (try clear hi); (try clear ho0)) | ((with_reducible refine gate_dst (N := 1) rfl ?_); (try (refine gate_guard (by rfl) ?_; dsimp only)); refine box_event ?hg (N := 1) ?hd (cs := #[.int .i64 0, .slice none 0 0]) (t := 58) ?hr ?_; (case hd => rfl); (case hg => rfl); (case hr => first | (go_simp; done) | (go_simp; rfl)); intro gb110 hg w32 hbox hb; have n0_ := Aside0.mk (Kd.R_below (by (with_reducible repeat (first | apply Kd.R_alloc | apply Kd.R_drewN | apply Kd.R_drew)); exact HO103.out) hb); have n1_ := Aside0.mk (Kd.R_below (by (with_reducible repeat (first | apply Kd.R_alloc | apply Kd.R_drewN | apply Kd.R_drew)); exact HO107.out) hb); have n2_ := Aside0.mk (below_step (by repeat (first | (with_reducible first | exact HB.out | apply below_alloc | apply pw_below_drewN | apply below_drew1) | exact HB.out)) hb); have n3_ := Aside0.mk (hbox); have n4_ := Aside0.mk ((by rw [hg]; exact (below_size (by repeat (first | (with_reducible first | exact HB.out | apply below_alloc | apply pw_below_drewN | apply below_drew1) | exact HB.out))) : w.heap.size ≤ gb110)); have n5_ := Aside0.mk ((by rw [hg]; exact (below_size (by repeat (first | (with_reducible first | exact HB.out | apply below_alloc | apply pw_below_drewN | apply below_drew1) | exact HB.out))) : w.heap.size ≤ gb110)); clear HO103; clear HO107; clear HB; have HO103 := n0_; have HO107 := n1_; have HB := n2_; have BK110 := n3_; have GW110 := n4_; have GE110 := n5_; clear n0_ n1_ n2_ n3_ n4_ n5_; clear hb hbox hg; have hcz33_0 : w32.cell? ⟨gb110, 0, none⟩ = some (.int .i64 0) := (blk_cell BK110.out 0).trans rfl; have hcz33_1 : w32.cell? ⟨gb110, 1, none⟩ = some (.slice none 0 0) := (blk_cell BK110.out 1).trans rfl; have hfz33_0 := blk_frozen BK110.out 0; have hfz33_1 := blk_frozen BK110.out 1; obtain ⟨Ao34, co34, eo34⟩ := Kd.R_slice HO107.out; subst eo34) | ((with_reducible refine gate_callee (f := 44) rfl ?_); refine goesL_ (some 14) rfl rfl Try.func44 (by kernel_rfl) rfl #[.int .i64 t109] rfl (by (try simp only [List.map_toArray, List.map_cons, List.map_nil]); first | done | rfl | (simp only [List.length_drop, List.length_take]; rfl)) ?_; (with_reducible refine (flagstonelaw06_num.calls t109 t111 _ A2.out).mono ?_); rintro e w' ⟨rfl, ⟨nd, rfl⟩⟩; refine ⟨_, rfl, ?_⟩))
  go_ret
  exact ⟨by first | rfl | (simp [errW_none, errW_some] <;> rfl) | (simp [*, errW_none, errW_some] <;> rfl), by repeat (first | (with_reducible first | exact HB.out | apply below_alloc | apply pw_below_drewN | apply below_drew1 | refine below_set ?_ GE110.out) | exact HB.out)⟩
end Go.Proofs.Ytkkfkdncddbaeaa.Fn
namespace Go.Proofs.Ytkkfkdncddbaeaa.Fn
open Go.RowKit Go.Proofs.YtkkfkdncddbaeaaW.PrintWords Go.Proofs.YtkkfkdncddbaeaaW.PrintLast Go.Proofs.YtkkfkdncddbaeaaW.PrintMore
attribute [local go_sem] max2_int min2_int max_two min_two max_three min_three max_four min_four
set_option linter.unusedVariables false
set_option linter.unusedSimpArgs false
set_option maxHeartbeats 4000000 in
set_option maxRecDepth 100000 in
theorem ins_end (w0 w : World) (base : Nat) (ok : Nat → Prop) (A : Option Addr) (c : Nat) (xs vs : List S40) (gv : Nat) (cv : Nat) (curv : Array Value) (HO : Kd.R k40 40 w base ok (.slice A xs.length c) xs) (hV : LieL encSpan 2 40 w gv cv curv vs)
    (hB : Below base w0 w) (hbw : base ≤ w.heap.size) (hfr : ∀ k, w.heap.size ≤ k → ok k) (hn : xs.length ≤ 4096) (hm : vs.length ≤ 2) (hm0 : 0 < vs.length) :
    Calls Try.prog 155 #[.slice A xs.length c, .int .i64 (xs.length : Int), .slice (some ⟨gv, 0, none⟩) vs.length cv] w fun e w' => ∃ v' : Value, e = .returned v' ∧ Kd.R k40 40 w' base ok v' (xs ++ vs) ∧ Below base w0 w' := by
  have hu40 := Try.underlying40
  have hmc : Kd.C k40 w (some ⟨gv, 0, none⟩) vs.length vs := (Kd.R_reads' (hV.R (base := 0) (ok := fun _ => True) (Nat.zero_le _) trivial)).2.2
  have hnc : xs.length ≤ c := (Kd.R_reads' HO).2.1
  have hcm : c ≤ 9223372036854775807 := by
    rcases R_lies flatSpan HO with ⟨h1, h2⟩ | ⟨g, cap, h1, h2, h3, h4⟩
    · injection h1 with _ _ h5; omega
    · injection h1 with _ _ h5
      obtain ⟨cur, _, _, _, h6, _⟩ := h4
      unfold maxLen at h6
      omega
  obtain ⟨n, hnn⟩ : ∃ n, n = xs.length := ⟨_, rfl⟩
  obtain ⟨m, hmm⟩ : ∃ m, m = vs.length := ⟨_, rfl⟩
  rw [← hnn] at hn hnc HO
  rw [← hmm] at hm hm0 hmc
  have b1 : (0 : Int) ≤ (n : Int) := by omega
  have b2 : ((m : Int) == 0) = false := by simp; omega
  have b3 : ¬ ((m : Int) = 0) := by omega
  have HO' := Aside0.mk HO
  have HMC := Aside0.mk hmc
  have HB := Aside0.mk hB
  have HX := Aside0.mk (And.intro hbw (And.intro hfr (And.intro hnn hmm)))
  rw [← hnn, ← hmm]
  clear HO hmc hV hB hbw hfr hnn hmm
  go_enter Try.func155, Try.ntmps155
  go_wp2_with (first | ((with_reducible refine gate_builtin (b := .append) (xs := #[.tmp 23, .tmp 24]) rfl ?_); at_builtin; refine Kd.R_append_rows k40 (w0 := w0) base rfl (.tmp 23) (.tmp 24) 54 40 (.agg #[(.int .i64 0), (.int .i64 0)]) 16 rfl Try.underlying54 info40 rfl (by decide) (by omega) (.slice A n c) xs vs _ _ _ ok (fun _ => False) rfl rfl ?aO ?aR (fun _ _ h => h) (fun _ h => h.elim) ?aF ?aB ?aS ?aL ?_; (case aR => exact HMC.out); (case aB => exact HB.out); (case aF => exact HX.out.2.1); (case aO => exact HO'.out); (case aS => exact HX.out.1); (case aL => rw [← HX.out.2.2.1]; omega); intro v1 w3 ho hb hg hat; have HO := Aside0.mk ho; have HB3 := Aside0.mk hb; clear ho hb hg hat))
  all_goals
    go_ret
    exact ⟨_, rfl, HO.out, HB3.out⟩
set_option maxHeartbeats 4000000 in
set_option maxRecDepth 100000 in
theorem ins_mid (w0 w : World) (base g c : Nat) (ok : Nat → Prop) (cur : Array Value) (xs vs : List S40) (gv cv : Nat) (curv : Array Value) (i : Nat) (hL : LieL encSpan 2 40 w g c cur xs) (hLv : LieL encSpan 2 40 w gv cv curv vs) (hgv : gv ≠ g)
    (hB : Below base w0 w) (hbg : base ≤ g) (hok : ok g) (hfr : ∀ k, w.heap.size ≤ k → ok k) (hin : i < xs.length) (hn : xs.length ≤ 4096) (hm1 : vs.length = 1) :
    Calls Try.prog 155 #[.slice (some ⟨g, 0, none⟩) xs.length c, .int .i64 i, .slice (some ⟨gv, 0, none⟩) vs.length cv] w fun e w' => ∃ v' : Value, e = .returned v' ∧ Kd.R k40 40 w' base ok v' (xs.take i ++ vs ++ xs.drop i) ∧ Below base w0 w' := by
  have hu40 := Try.underlying40
  have hnc : xs.length ≤ c := hL.2.2.1
  have hcm : c ≤ 9223372036854775807 := by have := hL.2.2.2.1; unfold maxLen at this; omega
  obtain ⟨n, hnn⟩ : ∃ n, n = xs.length := ⟨_, rfl⟩
  rw [← hnn] at hin hn hnc
  have b1 : (0 : Int) ≤ (i : Int) := by omega
  have b2 : (i : Int) ≤ (n : Int) := by omega
  have hwz : ∀ z : Int, 0 ≤ z → z ≤ 100000 → IntKind.i64.wrap z = z ∧ wrap64 z = z := fun z h1 h2 => ⟨IntWalk.i64_in _ ⟨by omega, by omega⟩, w64 ⟨by omega, by omega⟩⟩
  have hq1 : (n : Int) + 1 ≤ 100000 := by omega
  have hq2 : (i : Int) + 1 ≤ 100000 := by omega
  have hq3 : (0 : Int) ≤ (n : Int) + 1 - (i : Int) := by omega
  have hq4 : (n : Int) + 1 - (i : Int) ≤ 100000 := by omega
  have HW := Aside0.mk (And.intro (hwz ((n : Int) + 1) (by omega) hq1) (And.intro (hwz ((i : Int) + 1) (by omega) hq2) (hwz ((n : Int) + 1 - (i : Int)) hq3 hq4)))
  have hdl1 : 1 ≤ n + 1 - i := by omega
  have hdl2 : n - i ≤ n + 1 - (i + 1) := by omega
  have hdl3 : n - i ≤ n + 1 - i := by omega
  have hdl4 : n + 1 - (i + 1) = n - i := by omega
  have HDL := Aside0.mk (And.intro hdl1 (And.intro hdl2 (And.intro hdl3 hdl4)))
  clear hdl1 hdl2 hdl3 hdl4
  clear hwz hq1 hq2 hq3 hq4
  have b3 : ((i : Int) == (n : Int)) = false := by simp; omega
  have b4 : ¬ ((i : Int) = (n : Int)) := by omega
  have b5 : ¬ (c = i) := by omega
  have b6 : i ≤ n := by omega
  have b7 : (i : Int) ≤ (c : Int) := by omega
  have hx1 : (0 : Int) ≤ (i : Int) + 1 := by omega
  have hx2 : (0 : Int) ≤ (n : Int) + 1 := by omega
  have htn : ((i : Int) + 1).toNat = i + 1 := by omega
  have htn2 : ((n : Int) + 1).toNat = n + 1 := by omega
  have hx3 : (i : Int) + 1 ≤ (n : Int) + 1 := by omega
  have hx4 : (i : Int) ≤ (n : Int) + 1 := by omega
  have HL := Aside0.mk hL
  have HLV := Aside0.mk hLv
  have HB := Aside0.mk hB
  have HOK := Aside0.mk (And.intro hbg (And.intro hok hfr))
  have HNN := Aside0.mk hnn
  have HM1 := Aside0.mk hm1
  rw [← hnn, hm1]
  obtain ⟨i0, hi0', hz0⟩ := Option.map_eq_some_iff.1 info40
  simp only [Prod.mk.injEq] at hz0
  have HI0 := Aside0.mk (And.intro hi0' hz0)
  have hfv : (vs.flatMap encSpan).length = 1 * 2 := by rw [flat_len (enc := encSpan) spanLen, hm1]
  have hfd : ((xs.drop i).flatMap encSpan).length = (n - i) * 2 := by rw [flat_len (enc := encSpan) spanLen, List.length_drop, ← hnn]
  have hxl : (xs.take i).length = i := by rw [List.length_take, ← hnn]; omega
  have hpl : ((xs.take i).flatMap encSpan).length = i * 2 := by rw [flat_len (enc := encSpan) spanLen, hxl]
  have hlen : (xs.take i ++ vs ++ xs.drop i).length = n + 1 := by simp only [List.length_append, hxl, hm1, List.length_drop, ← hnn]; omega
  have hvsrc : ∀ {W : World}, LieL encSpan 2 40 W gv cv curv vs → ∀ t u, (vs.flatMap encSpan)[t]? = some u → W.cell? ((⟨gv, 0, none⟩ : Addr).add t) = some u := fun h t u hu => by have := h.src spanLen 0 t u (by simpa using hu); simpa using this
  by_cases hr : n + 1 > c
  · have hdr : decide ((c : Int) < (n : Int) + 1) = true := decide_eq_true (by omega)
    obtain ⟨G, hG⟩ : ∃ G, G = grownCap w (n + 1) c 40 := ⟨_, rfl⟩
    have hGt : n + 1 ≤ G := by rw [hG]; exact grownCap_ge w _ _ _
    have hGm : G ≤ maxLen := by rw [hG]; exact grownCap_le_maxLen w (n + 1) c 40 (by unfold maxLen; omega)
    obtain ⟨ROW, hROW⟩ : ∃ ROW : Array Value, ROW = ((xs.take i).flatMap encSpan).toArray ++ Builtin.zeroCells (Value.agg #[.int .i64 0, .int .i64 0]).cells (n + 1 - i) ++ Builtin.zeroCells (Value.agg #[.int .i64 0, .int .i64 0]).cells (G - (n + 1)) := ⟨_, rfl⟩
    have hrz : ∀ ty, (Builtin.append_ #[54, 3] ty #[.slice (some ⟨g, 0, none⟩) i c, .int .i64 ((n : Int) + 1 - (i : Int))]).run Try.prog w = .ok (.slice (some ⟨w.heap.size, 0, none⟩) (n + 1) G) (w.drew.alloc (.cells ROW 40)) := fun ty => by
      obtain ⟨hi0', hz0a, hz0b, hz0c⟩ := HI0.out
      have hold : (Builtin.firstCells i0.size i (.slice (some ⟨g, 0, none⟩) i c)).run Try.prog w.drew = .ok ((xs.take i).flatMap encSpan).toArray w.drew := by
        rw [hz0b]
        refine run_firstCells_some w.drew 2 i ⟨g, 0, none⟩ i c ((xs.take i).flatMap encSpan) hpl (fun t u hu => ?_)
        have h1 := (HL.out.cut spanLen i (by rw [← hnn]; exact b6)).src spanLen 0 t u (by simpa using hu)
        simpa using h1
      have e1 : i + (n + 1 - i) = n + 1 := by omega
      have h := Lib.run_append_grow_zeros (P := Try.prog) w 54 3 ty 40 i0 _ .i64 .i64 Try.underlying54 Try.underlying3 hi0' hz0a (some ⟨g, 0, none⟩) i c _ hold (n + 1 - i) (by omega) (by rw [hz0b]; decide) (by omega) (by omega) (by rw [hz0c]; omega) (by
        rw [hz0c, e1]
        exact growslice_fits (by omega) (by omega))
      have e2 : (n : Int) + 1 - (i : Int) = ((n + 1 - i : Nat) : Int) := by omega
      rw [e1] at h
      rw [e2, hROW, hG]
      exact h
    have hROWs : ROW.size = G * 2 := by
      rw [hROW]
      simp only [Array.size_append, List.size_toArray, hpl, Builtin.zeroCells, Array.size_map, Array.size_range, Value.cells, List.size_toArray, List.length_cons, List.length_nil]
      omega
    have hb5 : ¬ (G = i) := by omega
    have hb6 : ¬ (G = i + 1) := by omega
    have hLN : LieL encSpan 2 40 (w.drew.alloc (.cells ROW 40)) w.heap.size G ROW (xs.take i) := by
      refine ⟨blk_new w.drew _, hROWs, by omega, hGm, ?_⟩
      rw [hROW, hxl]
      simp only [Array.toList_append]
      rw [List.append_assoc]
      exact take_app_len _ _ _ hpl
    obtain ⟨N, hN⟩ : ∃ N, N = w.heap.size := ⟨_, rfl⟩
    obtain ⟨W3, hW3⟩ : ∃ W, W = w.drew.alloc (.cells ROW 40) := ⟨_, rfl⟩
    rw [← hW3, ← hN] at hLN
    have hgN : g ≠ N := by have := blk_lt HL.out.1; omega
    have hL3 : LieL encSpan 2 40 W3 g c cur xs := HL.out.same (by rw [hW3]; exact Below.heap_alloc w.drew _ _ (blk_lt HL.out.1))
    have hV3 : LieL encSpan 2 40 W3 gv cv curv vs := HLV.out.same (by rw [hW3]; exact Below.heap_alloc w.drew _ _ (blk_lt HLV.out.1))
    have hBN : base ≤ N := by have h1 := HOK.out.1; have h2 := blk_lt HL.out.1; omega
    have hB3 : Below base w0 W3 := by rw [hW3]; exact (below_drew HB.out).alloc (by show base ≤ w.heap.size; rw [← hN]; exact hBN) _
    have hcpA : ∀ ty dl, Nat.min 1 dl = 1 → (Builtin.copy_ #[54, 54] ty #[.slice (some ⟨N, i * 2, none⟩) dl (G - i), .slice (some ⟨gv, 0, none⟩) 1 cv]).run Try.prog W3 = .ok (goInt (Nat.min 1 dl)) (W3.setRow N (ROW.toList.take (i * 2) ++ vs.flatMap encSpan ++ ROW.toList.drop (i * 2 + (vs.flatMap encSpan).length)).toArray) := fun ty dl hdl =>
      run_copy_k W3 54 54 ty 40 N (i * 2) dl (G - i) ⟨gv, 0, none⟩ 1 cv ROW 40 (vs.flatMap encSpan) 2 Try.underlying54 Try.sizeOf40 hLN.1 (by rw [hdl]; exact hfv) (hvsrc hV3) (by rw [hfv, hROWs]; omega) (flat_one vs)
    have hLN1 := hLN.put spanLen (ys := vs) (i := i) (by omega) (by rw [hm1]; omega)
    obtain ⟨ROW1, hROW1⟩ : ∃ R : Array Value, R = (ROW.toList.take (i * 2) ++ vs.flatMap encSpan ++ ROW.toList.drop (i * 2 + (vs.flatMap encSpan).length)).toArray := ⟨_, rfl⟩
    rw [← hROW1] at hcpA hLN1
    obtain ⟨W4, hW4⟩ : ∃ W, W = W3.setRow N ROW1 := ⟨_, rfl⟩
    rw [← hW4] at hcpA hLN1
    have e1 : (xs.take i).take i = xs.take i := by rw [List.take_take, Nat.min_self]
    rw [e1] at hLN1
    have hL4 : LieL encSpan 2 40 W4.drew g c cur xs := hL3.same (by rw [hW4]; exact setRow_other W3 N g ROW1 hgN)
    have hLN1d : LieL encSpan 2 40 W4.drew N G ROW1 (xs.take i ++ vs) := hLN1.same rfl
    have hcpB : ∀ ty dl, Nat.min (n - i) dl = n - i → (Builtin.copy_ #[54, 54] ty #[.slice (some ⟨N, (i + 1) * 2, none⟩) dl (G - (i + 1)), .slice (some ⟨g, i * 2, none⟩) (n - i) (c - i)]).run Try.prog W4.drew = .ok (goInt (Nat.min (n - i) dl)) (W4.drew.setRow N (ROW1.toList.take ((i + 1) * 2) ++ (xs.drop i).flatMap encSpan ++ ROW1.toList.drop ((i + 1) * 2 + ((xs.drop i).flatMap encSpan).length)).toArray) := fun ty dl hdl =>
      run_copy_k W4.drew 54 54 ty 40 N ((i + 1) * 2) dl (G - (i + 1)) ⟨g, i * 2, none⟩ (n - i) (c - i) ROW1 40 ((xs.drop i).flatMap encSpan) 2 Try.underlying54 Try.sizeOf40 hLN1d.1 (by rw [hdl]; exact hfd) (fun t u hu => hL4.src spanLen i t u hu) (by rw [hfd, hLN1d.2.1]; omega) (flat_one _)
    have hl1 : (xs.take i ++ vs).length = i + 1 := by rw [List.length_append, hxl, hm1]
    have hLN2 := hLN1d.put spanLen (ys := xs.drop i) (i := i + 1) (by rw [hl1]; exact Nat.le_refl _) (by rw [List.length_drop, ← hnn]; omega)
    obtain ⟨ROW2, hROW2⟩ : ∃ R : Array Value, R = (ROW1.toList.take ((i + 1) * 2) ++ (xs.drop i).flatMap encSpan ++ ROW1.toList.drop ((i + 1) * 2 + ((xs.drop i).flatMap encSpan).length)).toArray := ⟨_, rfl⟩
    rw [← hROW2] at hcpB hLN2
    have e2 : (xs.take i ++ vs).take (i + 1) = xs.take i ++ vs := List.take_of_length_le (by rw [hl1]; exact Nat.le_refl _)
    rw [e2] at hLN2
    have hRes := hLN2.R (base := base) (ok := ok) hBN (HOK.out.2.2 N (by rw [hN]; exact Nat.le_refl _))
    rw [hlen] at hRes
    have hB5 : Below base w0 (W4.drew.setRow N ROW2) := setRow_below (below_drew (by rw [hW4]; exact setRow_below hB3 hBN ROW1)) hBN ROW2
    have HRES := Aside0.mk (And.intro hRes hB5)
    have hx5 : (i : Int) ≤ (G : Int) := by omega
    have hcpA2 := fun ty => hcpA ty (n + 1 - i) (Nat.min_eq_left HDL.out.1)
    have hcpB2 := fun ty => hcpB ty (n + 1 - (i + 1)) (Nat.min_eq_left HDL.out.2.1)
    have hcpB3 := fun ty => hcpB ty (n - i) (Nat.min_eq_left (Nat.le_refl _))
    rw [← hN, ← hW3] at hrz
    clear hROW1 hROW2 hW3 hW4 hLN hLN1 hLN1d hLN2 hL3 hV3 hL4 hB3 hB5 hRes e1 e2 hlen hpl hxl hROW hROWs hG hgN hN hBN hGm hcpA hcpB hl1 hfv hfd hvsrc hnn hm1 hi0' hz0 hL hLv hB hbg hok hfr hgv hin
    obtain ⟨⟨hw1, hw1'⟩, ⟨hw2, hw2'⟩, ⟨hw3, hw3'⟩⟩ := HW.out
    go_enter Try.func155, Try.ntmps155
    go_wp2_with (first
      | (at_builtin; refine Lib.wpList_append_run _ rfl _ _ _ _ rfl _ _ rfl rfl _ _ (hrz _) ?_)
      | (at_builtin; refine wpList_copy_runI _ rfl _ _ 54 54 rfl _ _ rfl rfl (hcpA2 _) ?_))
    go_still_tail 8, (by kernel_rfl)
    change wpList _ _ _ _ _ W4.drew
    refine wpList_copy_runI W4.drew rfl _ _ 54 54 rfl _ _ rfl rfl (by first | exact hcpB2 _ | exact hcpB3 _) ?_
    go_wp2
    go_ret
    exact ⟨_, rfl, HRES.out.1, HRES.out.2⟩
  · have hdr : decide ((c : Int) < (n : Int) + 1) = false := decide_eq_false (by omega)
    have hb6 : ¬ (c = i + 1) := by omega
    have hx5 : (n : Int) + 1 ≤ (c : Int) := by omega
    have hcv0 : cur.size ≠ 0 := by rw [HL.out.2.1]; omega
    have hov : ∀ lb cb, (callFunc 156 #[.slice (some ⟨gv, 0, none⟩) 1 cv, .slice (some ⟨g, (i + 1) * 2, none⟩) lb cb]).run Try.prog w = .ok (.value (.bool false)) w := fun lb cb => by
      rw [run_callFunc_extern Try.func156 (by kernel_rfl) (by kernel_rfl) (by kernel_rfl) (e := Extern.SlicesOverlaps.overlaps #[54, 54] #[4]) (by kernel_rfl),
        Lib.run_overlaps_apart w 54 4 40 Try.underlying54 2 Try.sizeOf40 ⟨gv, 0, none⟩ ⟨g, (i + 1) * 2, none⟩ 1 cv lb cb hgv 40 40 curv.size cur.size (by simp [World.shape?, HLV.out.1]) (by simp [World.shape?, HL.out.1]) hcv0 (blk_frozen HLV.out.1 _) (blk_frozen HLV.out.1 _)]
      rfl
    have hcp1 : ∀ ty dl sl, Nat.min sl dl = n - i → (Builtin.copy_ #[54, 54] ty #[.slice (some ⟨g, (i + 1) * 2, none⟩) dl (c - (i + 1)), .slice (some ⟨g, i * 2, none⟩) sl (c - i)]).run Try.prog w.drew = .ok (goInt (Nat.min sl dl)) (w.drew.setRow g (cur.toList.take ((i + 1) * 2) ++ (xs.drop i).flatMap encSpan ++ cur.toList.drop ((i + 1) * 2 + ((xs.drop i).flatMap encSpan).length)).toArray) := fun ty dl sl hdl =>
      run_copy_k w.drew 54 54 ty 40 g ((i + 1) * 2) dl (c - (i + 1)) ⟨g, i * 2, none⟩ sl (c - i) cur 40 ((xs.drop i).flatMap encSpan) 2 Try.underlying54 Try.sizeOf40 HL.out.1 (by rw [hdl]; exact hfd) (fun t u hu => (HL.out.same (w1 := w.drew) rfl).src spanLen i t u hu) (by rw [hfd, HL.out.2.1]; omega) (flat_one _)
    have hxl1 : (xs.take (i + 1)).length = i + 1 := by rw [List.length_take, ← hnn]; omega
    have hdl : (xs.drop i).length = n - i := by rw [List.length_drop, hnn]
    have hL3 := (HL.out.same (w1 := w.drew) rfl).put spanLen (ys := xs.drop i) (i := i + 1) (by rw [← hnn]; omega) (by rw [hdl]; omega)
    obtain ⟨cur1, hcur1⟩ : ∃ R : Array Value, R = (cur.toList.take ((i + 1) * 2) ++ (xs.drop i).flatMap encSpan ++ cur.toList.drop ((i + 1) * 2 + ((xs.drop i).flatMap encSpan).length)).toArray := ⟨_, rfl⟩
    rw [← hcur1] at hcp1 hL3
    have hB3 : Below base w0 (w.drew.setRow g cur1) := setRow_below (below_drew HB.out) HOK.out.1 cur1
    have hV3 : LieL encSpan 2 40 (w.drew.setRow g cur1) gv cv curv vs := HLV.out.same (setRow_other w.drew g gv cur1 hgv)
    obtain ⟨W3, hW3⟩ : ∃ W, W = w.drew.setRow g cur1 := ⟨_, rfl⟩
    rw [← hW3] at hcp1 hL3 hB3 hV3
    have hcp2 : ∀ ty dl, Nat.min 1 dl = 1 → (Builtin.copy_ #[54, 54] ty #[.slice (some ⟨g, i * 2, none⟩) dl (c - i), .slice (some ⟨gv, 0, none⟩) 1 cv]).run Try.prog W3 = .ok (goInt (Nat.min 1 dl)) (W3.setRow g (cur1.toList.take (i * 2) ++ vs.flatMap encSpan ++ cur1.toList.drop (i * 2 + (vs.flatMap encSpan).length)).toArray) := fun ty dl hdl =>
      run_copy_k W3 54 54 ty 40 g (i * 2) dl (c - i) ⟨gv, 0, none⟩ 1 cv cur1 40 (vs.flatMap encSpan) 2 Try.underlying54 Try.sizeOf40 hL3.1 (by rw [hdl]; exact hfv) (hvsrc hV3) (by rw [hfv, hL3.2.1]; omega) (flat_one vs)
    have hL4 := hL3.put_mid spanLen (ys := vs) (i := i) (by rw [List.length_append, hxl1, hm1]; omega)
    have e3 : (xs.take (i + 1) ++ xs.drop i).take i = xs.take i := by rw [List.take_append, List.take_take, Nat.min_eq_left (by omega), hxl1]; simp [show i - (i + 1) = 0 by omega]
    have e4 : (xs.take (i + 1) ++ xs.drop i).drop (i + vs.length) = xs.drop i := by rw [hm1]; exact drop_app_len _ _ _ hxl1
    rw [e3, e4] at hL4
    obtain ⟨cur2, hcur2⟩ : ∃ R : Array Value, R = (cur1.toList.take (i * 2) ++ vs.flatMap encSpan ++ cur1.toList.drop (i * 2 + (vs.flatMap encSpan).length)).toArray := ⟨_, rfl⟩
    rw [← hcur2] at hcp2 hL4
    have hres := hL4.R (base := base) (ok := ok) HOK.out.1 HOK.out.2.1
    rw [hlen] at hres
    have HRES := Aside0.mk (And.intro hres (setRow_below hB3 HOK.out.1 cur2))
    have hcpA2 := fun ty => hcp1 ty (n - i) (n + 1 - i) (Nat.min_eq_right HDL.out.2.2.1)
    have hcpA3 := fun ty => hcp1 ty (n + 1 - (i + 1)) (n + 1 - i) (by rw [HDL.out.2.2.2]; exact Nat.min_eq_right HDL.out.2.2.1)
    have hcpB2 := fun ty => hcp2 ty (n + 1 - i) (Nat.min_eq_left HDL.out.1)
    clear hcur1 hcur2 hW3 hL3 hB3 hV3 hL4 e3 e4 hlen hres hxl hdl hcv0 hxl1 hcp1 hcp2 hfv hfd hvsrc hnn hm1 hi0' hz0 hL hLv hB hbg hok hfr hgv hin hpl
    obtain ⟨⟨hw1, hw1'⟩, ⟨hw2, hw2'⟩, ⟨hw3, hw3'⟩⟩ := HW.out
    go_enter Try.func155, Try.ntmps155
    go_wp2_with (simp only [hov])
    go_still_tail 8, (by kernel_rfl)
    change wpList _ _ _ _ _ w.drew
    refine wpList_copy_runI w.drew rfl _ _ 54 54 rfl _ _ rfl rfl (by first | exact hcpA2 _ | exact hcpA3 _) ?_
    go_wp2_with (at_builtin; refine wpList_copy_runI _ rfl _ _ 54 54 rfl _ _ rfl rfl (hcpB2 _) ?_)
    go_ret
    exact ⟨_, rfl, HRES.out.1, HRES.out.2⟩
end Go.Proofs.Ytkkfkdncddbaeaa.Fn
namespace Go.Proofs.Ytkkfkdncddbaeaa.Fn
open Go.RowKit Go.Proofs.YtkkfkdncddbaeaaW.PrintWords Go.Proofs.YtkkfkdncddbaeaaW.PrintLast Go.Proofs.YtkkfkdncddbaeaaW.PrintMore
attribute [local go_sem] max2_int min2_int max_two min_two max_three min_three max_four min_four
set_option linter.unusedVariables false
set_option linter.unusedSimpArgs false
theorem ins_one (w0 w : World) (base : Nat) (ok : Nat → Prop) (A : Option Addr) (c : Nat) (xs : List S40) (x : S40) (gv : Nat) (cv : Nat) (curv : Array Value) (i : Nat) (HO : Kd.R k40 40 w base ok (.slice A xs.length c) xs) (hV : LieL encSpan 2 40 w gv cv curv [x])
    (hgv : ∀ ad, A = some ad → gv ≠ ad.block) (hB : Below base w0 w) (hbw : base ≤ w.heap.size) (hfr : ∀ k, w.heap.size ≤ k → ok k) (hi : i ≤ xs.length) (hn : xs.length ≤ 4096) :
    Calls Try.prog 155 #[.slice A xs.length c, .int .i64 i, .slice (some ⟨gv, 0, none⟩) 1 cv] w fun e w' => ∃ v' : Value, e = .returned v' ∧ Kd.R k40 40 w' base ok v' (xs.take i ++ [x] ++ xs.drop i) ∧ Below base w0 w' := by
  by_cases h : i = xs.length
  · subst h
    have h1 := ins_end w0 w base ok A c xs [x] gv cv curv HO hV hB hbw hfr hn (by simp) (by simp)
    rw [List.take_length, List.drop_length, List.append_nil]
    exact h1
  · have hne : xs ≠ [] := by intro e; rw [e] at h hi; simp at h hi; omega
    obtain ⟨g, c', cur, e, hL, hg, hok⟩ := rowL_of HO hne
    injection e with e1 _ e2
    subst e1 e2
    exact ins_mid w0 w base g c ok cur xs [x] gv cv curv i hL hV (hgv _ rfl) hB hg hok hfr (by omega) hn rfl
set_option maxHeartbeats 4000000 in
set_option maxRecDepth 100000 in
theorem repl_one (w0 w : World) (base : Nat) (ok : Nat → Prop) (A : Option Addr) (c : Nat) (xs : List S40) (x : S40) (gv : Nat) (cv : Nat) (curv : Array Value) (i j : Nat) (HO : Kd.R k40 40 w base ok (.slice A xs.length c) xs) (hV : LieL encSpan 2 40 w gv cv curv [x])
    (hgv : ∀ ad, A = some ad → gv ≠ ad.block) (hB : Below base w0 w) (hbw : base ≤ w.heap.size) (hfr : ∀ k, w.heap.size ≤ k → ok k) (hij : i ≤ j) (hj : j ≤ xs.length) (hn : xs.length ≤ 4096) :
    Calls Try.prog 142 #[.slice A xs.length c, .int .i64 i, .int .i64 j, .slice (some ⟨gv, 0, none⟩) 1 cv] w fun e w' => ∃ v' : Value, e = .returned v' ∧ Kd.R k40 40 w' base ok v' (xs.take i ++ [x] ++ xs.drop j) ∧ Below base w0 w' := by
  by_cases h : i = j
  · subst h
    have hins := ins_one w0 w base ok A c xs x gv cv curv i HO hV hgv hB hbw hfr hj hn
    have hnc : xs.length ≤ c := (Kd.R_reads' HO).2.1
    obtain ⟨n, hnn⟩ : ∃ n, n = xs.length := ⟨_, rfl⟩
    rw [← hnn] at hj hn hnc hins ⊢
    have b1 : (0 : Int) ≤ (i : Int) := by omega
    have b2 : (i : Int) ≤ (n : Int) := by omega
    have b3 : (i : Int) ≤ (c : Int) := by omega
    have b4 : (i : Int) ≤ (i : Int) := Int.le_refl _
    have b5 : ((i : Int) == (i : Int)) = true := by simp
    have HI := Aside0.mk hins
    have hA : A = none → c = 0 ∧ n = 0 := by
      intro e
      rw [hnn]
      rcases R_lies flatSpan HO with ⟨h1, h2⟩ | ⟨g, cap, h1, h2, h3, h4⟩
      · injection h1 with _ _ h5
        exact ⟨h5, by rw [h2]; rfl⟩
      · injection h1 with h5
        rw [e] at h5; cases h5
    clear HO hV hgv hB hbw hfr hins hnn
    cases A with
    | none =>
      obtain ⟨rfl, rfl⟩ := hA rfl
      obtain rfl : i = 0 := by omega
      clear hA
      go_enter Try.func142, Try.ntmps142
      go_wp2_with fail
      refine HI.out.mono ?_
      rintro e w1 ⟨v', rfl, hR, hb⟩
      have HR := Aside0.mk (And.intro hR hb)
      clear hR hb
      go_wp2
      go_ret
      exact ⟨_, rfl, HR.out.1, HR.out.2⟩
    | some ad =>
      clear hA
      by_cases hci : c = i
      · subst hci
        go_enter Try.func142, Try.ntmps142
        go_wp2_with fail
        refine HI.out.mono ?_
        rintro e w1 ⟨v', rfl, hR, hb⟩
        have HR := Aside0.mk (And.intro hR hb)
        clear hR hb
        go_wp2
        go_ret
        exact ⟨_, rfl, HR.out.1, HR.out.2⟩
      · go_enter Try.func142, Try.ntmps142
        go_wp2_with fail
        refine HI.out.mono ?_
        rintro e w1 ⟨v', rfl, hR, hb⟩
        have HR := Aside0.mk (And.intro hR hb)
        clear hR hb
        go_wp2
        go_ret
        exact ⟨_, rfl, HR.out.1, HR.out.2⟩
  · have hne : xs ≠ [] := by intro e; rw [e] at hj; simp at hj; omega
    obtain ⟨g, c', cur, e, hL, hg, hok⟩ := rowL_of HO hne
    injection e with e1 _ e2
    subst e1 e2
    exact repl_span w0 w base g c ok cur xs [x] _ i j hL (.inr ⟨gv, cv, curv, rfl, hV, hgv _ rfl⟩) hB hg hok hfr (by omega) hj hn (by simp) (by simp)
end Go.Proofs.Ytkkfkdncddbaeaa.Fn
namespace Go.Proofs.Ytkkfkdncddbaeaa.Fn
open Go.RowKit Go.Proofs.YtkkfkdncddbaeaaW.PrintWords Go.Proofs.YtkkfkdncddbaeaaW.PrintLast Go.Proofs.YtkkfkdncddbaeaaW.PrintMore
attribute [local go_sem] max2_int min2_int max_two min_two max_three min_three max_four min_four
set_option linter.unusedVariables false
set_option linter.unusedSimpArgs false
def inX1 (l : List S40) (i : Nat) (x : S40) : S40 := if 0 < i ∧ wrap64 ((rd_T40 l ((i : Int) - 1)).f0 + (rd_T40 l ((i : Int) - 1)).f1) = x.f0 then ⟨(rd_T40 l ((i : Int) - 1)).f0, wrap64 ((rd_T40 l ((i : Int) - 1)).f1 + x.f1)⟩ else x
def inLo (l : List S40) (i : Nat) (x : S40) : Nat := if 0 < i ∧ wrap64 ((rd_T40 l ((i : Int) - 1)).f0 + (rd_T40 l ((i : Int) - 1)).f1) = x.f0 then i - 1 else i
def inX2 (l : List S40) (i : Nat) (x : S40) : S40 := if i < l.length ∧ wrap64 (x.f0 + x.f1) = (rd_T40 l (i : Int)).f0 then ⟨x.f0, wrap64 (x.f1 + (rd_T40 l (i : Int)).f1)⟩ else x
def inHi (l : List S40) (i : Nat) (x : S40) : Nat := if i < l.length ∧ wrap64 (x.f0 + x.f1) = (rd_T40 l (i : Int)).f0 then i + 1 else i
def inL (l : List S40) (i : Nat) (x : S40) : List S40 := l.take (inLo l i x) ++ [inX2 l i (inX1 l i x)] ++ l.drop (inHi l i (inX1 l i x))
def free_in.f (l0 : List (S40)) (a1_0 : Int) (a1_1 : Int) : Option (List (S40)) := (free_at.f l0 a1_0).bind fun i => some (inL l0 i.toNat ⟨a1_0, a1_1⟩)
theorem in_pure {size : Int} {l : List S40} {x : S40} (hs : size ≤ 65536) (hl : ∀ y ∈ l, Flag.Ins size (toP y)) (x0 : 0 ≤ x.f0) (x1 : 0 < x.f1) (x2 : x.f0 + x.f1 ≤ 65536) :
    (inL l (atL l x.f0) x).map toP = Flag.inS (l.map toP) (toP x) := by
  obtain ⟨i, hi⟩ : ∃ i, i = atL l x.f0 := ⟨_, rfl⟩
  rw [← hi]
  obtain ⟨e1, e2⟩ := Flag.ahead_take (l.map toP) x.f0
  have hil : i ≤ (l.map toP).length := by
    have := congrArg List.length (Flag.ahead_behind (l.map toP) x.f0)
    rw [List.length_append] at this
    rw [hi]; unfold atL; omega
  have hil2 : i ≤ l.length := by simpa using hil
  unfold Flag.inS
  show _ = Flag.joinTo (Flag.ahead (l.map toP) x.f0) (Flag.behind (l.map toP) x.f0) (toP x)
  rw [e1, e2, show (Flag.ahead (l.map toP) x.f0).length = i from hi.symm]
  have hrd : ∀ j : Nat, j < l.length → (l.map toP)[j]? = some (toP (rd_T40 l (j : Int))) ∧ Flag.Ins size (toP (rd_T40 l (j : Int))) := by
    intro j hj
    have hx : rd_T40 l (j : Int) = l[j] := by rw [rd40_get l (j : Int) (by omega) (by omega)]; simp
    rw [hx]
    exact ⟨by simp [hj], hl _ (List.getElem_mem hj)⟩
  have hu : 0 < i → (l.map toP)[i - 1]? = some (toP (rd_T40 l ((i : Int) - 1))) ∧ Flag.Ins size (toP (rd_T40 l ((i : Int) - 1))) := by
    intro h0
    have h := hrd (i - 1) (by omega)
    have e : ((i - 1 : Nat) : Int) = (i : Int) - 1 := by omega
    rw [e] at h
    exact h
  have hX1 : toP (inX1 l i x) = (if 0 < i ∧ (toP (rd_T40 l ((i : Int) - 1))).a + (toP (rd_T40 l ((i : Int) - 1))).n = (toP x).a then ⟨(toP (rd_T40 l ((i : Int) - 1))).a, (toP (rd_T40 l ((i : Int) - 1))).n + (toP x).n⟩ else toP x)
      ∧ inLo l i x = (if 0 < i ∧ (toP (rd_T40 l ((i : Int) - 1))).a + (toP (rd_T40 l ((i : Int) - 1))).n = (toP x).a then i - 1 else i)
      ∧ 0 ≤ (inX1 l i x).f0 ∧ 0 ≤ (inX1 l i x).f1 ∧ (inX1 l i x).f0 ≤ 65536 ∧ (inX1 l i x).f1 ≤ 131072 := by
    unfold inX1 inLo
    by_cases h0 : 0 < i
    · have hI := (hu h0).2
      have q1 : 0 < (rd_T40 l ((i : Int) - 1)).f1 := hI.n
      have q2 : 0 ≤ (rd_T40 l ((i : Int) - 1)).f0 := hI.a
      have q3 : (rd_T40 l ((i : Int) - 1)).f0 + (rd_T40 l ((i : Int) - 1)).f1 ≤ size := hI.e
      rw [w64 (n := (rd_T40 l ((i : Int) - 1)).f0 + (rd_T40 l ((i : Int) - 1)).f1) (by omega), w64 (n := (rd_T40 l ((i : Int) - 1)).f1 + x.f1) (by omega)]
      by_cases hc : 0 < i ∧ (rd_T40 l ((i : Int) - 1)).f0 + (rd_T40 l ((i : Int) - 1)).f1 = x.f0
      · rw [if_pos hc, if_pos hc]
        refine ⟨?_, ?_, q2, by show 0 ≤ _ + _; omega, by show _ ≤ _; dsimp only; omega, by show _ + _ ≤ _; omega⟩
        · exact (if_pos hc).symm
        · exact (if_pos hc).symm
      · rw [if_neg hc, if_neg hc]
        exact ⟨(if_neg hc).symm, (if_neg hc).symm, x0, by omega, by omega, by omega⟩
    · rw [if_neg (fun h => h0 h.1), if_neg (fun h => h0 h.1), if_neg (fun h => h0 h.1), if_neg (fun h => h0 h.1)]
      exact ⟨rfl, rfl, x0, by omega, by omega, by omega⟩
  obtain ⟨g1, g2, g3, g4, g5, g6⟩ := hX1
  rw [Flag.join_idx (l.map toP) i hil (toP x) (toP (inX1 l i x)) (toP (rd_T40 l ((i : Int) - 1))) (toP (rd_T40 l (i : Int))) (inLo l i x) (fun h => (hu h).1) (fun h => (hrd i (by simpa using h)).1)
    (by
      by_cases hc : 0 < i ∧ (toP (rd_T40 l ((i : Int) - 1))).a + (toP (rd_T40 l ((i : Int) - 1))).n = (toP x).a
      · rw [if_pos hc] at g1 g2
        exact .inl ⟨hc.1, hc.2, g1, g2⟩
      · rw [if_neg hc] at g1 g2
        exact .inr ⟨hc, g1, g2⟩)]
  unfold inL
  rw [List.map_append, List.map_append, List.map_take, List.map_drop, List.length_map]
  have hx2 : toP (inX2 l i (inX1 l i x)) = (if i < l.length ∧ (toP (inX1 l i x)).a + (toP (inX1 l i x)).n = (toP (rd_T40 l (i : Int))).a then ⟨(toP (inX1 l i x)).a, (toP (inX1 l i x)).n + (toP (rd_T40 l (i : Int))).n⟩ else toP (inX1 l i x))
      ∧ inHi l i (inX1 l i x) = (if i < l.length ∧ (toP (inX1 l i x)).a + (toP (inX1 l i x)).n = (toP (rd_T40 l (i : Int))).a then i + 1 else i) := by
    unfold inX2 inHi
    rw [w64 (n := (inX1 l i x).f0 + (inX1 l i x).f1) (by omega)]
    by_cases hc : i < l.length ∧ (inX1 l i x).f0 + (inX1 l i x).f1 = (rd_T40 l (i : Int)).f0
    · have hI := (hrd i hc.1).2
      have q1 : 0 < (rd_T40 l (i : Int)).f1 := hI.n
      have q2 : 0 ≤ (rd_T40 l (i : Int)).f0 := hI.a
      have q3 : (rd_T40 l (i : Int)).f0 + (rd_T40 l (i : Int)).f1 ≤ size := hI.e
      rw [w64 (n := (inX1 l i x).f1 + (rd_T40 l (i : Int)).f1) (by omega), if_pos hc, if_pos hc]
      exact ⟨(if_pos hc).symm, (if_pos hc).symm⟩
    · rw [if_neg hc, if_neg hc]
      exact ⟨(if_neg hc).symm, (if_neg hc).symm⟩
  rw [← hx2.2, ← hx2.1]
  rfl
theorem in_tail (w0 W : World) (A1 : Option Addr) (c1 : Nat) (l0 : List S40) (lo hi : Nat) (X0 X1 : Int) (ok : Nat → Prop) (HO : Kd.R k40 40 W w0.heap.size ok (.slice A1 l0.length c1) l0) (hB : Below w0.heap.size w0 W) (hlh : lo ≤ hi) (hh : hi ≤ l0.length) (hn : l0.length ≤ 4096) :
    Calls Try.prog 142 #[.slice A1 l0.length c1, .int .i64 lo, .int .i64 hi, .slice (some ⟨W.heap.size, 0, none⟩) 1 1] (W.alloc (.cells #[.int .i64 X0, .int .i64 X1] 40)) fun e w' => ∃ v' : Value, e = .returned v' ∧ Kd.R k40 40 w' w0.heap.size (fun _ => True) v' (l0.take lo ++ [⟨X0, X1⟩] ++ l0.drop hi) ∧ Below w0.heap.size w0 w' := by
  have hV : LieL encSpan 2 40 (W.alloc (.cells #[.int .i64 X0, .int .i64 X1] 40)) W.heap.size 1 #[.int .i64 X0, .int .i64 X1] [(⟨X0, X1⟩ : S40)] := ⟨blk_new W _, rfl, Nat.le_refl _, by decide, rfl⟩
  exact repl_one w0 _ w0.heap.size (fun _ => True) A1 c1 l0 ⟨X0, X1⟩ W.heap.size 1 _ lo hi (Kd.R_mono (Kd.R_alloc HO _) (fun _ _ => trivial)) hV (fun ad h => by
    have := Kd.R_lt HO ad.block (by rw [h]; rfl)
    omega) (hB.alloc hB.size _) (by have := hB.size; simp only [World.alloc, Array.size_push]; omega) (fun _ _ => trivial) hlh hh hn
set_option maxHeartbeats 4000000 in
set_option maxRecDepth 100000 in
theorem free_in.calls (A0 : Option Addr) (c0 : Nat) (l0 : List (S40)) (a1_0 : Int) (a1_1 : Int) (r : List (S40)) (w : World) (hr0 : Kd.C k40 w A0 l0.length l0) (hc0 : l0.length ≤ c0) (h : free_in.f l0 a1_0 a1_1 = some r) :
    Calls Try.prog 109 #[.slice A0 l0.length c0, .agg #[.int .i64 a1_0, .int .i64 a1_1]] w fun e w' => ∃ v0_ : Value, e = .returned (v0_) ∧ Kd.R k40 40 w' w.heap.size (fun _ => True) v0_ r ∧ Below w.heap.size w w' := by
  have hu40 := Try.underlying40
  unfold free_in.f at h
  obtain ⟨iI, hat, h⟩ := Option.bind_eq_some_iff.mp h
  obtain rfl := Option.some.inj h
  have hlen : l0.length ≤ 1024 ∧ iI = (atL l0 a1_0 : Int) ∧ atL l0 a1_0 ≤ l0.length := by
    have hat2 := hat
    unfold free_at.f at hat2
    split at hat2
    · rename_i hc
      have h1 := (Flag.checkF_ok.1 hc.1).len
      have h2 := congrArg List.length (Flag.ahead_behind (l0.map toP) a1_0)
      rw [List.length_append, List.length_map] at h2
      refine ⟨by simpa using h1, (Option.some.inj hat2).symm, ?_⟩
      unfold atL; omega
    · cases hat2
  obtain ⟨hn, hiI, hil⟩ := hlen
  obtain ⟨i, hi⟩ : ∃ i, i = atL l0 a1_0 := ⟨_, rfl⟩
  rw [← hi] at hiI hil
  subst hiI
  rw [Int.toNat_natCast]
  obtain ⟨n, hnn⟩ : ∃ n, n = l0.length := ⟨_, rfl⟩
  rw [← hnn] at hil hn
  have HR0 := Aside0.mk hr0
  have HC0 := Aside0.mk hc0
  have HAT := Aside0.mk hat
  have HNN := Aside0.mk hnn
  rw [← hnn]
  clear hr0 hc0 h hat hi hnn
  go_enter Try.func109, Try.ntmps109
  go_wp2_with fail
  have hcl := api_Span_101.calls A0 c0 l0 l0 (w.alloc (.cells #[.int .i64 a1_0, .int .i64 a1_1] 40)) (Kd.C_alloc HR0.out _) HC0.out (by unfold api_Span_101.f; rw [if_pos (by rw [← HNN.out]; omega)])
  rw [← HNN.out] at hcl
  refine hcl.mono ?_
  rintro e w1 ⟨s, rfl, hR1, hb1⟩
  obtain ⟨A1, c1, rfl⟩ := Kd.R_slice hR1
  have HX1 := Aside0.mk ((hb1.block _ (blk_lt (blk_new w (.cells #[.int .i64 a1_0, .int .i64 a1_1] 40)))).trans (blk_new w (.cells #[.int .i64 a1_0, .int .i64 a1_1] 40)))
  have HR1 := Aside0.mk (Kd.R_mono (ok' := fun k => k ≠ w.heap.size) (Kd.R_lower (base' := w.heap.size) (Kd.R_newB hR1 (blk_new w (.cells #[.int .i64 a1_0, .int .i64 a1_1] 40))) (by simp)) (fun _ h => h.2))
  have HB1 := Aside0.mk (below_step ((Below.refl w.heap.size w).alloc (Nat.le_refl _) (.cells #[.int .i64 a1_0, .int .i64 a1_1] 40)) hb1)
  rw [← HNN.out]
  clear hR1 hb1 hcl
  have x0 : w1.cell? ⟨w.heap.size, 0, none⟩ = some (.int .i64 a1_0) := (blk_cell HX1.out 0).trans rfl
  have x1 : w1.cell? ⟨w.heap.size, 1, none⟩ = some (.int .i64 a1_1) := (blk_cell HX1.out 1).trans rfl
  go_wp2_with fail
  have hatc := free_at.calls A1 c1 l0 a1_0 (i : Int) w1 (Kd.R_reads' HR1.out).2.2 (Kd.R_reads' HR1.out).2.1 HAT.out
  rw [← HNN.out] at hatc
  refine hatc.mono ?_
  rintro e w2 ⟨rfl, hb2⟩
  have HX2 := Aside0.mk ((hb2.block _ (blk_lt HX1.out)).trans HX1.out)
  have HR2 := Aside0.mk (Kd.R_below HR1.out hb2)
  have HB2 := Aside0.mk (below_step HB1.out hb2)
  clear hb2 x0 x1 hatc
  have x0 : w2.cell? ⟨w.heap.size, 0, none⟩ = some (.int .i64 a1_0) := (blk_cell HX2.out 0).trans rfl
  have x1 : w2.cell? ⟨w.heap.size, 1, none⟩ = some (.int .i64 a1_1) := (blk_cell HX2.out 1).trans rfl
  by_cases hi0 : 0 < i
  · obtain ⟨j, hj⟩ : ∃ j : Int, j = (i : Int) - 1 := ⟨_, rfl⟩
    have hwj : IntKind.i64.wrap ((i : Int) - 1) = j := by rw [hj]; exact IntWalk.i64_in _ (by omega)
    have hwj2 : wrap64 ((i : Int) - 1) = j := by rw [hj]; exact w64 (by omega)
    have j0 : 0 ≤ j := by omega
    have j1 : j < (n : Int) := by omega
    have hd : decide (0 < (i : Int)) = true := decide_eq_true (by omega)
    have hC : Kd.C k40 w2 A1 l0.length l0 := (Kd.R_reads' HR2.out).2.2
    obtain ⟨ad, e3, g0, g1⟩ := at_T40 hC j j0 (by rw [← HNN.out]; exact j1)
    cases e3
    obtain ⟨u, hu⟩ : ∃ u, u = rd_T40 l0 j := ⟨_, rfl⟩
    rw [← hu] at g0 g1
    have HU := Aside0.mk (And.intro hu hj)
    clear hu hj hC
    obtain ⟨s1, hs1⟩ : ∃ s : Int, s = wrap64 (u.f0 + u.f1) := ⟨_, rfl⟩
    have HS1 := Aside0.mk hs1
    have hs1w : IntKind.i64.wrap (u.f0 + u.f1) = s1 := by rw [hs1]; exact IntWalk.i64_left _
    have hs1w2 : wrap64 (u.f0 + u.f1) = s1 := hs1.symm
    clear hs1
    by_cases hc1 : s1 = a1_0
    · have hb1 : (s1 == a1_0) = true := beq_iff_eq.mpr hc1
      have HC1 := Aside0.mk hc1
      obtain ⟨s3, hs3⟩ : ∃ s : Int, s = wrap64 (u.f1 + a1_1) := ⟨_, rfl⟩
      have HS3 := Aside0.mk hs3
      have hs3w : IntKind.i64.wrap (u.f1 + a1_1) = s3 := by rw [hs3]; exact IntWalk.i64_left _
      have hs3w2 : wrap64 (u.f1 + a1_1) = s3 := hs3.symm
      clear hs3
      go_wp2_with fail
      go_quiet (fail)
      obtain ⟨W3, hW3⟩ : ∃ W, W = w2.drewN nq := ⟨_, rfl⟩
      rw [← hW3]
      have HX3 := Aside0.mk (show W3.heap[w.heap.size]? = some (.cells #[.int .i64 a1_0, .int .i64 a1_1] 40 (0, 0)) by rw [hW3]; exact HX2.out)
      have HR3 := Aside0.mk (show Kd.R k40 40 W3 w.heap.size (fun k => k ≠ w.heap.size) (.slice (some ad) l0.length c1) l0 by rw [hW3]; exact Kd.R_drewN HR2.out nq)
      have HB3 := Aside0.mk (show Below w.heap.size w W3 by rw [hW3]; exact pw_below_drewN HB2.out nq)
      have HG3 := Aside0.mk (show W3.cell? (ad.add (j.toNat * 2)) = some (.int .i64 u.f0) ∧ W3.cell? ⟨(ad.add (j.toNat * 2)).block, (ad.add (j.toNat * 2)).off + 1, none⟩ = some (.int .i64 u.f1) by rw [hW3]; exact ⟨g0, g1⟩)
      clear hW3 x0 x1 g0 g1 hc1 hb1 hs1w hs1w2
      have x0 : W3.cell? ⟨w.heap.size, 0, none⟩ = some (.int .i64 a1_0) := (blk_cell HX3.out 0).trans rfl
      have x1 : W3.cell? ⟨w.heap.size, 1, none⟩ = some (.int .i64 a1_1) := (blk_cell HX3.out 1).trans rfl
      have g0 := HG3.out.1
      have g1 := HG3.out.2
      have hx3 : (W3.drew).heap[w.heap.size]? = some (.cells #[.int .i64 a1_0, .int .i64 a1_1] 40 (0, 0)) := HX3.out
      go_wp2_with fail
      go_still_tail 13, (by kernel_rfl)
      change wpList _ _ _ _ _ W3.drew
      go_wp2_with (refine wpList_store_row (P := Try.prog) rfl 40 (.tmp 3) (.tmp 51) rfl w.heap.size #[.int .i64 u.f0, .int .i64 s3] rfl rfl 40 #[.int .i64 a1_0, .int .i64 a1_1] hx3 (by kernel_rfl) rfl (by simp [Value.oneCell']) ?_)
      obtain ⟨W4, hW4⟩ : ∃ W, W = W3.drew.setRow w.heap.size #[.int .i64 u.f0, .int .i64 s3] := ⟨_, rfl⟩
      rw [← hW4]
      have hpn : ∀ a : Act, a.put none undef = a := fun _ => rfl
      rw [hpn]
      clear hpn
      have HX4 := Aside0.mk (show W4.heap[w.heap.size]? = some (.cells #[.int .i64 u.f0, .int .i64 s3] 40 (0, 0)) by rw [hW4]; exact setRow_heap _ w.heap.size _ _ 40 (0, 0) hx3)
      have HR4 := Aside0.mk (show Kd.R k40 40 W4 w.heap.size (fun k => k ≠ w.heap.size) (.slice (some ad) l0.length c1) l0 by rw [hW4]; exact Kd.R_step (Kd.R_drew HR3.out) (fun k hk _ => setRow_other _ w.heap.size k _ hk))
      have HB4 := Aside0.mk (show Below w.heap.size w W4 by rw [hW4]; exact setRow_below (below_drew HB3.out) (Nat.le_refl _) _)
      clear hW4 x0 x1 g0 g1 hx3 hs3w hs3w2
      have x0 : W4.cell? ⟨w.heap.size, 0, none⟩ = some (.int .i64 u.f0) := (blk_cell HX4.out 0).trans rfl
      have x1 : W4.cell? ⟨w.heap.size, 1, none⟩ = some (.int .i64 s3) := (blk_cell HX4.out 1).trans rfl
      have hL : inX1 l0 i ⟨a1_0, a1_1⟩ = ⟨u.f0, s3⟩ ∧ inLo l0 i ⟨a1_0, a1_1⟩ = i - 1 := by
        have hp : 0 < i ∧ wrap64 ((rd_T40 l0 ((i : Int) - 1)).f0 + (rd_T40 l0 ((i : Int) - 1)).f1) = a1_0 := ⟨hi0, by rw [← HU.out.2, ← HU.out.1, ← HS1.out]; exact HC1.out⟩
        refine ⟨?_, if_pos hp⟩
        unfold inX1
        rw [if_pos hp, ← HU.out.2, ← HU.out.1, HS3.out]
      have HL := Aside0.mk hL
      clear hL
      by_cases hin : i < n
      · have hd2 : decide ((i : Int) < (n : Int)) = true := decide_eq_true (by omega)
        have hC : Kd.C k40 W4 (some ad) l0.length l0 := (Kd.R_reads' HR4.out).2.2
        obtain ⟨ad2, e3, g0, g1⟩ := at_T40 hC (i : Int) (by omega) (by rw [← HNN.out]; omega)
        cases e3
        have i0 : (0 : Int) ≤ (i : Int) := by omega
        have i1 : (i : Int) < (n : Int) := by omega
        rw [Int.toNat_natCast] at g0 g1
        obtain ⟨y, hy⟩ : ∃ y, y = rd_T40 l0 (i : Int) := ⟨_, rfl⟩
        rw [← hy] at g0 g1
        have HY := Aside0.mk hy
        clear hy hC
        obtain ⟨s4, hs4⟩ : ∃ s : Int, s = wrap64 (u.f0 + s3) := ⟨_, rfl⟩
        have HS4 := Aside0.mk hs4
        have hs4w : IntKind.i64.wrap (u.f0 + s3) = s4 := by rw [hs4]; exact IntWalk.i64_left _
        have hs4w2 : wrap64 (u.f0 + s3) = s4 := hs4.symm
        clear hs4
        by_cases hc4 : s4 = y.f0
        · have hb4 : (s4 == y.f0) = true := beq_iff_eq.mpr hc4
          have HC4 := Aside0.mk hc4
          have hwi : IntKind.i64.wrap ((i : Int) + 1) = (i : Int) + 1 := IntWalk.i64_in _ (by omega)
          have hwi2 : wrap64 ((i : Int) + 1) = (i : Int) + 1 := w64 (by omega)
          obtain ⟨s5, hs5⟩ : ∃ s : Int, s = wrap64 (s3 + y.f1) := ⟨_, rfl⟩
          have HS5 := Aside0.mk hs5
          have hs5w : IntKind.i64.wrap (s3 + y.f1) = s5 := by rw [hs5]; exact IntWalk.i64_left _
          have hs5w2 : wrap64 (s3 + y.f1) = s5 := hs5.symm
          clear hs5
          go_wp2_with fail
          go_quiet (fail)
          obtain ⟨W5, hW5⟩ : ∃ W, W = (W4).drewN nq := ⟨_, rfl⟩
          rw [← hW5]
          have HX5 := Aside0.mk (show W5.heap[w.heap.size]? = some (.cells #[.int .i64 u.f0, .int .i64 s3] 40 (0, 0)) by rw [hW5]; exact HX4.out)
          have HR5 := Aside0.mk (show Kd.R k40 40 W5 w.heap.size (fun k => k ≠ w.heap.size) (.slice (some ad) l0.length c1) l0 by rw [hW5]; exact Kd.R_drewN HR4.out nq)
          have HB5 := Aside0.mk (show Below w.heap.size w W5 by rw [hW5]; exact pw_below_drewN HB4.out nq)
          have HG5 := Aside0.mk (show W5.cell? (ad.add (i * 2)) = some (.int .i64 y.f0) ∧ W5.cell? ⟨(ad.add (i * 2)).block, (ad.add (i * 2)).off + 1, none⟩ = some (.int .i64 y.f1) by rw [hW5]; exact ⟨g0, g1⟩)
          clear hW5 x0 x1 g0 g1 hc4 hb4 hs4w hs4w2
          have x0 : W5.cell? ⟨w.heap.size, 0, none⟩ = some (.int .i64 u.f0) := (blk_cell HX5.out 0).trans rfl
          have x1 : W5.cell? ⟨w.heap.size, 1, none⟩ = some (.int .i64 s3) := (blk_cell HX5.out 1).trans rfl
          have g0 := HG5.out.1
          have g1 := HG5.out.2
          have hfz : W5.frozen? ⟨w.heap.size, 1, none⟩ = false := blk_frozen HX5.out 1
          have hfz2 : W5.drew.frozen? ⟨w.heap.size, 1, none⟩ = false := blk_frozen HX5.out 1
          go_wp2_with fail
          go_still_tail 9, (by kernel_rfl)
          change wpList _ _ _ _ _ W5.drew
          go_wp2_with fail
          have hwd : ((W5.setCell ⟨w.heap.size, 1, none⟩ (.int .i64 s5)).alloc (.cells #[.int .i64 u.f0, .int .i64 s5] 40)).drew = (W5.drew.setCell ⟨w.heap.size, 1, none⟩ (.int .i64 s5)).alloc (.cells #[.int .i64 u.f0, .int .i64 s5] 40) := rfl
          have hwz : (W5.drew.setCell ⟨w.heap.size, 1, none⟩ (.int .i64 s5)).heap.size = W5.heap.size := by simp [World.setCell]
          have htl := in_tail w (W5.drew.setCell ⟨w.heap.size, 1, none⟩ (.int .i64 s5)) (some ad) c1 l0 (i - 1) (i + 1) u.f0 s5 _ (Kd.R_far (p := ⟨w.heap.size, 1, none⟩) (Kd.R_drew HR5.out) (fun _ h => h) _) ((below_drew HB5.out).setCell (p := ⟨w.heap.size, 1, none⟩) (Nat.le_refl _) _) (by omega) (by rw [← HNN.out]; omega) (by rw [← HNN.out]; omega)
          have e_lo : ((i - 1 : Nat) : Int) = j := by have := HU.out.2; omega
          have e_hi : ((i + 1 : Nat) : Int) = (i : Int) + 1 := by omega
          rw [← HNN.out, e_lo, e_hi, hwz] at htl
          rw [hwd]
          clear hwd hwz
          refine htl.mono ?_
          rintro e w9 ⟨v', rfl, hR9, hb9⟩
          have HR9 := Aside0.mk hR9
          have HB9 := Aside0.mk hb9
          clear hR9 hb9 htl e_lo e_hi
          go_wp2
          go_ret
          refine ⟨_, rfl, ?_, HB9.out⟩
          have hres : inL l0 i ⟨a1_0, a1_1⟩ = l0.take (i - 1) ++ [⟨u.f0, s5⟩] ++ l0.drop (i + 1) := by
            unfold inL inX2 inHi
            rw [HL.out.1, HL.out.2]
            rw [if_pos ⟨by rw [← HNN.out]; exact hin, by rw [← HY.out, ← HC4.out]; exact HS4.out.symm⟩, if_pos ⟨by rw [← HNN.out]; exact hin, by rw [← HY.out, ← HC4.out]; exact HS4.out.symm⟩, ← HY.out, ← HS5.out]
          rw [hres]; exact HR9.out
        · have hb4 : (s4 == y.f0) = false := beq_eq_false_iff_ne.mpr hc4
          have HC4 := Aside0.mk hc4
          go_wp2_with fail
          go_quiet (fail)
          obtain ⟨W5, hW5⟩ : ∃ W, W = (W4).drewN nq := ⟨_, rfl⟩
          rw [← hW5]
          have HX5 := Aside0.mk (show W5.heap[w.heap.size]? = some (.cells #[.int .i64 u.f0, .int .i64 s3] 40 (0, 0)) by rw [hW5]; exact HX4.out)
          have HR5 := Aside0.mk (show Kd.R k40 40 W5 w.heap.size (fun k => k ≠ w.heap.size) (.slice (some ad) l0.length c1) l0 by rw [hW5]; exact Kd.R_drewN HR4.out nq)
          have HB5 := Aside0.mk (show Below w.heap.size w W5 by rw [hW5]; exact pw_below_drewN HB4.out nq)
          clear hW5 x0 x1 g0 g1 hs4w hs4w2 hc4 hb4
          have x0 : W5.cell? ⟨w.heap.size, 0, none⟩ = some (.int .i64 u.f0) := (blk_cell HX5.out 0).trans rfl
          have x1 : W5.cell? ⟨w.heap.size, 1, none⟩ = some (.int .i64 s3) := (blk_cell HX5.out 1).trans rfl
          go_wp2_with fail
          have htl := in_tail w (W5) (some ad) c1 l0 (i - 1) (i) u.f0 s3 _ HR5.out HB5.out (by omega) (by rw [← HNN.out]; omega) (by rw [← HNN.out]; omega)
          have e_lo : ((i - 1 : Nat) : Int) = j := by have := HU.out.2; omega
          have e_hi : ((i : Nat) : Int) = (i : Int) := by omega
          rw [← HNN.out, e_lo, e_hi] at htl
          refine htl.mono ?_
          rintro e w9 ⟨v', rfl, hR9, hb9⟩
          have HR9 := Aside0.mk hR9
          have HB9 := Aside0.mk hb9
          clear hR9 hb9 htl e_lo e_hi
          go_wp2
          go_ret
          refine ⟨_, rfl, ?_, HB9.out⟩
          have hres : inL l0 i ⟨a1_0, a1_1⟩ = l0.take (i - 1) ++ [⟨u.f0, s3⟩] ++ l0.drop (i) := by
            unfold inL inX2 inHi
            rw [HL.out.1, HL.out.2]
            rw [if_neg (fun h => HC4.out (by rw [HS4.out, HY.out]; exact h.2)), if_neg (fun h => HC4.out (by rw [HS4.out, HY.out]; exact h.2))]
          rw [hres]; exact HR9.out
      · have hd2 : decide ((i : Int) < (n : Int)) = false := decide_eq_false (by omega)
        go_wp2_with fail
        go_quiet (fail)
        obtain ⟨W5, hW5⟩ : ∃ W, W = (W4).drewN nq := ⟨_, rfl⟩
        rw [← hW5]
        have HX5 := Aside0.mk (show W5.heap[w.heap.size]? = some (.cells #[.int .i64 u.f0, .int .i64 s3] 40 (0, 0)) by rw [hW5]; exact HX4.out)
        have HR5 := Aside0.mk (show Kd.R k40 40 W5 w.heap.size (fun k => k ≠ w.heap.size) (.slice (some ad) l0.length c1) l0 by rw [hW5]; exact Kd.R_drewN HR4.out nq)
        have HB5 := Aside0.mk (show Below w.heap.size w W5 by rw [hW5]; exact pw_below_drewN HB4.out nq)
        clear hW5 x0 x1
        have x0 : W5.cell? ⟨w.heap.size, 0, none⟩ = some (.int .i64 u.f0) := (blk_cell HX5.out 0).trans rfl
        have x1 : W5.cell? ⟨w.heap.size, 1, none⟩ = some (.int .i64 s3) := (blk_cell HX5.out 1).trans rfl
        go_wp2_with fail
        have htl := in_tail w (W5) (some ad) c1 l0 (i - 1) (i) u.f0 s3 _ HR5.out HB5.out (by omega) (by rw [← HNN.out]; omega) (by rw [← HNN.out]; omega)
        have e_lo : ((i - 1 : Nat) : Int) = j := by have := HU.out.2; omega
        have e_hi : ((i : Nat) : Int) = (i : Int) := by omega
        rw [← HNN.out, e_lo, e_hi] at htl
        refine htl.mono ?_
        rintro e w9 ⟨v', rfl, hR9, hb9⟩
        have HR9 := Aside0.mk hR9
        have HB9 := Aside0.mk hb9
        clear hR9 hb9 htl e_lo e_hi
        go_wp2
        go_ret
        refine ⟨_, rfl, ?_, HB9.out⟩
        have hres : inL l0 i ⟨a1_0, a1_1⟩ = l0.take (i - 1) ++ [⟨u.f0, s3⟩] ++ l0.drop (i) := by
          unfold inL inX2 inHi
          rw [HL.out.1, HL.out.2]
          rw [if_neg (fun h => hin (by rw [HNN.out]; exact h.1)), if_neg (fun h => hin (by rw [HNN.out]; exact h.1))]
        rw [hres]; exact HR9.out
    · have hb1 : (s1 == a1_0) = false := beq_eq_false_iff_ne.mpr hc1
      have HC1 := Aside0.mk hc1
      go_wp2_with fail
      go_quiet (fail)
      obtain ⟨W3, hW3⟩ : ∃ W, W = w2.drewN nq := ⟨_, rfl⟩
      rw [← hW3]
      have HX3 := Aside0.mk (show W3.heap[w.heap.size]? = some (.cells #[.int .i64 a1_0, .int .i64 a1_1] 40 (0, 0)) by rw [hW3]; exact HX2.out)
      have HR3 := Aside0.mk (show Kd.R k40 40 W3 w.heap.size (fun k => k ≠ w.heap.size) (.slice (some ad) l0.length c1) l0 by rw [hW3]; exact Kd.R_drewN HR2.out nq)
      have HB3 := Aside0.mk (show Below w.heap.size w W3 by rw [hW3]; exact pw_below_drewN HB2.out nq)
      clear hW3 x0 x1 g0 g1 hc1 hb1 hs1w hs1w2
      have x0 : W3.cell? ⟨w.heap.size, 0, none⟩ = some (.int .i64 a1_0) := (blk_cell HX3.out 0).trans rfl
      have x1 : W3.cell? ⟨w.heap.size, 1, none⟩ = some (.int .i64 a1_1) := (blk_cell HX3.out 1).trans rfl
      have hL : inX1 l0 i ⟨a1_0, a1_1⟩ = ⟨a1_0, a1_1⟩ ∧ inLo l0 i ⟨a1_0, a1_1⟩ = i := by
        have hne : ¬ (0 < i ∧ wrap64 ((rd_T40 l0 ((i : Int) - 1)).f0 + (rd_T40 l0 ((i : Int) - 1)).f1) = a1_0) := by
          rintro ⟨_, h⟩
          apply HC1.out
          rw [HS1.out, HU.out.1, HU.out.2]; exact h
        exact ⟨if_neg hne, if_neg hne⟩
      have HL := Aside0.mk hL
      clear hL
      by_cases hin : i < n
      · have hd2 : decide ((i : Int) < (n : Int)) = true := decide_eq_true (by omega)
        have hC : Kd.C k40 W3 (some ad) l0.length l0 := (Kd.R_reads' HR3.out).2.2
        obtain ⟨ad2, e3, g0, g1⟩ := at_T40 hC (i : Int) (by omega) (by rw [← HNN.out]; omega)
        cases e3
        have i0 : (0 : Int) ≤ (i : Int) := by omega
        have i1 : (i : Int) < (n : Int) := by omega
        rw [Int.toNat_natCast] at g0 g1
        obtain ⟨y, hy⟩ : ∃ y, y = rd_T40 l0 (i : Int) := ⟨_, rfl⟩
        rw [← hy] at g0 g1
        have HY := Aside0.mk hy
        clear hy hC
        obtain ⟨s4, hs4⟩ : ∃ s : Int, s = wrap64 (a1_0 + a1_1) := ⟨_, rfl⟩
        have HS4 := Aside0.mk hs4
        have hs4w : IntKind.i64.wrap (a1_0 + a1_1) = s4 := by rw [hs4]; exact IntWalk.i64_left _
        have hs4w2 : wrap64 (a1_0 + a1_1) = s4 := hs4.symm
        clear hs4
        by_cases hc4 : s4 = y.f0
        · have hb4 : (s4 == y.f0) = true := beq_iff_eq.mpr hc4
          have HC4 := Aside0.mk hc4
          have hwi : IntKind.i64.wrap ((i : Int) + 1) = (i : Int) + 1 := IntWalk.i64_in _ (by omega)
          have hwi2 : wrap64 ((i : Int) + 1) = (i : Int) + 1 := w64 (by omega)
          obtain ⟨s5, hs5⟩ : ∃ s : Int, s = wrap64 (a1_1 + y.f1) := ⟨_, rfl⟩
          have HS5 := Aside0.mk hs5
          have hs5w : IntKind.i64.wrap (a1_1 + y.f1) = s5 := by rw [hs5]; exact IntWalk.i64_left _
          have hs5w2 : wrap64 (a1_1 + y.f1) = s5 := hs5.symm
          clear hs5
          go_wp2_with fail
          go_quiet (fail)
          obtain ⟨W5, hW5⟩ : ∃ W, W = (W3).drewN nq := ⟨_, rfl⟩
          rw [← hW5]
          have HX5 := Aside0.mk (show W5.heap[w.heap.size]? = some (.cells #[.int .i64 a1_0, .int .i64 a1_1] 40 (0, 0)) by rw [hW5]; exact HX3.out)
          have HR5 := Aside0.mk (show Kd.R k40 40 W5 w.heap.size (fun k => k ≠ w.heap.size) (.slice (some ad) l0.length c1) l0 by rw [hW5]; exact Kd.R_drewN HR3.out nq)
          have HB5 := Aside0.mk (show Below w.heap.size w W5 by rw [hW5]; exact pw_below_drewN HB3.out nq)
          have HG5 := Aside0.mk (show W5.cell? (ad.add (i * 2)) = some (.int .i64 y.f0) ∧ W5.cell? ⟨(ad.add (i * 2)).block, (ad.add (i * 2)).off + 1, none⟩ = some (.int .i64 y.f1) by rw [hW5]; exact ⟨g0, g1⟩)
          clear hW5 x0 x1 g0 g1 hc4 hb4 hs4w hs4w2
          have x0 : W5.cell? ⟨w.heap.size, 0, none⟩ = some (.int .i64 a1_0) := (blk_cell HX5.out 0).trans rfl
          have x1 : W5.cell? ⟨w.heap.size, 1, none⟩ = some (.int .i64 a1_1) := (blk_cell HX5.out 1).trans rfl
          have g0 := HG5.out.1
          have g1 := HG5.out.2
          have hfz : W5.frozen? ⟨w.heap.size, 1, none⟩ = false := blk_frozen HX5.out 1
          have hfz2 : W5.drew.frozen? ⟨w.heap.size, 1, none⟩ = false := blk_frozen HX5.out 1
          go_wp2_with fail
          go_still_tail 9, (by kernel_rfl)
          change wpList _ _ _ _ _ W5.drew
          go_wp2_with fail
          have hwd : ((W5.setCell ⟨w.heap.size, 1, none⟩ (.int .i64 s5)).alloc (.cells #[.int .i64 a1_0, .int .i64 s5] 40)).drew = (W5.drew.setCell ⟨w.heap.size, 1, none⟩ (.int .i64 s5)).alloc (.cells #[.int .i64 a1_0, .int .i64 s5] 40) := rfl
          have hwz : (W5.drew.setCell ⟨w.heap.size, 1, none⟩ (.int .i64 s5)).heap.size = W5.heap.size := by simp [World.setCell]
          have htl := in_tail w (W5.drew.setCell ⟨w.heap.size, 1, none⟩ (.int .i64 s5)) (some ad) c1 l0 (i) (i + 1) a1_0 s5 _ (Kd.R_far (p := ⟨w.heap.size, 1, none⟩) (Kd.R_drew HR5.out) (fun _ h => h) _) ((below_drew HB5.out).setCell (p := ⟨w.heap.size, 1, none⟩) (Nat.le_refl _) _) (by omega) (by rw [← HNN.out]; omega) (by rw [← HNN.out]; omega)
          have e_lo : ((i : Nat) : Int) = (i : Int) := by omega
          have e_hi : ((i + 1 : Nat) : Int) = (i : Int) + 1 := by omega
          rw [← HNN.out, e_lo, e_hi, hwz] at htl
          rw [hwd]
          clear hwd hwz
          refine htl.mono ?_
          rintro e w9 ⟨v', rfl, hR9, hb9⟩
          have HR9 := Aside0.mk hR9
          have HB9 := Aside0.mk hb9
          clear hR9 hb9 htl e_lo e_hi
          go_wp2
          go_ret
          refine ⟨_, rfl, ?_, HB9.out⟩
          have hres : inL l0 i ⟨a1_0, a1_1⟩ = l0.take (i) ++ [⟨a1_0, s5⟩] ++ l0.drop (i + 1) := by
            unfold inL inX2 inHi
            rw [HL.out.1, HL.out.2]
            rw [if_pos ⟨by rw [← HNN.out]; exact hin, by rw [← HY.out, ← HC4.out]; exact HS4.out.symm⟩, if_pos ⟨by rw [← HNN.out]; exact hin, by rw [← HY.out, ← HC4.out]; exact HS4.out.symm⟩, ← HY.out, ← HS5.out]
          rw [hres]; exact HR9.out
        · have hb4 : (s4 == y.f0) = false := beq_eq_false_iff_ne.mpr hc4
          have HC4 := Aside0.mk hc4
          go_wp2_with fail
          go_quiet (fail)
          obtain ⟨W5, hW5⟩ : ∃ W, W = (W3).drewN nq := ⟨_, rfl⟩
          rw [← hW5]
          have HX5 := Aside0.mk (show W5.heap[w.heap.size]? = some (.cells #[.int .i64 a1_0, .int .i64 a1_1] 40 (0, 0)) by rw [hW5]; exact HX3.out)
          have HR5 := Aside0.mk (show Kd.R k40 40 W5 w.heap.size (fun k => k ≠ w.heap.size) (.slice (some ad) l0.length c1) l0 by rw [hW5]; exact Kd.R_drewN HR3.out nq)
          have HB5 := Aside0.mk (show Below w.heap.size w W5 by rw [hW5]; exact pw_below_drewN HB3.out nq)
          clear hW5 x0 x1 g0 g1 hs4w hs4w2 hc4 hb4
          have x0 : W5.cell? ⟨w.heap.size, 0, none⟩ = some (.int .i64 a1_0) := (blk_cell HX5.out 0).trans rfl
          have x1 : W5.cell? ⟨w.heap.size, 1, none⟩ = some (.int .i64 a1_1) := (blk_cell HX5.out 1).trans rfl
          go_wp2_with fail
          have htl := in_tail w (W5) (some ad) c1 l0 (i) (i) a1_0 a1_1 _ HR5.out HB5.out (by omega) (by rw [← HNN.out]; omega) (by rw [← HNN.out]; omega)
          have e_lo : ((i : Nat) : Int) = (i : Int) := by omega
          have e_hi : ((i : Nat) : Int) = (i : Int) := by omega
          rw [← HNN.out, e_lo, e_hi] at htl
          refine htl.mono ?_
          rintro e w9 ⟨v', rfl, hR9, hb9⟩
          have HR9 := Aside0.mk hR9
          have HB9 := Aside0.mk hb9
          clear hR9 hb9 htl e_lo e_hi
          go_wp2
          go_ret
          refine ⟨_, rfl, ?_, HB9.out⟩
          have hres : inL l0 i ⟨a1_0, a1_1⟩ = l0.take (i) ++ [⟨a1_0, a1_1⟩] ++ l0.drop (i) := by
            unfold inL inX2 inHi
            rw [HL.out.1, HL.out.2]
            rw [if_neg (fun h => HC4.out (by rw [HS4.out, HY.out]; exact h.2)), if_neg (fun h => HC4.out (by rw [HS4.out, HY.out]; exact h.2))]
          rw [hres]; exact HR9.out
      · have hd2 : decide ((i : Int) < (n : Int)) = false := decide_eq_false (by omega)
        go_wp2_with fail
        go_quiet (fail)
        obtain ⟨W5, hW5⟩ : ∃ W, W = (W3).drewN nq := ⟨_, rfl⟩
        rw [← hW5]
        have HX5 := Aside0.mk (show W5.heap[w.heap.size]? = some (.cells #[.int .i64 a1_0, .int .i64 a1_1] 40 (0, 0)) by rw [hW5]; exact HX3.out)
        have HR5 := Aside0.mk (show Kd.R k40 40 W5 w.heap.size (fun k => k ≠ w.heap.size) (.slice (some ad) l0.length c1) l0 by rw [hW5]; exact Kd.R_drewN HR3.out nq)
        have HB5 := Aside0.mk (show Below w.heap.size w W5 by rw [hW5]; exact pw_below_drewN HB3.out nq)
        clear hW5 x0 x1
        have x0 : W5.cell? ⟨w.heap.size, 0, none⟩ = some (.int .i64 a1_0) := (blk_cell HX5.out 0).trans rfl
        have x1 : W5.cell? ⟨w.heap.size, 1, none⟩ = some (.int .i64 a1_1) := (blk_cell HX5.out 1).trans rfl
        go_wp2_with fail
        have htl := in_tail w (W5) (some ad) c1 l0 (i) (i) a1_0 a1_1 _ HR5.out HB5.out (by omega) (by rw [← HNN.out]; omega) (by rw [← HNN.out]; omega)
        have e_lo : ((i : Nat) : Int) = (i : Int) := by omega
        have e_hi : ((i : Nat) : Int) = (i : Int) := by omega
        rw [← HNN.out, e_lo, e_hi] at htl
        refine htl.mono ?_
        rintro e w9 ⟨v', rfl, hR9, hb9⟩
        have HR9 := Aside0.mk hR9
        have HB9 := Aside0.mk hb9
        clear hR9 hb9 htl e_lo e_hi
        go_wp2
        go_ret
        refine ⟨_, rfl, ?_, HB9.out⟩
        have hres : inL l0 i ⟨a1_0, a1_1⟩ = l0.take (i) ++ [⟨a1_0, a1_1⟩] ++ l0.drop (i) := by
          unfold inL inX2 inHi
          rw [HL.out.1, HL.out.2]
          rw [if_neg (fun h => hin (by rw [HNN.out]; exact h.1)), if_neg (fun h => hin (by rw [HNN.out]; exact h.1))]
        rw [hres]; exact HR9.out
  · have hd : decide (0 < (i : Int)) = false := decide_eq_false (by omega)
    go_wp2_with fail
    go_quiet (fail)
    obtain ⟨W3, hW3⟩ : ∃ W, W = w2.drewN nq := ⟨_, rfl⟩
    rw [← hW3]
    have HX3 := Aside0.mk (show W3.heap[w.heap.size]? = some (.cells #[.int .i64 a1_0, .int .i64 a1_1] 40 (0, 0)) by rw [hW3]; exact HX2.out)
    have HR3 := Aside0.mk (show Kd.R k40 40 W3 w.heap.size (fun k => k ≠ w.heap.size) (.slice A1 l0.length c1) l0 by rw [hW3]; exact Kd.R_drewN HR2.out nq)
    have HB3 := Aside0.mk (show Below w.heap.size w W3 by rw [hW3]; exact pw_below_drewN HB2.out nq)
    clear hW3 x0 x1
    have x0 : W3.cell? ⟨w.heap.size, 0, none⟩ = some (.int .i64 a1_0) := (blk_cell HX3.out 0).trans rfl
    have x1 : W3.cell? ⟨w.heap.size, 1, none⟩ = some (.int .i64 a1_1) := (blk_cell HX3.out 1).trans rfl
    have hL : inX1 l0 i ⟨a1_0, a1_1⟩ = ⟨a1_0, a1_1⟩ ∧ inLo l0 i ⟨a1_0, a1_1⟩ = i := ⟨if_neg (fun h => hi0 h.1), if_neg (fun h => hi0 h.1)⟩
    have HL := Aside0.mk hL
    clear hL
    by_cases hin : i < n
    · have hd2 : decide ((i : Int) < (n : Int)) = true := decide_eq_true (by omega)
      have hC : Kd.C k40 W3 A1 l0.length l0 := (Kd.R_reads' HR3.out).2.2
      obtain ⟨ad, e3, g0, g1⟩ := at_T40 hC (i : Int) (by omega) (by rw [← HNN.out]; omega)
      cases e3
      have i0 : (0 : Int) ≤ (i : Int) := by omega
      have i1 : (i : Int) < (n : Int) := by omega
      rw [Int.toNat_natCast] at g0 g1
      obtain ⟨y, hy⟩ : ∃ y, y = rd_T40 l0 (i : Int) := ⟨_, rfl⟩
      rw [← hy] at g0 g1
      have HY := Aside0.mk hy
      clear hy hC
      obtain ⟨s4, hs4⟩ : ∃ s : Int, s = wrap64 (a1_0 + a1_1) := ⟨_, rfl⟩
      have HS4 := Aside0.mk hs4
      have hs4w : IntKind.i64.wrap (a1_0 + a1_1) = s4 := by rw [hs4]; exact IntWalk.i64_left _
      have hs4w2 : wrap64 (a1_0 + a1_1) = s4 := hs4.symm
      clear hs4
      by_cases hc4 : s4 = y.f0
      · have hb4 : (s4 == y.f0) = true := beq_iff_eq.mpr hc4
        have HC4 := Aside0.mk hc4
        have hwi : IntKind.i64.wrap ((i : Int) + 1) = (i : Int) + 1 := IntWalk.i64_in _ (by omega)
        have hwi2 : wrap64 ((i : Int) + 1) = (i : Int) + 1 := w64 (by omega)
        obtain ⟨s5, hs5⟩ : ∃ s : Int, s = wrap64 (a1_1 + y.f1) := ⟨_, rfl⟩
        have HS5 := Aside0.mk hs5
        have hs5w : IntKind.i64.wrap (a1_1 + y.f1) = s5 := by rw [hs5]; exact IntWalk.i64_left _
        have hs5w2 : wrap64 (a1_1 + y.f1) = s5 := hs5.symm
        clear hs5
        go_wp2_with fail
        go_quiet (fail)
        obtain ⟨W5, hW5⟩ : ∃ W, W = (W3).drewN nq := ⟨_, rfl⟩
        rw [← hW5]
        have HX5 := Aside0.mk (show W5.heap[w.heap.size]? = some (.cells #[.int .i64 a1_0, .int .i64 a1_1] 40 (0, 0)) by rw [hW5]; exact HX3.out)
        have HR5 := Aside0.mk (show Kd.R k40 40 W5 w.heap.size (fun k => k ≠ w.heap.size) (.slice (some ad) l0.length c1) l0 by rw [hW5]; exact Kd.R_drewN HR3.out nq)
        have HB5 := Aside0.mk (show Below w.heap.size w W5 by rw [hW5]; exact pw_below_drewN HB3.out nq)
        have HG5 := Aside0.mk (show W5.cell? (ad.add (i * 2)) = some (.int .i64 y.f0) ∧ W5.cell? ⟨(ad.add (i * 2)).block, (ad.add (i * 2)).off + 1, none⟩ = some (.int .i64 y.f1) by rw [hW5]; exact ⟨g0, g1⟩)
        clear hW5 x0 x1 g0 g1 hc4 hb4 hs4w hs4w2
        have x0 : W5.cell? ⟨w.heap.size, 0, none⟩ = some (.int .i64 a1_0) := (blk_cell HX5.out 0).trans rfl
        have x1 : W5.cell? ⟨w.heap.size, 1, none⟩ = some (.int .i64 a1_1) := (blk_cell HX5.out 1).trans rfl
        have g0 := HG5.out.1
        have g1 := HG5.out.2
        have hfz : W5.frozen? ⟨w.heap.size, 1, none⟩ = false := blk_frozen HX5.out 1
        have hfz2 : W5.drew.frozen? ⟨w.heap.size, 1, none⟩ = false := blk_frozen HX5.out 1
        go_wp2_with fail
        go_still_tail 9, (by kernel_rfl)
        change wpList _ _ _ _ _ W5.drew
        go_wp2_with fail
        have hwd : ((W5.setCell ⟨w.heap.size, 1, none⟩ (.int .i64 s5)).alloc (.cells #[.int .i64 a1_0, .int .i64 s5] 40)).drew = (W5.drew.setCell ⟨w.heap.size, 1, none⟩ (.int .i64 s5)).alloc (.cells #[.int .i64 a1_0, .int .i64 s5] 40) := rfl
        have hwz : (W5.drew.setCell ⟨w.heap.size, 1, none⟩ (.int .i64 s5)).heap.size = W5.heap.size := by simp [World.setCell]
        have htl := in_tail w (W5.drew.setCell ⟨w.heap.size, 1, none⟩ (.int .i64 s5)) (some ad) c1 l0 (i) (i + 1) a1_0 s5 _ (Kd.R_far (p := ⟨w.heap.size, 1, none⟩) (Kd.R_drew HR5.out) (fun _ h => h) _) ((below_drew HB5.out).setCell (p := ⟨w.heap.size, 1, none⟩) (Nat.le_refl _) _) (by omega) (by rw [← HNN.out]; omega) (by rw [← HNN.out]; omega)
        have e_lo : ((i : Nat) : Int) = (i : Int) := by omega
        have e_hi : ((i + 1 : Nat) : Int) = (i : Int) + 1 := by omega
        rw [← HNN.out, e_lo, e_hi, hwz] at htl
        rw [hwd]
        clear hwd hwz
        refine htl.mono ?_
        rintro e w9 ⟨v', rfl, hR9, hb9⟩
        have HR9 := Aside0.mk hR9
        have HB9 := Aside0.mk hb9
        clear hR9 hb9 htl e_lo e_hi
        go_wp2
        go_ret
        refine ⟨_, rfl, ?_, HB9.out⟩
        have hres : inL l0 i ⟨a1_0, a1_1⟩ = l0.take (i) ++ [⟨a1_0, s5⟩] ++ l0.drop (i + 1) := by
          unfold inL inX2 inHi
          rw [HL.out.1, HL.out.2]
          rw [if_pos ⟨by rw [← HNN.out]; exact hin, by rw [← HY.out, ← HC4.out]; exact HS4.out.symm⟩, if_pos ⟨by rw [← HNN.out]; exact hin, by rw [← HY.out, ← HC4.out]; exact HS4.out.symm⟩, ← HY.out, ← HS5.out]
        rw [hres]; exact HR9.out
      · have hb4 : (s4 == y.f0) = false := beq_eq_false_iff_ne.mpr hc4
        have HC4 := Aside0.mk hc4
        go_wp2_with fail
        go_quiet (fail)
        obtain ⟨W5, hW5⟩ : ∃ W, W = (W3).drewN nq := ⟨_, rfl⟩
        rw [← hW5]
        have HX5 := Aside0.mk (show W5.heap[w.heap.size]? = some (.cells #[.int .i64 a1_0, .int .i64 a1_1] 40 (0, 0)) by rw [hW5]; exact HX3.out)
        have HR5 := Aside0.mk (show Kd.R k40 40 W5 w.heap.size (fun k => k ≠ w.heap.size) (.slice (some ad) l0.length c1) l0 by rw [hW5]; exact Kd.R_drewN HR3.out nq)
        have HB5 := Aside0.mk (show Below w.heap.size w W5 by rw [hW5]; exact pw_below_drewN HB3.out nq)
        clear hW5 x0 x1 g0 g1 hs4w hs4w2 hc4 hb4
        have x0 : W5.cell? ⟨w.heap.size, 0, none⟩ = some (.int .i64 a1_0) := (blk_cell HX5.out 0).trans rfl
        have x1 : W5.cell? ⟨w.heap.size, 1, none⟩ = some (.int .i64 a1_1) := (blk_cell HX5.out 1).trans rfl
        go_wp2_with fail
        have htl := in_tail w (W5) (some ad) c1 l0 (i) (i) a1_0 a1_1 _ HR5.out HB5.out (by omega) (by rw [← HNN.out]; omega) (by rw [← HNN.out]; omega)
        have e_lo : ((i : Nat) : Int) = (i : Int) := by omega
        have e_hi : ((i : Nat) : Int) = (i : Int) := by omega
        rw [← HNN.out, e_lo, e_hi] at htl
        refine htl.mono ?_
        rintro e w9 ⟨v', rfl, hR9, hb9⟩
        have HR9 := Aside0.mk hR9
        have HB9 := Aside0.mk hb9
        clear hR9 hb9 htl e_lo e_hi
        go_wp2
        go_ret
        refine ⟨_, rfl, ?_, HB9.out⟩
        have hres : inL l0 i ⟨a1_0, a1_1⟩ = l0.take (i) ++ [⟨a1_0, a1_1⟩] ++ l0.drop (i) := by
          unfold inL inX2 inHi
          rw [HL.out.1, HL.out.2]
          rw [if_neg (fun h => HC4.out (by rw [HS4.out, HY.out]; exact h.2)), if_neg (fun h => HC4.out (by rw [HS4.out, HY.out]; exact h.2))]
        rw [hres]; exact HR9.out
    · have hd2 : decide ((i : Int) < (n : Int)) = false := decide_eq_false (by omega)
      go_wp2_with fail
      go_quiet (fail)
      obtain ⟨W5, hW5⟩ : ∃ W, W = (W3).drewN nq := ⟨_, rfl⟩
      rw [← hW5]
      have HX5 := Aside0.mk (show W5.heap[w.heap.size]? = some (.cells #[.int .i64 a1_0, .int .i64 a1_1] 40 (0, 0)) by rw [hW5]; exact HX3.out)
      have HR5 := Aside0.mk (show Kd.R k40 40 W5 w.heap.size (fun k => k ≠ w.heap.size) (.slice A1 l0.length c1) l0 by rw [hW5]; exact Kd.R_drewN HR3.out nq)
      have HB5 := Aside0.mk (show Below w.heap.size w W5 by rw [hW5]; exact pw_below_drewN HB3.out nq)
      clear hW5 x0 x1
      have x0 : W5.cell? ⟨w.heap.size, 0, none⟩ = some (.int .i64 a1_0) := (blk_cell HX5.out 0).trans rfl
      have x1 : W5.cell? ⟨w.heap.size, 1, none⟩ = some (.int .i64 a1_1) := (blk_cell HX5.out 1).trans rfl
      go_wp2_with fail
      have htl := in_tail w (W5) A1 c1 l0 (i) (i) a1_0 a1_1 _ HR5.out HB5.out (by omega) (by rw [← HNN.out]; omega) (by rw [← HNN.out]; omega)
      have e_lo : ((i : Nat) : Int) = (i : Int) := by omega
      have e_hi : ((i : Nat) : Int) = (i : Int) := by omega
      rw [← HNN.out, e_lo, e_hi] at htl
      refine htl.mono ?_
      rintro e w9 ⟨v', rfl, hR9, hb9⟩
      have HR9 := Aside0.mk hR9
      have HB9 := Aside0.mk hb9
      clear hR9 hb9 htl e_lo e_hi
      go_wp2
      go_ret
      refine ⟨_, rfl, ?_, HB9.out⟩
      have hres : inL l0 i ⟨a1_0, a1_1⟩ = l0.take (i) ++ [⟨a1_0, a1_1⟩] ++ l0.drop (i) := by
        unfold inL inX2 inHi
        rw [HL.out.1, HL.out.2]
        rw [if_neg (fun h => hin (by rw [HNN.out]; exact h.1)), if_neg (fun h => hin (by rw [HNN.out]; exact h.1))]
      rw [hres]; exact HR9.out
end Go.Proofs.Ytkkfkdncddbaeaa.Fn
namespace Go.Proofs.Ytkkfkdncddbaeaa.Fn
open Go.RowKit Go.Proofs.YtkkfkdncddbaeaaW.PrintWords Go.Proofs.YtkkfkdncddbaeaaW.PrintLast Go.Proofs.YtkkfkdncddbaeaaW.PrintMore
attribute [local go_sem] max2_int min2_int max_two min_two max_three min_three max_four min_four
set_option linter.unusedVariables false
set_option linter.unusedSimpArgs false
theorem check6_K (d : Nat) (size : Int) (l : List S40) : free_Check.f (1030 + d) size l = some (Flag.checkF size (l.map toP)) := by
  unfold free_Check.f Flag.checkF
  have hk : 1030 + d = (1029 + d) + 1 := by omega
  rw [hk]
  by_cases h0 : size < 0
  · rw [if_pos h0, if_neg (by omega)]; unfold free_Check.j0; rfl
  · by_cases h1 : size > 65536
    · rw [if_neg h0, if_pos h1, if_neg (by omega)]; unfold free_Check.j0; rfl
    · rw [if_neg h0, if_neg h1]
      by_cases h2 : (l.length : Int) > 1024
      · rw [decide_eq_true h2, if_neg (by rw [List.length_map]; omega)]; unfold free_Check.j0; rfl
      · rw [decide_eq_false h2]
        have hj : free_Check.j0 (1029 + d + 1) false size l = free_Check.l0 (1029 + d) (-1) l (l.length : Int) 0 size l := by unfold free_Check.j0; exact if_neg Bool.false_ne_true
        rw [hj]
        have h := check6_l size (by omega) (by omega) l (by omega) l l.length 0 (-1) (by omega)
        have h' : ∀ m, free_Check.l0 (l.length + 1 + m) (-1) l (l.length : Int) 0 size l = some (if Flag.restF size (-1) ((l.drop 0).map toP) = true then 0 else 9) := by
          intro m
          induction m with
          | zero => exact h
          | succ m ih => exact (free_Check.mono_l (l.length + 1 + m)).2 (-1) l (l.length : Int) 0 size l _ ih
        have e9 : 1029 + d = l.length + 1 + (1028 + d - l.length) := by omega
        rw [e9, h', List.drop_zero]
        congr 1
        have e : ((0 ≤ size ∧ size ≤ 65536) ∧ (l.map toP).length ≤ 1024 ∧ Flag.restF size (-1) (l.map toP) = true) ↔ Flag.restF size (-1) (l.map toP) = true := ⟨fun h => h.2.2, fun h => ⟨by omega, by rw [List.length_map]; omega, h⟩⟩
        by_cases hr : Flag.restF size (-1) (l.map toP) = true
        · rw [if_pos hr, if_pos (e.2 hr)]
        · rw [if_neg hr, if_neg (fun h => hr (e.1 h))]
theorem insB_f {size : Int} (x0 x1 : Int) (h0 : 0 ≤ size) (h1 : size ≤ 65536) : free_inside.f x0 x1 size = some (Flag.insB size ⟨x0, x1⟩) := inside6 ⟨x0, x1⟩ size h0 h1
theorem full_F (size : Int) (l : List S40) : ∃ r1 r2 r3, free_full.f size l = some (r1, r2, r3) ∧ (r1, r2.map toP, r3) = Flag.fullF size (l.map toP) := by
  unfold free_full.f Flag.fullF
  rw [List.length_map]
  split
  · exact ⟨_, _, _, rfl, rfl⟩
  · exact ⟨_, _, _, rfl, rfl⟩
theorem at_split {size : Int} {l : List S40} (h : Flag.Free6 size (l.map toP)) (s : Int) (h0 : 0 ≤ s) (h1 : s ≤ 65536) : free_at.f l s = some (atL l s : Int) ∧ atL l s ≤ l.length ∧ Flag.ahead (l.map toP) s = (l.take (atL l s)).map toP ∧ Flag.behind (l.map toP) s = (l.drop (atL l s)).map toP := by
  have hw := h.wide h.s1 (Int.le_refl _)
  obtain ⟨e1, e2⟩ := Flag.ahead_take (l.map toP) s
  have hlen := congrArg List.length (Flag.ahead_behind (l.map toP) s)
  rw [List.length_append, List.length_map] at hlen
  refine ⟨?_, by unfold atL; omega, ?_, ?_⟩
  · unfold free_at.f
    rw [if_pos ⟨Flag.checkF_ok.2 hw, by omega, by omega⟩]
  · rw [List.map_take]; exact e1
  · rw [List.map_drop]; exact e2
theorem toP_inj {a b : List S40} (h : a.map toP = b.map toP) : a = b := by
  induction a generalizing b with
  | nil => cases b with
    | nil => rfl
    | cons y t => cases h
  | cons x t ih =>
    cases b with
    | nil => cases h
    | cons y u =>
      rw [List.map_cons, List.map_cons] at h
      injection h with h1 h2
      rw [ih h2]
      have e0 : x.f0 = y.f0 := congrArg Flag.Sp.a h1
      have e1 : x.f1 = y.f1 := congrArg Flag.Sp.n h1
      cases x; cases y
      simp only at e0 e1
      rw [e0, e1]
end Go.Proofs.Ytkkfkdncddbaeaa.Fn
namespace Go.Proofs.Ytkkfkdncddbaeaa.Fn
open Go.RowKit Go.Proofs.YtkkfkdncddbaeaaW.PrintWords Go.Proofs.YtkkfkdncddbaeaaW.PrintLast Go.Proofs.YtkkfkdncddbaeaaW.PrintMore
attribute [local go_sem] max2_int min2_int max_two min_two max_three min_three max_four min_four
set_option linter.unusedVariables false
set_option linter.unusedSimpArgs false
theorem rd_last {l : List S40} (h : l ≠ []) : ∃ u, (l.map toP).getLast? = some (toP u) ∧ rd_T40 l ((l.length : Int) - 1) = u ∧ u ∈ l ∧ l = l.dropLast ++ [u] := by
  have hl : 0 < l.length := List.length_pos_iff.2 h
  refine ⟨l.getLast h, ?_, ?_, List.getLast_mem h, (List.dropLast_concat_getLast h).symm⟩
  · rw [List.getLast?_map, List.getLast?_eq_some_getLast h]; rfl
  · rw [rd40_get l _ (by omega) (by omega), List.getLast_eq_getElem]
    congr 1
    omega
theorem high_K (d : Nat) (size : Int) (l : List S40) : free_Highest.f (1030 + d) size l = some (Flag.highF size (l.map toP)) := by
  unfold free_Highest.f Flag.highF
  rw [check6_K, Option.bind_some]
  by_cases hc : Flag.checkF size (l.map toP) = 0
  · rw [if_pos hc, if_pos hc]
    have h6 := Flag.checkF_ok.1 hc
    by_cases hl : l = []
    · subst hl; rfl
    · have hp : 0 < l.length := List.length_pos_iff.2 hl
      obtain ⟨u, e1, e2, e3, e4⟩ := rd_last hl
      have hu := h6.ins _ (List.mem_map_of_mem e3)
      have u1 : 0 < u.f1 := hu.n
      have u2 : 0 ≤ u.f0 := hu.a
      have u3 : u.f0 + u.f1 ≤ size := hu.e
      have hs1 := h6.s1
      have hln := h6.len
      rw [List.length_map] at hln
      have ew : wrap64 ((l.length : Int) - 1) = (l.length : Int) - 1 := w64 (by omega)
      rw [e1, ew, e2, if_pos (by omega), if_pos (by omega), if_pos (by omega), w64 (n := u.f0 + u.f1) (by omega)]
      show _ = some (if u.f0 + u.f1 = size then (u.f0, 0) else (size, 0))
      split <;> rfl
  · rw [if_neg hc, if_neg hc]
end Go.Proofs.Ytkkfkdncddbaeaa.Fn
namespace Go.Proofs.Ytkkfkdncddbaeaa.Fn
open Go.RowKit Go.Proofs.YtkkfkdncddbaeaaW.PrintWords Go.Proofs.YtkkfkdncddbaeaaW.PrintLast Go.Proofs.YtkkfkdncddbaeaaW.PrintMore
attribute [local go_sem] max2_int min2_int max_two min_two max_three min_three max_four min_four
set_option linter.unusedVariables false
set_option linter.unusedSimpArgs false
def trimG (l : List S40) (t : Int) : List S40 := match l.getLast? with
  | some u => if wrap64 (u.f0 + u.f1) > t then (if wrap64 (t - u.f0) ≤ 0 then l.dropLast else l.dropLast ++ [⟨u.f0, wrap64 (t - u.f0)⟩]) else l
  | none => l
theorem high_free {size : Int} {l : List Flag.Sp} (h : (Flag.highF size l).2 = 0) : Flag.Free6 size l := by
  rw [← Flag.checkF_ok]
  by_cases hc : Flag.checkF size l = 0
  · exact hc
  · unfold Flag.highF at h
    rw [if_neg hc] at h
    exact absurd h hc
theorem rd_cell {w : World} {base g n c jn : Nat} {ok : Nat → Prop} {l : List S40} {x : S40} (h : Kd.R k40 40 w base ok (.slice (some ⟨g, 0, none⟩) n c) (l.set ((jn : Int)).toNat x)) (hj : jn < n) : w.cell? ⟨g, jn * 2 + 1, none⟩ = some (.int .i64 x.f1) := by
  obtain ⟨ce, hcl, hM, hcc, hfz⟩ := Kd.R_elem h z40 (jn : Int) (by omega) (by omega)
  obtain rfl := k40_openM hM
  have hl := (Kd.R_reads' h).1
  have e : (l.set ((jn : Int)).toNat x).getD ((jn : Int)).toNat z40 = x := by
    rw [Int.toNat_natCast] at hl ⊢
    rw [List.length_set] at hl
    rw [List.getD_eq_getElem?_getD, List.getElem?_set_self (by omega)]; rfl
  have h1 := hcc 1 _ rfl
  rw [e] at h1
  exact h1
def free_Resize.f (a0_0 : Int) (l0_1 : List (S40)) (a1 : Int) : Option (Int × (List (S40)) × Int) :=
  if (Flag.highF a0_0 (l0_1.map toP)).2 = 0 then (if a1 < 0 ∨ a1 > 65536 then some (0, [], 4) else if a1 < (Flag.highF a0_0 (l0_1.map toP)).1 then some (0, [], 72) else if a1 > a0_0 then (free_in.f l0_1 a0_0 (wrap64 (a1 - a0_0))).bind fun t => free_full.f a1 t else some (a1, trimG l0_1 a1, 0)) else some (0, [], (Flag.highF a0_0 (l0_1.map toP)).2)
set_option maxHeartbeats 8000000 in
set_option maxRecDepth 100000 in
theorem free_Resize.calls (a0_0 : Int) (A0_1 : Option Addr) (c0_1 : Nat) (l0_1 : List (S40)) (a1 : Int) (r1 : Int) (r2 : List (S40)) (r3 : Int) (w : World) (hr0_1 : Kd.C k40 w A0_1 l0_1.length l0_1) (hc0_1 : l0_1.length ≤ c0_1) (h : free_Resize.f a0_0 l0_1 a1 = some (r1, r2, r3)) :
    Calls Try.prog 52 #[.agg #[.int .i64 a0_0, .slice A0_1 l0_1.length c0_1], .int .i64 a1] w fun e w' => ∃ v1_ : Value, e = .returned (.tuple #[.agg #[.int .i64 r1, v1_], .int .i64 r3]) ∧ Kd.R k40 40 w' w.heap.size (fun _ => True) v1_ r2 ∧ Below w.heap.size w w' := by
  have hu40 := Try.underlying40
  have hu58 := Try.underlying58
  obtain ⟨n, hnn⟩ : ∃ n, n = l0_1.length := ⟨_, rfl⟩
  obtain ⟨W0, hW0⟩ : ∃ W, W = (w.alloc (.cells #[.int .i64 a0_0, .slice A0_1 n c0_1] 58)).alloc (.cells #[.int .i64 0, .slice none 0 0] 58) := ⟨_, rfl⟩
  have hz1 : (w.alloc (.cells #[.int .i64 a0_0, .slice A0_1 n c0_1] 58)).heap.size = w.heap.size + 1 := by simp
  have hB0 : Below w.heap.size w W0 := by rw [hW0]; exact ((Below.refl w.heap.size w).alloc (Nat.le_refl _) _).alloc (by rw [hz1]; omega) _
  have hX2 : W0.heap[w.heap.size]? = some (.cells #[.int .i64 a0_0, .slice A0_1 n c0_1] 58 (0, 0)) := by rw [hW0]; exact blk_alloc (blk_new w _) _
  have hX4 : W0.heap[w.heap.size + 1]? = some (.cells #[.int .i64 0, .slice none 0 0] 58 (0, 0)) := by
    have h1 := blk_new (w.alloc (.cells #[.int .i64 a0_0, .slice A0_1 n c0_1] 58)) (.cells #[.int .i64 0, .slice none 0 0] 58)
    rw [hz1] at h1
    rw [hW0]; exact h1
  have x20 : ((w.alloc (.cells #[.int .i64 a0_0, .slice A0_1 n c0_1] 58)).alloc (.cells #[.int .i64 0, .slice none 0 0] 58)).cell? ⟨w.heap.size, 0, none⟩ = some (.int .i64 a0_0) := by rw [← hW0]; exact (blk_cell hX2 0).trans rfl
  have x21 : ((w.alloc (.cells #[.int .i64 a0_0, .slice A0_1 n c0_1] 58)).alloc (.cells #[.int .i64 0, .slice none 0 0] 58)).cell? ⟨w.heap.size, 1, none⟩ = some (.slice A0_1 n c0_1) := by rw [← hW0]; exact (blk_cell hX2 1).trans rfl
  obtain ⟨h1, h2, hhp⟩ : ∃ h1 h2, Flag.highF a0_0 (l0_1.map toP) = (h1, h2) := ⟨_, _, rfl⟩
  have hhi := free_Highest.calls (1030 + 0) a0_0 A0_1 c0_1 l0_1 h1 h2 W0 (Kd.C_below hr0_1 hB0) hc0_1 (by rw [high_K, hhp])
  unfold free_Resize.f at h
  rw [hhp] at h
  simp only [] at h
  rw [← hnn] at hhi
  have HR0 := Aside0.mk hr0_1
  have HC0 := Aside0.mk hc0_1
  have HNN := Aside0.mk hnn
  have HH := Aside0.mk h
  have HHP := Aside0.mk hhp
  have HB0 := Aside0.mk hB0
  have HX2 := Aside0.mk hX2
  have HX4 := Aside0.mk hX4
  have HW0 := Aside0.mk hW0
  have HHI := Aside0.mk hhi
  rw [← hnn]
  clear hr0_1 hc0_1 h hhp hB0 hX2 hX4 hW0 hz1 hhi hnn
  go_enter Try.func52, Try.ntmps52
  go_wp2_with fail
  rw [← HW0.out]
  refine HHI.out.mono ?_
  rintro e w1 ⟨rfl, hb1⟩
  have HX2' := Aside0.mk ((hb1.block _ (blk_lt HX2.out)).trans HX2.out)
  have HX4' := Aside0.mk ((hb1.block _ (blk_lt HX4.out)).trans HX4.out)
  have HB1 := Aside0.mk (below_step HB0.out hb1)
  clear hb1 x20 x21
  have x20 : w1.cell? ⟨w.heap.size, 0, none⟩ = some (.int .i64 a0_0) := (blk_cell HX2'.out 0).trans rfl
  have x21 : w1.cell? ⟨w.heap.size, 1, none⟩ = some (.slice A0_1 n c0_1) := (blk_cell HX2'.out 1).trans rfl
  have hx4 := HX4'.out
  by_cases c0 : h2 = 0
  · subst c0
    have hh := HH.out
    rw [if_pos rfl] at hh
    by_cases c1 : a1 < 0
    · have hd1 : decide (a1 < 0) = true := decide_eq_true c1
      rw [if_pos (.inl c1)] at hh
      simp only [Option.some.injEq, Prod.mk.injEq] at hh
      obtain ⟨rfl, rfl, rfl⟩ := hh
      go_wp2_with (refine wpList_store_row (P := Try.prog) rfl 58 (.tmp 4) (.tmp 27) rfl (w.heap.size + 1) #[.int .i64 0, .slice none 0 0] rfl rfl 58 #[.int .i64 0, .slice none 0 0] hx4 (by kernel_rfl) rfl (by simp [Value.oneCell']) ?_)
      (try simp only [Exit.inBlock, Exit.then])
      refine bodyPost_ret (results_ct rfl _ _ (w.heap.size + 1) 58 #[.int .i64 0, .slice none 0 0] (0, 0) _ rfl (setRow_heap _ (w.heap.size + 1) _ _ 58 (0, 0) hx4) Try.underlying58 rfl (by kernel_rfl)) rfl ?_
      exact ⟨_, rfl, Kd.R_nil _ _ _ _ _, setRow_below HB1.out (Nat.le_succ _) _⟩
    · have hd1 : decide (a1 < 0) = false := decide_eq_false c1
      by_cases c2 : a1 > 65536
      · have hd2 : decide (65536 < a1) = true := decide_eq_true (by omega)
        rw [if_pos (.inr c2)] at hh
        simp only [Option.some.injEq, Prod.mk.injEq] at hh
        obtain ⟨rfl, rfl, rfl⟩ := hh
        go_wp2_with (refine wpList_store_row (P := Try.prog) rfl 58 (.tmp 4) (.tmp 27) rfl (w.heap.size + 1) #[.int .i64 0, .slice none 0 0] rfl rfl 58 #[.int .i64 0, .slice none 0 0] hx4 (by kernel_rfl) rfl (by simp [Value.oneCell']) ?_)
        (try simp only [Exit.inBlock, Exit.then])
        refine bodyPost_ret (results_ct rfl _ _ (w.heap.size + 1) 58 #[.int .i64 0, .slice none 0 0] (0, 0) _ rfl (setRow_heap _ (w.heap.size + 1) _ _ 58 (0, 0) hx4) Try.underlying58 rfl (by kernel_rfl)) rfl ?_
        exact ⟨_, rfl, Kd.R_nil _ _ _ _ _, setRow_below HB1.out (Nat.le_succ _) _⟩
      · have hd2 : decide (65536 < a1) = false := decide_eq_false (by omega)
        rw [if_neg (by omega)] at hh
        by_cases c3 : a1 < h1
        · have hd3 : decide (a1 < h1) = true := decide_eq_true c3
          rw [if_pos c3] at hh
          simp only [Option.some.injEq, Prod.mk.injEq] at hh
          obtain ⟨rfl, rfl, rfl⟩ := hh
          go_wp2_with (refine wpList_store_row (P := Try.prog) rfl 58 (.tmp 4) (.tmp 32) rfl (w.heap.size + 1) #[.int .i64 0, .slice none 0 0] rfl rfl 58 #[.int .i64 0, .slice none 0 0] hx4 (by kernel_rfl) rfl (by simp [Value.oneCell']) ?_)
          (try simp only [Exit.inBlock, Exit.then])
          refine bodyPost_ret (results_ct rfl _ _ (w.heap.size + 1) 58 #[.int .i64 0, .slice none 0 0] (0, 0) _ rfl (setRow_heap _ (w.heap.size + 1) _ _ 58 (0, 0) hx4) Try.underlying58 rfl (by kernel_rfl)) rfl ?_
          exact ⟨_, rfl, Kd.R_nil _ _ _ _ _, setRow_below HB1.out (Nat.le_succ _) _⟩
        · have hd3 : decide (a1 < h1) = false := decide_eq_false c3
          rw [if_neg c3] at hh
          by_cases c4 : a1 > a0_0
          · have hd4 : decide (a0_0 < a1) = true := decide_eq_true (by omega)
            rw [if_pos c4] at hh
            obtain ⟨t, ht, hf⟩ := Option.bind_eq_some_iff.mp hh
            obtain ⟨s, hs⟩ : ∃ s : Int, s = wrap64 (a1 - a0_0) := ⟨_, rfl⟩
            rw [← hs] at ht
            have hsw : IntKind.i64.wrap (a1 - a0_0) = s := by rw [hs]; exact IntWalk.i64_left _
            have hsw2 : wrap64 (a1 - a0_0) = s := hs.symm
            have hin := free_in.calls A0_1 c0_1 l0_1 a0_0 s t w1 (Kd.C_below HR0.out HB1.out) HC0.out ht
            rw [← HNN.out] at hin
            have HF := Aside0.mk hf
            clear hh hs ht hf
            go_wp2_with fail
            refine hin.mono ?_
            rintro e w2 ⟨v2, rfl, hR2, hb2⟩
            obtain ⟨A2, c2', rfl⟩ := Kd.R_slice hR2
            have hfu := free_full.calls a1 (fun _ => True) (.slice A2 t.length c2') t r1 r2 r3 w w2 (below_step HB1.out hb2) (Kd.R_lower hR2 HB1.out.size) HF.out
            have hfu2 := free_full.calls a1 (fun k => w1.heap.size ≤ k) (.slice A2 t.length c2') t r1 r2 r3 w w2 (below_step HB1.out hb2) (Kd.R_mono (Kd.R_lower (Kd.R_bound hR2) HB1.out.size) (fun k hk => hk.2.1)) HF.out
            have HX2b := Aside0.mk ((hb2.block _ (blk_lt HX4'.out)).trans HX4'.out)
            have HSZ := Aside0.mk hb2.size
            clear hfu hR2 hb2 hin
            go_wp2_with fail
            refine hfu2.mono ?_
            rintro e w9 ⟨v9, rfl, hR9, hb9, hk9⟩
            obtain ⟨A9, c9, rfl⟩ := Kd.R_slice hR9
            obtain ⟨n9, hn9⟩ : ∃ n, n = r2.length := ⟨_, rfl⟩
            rw [← hn9] at hR9 ⊢
            have hlt4 := blk_lt HX4'.out
            have hx4 := blk_kept HX2b.out hk9 (fun h => by omega)
            have HR9 := Aside0.mk (show Kd.R k40 40 (w9.setRow (w.heap.size + 1) #[.int .i64 r1, .slice A9 n9 c9]) w.heap.size (fun _ => True) (.slice A9 n9 c9) r2 from Kd.R_mono (Kd.R_step hR9 (fun k hk _ => setRow_other _ (w.heap.size + 1) k _ (by
              have h4 := HSZ.out
              rcases hk with hk | hk <;> omega))) (fun _ _ => trivial))
            have HB9 := Aside0.mk hb9
            clear hR9 hb9 hk9 hn9 hlt4 hfu2
            go_wp2_with (refine wpList_store_row (P := Try.prog) rfl 58 (.tmp 4) (.tmp 50) rfl (w.heap.size + 1) #[.int .i64 r1, .slice A9 n9 c9] rfl rfl 58 #[.int .i64 0, .slice none 0 0] hx4 (by kernel_rfl) rfl (by simp [Value.oneCell']) ?_)
            (try simp only [Exit.inBlock, Exit.then])
            refine bodyPost_ret (results_ct rfl _ _ (w.heap.size + 1) 58 #[.int .i64 r1, .slice A9 n9 c9] (0, 0) _ rfl (setRow_heap _ (w.heap.size + 1) _ _ 58 (0, 0) hx4) Try.underlying58 rfl (by kernel_rfl)) rfl ?_
            exact ⟨_, rfl, HR9.out, setRow_below HB9.out (Nat.le_succ _) _⟩
          · have hd4 : decide (a0_0 < a1) = false := decide_eq_false (by omega)
            rw [if_neg c4] at hh
            simp only [Option.some.injEq, Prod.mk.injEq] at hh
            obtain ⟨rfl, hr2, rfl⟩ := hh
            have HRS := Aside0.mk hr2
            have hln : n ≤ 1024 := by
              have h6 := high_free (size := a0_0) (l := l0_1.map toP) (by rw [HHP.out])
              have := h6.len
              rw [List.length_map, ← HNN.out] at this
              exact this
            have hcl := api_Span_101.calls A0_1 c0_1 l0_1 l0_1 w1 (Kd.C_below HR0.out HB1.out) HC0.out (by unfold api_Span_101.f; rw [if_pos (by rw [← HNN.out]; omega)])
            rw [← HNN.out] at hcl
            clear hr2
            go_wp2_with fail
            refine hcl.mono ?_
            rintro e w2 ⟨v2, rfl, hR2, hb2⟩
            have HX4b := Aside0.mk ((hb2.block _ (blk_lt HX4'.out)).trans HX4'.out)
            have HB2 := Aside0.mk (below_step HB1.out hb2)
            have HR2 := Aside0.mk (show Kd.R k40 40 w2 w.heap.size (fun k => w1.heap.size ≤ k) v2 l0_1 from Kd.R_mono (Kd.R_lower (Kd.R_bound hR2) HB1.out.size) (fun k hk => hk.2.1))
            obtain ⟨j, hj⟩ : ∃ j : Int, j = (n : Int) - 1 := ⟨_, rfl⟩
            have hwj : IntKind.i64.wrap ((n : Int) - 1) = j := by rw [hj]; exact IntWalk.i64_in _ (by omega)
            have hwj2 : wrap64 ((n : Int) - 1) = j := by rw [hj]; exact w64 (by omega)
            have HJ := Aside0.mk hj
            clear hR2 hb2 hcl hx4 x20 x21 hj
            by_cases hl : l0_1 = []
            · obtain ⟨A2, c2', rfl⟩ := Kd.R_slice HR2.out
              rw [← HNN.out] at HR2 ⊢
              have hn0 : n = 0 := by rw [HNN.out, hl]; rfl
              have hdj : decide (0 ≤ j) = false := decide_eq_false (by have := HJ.out; omega)
              have hres : trimG l0_1 a1 = l0_1 := by rw [hl]; rfl
              have HRES := Aside0.mk hres
              clear hn0 hl hres
              go_wp2_with fail
              go_quiet (fail)
              obtain ⟨W3, hW3⟩ : ∃ W, W = w2.drewN nq := ⟨_, rfl⟩
              rw [← hW3]
              have HX4c := Aside0.mk (show W3.heap[w.heap.size + 1]? = some (.cells #[.int .i64 0, .slice none 0 0] 58 (0, 0)) by rw [hW3]; exact HX4b.out)
              have HR3 := Aside0.mk (show Kd.R k40 40 W3 w.heap.size (fun k => w1.heap.size ≤ k) (.slice A2 n c2') l0_1 by rw [hW3]; exact Kd.R_drewN HR2.out nq)
              have HB3 := Aside0.mk (show Below w.heap.size w W3 by rw [hW3]; exact pw_below_drewN HB2.out nq)
              clear hW3
              have hx4 := HX4c.out
              have hne4 : ∀ k, w1.heap.size ≤ k → k ≠ w.heap.size + 1 := fun k hk => fun e => absurd (Nat.lt_of_lt_of_le (blk_lt HX4'.out) hk) (by rw [e]; exact Nat.lt_irrefl _)
              have HNE := Aside0.mk hne4
              clear hne4
              go_wp2_with (refine wpList_store_row (P := Try.prog) rfl 58 (.tmp 4) (.tmp 97) rfl (w.heap.size + 1) #[.int .i64 a1, .slice A2 n c2'] rfl rfl 58 #[.int .i64 0, .slice none 0 0] hx4 (by kernel_rfl) rfl (by simp [Value.oneCell']) ?_)
              (try simp only [Exit.inBlock, Exit.then])
              refine bodyPost_ret (results_ct rfl _ _ (w.heap.size + 1) 58 #[.int .i64 a1, .slice A2 n c2'] (0, 0) _ rfl (setRow_heap _ (w.heap.size + 1) _ _ 58 (0, 0) hx4) Try.underlying58 rfl (by kernel_rfl)) rfl ?_
              refine ⟨_, rfl, ?_, setRow_below HB3.out (Nat.le_succ _) _⟩
              have hr := Kd.R_mono (ok' := fun _ => True) (Kd.R_step (w1 := W3.setRow (w.heap.size + 1) #[.int .i64 a1, .slice A2 n c2']) HR3.out (fun k hk _ => setRow_other W3 (w.heap.size + 1) k #[.int .i64 a1, .slice A2 n c2'] (HNE.out k hk))) (fun _ _ => trivial)
              rw [← HRS.out, HRES.out]; exact hr
            · obtain ⟨g, c2', cur, rfl, hL, hgb, hgo⟩ := rowL_of HR2.out hl
              have hlc := hL.2.2.1
              rw [← HNN.out] at HR2 hlc ⊢
              obtain ⟨jn, hjn⟩ : ∃ jn : Nat, n = jn + 1 := ⟨n - 1, by have := List.length_pos_iff.2 hl; rw [← HNN.out] at this; omega⟩
              obtain rfl : j = (jn : Int) := by have := HJ.out; omega
              have hdj : decide (0 ≤ (jn : Int)) = true := decide_eq_true (by omega)
              have j0 : (0 : Int) ≤ (jn : Int) := by omega
              have j1 : (jn : Int) < (n : Int) := by omega
              have jc : (jn : Int) ≤ (c2' : Int) := by omega
              have jc2 : jn ≤ c2' := by omega
              have jc3 : ¬ (c2' = 0) := by omega
              obtain ⟨ce, hcl, hM, hcc, hfz⟩ := Kd.R_elem HR2.out z40 (jn : Int) (by omega) (by omega)
              obtain rfl := k40_openM hM
              obtain ⟨u, hu⟩ : ∃ u, u = l0_1.getD jn z40 := ⟨_, rfl⟩
              have hcc' : ∀ (j_1 : Nat) (v : Value), [Value.int IntKind.i64 u.f0, Value.int IntKind.i64 u.f1][j_1]? = some v → w2.cell? ⟨g, jn * 2 + j_1, none⟩ = some v := by rw [hu]; exact hcc
              have e0 : w2.cell? ⟨g, jn * 2, none⟩ = some (.int .i64 u.f0) := hcc' 0 _ rfl
              have e1 : w2.cell? ⟨g, jn * 2 + 1, none⟩ = some (.int .i64 u.f1) := hcc' 1 _ rfl
              have hul : l0_1.getLast? = some u ∧ l0_1 = l0_1.dropLast ++ [u] := by
                obtain ⟨u', q1, q2, q3, q4⟩ := rd_last hl
                have q5 : u' = u := by
                  rw [← q2, hu, ← HNN.out]
                  have : (n : Int) - 1 = (jn : Int) := by omega
                  rw [this]; rfl
                subst q5
                exact ⟨by rw [q4]; simp, q4⟩
              have HUL := Aside0.mk hul
              have HCC := Aside0.mk hcc'
              have HJN := Aside0.mk hjn
              have HG := Aside0.mk hgo
              have HGB := Aside0.mk hgb
              have HJL := Aside0.mk (And.intro (show jn < n by omega) (show w.heap.size + 1 < g by have := blk_lt HX4'.out; omega))
              clear hM hcc hfz hcl hcc' hul hu hL hgb hgo hl hjn hlc
              obtain ⟨s1, hs1⟩ : ∃ s : Int, s = wrap64 (u.f0 + u.f1) := ⟨_, rfl⟩
              have HS1 := Aside0.mk hs1
              have hs1w : IntKind.i64.wrap (u.f0 + u.f1) = s1 := by rw [hs1]; exact IntWalk.i64_left _
              have hs1w2 : wrap64 (u.f0 + u.f1) = s1 := hs1.symm
              clear hs1
              by_cases c5 : s1 > a1
              · have hd5 : decide (a1 < s1) = true := decide_eq_true (by omega)
                have HC5 := Aside0.mk c5
                obtain ⟨s2, hs2⟩ : ∃ s : Int, s = wrap64 (a1 - u.f0) := ⟨_, rfl⟩
                have HS2 := Aside0.mk hs2
                have hs2w : IntKind.i64.wrap (a1 - u.f0) = s2 := by rw [hs2]; exact IntWalk.i64_left _
                have hs2w2 : wrap64 (a1 - u.f0) = s2 := hs2.symm
                clear hs2
                go_wp2_with fail
                go_quiet (fail)
                obtain ⟨W3, hW3⟩ : ∃ W, W = w2.drewN nq := ⟨_, rfl⟩
                rw [← hW3]
                have HX4c := Aside0.mk (show W3.heap[w.heap.size + 1]? = some (.cells #[.int .i64 0, .slice none 0 0] 58 (0, 0)) by rw [hW3]; exact HX4b.out)
                have HR3 := Aside0.mk (show Kd.R k40 40 W3 w.heap.size (fun k => w1.heap.size ≤ k) (.slice (some ⟨g, 0, none⟩) n c2') l0_1 by rw [hW3]; exact Kd.R_drewN HR2.out nq)
                have HB3 := Aside0.mk (show Below w.heap.size w W3 by rw [hW3]; exact pw_below_drewN HB2.out nq)
                have HCC3 := Aside0.mk (show ∀ (j_1 : Nat) (v : Value), [Value.int IntKind.i64 u.f0, Value.int IntKind.i64 u.f1][j_1]? = some v → W3.cell? ⟨g, jn * 2 + j_1, none⟩ = some v by rw [hW3]; exact HCC.out)
                clear hW3 e0 e1 hs1w hs1w2
                have e0 : W3.cell? ⟨g, jn * 2, none⟩ = some (.int .i64 u.f0) := HCC3.out 0 _ rfl
                have e1 : W3.cell? ⟨g, jn * 2 + 1, none⟩ = some (.int .i64 u.f1) := HCC3.out 1 _ rfl
                have htr : trimG l0_1 a1 = (if s2 ≤ 0 then l0_1.dropLast else l0_1.dropLast ++ [⟨u.f0, s2⟩]) := by
                  unfold trimG
                  rw [HUL.out.1]
                  simp only []
                  rw [← HS1.out, if_pos HC5.out, ← HS2.out]
                have HTR := Aside0.mk htr
                clear htr
                by_cases c6 : s2 ≤ 0
                · have hd6 : decide (s2 ≤ 0) = true := decide_eq_true c6
                  have HC6 := Aside0.mk c6
                  have hne4 : ∀ k, w1.heap.size ≤ k → k ≠ w.heap.size + 1 := fun k hk => fun e => absurd (Nat.lt_of_lt_of_le (blk_lt HX4'.out) hk) (by rw [e]; exact Nat.lt_irrefl _)
                  have HNE := Aside0.mk hne4
                  clear hne4
                  go_wp2_with (first | ((with_reducible refine gate_store (t := 3) (p := 85) rfl ?_); refine Kd.R_store k40 (w0 := w) (W := W3) w.heap.size rfl rfl 3 (.tmp 85) (.tmp 83) rfl 40 (jn : Int) 1 l0_1 (⟨u.f0, s2⟩ : S40) (.int .i64 s2) [.int .i64 s2] [.int .i64 u.f0, .int .i64 u.f1] (fun k => w1.heap.size ≤ k) (fun _ => False) rfl rfl rfl rfl (by kernel_rfl) (by simp [Value.oneCell']) HR3.out j0 j1 rfl (fun j u hu => HCC3.out j u hu) (Nat.le_refl 2) (k40_mkM _ _ _ (⟨u.f0, s2⟩ : S40)) (fun _ hk => hk.elim) HB3.out ?_; intro w4 hO4 hB4 hG4; have hx4 := (hG4.block (w.heap.size + 1) (blk_lt HX4c.out) (fun e => by injection e with e; exact absurd e (Nat.ne_of_lt HJL.out.2))).trans HX4c.out; have HO4 := Aside0.mk hO4; have HB4 := Aside0.mk hB4; have HX4d := Aside0.mk hx4; have hf1 := rd_cell hO4 HJL.out.1; clear hO4 hB4 hG4) | ((with_reducible refine gate_store (t := 58) (p := 4) rfl ?_); refine wpList_store_row (P := Try.prog) rfl 58 (.tmp 4) (.tmp 97) rfl (w.heap.size + 1) #[.int .i64 a1, .slice (some ⟨g, 0, none⟩) jn c2'] rfl rfl 58 #[.int .i64 0, .slice none 0 0] hx4 (by kernel_rfl) rfl (by simp [Value.oneCell']) ?_))
                  (try simp only [Exit.inBlock, Exit.then])
                  refine bodyPost_ret (results_ct rfl _ _ (w.heap.size + 1) 58 #[.int .i64 a1, .slice (some ⟨g, 0, none⟩) jn c2'] (0, 0) _ rfl (setRow_heap _ (w.heap.size + 1) _ _ 58 (0, 0) hx4) Try.underlying58 rfl (by kernel_rfl)) rfl ?_
                  refine ⟨_, rfl, ?_, setRow_below HB4.out (Nat.le_succ _) _⟩
                  clear hs2w hs2w2 hwj hwj2
                  have hr := fun {v : Value} {l : List S40} (h : Kd.R k40 40 w4 w.heap.size (fun k => w1.heap.size ≤ k) v l) => Kd.R_mono (ok' := fun _ => True) (Kd.R_step (w1 := w4.setRow (w.heap.size + 1) #[.int .i64 a1, .slice (some ⟨g, 0, none⟩) jn c2']) h (fun k hk _ => setRow_other w4 (w.heap.size + 1) k #[.int .i64 a1, .slice (some ⟨g, 0, none⟩) jn c2'] (HNE.out k hk))) (fun _ _ => trivial)
                  have hset : (l0_1.set ((jn : Int)).toNat (⟨u.f0, s2⟩ : S40)).take jn = l0_1.dropLast := by
                    rw [Int.toNat_natCast]
                    have hdl : l0_1.dropLast.length = jn := by rw [List.length_dropLast, ← HNN.out]; have := HJN.out; omega
                    have h1 : (l0_1.set jn (⟨u.f0, s2⟩ : S40)).take jn = l0_1.take jn := List.take_set_of_le (Nat.le_refl _)
                    rw [h1]
                    conv => lhs; rw [HUL.out.2]
                    rw [← hdl, List.take_left]
                  have hlen4 : n = (l0_1.set ((jn : Int)).toNat (⟨u.f0, s2⟩ : S40)).length := by rw [List.length_set]; exact HNN.out
                  rcases R_lies flatSpan HO4.out with ⟨q1, q2⟩ | ⟨g', cap', q1, q2, q3, q4⟩
                  · cases q1
                  · injection q1 with q5 _ q6
                    injection q5 with q5
                    injection q5 with q5
                    subst q5 q6
                    obtain ⟨cur', q7⟩ := q4.toL spanLen
                    have q8 := (q7.cut spanLen jn (by rw [← hlen4]; have := HJN.out; omega)).R (base := w.heap.size) (ok := fun k => w1.heap.size ≤ k) q2 q3
                    have q9 : ((l0_1.set ((jn : Int)).toNat (⟨u.f0, s2⟩ : S40)).take jn).length = jn := by rw [List.length_take, ← hlen4]; have := HJN.out; omega
                    rw [q9, hset] at q8
                    rw [← HRS.out, HTR.out, if_pos HC6.out]
                    exact hr q8
                · have hd6 : decide (s2 ≤ 0) = false := decide_eq_false c6
                  have HC6 := Aside0.mk c6
                  have hne4 : ∀ k, w1.heap.size ≤ k → k ≠ w.heap.size + 1 := fun k hk => fun e => absurd (Nat.lt_of_lt_of_le (blk_lt HX4'.out) hk) (by rw [e]; exact Nat.lt_irrefl _)
                  have HNE := Aside0.mk hne4
                  clear hne4
                  go_wp2_with (first | ((with_reducible refine gate_store (t := 3) (p := 85) rfl ?_); refine Kd.R_store k40 (w0 := w) (W := W3) w.heap.size rfl rfl 3 (.tmp 85) (.tmp 83) rfl 40 (jn : Int) 1 l0_1 (⟨u.f0, s2⟩ : S40) (.int .i64 s2) [.int .i64 s2] [.int .i64 u.f0, .int .i64 u.f1] (fun k => w1.heap.size ≤ k) (fun _ => False) rfl rfl rfl rfl (by kernel_rfl) (by simp [Value.oneCell']) HR3.out j0 j1 rfl (fun j u hu => HCC3.out j u hu) (Nat.le_refl 2) (k40_mkM _ _ _ (⟨u.f0, s2⟩ : S40)) (fun _ hk => hk.elim) HB3.out ?_; intro w4 hO4 hB4 hG4; have hx4 := (hG4.block (w.heap.size + 1) (blk_lt HX4c.out) (fun e => by injection e with e; exact absurd e (Nat.ne_of_lt HJL.out.2))).trans HX4c.out; have HO4 := Aside0.mk hO4; have HB4 := Aside0.mk hB4; have HX4d := Aside0.mk hx4; have hf1 := rd_cell hO4 HJL.out.1; clear hO4 hB4 hG4) | ((with_reducible refine gate_store (t := 58) (p := 4) rfl ?_); refine wpList_store_row (P := Try.prog) rfl 58 (.tmp 4) (.tmp 97) rfl (w.heap.size + 1) #[.int .i64 a1, .slice (some ⟨g, 0, none⟩) n c2'] rfl rfl 58 #[.int .i64 0, .slice none 0 0] hx4 (by kernel_rfl) rfl (by simp [Value.oneCell']) ?_))
                  (try simp only [Exit.inBlock, Exit.then])
                  refine bodyPost_ret (results_ct rfl _ _ (w.heap.size + 1) 58 #[.int .i64 a1, .slice (some ⟨g, 0, none⟩) n c2'] (0, 0) _ rfl (setRow_heap _ (w.heap.size + 1) _ _ 58 (0, 0) hx4) Try.underlying58 rfl (by kernel_rfl)) rfl ?_
                  refine ⟨_, rfl, ?_, setRow_below HB4.out (Nat.le_succ _) _⟩
                  clear hs2w hs2w2 hwj hwj2
                  have hr := fun {v : Value} {l : List S40} (h : Kd.R k40 40 w4 w.heap.size (fun k => w1.heap.size ≤ k) v l) => Kd.R_mono (ok' := fun _ => True) (Kd.R_step (w1 := w4.setRow (w.heap.size + 1) #[.int .i64 a1, .slice (some ⟨g, 0, none⟩) n c2']) h (fun k hk _ => setRow_other w4 (w.heap.size + 1) k #[.int .i64 a1, .slice (some ⟨g, 0, none⟩) n c2'] (HNE.out k hk))) (fun _ _ => trivial)
                  have hset : l0_1.set ((jn : Int)).toNat (⟨u.f0, s2⟩ : S40) = l0_1.dropLast ++ [⟨u.f0, s2⟩] := by
                    rw [Int.toNat_natCast]
                    have hdl : l0_1.dropLast.length = jn := by rw [List.length_dropLast, ← HNN.out]; have := HJN.out; omega
                    conv => lhs; rw [HUL.out.2]
                    rw [← hdl, List.set_append_right _ _ (Nat.le_refl _), Nat.sub_self]
                    rfl
                  rw [← HRS.out, HTR.out, if_neg (by have := HC6.out; omega), ← hset]
                  exact hr HO4.out
              · have hd5 : decide (a1 < s1) = false := decide_eq_false (by omega)
                have HC5 := Aside0.mk c5
                have hres : trimG l0_1 a1 = l0_1 := by
                  unfold trimG
                  rw [HUL.out.1]
                  simp only []
                  rw [← HS1.out, if_neg (by have := HC5.out; omega)]
                have HRES := Aside0.mk hres
                clear hres
                go_wp2_with fail
                go_quiet (fail)
                obtain ⟨W3, hW3⟩ : ∃ W, W = w2.drewN nq := ⟨_, rfl⟩
                rw [← hW3]
                have HX4c := Aside0.mk (show W3.heap[w.heap.size + 1]? = some (.cells #[.int .i64 0, .slice none 0 0] 58 (0, 0)) by rw [hW3]; exact HX4b.out)
                have HR3 := Aside0.mk (show Kd.R k40 40 W3 w.heap.size (fun k => w1.heap.size ≤ k) (.slice (some ⟨g, 0, none⟩) n c2') l0_1 by rw [hW3]; exact Kd.R_drewN HR2.out nq)
                have HB3 := Aside0.mk (show Below w.heap.size w W3 by rw [hW3]; exact pw_below_drewN HB2.out nq)
                clear hW3 e0 e1 hs1w hs1w2
                have hx4 := HX4c.out
                have hne4 : ∀ k, w1.heap.size ≤ k → k ≠ w.heap.size + 1 := fun k hk => fun e => absurd (Nat.lt_of_lt_of_le (blk_lt HX4'.out) hk) (by rw [e]; exact Nat.lt_irrefl _)
                have HNE := Aside0.mk hne4
                clear hne4
                go_wp2_with (refine wpList_store_row (P := Try.prog) rfl 58 (.tmp 4) (.tmp 97) rfl (w.heap.size + 1) #[.int .i64 a1, .slice (some ⟨g, 0, none⟩) n c2'] rfl rfl 58 #[.int .i64 0, .slice none 0 0] hx4 (by kernel_rfl) rfl (by simp [Value.oneCell']) ?_)
                (try simp only [Exit.inBlock, Exit.then])
                refine bodyPost_ret (results_ct rfl _ _ (w.heap.size + 1) 58 #[.int .i64 a1, .slice (some ⟨g, 0, none⟩) n c2'] (0, 0) _ rfl (setRow_heap _ (w.heap.size + 1) _ _ 58 (0, 0) hx4) Try.underlying58 rfl (by kernel_rfl)) rfl ?_
                refine ⟨_, rfl, ?_, setRow_below HB3.out (Nat.le_succ _) _⟩
                have hr := Kd.R_mono (ok' := fun _ => True) (Kd.R_step (w1 := W3.setRow (w.heap.size + 1) #[.int .i64 a1, .slice (some ⟨g, 0, none⟩) n c2']) HR3.out (fun k hk _ => setRow_other W3 (w.heap.size + 1) k #[.int .i64 a1, .slice (some ⟨g, 0, none⟩) n c2'] (HNE.out k hk))) (fun _ _ => trivial)
                rw [← HRS.out, HRES.out]; exact hr
  · have hb0 : (h2 == 0) = false := beq_eq_false_iff_ne.mpr c0
    have hb1 : (h2 != 0) = true := bne_iff_ne.mpr c0
    have hh := HH.out
    rw [if_neg c0] at hh
    simp only [Option.some.injEq, Prod.mk.injEq] at hh
    obtain ⟨rfl, rfl, rfl⟩ := hh
    go_wp2_with (refine wpList_store_row (P := Try.prog) rfl 58 (.tmp 4) (.tmp 18) rfl (w.heap.size + 1) #[.int .i64 0, .slice none 0 0] rfl rfl 58 #[.int .i64 0, .slice none 0 0] hx4 (by kernel_rfl) rfl (by simp [Value.oneCell']) ?_)
    (try simp only [Exit.inBlock, Exit.then])
    refine bodyPost_ret (results_ct rfl _ _ (w.heap.size + 1) 58 #[.int .i64 0, .slice none 0 0] (0, 0) _ rfl (setRow_heap _ (w.heap.size + 1) _ _ 58 (0, 0) hx4) Try.underlying58 rfl (by kernel_rfl)) rfl ?_
    exact ⟨_, rfl, Kd.R_nil _ _ _ _ _, setRow_below HB1.out (Nat.le_succ _) _⟩
end Go.Proofs.Ytkkfkdncddbaeaa.Fn
namespace Go.Proofs.Ytkkfkdncddbaeaa.Fn
open Go.RowKit Go.Proofs.YtkkfkdncddbaeaaW.PrintWords Go.Proofs.YtkkfkdncddbaeaaW.PrintLast Go.Proofs.YtkkfkdncddbaeaaW.PrintMore
attribute [local go_sem] max2_int min2_int max_two min_two max_three min_three max_four min_four
set_option linter.unusedVariables false
set_option linter.unusedSimpArgs false
def gapG (s : List S40 × Int) (x : S40) : List S40 × Int := (if s.2 < x.f0 then s.1 ++ [⟨s.2, wrap64 (x.f0 - s.2)⟩] else s.1, mx s.2 (wrap64 (x.f0 + x.f1)))
def gapL (ys : List S40) (size : Int) : List S40 := ((ys ++ [(⟨size, 0⟩ : S40)]).foldl gapG ([], 0)).1
def insG (size : Int) (x : S40) : Bool := Flag.insB size (toP x)
def withoutG (size : Int) (l : List S40) : Int × List S40 × Int := if size < 0 ∨ size > 65536 then (0, [], 4) else if (l.length : Int) > 1024 then (0, [], 3) else if l.all (insG size) = true then (if ((gapL (sortL l) size).length : Int) > 1024 then (0, [], 51) else (size, gapL (sortL l) size, 0)) else (0, [], 4)
theorem gapFold (ys : List S40) : ∀ s : List S40 × Int, 0 ≤ s.2 → s.2 ≤ 65536 → (∀ x ∈ ys, 0 ≤ x.f0 ∧ 0 ≤ x.f1 ∧ x.f0 + x.f1 ≤ 65536) → ((ys.foldl gapG s).1.map toP, (ys.foldl gapG s).2) = (ys.map toP).foldl Flag.gapStep (s.1.map toP, s.2) := by
  induction ys with
  | nil => intro s _ _ _; rfl
  | cons x t ih =>
    intro s h0 h1 h
    obtain ⟨q1, q2, q3⟩ := h x List.mem_cons_self
    have e2 : (gapG s x).2 = max s.2 (x.f0 + x.f1) := by
      show mx s.2 (wrap64 (x.f0 + x.f1)) = _
      rw [w64 (by omega), mx_max]
    have e1 : (gapG s x).1.map toP = (Flag.gapStep (s.1.map toP, s.2) (toP x)).1 := by
      unfold gapG Flag.gapStep
      show _ = if s.2 < x.f0 then s.1.map toP ++ [⟨s.2, x.f0 - s.2⟩] else s.1.map toP
      simp only []
      split
      · rw [w64 (by omega), List.map_append]; rfl
      · rfl
    rw [List.foldl_cons, List.map_cons, List.foldl_cons, ih (gapG s x) (by rw [e2]; omega) (by rw [e2]; omega) (fun y hy => h y (List.mem_cons_of_mem _ hy)), e1, e2]
    rfl
theorem gapL_toP {ys : List S40} {size : Int} (h0 : 0 ≤ size) (h1 : size ≤ 65536) (h : ∀ x ∈ ys, Flag.Ins size (toP x)) : (gapL ys size).map toP = Flag.gapS (ys.map toP) size := by
  have e := gapFold (ys ++ [(⟨size, 0⟩ : S40)]) ([], 0) (Int.le_refl _) (by decide) (fun x hx => by
    rcases List.mem_append.1 hx with hx | hx
    · have hi := h x hx
      have q1 : 0 < x.f1 := hi.n
      have q2 : 0 ≤ x.f0 := hi.a
      have q3 : x.f0 + x.f1 ≤ size := hi.e
      omega
    · have : x = ⟨size, 0⟩ := by simpa using hx
      subst this
      dsimp only; omega)
  rw [List.map_append] at e
  exact congrArg Prod.fst e
theorem gapS_same {l m : List Flag.Sp} {size : Int} (h0 : 0 ≤ size) (hl : Flag.risingS l) (hm : Flag.risingS m) (hp : ∀ x ∈ m, Flag.Ins size x) (he : ∀ x, x ∈ l ↔ x ∈ m) : Flag.gapS l size = Flag.gapS m size := by
  obtain ⟨a1, a2⟩ := Flag.gapS_spec (size := size) h0 hl fun x hx => by have h := hp x ((he x).1 hx); exact ⟨h.n, h.a, h.e⟩
  obtain ⟨b1, b2⟩ := Flag.gapS_spec (size := size) h0 hm fun x hx => by have h := hp x hx; exact ⟨h.n, h.a, h.e⟩
  refine Flag.NFs.ext a1 b1 fun i => ?_
  rw [a2, b2]
  have : Flag.memS l i ↔ Flag.memS m i := by
    rw [Flag.memS_iff, Flag.memS_iff]
    exact ⟨fun ⟨x, hx, h⟩ => ⟨x, (he x).1 hx, h⟩, fun ⟨x, hx, h⟩ => ⟨x, (he x).2 hx, h⟩⟩
  rw [this]
theorem perm_toP {l m : List S40} (hp : l.Perm m) (x : Flag.Sp) : x ∈ l.map toP ↔ x ∈ m.map toP := (hp.map toP).mem_iff
theorem gapL_of {l ys : List S40} {size : Int} (h0 : 0 ≤ size) (h1 : size ≤ 65536) (h : ∀ x ∈ l, Flag.Ins size (toP x)) (hp : ys.Perm l) (hs : ys.Pairwise fun a b => a.f0 ≤ b.f0) : gapL ys size = gapL (sortL l) size := by
  apply toP_inj
  rw [gapL_toP h0 h1 fun x hx => h x (hp.mem_iff.1 hx), gapL_toP h0 h1 fun x hx => h x ((sortL_perm l).mem_iff.1 hx)]
  exact gapS_same h0 (rising_toP hs) (rising_toP (sortL_sorted l)) (fun x hx => by
    obtain ⟨y, hy, rfl⟩ := List.mem_map.1 hx
    exact h y ((sortL_perm l).mem_iff.1 hy)) (fun x => (perm_toP (hp.trans (sortL_perm l).symm) x))
theorem all_insG {size : Int} {l : List S40} : l.all (insG size) = (l.map toP).all (Flag.insB size) := by
  rw [List.all_map]; rfl
theorem without_F (size : Int) (l : List S40) : ((withoutG size l).1, (withoutG size l).2.1.map toP, (withoutG size l).2.2) = Flag.wRef size (l.map toP) := by
  rw [← Flag.wFor_ref (l := (sortL l).map toP) (rising_toP (sortL_sorted l)) (fun x => perm_toP (sortL_perm l) x)]
  unfold withoutG Flag.wFor
  rw [List.length_map, all_insG]
  split
  · rfl
  · rename_i h0
    split
    · rfl
    · split
      · rename_i ha
        have hin : ∀ x ∈ l, Flag.Ins size (toP x) := fun x hx => Flag.insB_iff.1 (List.all_eq_true.1 ha _ (List.mem_map_of_mem hx))
        have hg := gapL_toP (ys := sortL l) (size := size) (by omega) (by omega) fun x hx => hin x ((sortL_perm l).mem_iff.1 hx)
        unfold Flag.fullF
        rw [← hg, List.length_map]
        split
        · rfl
        · rfl
      · rfl
end Go.Proofs.Ytkkfkdncddbaeaa.Fn
namespace Go.Proofs.Ytkkfkdncddbaeaa.Fn
open Go.RowKit Go.Proofs.YtkkfkdncddbaeaaW.PrintWords Go.Proofs.YtkkfkdncddbaeaaW.PrintLast Go.Proofs.YtkkfkdncddbaeaaW.PrintMore
attribute [local go_sem] max2_int min2_int max_two min_two max_three min_three max_four min_four
set_option linter.unusedVariables false
set_option linter.unusedSimpArgs false
def free_Without.f (a0 : Int) (l1 : List (S40)) : Option (Int × (List (S40)) × Int) := some (withoutG a0 l1)
set_option maxHeartbeats 1000000 in
set_option maxRecDepth 100000 in
theorem wo_in (x : S40) (b : Nat) (size : Int) (w : World) (h0 : 0 ≤ size) (h1 : size ≤ 65536) (hb : w.heap[b]? = some (.cells #[.int .i64 size] 3 (0, 0))) :
    Calls Try.prog 131 #[.agg #[.int .i64 x.f0, .int .i64 x.f1], .pointer (some ⟨b, 0, none⟩)] w fun e w' => e = .returned (.bool (!insG size x)) ∧ Below w.heap.size w w' := by
  have hu40 := Try.underlying40
  have h2 := blk_lt hb
  have hbl := (Below.refl w.heap.size w).alloc (Nat.le_refl _) (.cells #[.int .i64 x.f0, .int .i64 x.f1] 40)
  have x0 : (w.alloc (.cells #[.int .i64 x.f0, .int .i64 x.f1] 40)).cell? ⟨b, 0, none⟩ = some (.int .i64 size) := (blk_cell ((hbl.block b h2).trans hb) 0).trans rfl
  have hin : free_inside.f x.f0 x.f1 size = some (insG size x) := insB_f x.f0 x.f1 h0 h1
  have HB := Aside0.mk hbl
  have HIN := Aside0.mk hin
  clear hbl hb hin
  go_enter Try.func131, Try.ntmps131
  go_wp2_with fail
  refine (free_inside.calls x.f0 x.f1 size (insG size x) _ HIN.out).mono ?_
  rintro e w1 ⟨rfl, hd⟩
  have HB2 := Aside0.mk (below_step HB.out hd)
  clear hd
  go_wp2
  go_ret
  exact ⟨rfl, HB2.out⟩
open Go.Proofs Go.Sort in
theorem wo_cmp (x y : S40) (W : World) : Calls Try.prog 133 #[.agg #[.int .i64 x.f0, .int .i64 x.f1], .agg #[.int .i64 y.f0, .int .i64 y.f1]] W fun e w' => e = .returned (.int .i64 (cmpAt x y)) ∧ ∃ q os', w' = grow (W.drewN q) os' := by
  have hu40 := Try.underlying40
  have hf : cmp_Compare_int.f x.f0 y.f0 = some (cmpAt x y) := cmp_f x.f0 y.f0
  go_enter Try.func133, Try.ntmps133
  go_wp2_with fail
  refine (cmp_Compare_int.calls x.f0 y.f0 _ _ hf).mono ?_
  rintro e w1 ⟨rfl, ⟨q, rfl⟩⟩
  clear hf
  go_wp2
  go_ret
  exact ⟨rfl, q, _, by rw [alloc_eq_grow, alloc_eq_grow, grow_grow]; rfl⟩
set_option maxHeartbeats 1000000 in
set_option maxRecDepth 100000 in
theorem has_span (cl : Nat) (lb : Array Value) (p : S40 → Bool) (eg : ∀ args w, (callFunc cl args).run Try.prog w = .ok (.enter cl args) w)
    (A0 : Option Addr) (c0 : Nat) (l0 : List S40) (w : World) (hr0 : Kd.C k40 w A0 l0.length l0)
    (hp : ∀ (W : World) (x : S40), Below w.heap.size w W → Calls Try.prog cl (#[.agg #[.int .i64 x.f0, .int .i64 x.f1]] ++ lb) W fun e w' => e = .returned (.bool (p x)) ∧ Below w.heap.size w w') :
    Calls Try.prog 130 #[.slice A0 l0.length c0, .func (.func cl) #[] lb] w fun e w' => e = .returned (.bool (l0.any p)) ∧ Below w.heap.size w w' := by
  have hidx := idx_span cl lb p eg A0 c0 l0 w hr0 hp
  have hres : decide (0 ≤ idxF p l0) = l0.any p := by
    unfold idxF
    cases h : l0.findIdx? p with
    | some i =>
      have := List.findIdx?_eq_some_iff_getElem.1 h
      obtain ⟨h1, h2, _⟩ := this
      rw [List.any_eq_true.2 ⟨_, List.getElem_mem h1, h2⟩]
      exact decide_eq_true (by show (0 : Int) ≤ (i : Int); omega)
    | none =>
      have := List.findIdx?_eq_none_iff.1 h
      rw [List.any_eq_false.2 (fun x hx => by rw [this x hx]; decide)]
      rfl
  have HI := Aside0.mk hidx
  have HRES := Aside0.mk hres
  clear hidx hres hp hr0
  go_enter Try.func130, Try.ntmps130
  go_wp2_with fail
  refine HI.out.mono ?_
  rintro e w1 ⟨rfl, hb⟩
  have HB := Aside0.mk hb
  clear hb
  go_wp2
  go_ret
  exact ⟨by rw [← HRES.out]; rfl, HB.out⟩
theorem gapFold_len (ys : List S40) : ∀ s : List S40 × Int, (ys.foldl gapG s).1.length ≤ s.1.length + ys.length := by
  induction ys with
  | nil => intro s; exact Nat.le_refl _
  | cons x t ih =>
    intro s
    rw [List.foldl_cons]
    have h1 := ih (gapG s x)
    have h2 : (gapG s x).1.length ≤ s.1.length + 1 := by
      unfold gapG
      simp only []
      split
      · rw [List.length_append, List.length_singleton]; exact Nat.le_refl _
      · omega
    rw [List.length_cons]; omega
def newG (size : Int) : List S40 := if size > 0 then [⟨0, size⟩] else []
theorem new_f (size : Int) : free_New.f 5 size = some (if size < 0 ∨ size > 65536 then (0, [], 4) else (size, newG size, 0)) := by
  unfold free_New.f newG
  by_cases h0 : size < 0
  · rw [if_pos h0, if_pos (.inl h0)]; rfl
  · rw [if_neg h0]
    by_cases h1 : size > 65536
    · rw [decide_eq_true h1, if_pos (.inr h1)]; rfl
    · rw [decide_eq_false h1, if_neg (by omega), free_New.j0, if_neg Bool.false_ne_true]
      split <;> rfl
set_option maxHeartbeats 8000000 in
set_option maxRecDepth 100000 in
theorem free_Without.calls (a0 : Int) (A1 : Option Addr) (c1 : Nat) (l1 : List (S40)) (r1 : Int) (r2 : List (S40)) (r3 : Int) (w : World) (hr1 : Kd.C k40 w A1 l1.length l1) (hc1 : l1.length ≤ c1) (h : free_Without.f a0 l1 = some (r1, r2, r3)) :
    Calls Try.prog 77 #[.int .i64 a0, .slice A1 l1.length c1] w fun e w' => ∃ v1_ : Value, e = .returned (.tuple #[.agg #[.int .i64 r1, v1_], .int .i64 r3]) ∧ Kd.R k40 40 w' w.heap.size (fun _ => True) v1_ r2 ∧ Below w.heap.size w w' := by
  have hu40 := Try.underlying40
  have hu58 := Try.underlying58
  have hW : withoutG a0 l1 = (r1, r2, r3) := Option.some.inj h
  obtain ⟨W0, hW0⟩ : ∃ W, W = (w.alloc (.cells #[.int .i64 a0] 3)).alloc (.cells #[.int .i64 0, .slice none 0 0] 58) := ⟨_, rfl⟩
  have hz1 : (w.alloc (.cells #[.int .i64 a0] 3)).heap.size = w.heap.size + 1 := by simp
  have hB0 : Below w.heap.size w W0 := by rw [hW0]; exact ((Below.refl w.heap.size w).alloc (Nat.le_refl _) _).alloc (by rw [hz1]; omega) _
  have hX2 : W0.heap[w.heap.size]? = some (.cells #[.int .i64 a0] 3 (0, 0)) := by rw [hW0]; exact blk_alloc (blk_new w _) _
  have hX4 : W0.heap[w.heap.size + 1]? = some (.cells #[.int .i64 0, .slice none 0 0] 58 (0, 0)) := by
    have h1 := blk_new (w.alloc (.cells #[.int .i64 a0] 3)) (.cells #[.int .i64 0, .slice none 0 0] 58)
    rw [hz1] at h1
    rw [hW0]; exact h1
  have x2 : ((w.alloc (.cells #[.int .i64 a0] 3)).alloc (.cells #[.int .i64 0, .slice none 0 0] 58)).cell? ⟨w.heap.size, 0, none⟩ = some (.int .i64 a0) := by rw [← hW0]; exact (blk_cell hX2 0).trans rfl
  have HR1 := Aside0.mk hr1
  have HC1 := Aside0.mk hc1
  have HW := Aside0.mk hW
  have HB0 := Aside0.mk hB0
  have HX2 := Aside0.mk hX2
  have HX4 := Aside0.mk hX4
  have HW0 := Aside0.mk hW0
  clear hr1 hc1 h hW hB0 hX2 hX4 hW0 hz1
  go_enter Try.func77, Try.ntmps77
  go_wp2_with fail
  rw [← HW0.out]
  by_cases hrange : a0 < 0 ∨ a0 > 65536
  · have hn : free_New.f 5 a0 = some (0, [], 4) := by rw [new_f, if_pos hrange]
    have hres : (r1, r2, r3) = (0, [], 4) := by rw [← HW.out]; unfold withoutG; rw [if_pos hrange]
    simp only [Prod.mk.injEq] at hres
    obtain ⟨rfl, rfl, rfl⟩ := hres
    refine (free_New.calls 5 a0 0 [] 4 W0 hn).mono ?_
    rintro e w1 ⟨v1, rfl, hR1, hb1⟩
    obtain ⟨An, cn, rfl⟩ := Kd.R_slice hR1
    have HX4' := Aside0.mk (show ((w1.alloc (.cells #[.int .i64 0, .slice none 0 0] 58)).setRow w1.heap.size #[.int .i64 0, .slice An 0 cn]).heap[w.heap.size + 1]? = some (.cells #[.int .i64 0, .slice none 0 0] 58 (0, 0)) by
      have h1 := blk_lt HX4.out
      have h2 := hb1.size
      rw [setRow_other _ w1.heap.size _ _ (by omega), Below.heap_alloc w1 _ _ (by omega), hb1.block _ h1]
      exact HX4.out)
    have hB1 := below_step HB0.out hb1
    have HB1 := Aside0.mk (show Below w.heap.size w ((w1.alloc (.cells #[.int .i64 0, .slice none 0 0] 58)).setRow w1.heap.size #[.int .i64 0, .slice An 0 cn]) from setRow_below (hB1.alloc hB1.size _) hB1.size _)
    have hb6 := blk_new w1 (.cells #[.int .i64 0, .slice none 0 0] 58)
    have hx4 := HX4'.out
    clear hR1 hb1 hB1 x2 hn
    go_wp2_with (first
      | (refine wpList_store_row (P := Try.prog) rfl 58 (.tmp 6) (.tmp 14) rfl w1.heap.size #[.int .i64 0, .slice An 0 cn] rfl rfl 58 #[.int .i64 0, .slice none 0 0] hb6 (by kernel_rfl) rfl (by simp [Value.oneCell']) ?_)
      | (refine wpList_store_row (P := Try.prog) rfl 58 (.tmp 4) (.tmp 18) rfl (w.heap.size + 1) #[.int .i64 0, .slice none 0 0] rfl rfl 58 #[.int .i64 0, .slice none 0 0] hx4 (by kernel_rfl) rfl (by simp [Value.oneCell']) ?_))
    (try simp only [Exit.inBlock, Exit.then])
    refine bodyPost_ret (results_ct rfl _ _ (w.heap.size + 1) 58 #[.int .i64 0, .slice none 0 0] (0, 0) _ rfl (setRow_heap _ (w.heap.size + 1) _ _ 58 (0, 0) hx4) Try.underlying58 rfl (by kernel_rfl)) rfl ?_
    exact ⟨_, rfl, Kd.R_nil _ _ _ _ _, setRow_below HB1.out (Nat.le_succ _) _⟩
  · have hn : free_New.f 5 a0 = some (a0, newG a0, 0) := by rw [new_f, if_neg hrange]
    have h0 : 0 ≤ a0 := by omega
    have h1 : a0 ≤ 65536 := by omega
    refine (free_New.calls 5 a0 a0 (newG a0) 0 W0 hn).mono ?_
    rintro e w1 ⟨v1, rfl, hR1, hb1⟩
    obtain ⟨An, cn, rfl⟩ := Kd.R_slice hR1
    obtain ⟨nn, hnn⟩ : ∃ n, n = (newG a0).length := ⟨_, rfl⟩
    rw [← hnn]
    obtain ⟨b6, hb6e⟩ : ∃ b, b = w1.heap.size := ⟨_, rfl⟩
    obtain ⟨W2, hW2⟩ : ∃ W, W = (w1.alloc (.cells #[.int .i64 0, .slice none 0 0] 58)).setRow b6 #[.int .i64 a0, .slice An nn cn] := ⟨_, rfl⟩
    have hb6 := blk_new w1 (.cells #[.int .i64 0, .slice none 0 0] 58)
    have hB1 := below_step HB0.out hb1
    have l2 := blk_lt HX2.out
    have l4 := blk_lt HX4.out
    have hs1 := hb1.size
    have HX2' := Aside0.mk (show W2.heap[w.heap.size]? = some (.cells #[.int .i64 a0] 3 (0, 0)) by
      rw [hW2, hb6e, setRow_other _ w1.heap.size _ _ (by omega), Below.heap_alloc w1 _ _ (by omega), hb1.block _ l2]
      exact HX2.out)
    have HX4' := Aside0.mk (show W2.heap[w.heap.size + 1]? = some (.cells #[.int .i64 0, .slice none 0 0] 58 (0, 0)) by
      rw [hW2, hb6e, setRow_other _ w1.heap.size _ _ (by omega), Below.heap_alloc w1 _ _ (by omega), hb1.block _ l4]
      exact HX4.out)
    have HX6 := Aside0.mk (show W2.heap[b6]? = some (.cells #[.int .i64 a0, .slice An nn cn] 58 (0, 0)) by
      rw [hW2]; rw [← hb6e] at hb6; exact setRow_heap _ b6 _ _ 58 (0, 0) hb6)
    have HB2 := Aside0.mk (show Below w.heap.size w W2 by rw [hW2, hb6e]; exact setRow_below (hB1.alloc hB1.size _) hB1.size _)
    have HN6 := Aside0.mk (show w.heap.size + 1 < b6 by omega)
    rw [← hb6e] at hb6
    have HW2 := Aside0.mk hW2
    have HB6E := Aside0.mk hb6e
    have hb6e' : w1.heap.size = b6 := hb6e.symm
    clear hR1 hb1 hB1 hn hnn hW2 l2 l4 hs1 hb6e x2
    have hmf : ∀ (fn : Fn) (first cap : Array Value) (w : World), (Instr.makeFunc fn first cap).run Try.prog w = .ok (.func fn first cap) w := fun _ _ _ _ => rfl
    by_cases hlen : (l1.length : Int) > 1024
    · have hres : (r1, r2, r3) = (0, [], 3) := by rw [← HW.out]; unfold withoutG; rw [if_neg hrange, if_pos hlen]
      simp only [Prod.mk.injEq] at hres
      obtain ⟨rfl, rfl, rfl⟩ := hres
      have hdl : decide ((1024 : Int) < (l1.length : Int)) = true := decide_eq_true (by omega)
      have hx4 : ((w1.alloc (.cells #[.int .i64 0, .slice none 0 0] 58)).setRow b6 #[.int .i64 a0, .slice An nn cn]).heap[w.heap.size + 1]? = some (.cells #[.int .i64 0, .slice none 0 0] 58 (0, 0)) := by rw [← HW2.out]; exact HX4'.out
      have HBB := Aside0.mk (show Below w.heap.size w ((w1.alloc (.cells #[.int .i64 0, .slice none 0 0] 58)).setRow b6 #[.int .i64 a0, .slice An nn cn]) by rw [← HW2.out]; exact HB2.out)
      go_wp2_with (first
        | (refine wpList_store_row (P := Try.prog) rfl 58 (.tmp 6) (.tmp 14) rfl b6 #[.int .i64 a0, .slice An nn cn] (by first | rfl | (simp only [hb6e']; done) | (simp [hb6e'])) rfl 58 #[.int .i64 0, .slice none 0 0] hb6 (by kernel_rfl) rfl (by simp [Value.oneCell']) ?_)
        | (refine wpList_store_row (P := Try.prog) rfl 58 (.tmp 4) (.tmp 23) rfl (w.heap.size + 1) #[.int .i64 0, .slice none 0 0] rfl rfl 58 #[.int .i64 0, .slice none 0 0] hx4 (by kernel_rfl) rfl (by simp [Value.oneCell']) ?_))
      (try simp only [Exit.inBlock, Exit.then])
      refine bodyPost_ret (results_ct rfl _ _ (w.heap.size + 1) 58 #[.int .i64 0, .slice none 0 0] (0, 0) _ rfl (setRow_heap _ (w.heap.size + 1) _ _ 58 (0, 0) hx4) Try.underlying58 rfl (by kernel_rfl)) rfl ?_
      exact ⟨_, rfl, Kd.R_nil _ _ _ _ _, setRow_below HBB.out (Nat.le_succ _) _⟩
    · have hdl : decide ((1024 : Int) < (l1.length : Int)) = false := decide_eq_false (by omega)
      have HLEN := Aside0.mk hlen
      go_wp2_with (first
        | (refine wpList_store_row (P := Try.prog) rfl 58 (.tmp 6) (.tmp 14) rfl b6 #[.int .i64 a0, .slice An nn cn] (by first | rfl | (simp only [hb6e']; done) | (simp [hb6e'])) rfl 58 #[.int .i64 0, .slice none 0 0] hb6 (by kernel_rfl) rfl (by simp [Value.oneCell']) ?_))
      rw [← HW2.out]
      have hhas := has_span 131 #[.pointer (some ⟨w.heap.size, 0, none⟩)] (fun x => !insG a0 x) (enters_of Try.func131 (by kernel_rfl) rfl) A1 c1 l1 W2 (Kd.C_below HR1.out HB2.out) (fun W x hW => (wo_in x w.heap.size a0 W h0 h1 ((hW.block _ (blk_lt HX2'.out)).trans HX2'.out)).mono fun e w' h => ⟨h.1, below_step hW h.2⟩)
      refine hhas.mono ?_
      rintro e w3 ⟨rfl, hb3⟩
      have hany : l1.any (fun x => !insG a0 x) = !(l1.all (insG a0)) := by rw [List.not_all_eq_any_not]
      rw [hany]
      have HX2'' := Aside0.mk ((hb3.block _ (blk_lt HX2'.out)).trans HX2'.out)
      have HX4'' := Aside0.mk ((hb3.block _ (blk_lt HX4'.out)).trans HX4'.out)
      have HX6' := Aside0.mk ((hb3.block _ (blk_lt HX6.out)).trans HX6.out)
      have HB3 := Aside0.mk (below_step HB2.out hb3)
      clear hb3 hhas hany hb6 hb6e' hdl hlen
      by_cases hall : l1.all (insG a0) = true
      · rw [hall]
        have hcl := api_Span_101.calls A1 c1 l1 l1 w3 (Kd.C_below HR1.out HB3.out) HC1.out (by unfold api_Span_101.f; rw [if_pos (by have := HLEN.out; omega)])
        go_wp2_with fail
        refine hcl.mono ?_
        rintro e w4 ⟨v4, rfl, hR4, hb4⟩
        obtain ⟨A4, c4, rfl⟩ := Kd.R_slice hR4
        have HR4 := Aside0.mk hR4
        have HB4 := Aside0.mk hb4
        clear hR4 hb4 hcl
        go_wp2_with fail
        refine (sort_span 133 (enters_of Try.func133 (by kernel_rfl) rfl) wo_cmp HR4.out HB4.out HB4.out.size (by have := HLEN.out; omega)).mono ?_
        rintro e w5 ⟨rfl, ys, hperm, hsort, hR5, hb5, hs5, hk5⟩
        have hins : ∀ x ∈ l1, Flag.Ins a0 (toP x) := fun x hx => Flag.insB_iff.1 (List.all_eq_true.1 hall x hx)
        have HRES := Aside0.mk (gapL_of h0 h1 hins hperm hsort)
        have hyl : ys.length = l1.length := hperm.length_eq
        have HYL := Aside0.mk (show (ys.length : Int) ≤ 1024 by rw [hyl]; have := HLEN.out; omega)
        have hX2 := (hb5.block _ (blk_lt HX2''.out)).trans HX2''.out
        have hX4 := (hb5.block _ (blk_lt HX4''.out)).trans HX4''.out
        have hX6 := (hb5.block _ (blk_lt HX6'.out)).trans HX6'.out
        have hlt6 := blk_lt HX6'.out
        have hlt6' := blk_lt HX6.out
        have hn6 := HN6.out
        have hs35 := hb5.size
        have hfz : w5.frozen? ⟨b6, 1, none⟩ = false := blk_frozen hX6 1
        obtain ⟨W6, hW6⟩ : ∃ W, W = w5.setCell ⟨b6, 1, none⟩ (.slice none 0 0) := ⟨_, rfl⟩
        have hz6 : W6.heap.size = w5.heap.size := by rw [hW6]; simp [World.setCell]
        have hY2 : W6.heap[w.heap.size]? = some (.cells #[.int .i64 a0] 3 (0, 0)) := by rw [hW6]; exact (Below.heap_setCell w5 ⟨b6, 1, none⟩ _ _ (by show w.heap.size ≠ b6; omega)).trans hX2
        have hY4 : W6.heap[w.heap.size + 1]? = some (.cells #[.int .i64 0, .slice none 0 0] 58 (0, 0)) := by rw [hW6]; exact (Below.heap_setCell w5 ⟨b6, 1, none⟩ _ _ (by show w.heap.size + 1 ≠ b6; omega)).trans hX4
        have hY6 : W6.heap[b6]? = some (.cells #[.int .i64 a0, .slice none 0 0] 58 (0, 0)) := by rw [hW6]; exact blk_put (cs := #[.int .i64 a0, .slice An nn cn]) hX6 1 _ rfl
        have hx2 : (w5.setCell ⟨b6, 1, none⟩ (.slice none 0 0)).cell? ⟨w.heap.size, 0, none⟩ = some (.int .i64 a0) := by rw [← hW6]; exact (blk_cell hY2 0).trans rfl
        have hy2 : w5.cell? ⟨w.heap.size, 0, none⟩ = some (.int .i64 a0) := (blk_cell hX2 0).trans rfl
        have hy6 : w5.cell? ⟨b6, 1, none⟩ = some (.slice An nn cn) := (blk_cell hX6 1).trans rfl
        have hne1 : w.heap.size ≠ b6 := by omega
        have hne2 : b6 ≠ w.heap.size := by omega
        have hR6 : Kd.R k40 40 W6 w.heap.size (fun k => w3.heap.size ≤ k) (.slice A4 l1.length c4) ys := by
          rw [hW6]
          refine Kd.R_far (p := ⟨b6, 1, none⟩) ?_ (fun k hk => by show k ≠ b6; omega) _
          refine Kd.R_mono (Kd.R_lower (Kd.R_bound hR5) HB3.out.size) (fun k hk => hk.2.1)
        have hB6 : Below w.heap.size w W6 := by rw [hW6]; exact (below_step HB3.out hb5).setCell (p := ⟨b6, 1, none⟩) (by show w.heap.size ≤ b6; omega) _
        have HR6 := Aside0.mk hR6
        have HB6 := Aside0.mk hB6
        have HY := Aside0.mk (And.intro hY2 (And.intro hY4 hY6))
        have HW6 := Aside0.mk hW6
        have HZ6 := Aside0.mk (show w3.heap.size ≤ W6.heap.size by omega)
        have HL6 := Aside0.mk hlt6
        clear hperm hsort hR5 hb5 hs5 hk5 hyl hX2 hX4 hX6 hlt6 hlt6' hn6 hs35 hz6 hY2 hY4 hY6 hR6 hB6 hW6
        obtain ⟨zs, hzs⟩ : ∃ zs, zs = ys ++ [(⟨a0, 0⟩ : S40)] := ⟨_, rfl⟩
        have hzl : (zs.length : Int) ≤ 1025 := by rw [hzs, List.length_append, List.length_singleton]; have := HYL.out; omega
        have HZS := Aside0.mk hzs
        have HZL := Aside0.mk hzl
        clear hzs hzl
        go_wp2_with (first | ((with_reducible refine gate_builtin (b := .append) (xs := #[.tmp 33, .tmp 36]) rfl ?_); at_builtin; refine Kd.R_append k40 (w0 := w) w.heap.size rfl (.tmp 33) (.tmp 36) 54 40 (.agg #[(.int .i64 0), (.int .i64 0)]) 16 rfl Try.underlying54 info40 rfl (by decide) (by omega) (.slice A4 l1.length c4) ys (⟨a0, 0⟩ : S40) [.int .i64 ((⟨a0, 0⟩ : S40) : S40).f0, .int .i64 ((⟨a0, 0⟩ : S40) : S40).f1] (fun k => w3.heap.size ≤ k) (fun _ => False) rfl (by first | (go_simp; done) | (go_simp; rfl)) ?aP (fun _ hk => hk.elim) ?aF ?aO ?aB ?aS ?aL ?_; (case aP => exact k40_mkM _ _ _ ((⟨a0, 0⟩ : S40) : S40)); (case aF => intro k hk; rw [← HW6.out] at hk; have := HZ6.out; omega); (case aO => rw [← HW6.out]; exact HR6.out); (case aB => rw [← HW6.out]; exact HB6.out); (case aS => rw [← HW6.out]; exact HB6.out.size); (case aL => have := HYL.out; omega); intro v1 w7 ho hb hg hat; rw [← HW6.out] at hg; rw [← HZS.out] at ho; obtain ⟨Az, cz, rfl⟩ := Kd.R_slice ho; have HO7 := Aside0.mk ho; have HB7 := Aside0.mk hb; have HG7 := Aside0.mk hg; clear ho hb hg hat))
        have hbk : ∀ k, k < w3.heap.size → w7.heap[k]? = W6.heap[k]? := fun k hk => HG7.out.block k (Nat.lt_of_lt_of_le hk HZ6.out) (fun e => by
          have h5 := HR6.out.1 k (by rw [← e])
          omega)
        have HX2_7 := Aside0.mk ((hbk _ (Nat.lt_of_le_of_lt (by have := HN6.out; omega) HL6.out)).trans HY.out.1)
        have HX4_7 := Aside0.mk ((hbk _ (Nat.lt_trans HN6.out HL6.out)).trans HY.out.2.1)
        have HX6_7 := Aside0.mk ((hbk _ HL6.out).trans HY.out.2.2)
        have H37 := Aside0.mk (show w3.heap.size ≤ w7.heap.size from Nat.le_trans HZ6.out HG7.out.size)
        clear hbk hx2 hy2 hy6 hfz
        go_loopg [8, 39] zs.length (fun gk v8 v39 W => ∃ (i nx : Int) (vo : Value) (o : List S40), v8 = .int .i64 nx ∧ v39 = .int .i64 i ∧ Aside0 (0 ≤ i ∧ i + gk = zs.length) ∧ Aside0 ((zs.take i.toNat).foldl gapG ([], 0) = (o, nx)) ∧ Aside0 (Kd.R k40 40 W w.heap.size (fun k => w3.heap.size ≤ k ∧ some k ≠ (Value.slice Az zs.length cz).ownBlock) vo o) ∧ Aside0 (W.heap[w.heap.size]? = some (.cells #[.int .i64 a0] 3 (0, 0)) ∧ W.heap[w.heap.size + 1]? = some (.cells #[.int .i64 0, .slice none 0 0] 58 (0, 0)) ∧ W.heap[b6]? = some (.cells #[.int .i64 a0, vo] 58 (0, 0))) ∧ Aside0 (Below w.heap.size w W ∧ w7.heap.size ≤ W.heap.size ∧ ∀ k, (Value.slice Az zs.length cz).ownBlock = some k → W.heap[k]? = w7.heap[k]?))
        case atStart => exact ⟨0, 0, _, [], rfl, rfl, ⟨Int.le_refl _, by simp⟩, ⟨rfl⟩, ⟨Kd.R_nil _ _ _ _ _⟩, ⟨⟨HX2_7.out, HX4_7.out, HX6_7.out⟩⟩, ⟨⟨HB7.out, Nat.le_refl _, fun _ _ => rfl⟩⟩⟩
        case round =>
          obtain ⟨i, nx, vo, o, rfl, rfl, HI, HF, HO, HX, HS⟩ := hrel
          obtain ⟨Ao, co, rfl⟩ := Kd.R_slice HO.out
          obtain ⟨no, hno⟩ : ∃ n, n = o.length := ⟨_, rfl⟩
          rw [← hno] at HO HX
          have hol : (no : Int) ≤ i := by
            rw [hno]
            have := gapFold_len (zs.take i.toNat) ([], 0)
            rw [HF.out] at this
            simp only [List.length_nil, List.length_take] at this
            have := HI.out.1
            omega
          have HNO := Aside0.mk hno
          have HOL := Aside0.mk hol
          clear hno hol
          cases gk with
          | zero =>
            have hi : i = zs.length := by have := HI.out.2; omega
            have hd : decide (i < (zs.length : Int)) = false := decide_eq_false (by omega)
            have hoe : o = gapL (sortL l1) a0 := by
              rw [← HRES.out]
              unfold gapL
              rw [← HZS.out]
              have h := HF.out
              rw [hi, Int.toNat_natCast, List.take_length] at h
              rw [h]
            have hfull : free_full.f a0 o = some (r1, r2, r3) := by
              have e1 : withoutG a0 l1 = (if ((gapL (sortL l1) a0).length : Int) > 1024 then (0, [], 51) else (a0, gapL (sortL l1) a0, 0)) := by
                unfold withoutG
                rw [if_neg hrange, if_neg (show ¬ (l1.length : Int) > 1024 by have := HLEN.out; omega), if_pos hall]
              rw [← HW.out, e1, hoe]
              unfold free_full.f
              split <;> rfl
            have HFU := Aside0.mk hfull
            have z2 : wr.cell? ⟨w.heap.size, 0, none⟩ = some (.int .i64 a0) := (blk_cell HX.out.1 0).trans rfl
            have z6 : wr.cell? ⟨b6, 1, none⟩ = some (.slice Ao no co) := (blk_cell HX.out.2.2 1).trans rfl
            clear hi hoe hfull
            go_wp2_with fail
            refine (free_full.calls a0 (fun k => w3.heap.size ≤ k ∧ some k ≠ (Value.slice Az zs.length cz).ownBlock) (.slice Ao no co) o r1 r2 r3 w wr HS.out.1 HO.out HFU.out).mono ?_
            rintro e w9 ⟨v9, rfl, hR9, hb9, hk9⟩
            obtain ⟨A9, c9, rfl⟩ := Kd.R_slice hR9
            obtain ⟨n9, hn9⟩ : ∃ n, n = r2.length := ⟨_, rfl⟩
            rw [← hn9] at hR9 ⊢
            have hx4 := blk_kept HX.out.2.1 hk9 (fun h => by have := h.1; have := HL6.out; have := HN6.out; omega)
            have HR9 := Aside0.mk (show Kd.R k40 40 (w9.setRow (w.heap.size + 1) #[.int .i64 r1, .slice A9 n9 c9]) w.heap.size (fun _ => True) (.slice A9 n9 c9) r2 from Kd.R_mono (Kd.R_step hR9 (fun k hk _ => setRow_other _ (w.heap.size + 1) k _ (by
              have h1 := HL6.out
              have h2 := HN6.out
              have h3 := H37.out
              have h4 := HS.out.2.1
              rcases hk with hk | hk
              · have := hk.1; omega
              · omega))) (fun _ _ => trivial))
            have HB9 := Aside0.mk hb9
            clear hR9 hb9 hk9 hn9
            go_wp2_with (refine wpList_store_row (P := Try.prog) rfl 58 (.tmp 4) (.tmp 70) rfl (w.heap.size + 1) #[.int .i64 r1, .slice A9 n9 c9] rfl rfl 58 #[.int .i64 0, .slice none 0 0] hx4 (by kernel_rfl) rfl (by simp [Value.oneCell']) ?_)
            (try simp only [Exit.inBlock, Exit.then])
            refine bodyPost_ret (results_ct rfl _ _ (w.heap.size + 1) 58 #[.int .i64 r1, .slice A9 n9 c9] (0, 0) _ rfl (setRow_heap _ (w.heap.size + 1) _ _ 58 (0, 0) hx4) Try.underlying58 rfl (by kernel_rfl)) rfl ?_
            exact ⟨_, rfl, HR9.out, setRow_below HB9.out (Nat.le_succ _) _⟩
          | succ k1 =>
            have hp0 : 0 ≤ i := HI.out.1
            have hp1 : i < (zs.length : Int) := by have := HI.out.2; omega
            have hd : decide (i < (zs.length : Int)) = true := decide_eq_true hp1
            have hC : Kd.C k40 wr Az zs.length zs := by
              rcases R_lies flatSpan HO7.out with ⟨h1, h2⟩ | ⟨g, cap, h1, h2, h3, h4⟩
              · rw [h2] at hp1; simp at hp1; omega
              · injection h1 with h5 _ h6
                subst h5 h6
                have h7 := R_of_lies (base := w.heap.size) (ok := fun _ => True) flatSpan h2 trivial (h4.far (HS.out.2.2 g rfl))
                exact (Kd.R_reads' h7).2.2
            obtain ⟨ad, e3, g0, g1⟩ := at_T40 hC i hp0 hp1
            cases e3
            obtain ⟨x, hx⟩ : ∃ x, x = rd_T40 zs i := ⟨_, rfl⟩
            rw [← hx] at g0 g1
            have hst : (zs.take (i + 1).toNat).foldl gapG ([], 0) = gapG (o, nx) x := by
              have h3 : (i + 1).toNat = i.toNat + 1 := by omega
              have h4 : i.toNat < zs.length := by omega
              have h5 : x = zs[i.toNat] := by rw [hx]; unfold rd_T40; rw [List.getD_eq_getElem?_getD, List.getElem?_eq_getElem h4]; rfl
              rw [h3, List.take_succ_eq_append_getElem h4, List.foldl_append, ← h5, HF.out]
              rfl
            have HST := Aside0.mk hst
            have HP := Aside0.mk (And.intro hp0 hp1)
            clear hx hC hst
            obtain ⟨s1, hs1⟩ : ∃ s : Int, s = wrap64 (x.f0 + x.f1) := ⟨_, rfl⟩
            have hs1w : IntKind.i64.wrap (x.f0 + x.f1) = s1 := by rw [hs1]; exact IntWalk.i64_left _
            have hs1w2 : wrap64 (x.f0 + x.f1) = s1 := hs1.symm
            obtain ⟨m, hm⟩ : ∃ m : Int, m = mx nx s1 := ⟨_, rfl⟩
            have hm' : (if nx < s1 then s1 else nx) = m := hm.symm
            have HM := Aside0.mk (show mx nx (wrap64 (x.f0 + x.f1)) = m by rw [hs1w2, hm])
            clear hs1 hm
            have hX2 := HX.out.1
            have hX4 := HX.out.2.1
            have hX6 := HX.out.2.2
            have hlt3 : w3.heap.size ≤ wr.heap.size := Nat.le_trans H37.out HS.out.2.1
            have hlt6 : b6 < wr.heap.size := blk_lt hX6
            have hl6 := HL6.out
            have hn6 := HN6.out
            obtain ⟨W1, hW1⟩ : ∃ W, W = wr.alloc (.cells #[.int .i64 x.f0, .int .i64 x.f1] 40) := ⟨_, rfl⟩
            have hb1 : Below w.heap.size w W1 := by rw [hW1]; exact HS.out.1.alloc HS.out.1.size _
            have hx1 : W1.heap[wr.heap.size]? = some (.cells #[.int .i64 x.f0, .int .i64 x.f1] 40 (0, 0)) := by rw [hW1]; exact blk_new wr _
            have hz1 : W1.heap.size = wr.heap.size + 1 := by rw [hW1]; simp
            have hk1 : ∀ k, k < wr.heap.size → W1.heap[k]? = wr.heap[k]? := fun k hk => by rw [hW1]; exact Below.heap_alloc wr _ _ hk
            have hY2 := (hk1 w.heap.size (by omega)).trans hX2
            have hY4 := (hk1 (w.heap.size + 1) (by omega)).trans hX4
            have hY6 := (hk1 b6 hlt6).trans hX6
            have hbx : wr.heap.size ≠ b6 := by omega
            have hO1 : Kd.R k40 40 W1 w.heap.size (fun k => w3.heap.size ≤ k ∧ some k ≠ (Value.slice (some ad) zs.length cz).ownBlock) (.slice Ao no co) o := by rw [hW1]; exact Kd.R_alloc HO.out _
            have hz2 : ∀ k, (Value.slice (some ad) zs.length cz).ownBlock = some k → k < wr.heap.size ∧ W1.heap[k]? = w7.heap[k]? := by
              intro k hk
              have h2 : k < w7.heap.size := Kd.R_lt HO7.out k hk
              have h3 : k < wr.heap.size := Nat.lt_of_lt_of_le h2 HS.out.2.1
              exact ⟨h3, (hk1 k h3).trans (HS.out.2.2 k hk)⟩
            have q0 : (wr.alloc (.cells #[.int .i64 x.f0, .int .i64 x.f1] 40)).cell? ⟨wr.heap.size, 0, none⟩ = some (.int .i64 x.f0) := by rw [← hW1]; exact (blk_cell hx1 0).trans rfl
            have q1 : (wr.alloc (.cells #[.int .i64 x.f0, .int .i64 x.f1] 40)).cell? ⟨wr.heap.size, 1, none⟩ = some (.int .i64 x.f1) := by rw [← hW1]; exact (blk_cell hx1 1).trans rfl
            have q6 : (wr.alloc (.cells #[.int .i64 x.f0, .int .i64 x.f1] 40)).cell? ⟨b6, 1, none⟩ = some (.slice Ao no co) := by rw [← hW1]; exact (blk_cell hY6 1).trans rfl
            have HW1 := Aside0.mk hW1
            have HB1' := Aside0.mk hb1
            have HX1' := Aside0.mk (And.intro hx1 hz1)
            have HY' := Aside0.mk (And.intro hY2 (And.intro hY4 hY6))
            have HO1 := Aside0.mk hO1
            have HZ2 := Aside0.mk hz2
            have HBX := Aside0.mk (And.intro hbx (And.intro hlt3 hlt6))
            clear hW1 hb1 hx1 hz1 hk1 hY2 hY4 hY6 hO1 hz2 hX2 hX4 hX6 hlt3 hlt6 hl6 hn6
            have hwi : IntKind.i64.wrap (i + 1) = i + 1 := IntWalk.i64_in _ (by have := HP.out; have := HZL.out; omega)
            have hwi2 : wrap64 (i + 1) = i + 1 := w64 (by have := HP.out; have := HZL.out; omega)
            have hbx1 := HBX.out.1
            have hbx2 := HBX.out.1.symm
            by_cases hc : nx < x.f0
            · have hdc : decide (nx < x.f0) = true := decide_eq_true hc
              obtain ⟨s2, hs2⟩ : ∃ s : Int, s = wrap64 (x.f0 - nx) := ⟨_, rfl⟩
              have hs2w : IntKind.i64.wrap (x.f0 - nx) = s2 := by rw [hs2]; exact IntWalk.i64_left _
              have hs2w2 : wrap64 (x.f0 - nx) = s2 := hs2.symm
              have HS2 := Aside0.mk hs2
              have HC := Aside0.mk hc
              clear hs2
              obtain ⟨os, hos⟩ : ∃ os, os = o ++ [(⟨nx, s2⟩ : S40)] := ⟨_, rfl⟩
              have HOS := Aside0.mk hos
              clear hos
              go_wp2_with (first | ((with_reducible refine gate_builtin (b := .append) (xs := #[.tmp 48, .tmp 55]) rfl ?_); at_builtin; refine Kd.R_append k40 (w0 := w) w.heap.size rfl (.tmp 48) (.tmp 55) 54 40 (.agg #[(.int .i64 0), (.int .i64 0)]) 16 rfl Try.underlying54 info40 rfl (by decide) (by omega) (.slice Ao no co) o (⟨nx, s2⟩ : S40) [.int .i64 ((⟨nx, s2⟩ : S40) : S40).f0, .int .i64 ((⟨nx, s2⟩ : S40) : S40).f1] (fun k => w3.heap.size ≤ k ∧ some k ≠ (Value.slice (some ad) zs.length cz).ownBlock) (fun _ => False) rfl (by first | (go_simp; done) | (go_simp; rfl)) ?aP (fun _ hk => hk.elim) ?aF ?aO ?aB ?aS ?aL ?_; (case aP => exact k40_mkM _ _ _ ((⟨nx, s2⟩ : S40) : S40)); (case aF => intro k hk; rw [← HW1.out] at hk; exact ⟨by have := HX1'.out.2; have := HBX.out.2.1; omega, fun e => by have h1 := (HZ2.out k e.symm).1; have := HX1'.out.2; omega⟩); (case aO => rw [← HW1.out]; exact HO1.out); (case aB => rw [← HW1.out]; exact HB1'.out); (case aS => rw [← HW1.out]; exact HB1'.out.size); (case aL => rw [← HNO.out]; have := HOL.out; have := HP.out.2; have := HZL.out; omega); intro v1 w8 ho hb hg hat; rw [← HW1.out] at hg; rw [← HOS.out] at ho; obtain ⟨A8, c8, rfl⟩ := Kd.R_slice ho; have HO8 := Aside0.mk ho; have HB8 := Aside0.mk hb; have HG8 := Aside0.mk hg; have hX1_8 := (hg.block wr.heap.size (by have := HX1'.out.2; omega) (fun e => by have h1 := Kd.R_lt HO.out wr.heap.size e.symm; omega)).trans HX1'.out.1; have hX6_8 := (hg.block b6 (by have := HX1'.out.2; have := HBX.out.2.2; omega) (fun e => by have h1 := (HO1.out.1 b6 (by rw [← e])).1; have := HL6.out; omega)).trans HY'.out.2.2; have z0 : w8.cell? ⟨wr.heap.size, 0, none⟩ = some (.int .i64 x.f0) := (blk_cell hX1_8 0).trans rfl; have z1 : w8.cell? ⟨wr.heap.size, 1, none⟩ = some (.int .i64 x.f1) := (blk_cell hX1_8 1).trans rfl; have z6 : w8.cell? ⟨b6, 1, none⟩ = some (.slice Ao no co) := (blk_cell hX6_8 1).trans rfl; have hfz8 : w8.frozen? ⟨b6, 1, none⟩ = false := blk_frozen hX6_8 1; have HX6_8 := Aside0.mk hX6_8; clear ho hb hg hat hX1_8 hX6_8))
              go_roundg k1
              case measure => omega
              case rel =>
                refine ⟨i + 1, m, .slice A8 os.length c8, os, by first | rfl | (simp; done) | go_num, by first | rfl | (simp; done) | go_num, ⟨by have := HP.out.1; omega, by have := HI.out.2; omega⟩, ⟨?_⟩, ⟨?_⟩, ⟨?_, ?_, ?_⟩, ⟨?_, ?_, ?_⟩⟩
                · rw [HST.out]
                  unfold gapG
                  simp only []
                  rw [if_pos HC.out, HM.out, ← HS2.out, ← HOS.out]
                · exact Kd.R_far (p := ⟨b6, 1, none⟩) HO8.out (fun k hk => by show k ≠ b6; have := hk.1; have := HL6.out; omega) _
                · have h1 := (HG8.out.block w.heap.size (by have := HX1'.out.2; have := HBX.out.2.2; have := HN6.out; omega) (fun e => by have h1 := (HO1.out.1 w.heap.size (by rw [← e])).1; have := HL6.out; have := HN6.out; omega)).trans HY'.out.1
                  exact (Below.heap_setCell w8 ⟨b6, 1, none⟩ _ _ (by show w.heap.size ≠ b6; have := HN6.out; omega)).trans h1
                · have h1 := (HG8.out.block (w.heap.size + 1) (by have := HX1'.out.2; have := HBX.out.2.2; have := HN6.out; omega) (fun e => by have h1 := (HO1.out.1 (w.heap.size + 1) (by rw [← e])).1; have := HL6.out; have := HN6.out; omega)).trans HY'.out.2.1
                  exact (Below.heap_setCell w8 ⟨b6, 1, none⟩ _ _ (by show w.heap.size + 1 ≠ b6; have := HN6.out; omega)).trans h1
                · exact blk_put (cs := #[.int .i64 a0, .slice Ao no co]) HX6_8.out 1 _ rfl
                · exact HB8.out.setCell (p := ⟨b6, 1, none⟩) (by show w.heap.size ≤ b6; have := HN6.out; omega) _
                · have h1 : (w8.setCell ⟨b6, 1, none⟩ (.slice A8 os.length c8)).heap.size = w8.heap.size := by simp [World.setCell]
                  have h2 := HG8.out.size
                  have h3 := HX1'.out.2
                  have h4 := HS.out.2.1
                  rw [h1]; omega
                · intro k hk
                  obtain ⟨h1, h2⟩ := HZ2.out k hk
                  have h3 := HX1'.out.2
                  have hk3 := HO7.out.1 k hk
                  rw [Below.heap_setCell w8 ⟨b6, 1, none⟩ _ _ (by show k ≠ b6; have := HL6.out; omega), HG8.out.block k (by omega) (fun e => (HO1.out.1 k (by rw [← e])).2 hk.symm)]
                  exact h2
            · have hdc : decide (nx < x.f0) = false := decide_eq_false hc
              have HC := Aside0.mk hc
              go_wp2_with fail
              go_roundg k1
              case measure => omega
              case rel =>
                refine ⟨i + 1, m, .slice Ao no co, o, by first | rfl | (simp; done) | go_num, by first | rfl | (simp; done) | go_num, ⟨by have := HP.out.1; omega, by have := HI.out.2; omega⟩, ⟨?_⟩, ⟨?_⟩, ⟨?_, ?_, ?_⟩, ⟨?_, ?_, ?_⟩⟩
                · rw [HST.out]
                  unfold gapG
                  simp only []
                  rw [if_neg (show ¬ nx < x.f0 by have := HC.out; omega), HM.out]
                · rw [← HW1.out]; exact HO1.out
                · rw [← HW1.out]; exact HY'.out.1
                · rw [← HW1.out]; exact HY'.out.2.1
                · rw [← HW1.out]; exact HY'.out.2.2
                · rw [← HW1.out]; exact HB1'.out
                · rw [← HW1.out]; have := HX1'.out.2; have := HS.out.2.1; omega
                · intro k hk
                  rw [← HW1.out]; exact (HZ2.out k hk).2
      · have hall' : l1.all (insG a0) = false := Bool.eq_false_iff.mpr hall
        rw [hall']
        have hres : (r1, r2, r3) = (0, [], 4) := by rw [← HW.out]; unfold withoutG; rw [if_neg hrange, if_neg (by have := HLEN.out; omega), if_neg hall]
        simp only [Prod.mk.injEq] at hres
        obtain ⟨rfl, rfl, rfl⟩ := hres
        have hx4 := HX4''.out
        go_wp2_with (first
          | (refine wpList_store_row (P := Try.prog) rfl 58 (.tmp 4) (.tmp 27) rfl (w.heap.size + 1) #[.int .i64 0, .slice none 0 0] rfl rfl 58 #[.int .i64 0, .slice none 0 0] hx4 (by kernel_rfl) rfl (by simp [Value.oneCell']) ?_))
        (try simp only [Exit.inBlock, Exit.then])
        refine bodyPost_ret (results_ct rfl _ _ (w.heap.size + 1) 58 #[.int .i64 0, .slice none 0 0] (0, 0) _ rfl (setRow_heap _ (w.heap.size + 1) _ _ 58 (0, 0) hx4) Try.underlying58 rfl (by kernel_rfl)) rfl ?_
        exact ⟨_, rfl, Kd.R_nil _ _ _ _ _, setRow_below HB3.out (Nat.le_succ _) _⟩
end Go.Proofs.Ytkkfkdncddbaeaa.Fn
namespace Go.Proofs.Ytkkfkdncddbaeaa.Fn
open Go.RowKit Go.Proofs.YtkkfkdncddbaeaaW.PrintWords Go.Proofs.YtkkfkdncddbaeaaW.PrintLast Go.Proofs.YtkkfkdncddbaeaaW.PrintMore
attribute [local go_sem] max2_int min2_int max_two min_two max_three min_three max_four min_four
set_option linter.unusedVariables false
set_option linter.unusedSimpArgs false
def cutG (x y : S40) : List S40 := if mn (wrap64 (y.f0 + y.f1)) (wrap64 (x.f0 + x.f1)) ≤ mx y.f0 x.f0 then [y] else (if y.f0 < mx y.f0 x.f0 then [⟨y.f0, wrap64 (mx y.f0 x.f0 - y.f0)⟩] else []) ++ (if mn (wrap64 (y.f0 + y.f1)) (wrap64 (x.f0 + x.f1)) < wrap64 (y.f0 + y.f1) then [⟨mn (wrap64 (y.f0 + y.f1)) (wrap64 (x.f0 + x.f1)), wrap64 (wrap64 (y.f0 + y.f1) - mn (wrap64 (y.f0 + y.f1)) (wrap64 (x.f0 + x.f1)))⟩] else [])
def flagstoneref06_without.f (l0 : List (S40)) (a1_0 : Int) (a1_1 : Int) : Option (List (S40)) := if l0.length ≤ 4096 then some (l0.flatMap (cutG ⟨a1_0, a1_1⟩)) else none
theorem cutG_len (x y : S40) : (cutG x y).length ≤ 2 := by
  unfold cutG
  split
  · simp
  · rw [List.length_append]
    split <;> split <;> simp
theorem cutG_all (x : S40) (l : List S40) : (l.flatMap (cutG x)).length ≤ 2 * l.length := by
  induction l with
  | nil => simp
  | cons y t ih =>
    rw [List.flatMap_cons, List.length_append, List.length_cons]
    have := cutG_len x y
    omega
def wo_T9 : Bool × List (List Nat × List Nat) := (true, [([], []), ([], []), ([], []), ([1, 2], [1, 2]), ([3], [3]), ([4], [4]), ([], []), ([], []), ([], []), ([7, 8], [7, 8]), ([9], [9]), ([10], [10]), ([6, 11], [6, 11]), ([5, 12], [5, 12]), ([13], [13]), ([0, 14], [0, 14]), ([15, 15, 0, 1, 2, 3, 4, 5, 6, 7, 8, 9, 10, 11, 12, 13, 14, 15], [0, 15])])
def wo_B9 : List Nat := [0, 0, 0, 6, 14, 30, 0, 0, 0, 384, 896, 1920, 4032, 8190, 16382, 32767, 65535]
theorem wo_tab9 : rtab .any (opsOf Try.f134 9) = wo_T9 := by kernel_rfl
theorem wo_bits9 : waitsOk wo_T9.2 wo_B9 = true := by kernel_rfl
def wo_T11 : Bool × List (List Nat × List Nat) := (true, [([], []), ([], []), ([], []), ([], []), ([2, 3], [2, 3]), ([4], [4]), ([5], [5]), ([], []), ([], []), ([7, 8], [7, 8]), ([9], [9]), ([10], [10]), ([6, 11], [6, 11]), ([], []), ([12, 13], [12, 13]), ([1, 14], [1, 14]), ([15], [15]), ([0, 16], [0, 16]), ([17, 17, 0, 1, 2, 3, 4, 5, 6, 7, 8, 9, 10, 11, 12, 13, 14, 15, 16, 17], [0, 17])])
def wo_B11 : List Nat := [0, 0, 0, 0, 12, 28, 60, 0, 0, 384, 896, 1920, 4092, 0, 16380, 32766, 65534, 131071, 262143]
theorem wo_tab11 : rtab .any (opsOf Try.f134 11) = wo_T11 := by kernel_rfl
theorem wo_bits11 : waitsOk wo_T11.2 wo_B11 = true := by kernel_rfl
set_option maxHeartbeats 8000000 in
set_option maxRecDepth 100000 in
theorem flagstoneref06_without.calls (A0 : Option Addr) (c0 : Nat) (l0 : List (S40)) (a1_0 : Int) (a1_1 : Int) (r : List (S40)) (w : World) (hr0 : Kd.C k40 w A0 l0.length l0) (hc0 : l0.length ≤ c0) (h : flagstoneref06_without.f l0 a1_0 a1_1 = some r) :
    Calls Try.prog 134 #[.slice A0 l0.length c0, .agg #[.int .i64 a1_0, .int .i64 a1_1]] w fun e w' => ∃ v0_ : Value, e = .returned (v0_) ∧ Kd.R k40 40 w' w.heap.size (fun _ => True) v0_ r ∧ Below w.heap.size w w' := by
  have hu40 := Try.underlying40
  unfold flagstoneref06_without.f at h
  split at h
  · rename_i hlen
    obtain rfl := Option.some.inj h
    obtain ⟨n, hnn⟩ : ∃ n, n = l0.length := ⟨_, rfl⟩
    obtain ⟨W0, hW0⟩ : ∃ W, W = w.alloc (.cells #[.int .i64 a1_0, .int .i64 a1_1] 40) := ⟨_, rfl⟩
    have hb0 : Below w.heap.size w W0 := by rw [hW0]; exact (Below.refl w.heap.size w).alloc (Nat.le_refl _) _
    have hx0 : W0.heap[w.heap.size]? = some (.cells #[.int .i64 a1_0, .int .i64 a1_1] 40 (0, 0)) := by rw [hW0]; exact blk_new w _
    have HR0 := Aside0.mk hr0
    have HNN := Aside0.mk hnn
    have HLEN := Aside0.mk (show n ≤ 4096 by rw [hnn]; exact hlen)
    have HW0 := Aside0.mk hW0
    have HB0 := Aside0.mk hb0
    have HX0 := Aside0.mk hx0
    rw [← hnn]
    clear hr0 hc0 h hlen hnn hW0 hb0 hx0
    go_enter Try.func134, Try.ntmps134
    go_wp2_with fail
    rw [← HW0.out]
    go_loopg [5, 6] n (fun gk v5 v6 W => ∃ (i : Int) (o : List S40), v6 = .int .i64 i ∧ Aside0 (0 ≤ i ∧ i + gk = n) ∧ Aside0 (o = (l0.take i.toNat).flatMap (cutG ⟨a1_0, a1_1⟩)) ∧ Aside0 (Kd.R k40 40 W w.heap.size (fun k => k ≠ w.heap.size) v5 o) ∧ Aside0 (Below w.heap.size w W ∧ W.heap[w.heap.size]? = some (.cells #[.int .i64 a1_0, .int .i64 a1_1] 40 (0, 0))))
    case atStart => exact ⟨0, [], rfl, ⟨Int.le_refl _, by simp⟩, ⟨by simp⟩, ⟨Kd.R_nil _ _ _ _ _⟩, ⟨⟨HB0.out, HX0.out⟩⟩⟩
    case round =>
      obtain ⟨i, o, rfl, HI, HOE, HO, HS⟩ := hrel
      obtain ⟨Ao, co, rfl⟩ := Kd.R_slice HO.out
      obtain ⟨no, hno⟩ : ∃ m, m = o.length := ⟨_, rfl⟩
      rw [← hno] at HO ⊢
      have hol : (no : Int) ≤ 8192 := by
        have h1 := cutG_all ⟨a1_0, a1_1⟩ (l0.take i.toNat)
        rw [← HOE.out, ← hno, List.length_take] at h1
        have h2 := HLEN.out
        rw [HNN.out] at h2
        omega
      have HNO := Aside0.mk hno
      have HOL := Aside0.mk hol
      clear hno hol
      cases gk with
      | zero =>
        have hi : i = n := by have := HI.out.2; omega
        have hd : decide (i < (n : Int)) = false := decide_eq_false (by omega)
        have hoe : o = l0.flatMap (cutG ⟨a1_0, a1_1⟩) := by rw [HOE.out, hi, Int.toNat_natCast, HNN.out, List.take_length]
        have HE := Aside0.mk hoe
        clear hi hoe
        go_wp2
        go_ret
        refine ⟨_, rfl, ?_, HS.out.1⟩
        rw [← HE.out]
        exact Kd.R_mono HO.out (fun _ _ => trivial)
      | succ k1 =>
        have hp0 : 0 ≤ i := HI.out.1
        have hp1 : i < (n : Int) := by have := HI.out.2; omega
        have hd : decide (i < (n : Int)) = true := decide_eq_true hp1
        have hC : Kd.C k40 wr A0 l0.length l0 := Kd.C_below HR0.out HS.out.1
        obtain ⟨ad, e3, g0, g1⟩ := at_T40 hC i hp0 (by rw [← HNN.out]; exact hp1)
        cases e3
        obtain ⟨y, hy⟩ : ∃ y, y = rd_T40 l0 i := ⟨_, rfl⟩
        rw [← hy] at g0 g1
        have hst : (l0.take (i + 1).toNat).flatMap (cutG ⟨a1_0, a1_1⟩) = o ++ cutG ⟨a1_0, a1_1⟩ y := by
          have h3 : (i + 1).toNat = i.toNat + 1 := by omega
          have h4 : i.toNat < l0.length := by rw [← HNN.out]; omega
          have h5 : y = l0[i.toNat] := by rw [hy]; unfold rd_T40; rw [List.getD_eq_getElem?_getD, List.getElem?_eq_getElem h4]; rfl
          rw [h3, List.take_succ_eq_append_getElem h4, List.flatMap_append, ← h5, HOE.out]
          simp
        have HST := Aside0.mk hst
        have HP := Aside0.mk (And.intro hp0 hp1)
        have hwi : IntKind.i64.wrap (i + 1) = i + 1 := IntWalk.i64_in _ (by have := HLEN.out; omega)
        have hwi2 : wrap64 (i + 1) = i + 1 := w64 (by have := HLEN.out; omega)
        have HY := Aside0.mk hy
        clear hy hC hst
        have x0 : wr.cell? ⟨w.heap.size, 0, none⟩ = some (.int .i64 a1_0) := (blk_cell HS.out.2 0).trans rfl
        have x1 : wr.cell? ⟨w.heap.size, 1, none⟩ = some (.int .i64 a1_1) := (blk_cell HS.out.2 1).trans rfl
        obtain ⟨s1, hs1⟩ : ∃ s : Int, s = wrap64 (y.f0 + y.f1) := ⟨_, rfl⟩
        have hs1w : IntKind.i64.wrap (y.f0 + y.f1) = s1 := by rw [hs1]; exact IntWalk.i64_left _
        have hs1w2 : wrap64 (y.f0 + y.f1) = s1 := hs1.symm
        obtain ⟨s2, hs2⟩ : ∃ s : Int, s = wrap64 (a1_0 + a1_1) := ⟨_, rfl⟩
        have hs2w : IntKind.i64.wrap (a1_0 + a1_1) = s2 := by rw [hs2]; exact IntWalk.i64_left _
        have hs2w2 : wrap64 (a1_0 + a1_1) = s2 := hs2.symm
        obtain ⟨lo, hlo⟩ : ∃ m : Int, m = mx y.f0 a1_0 := ⟨_, rfl⟩
        have hlo' : (if y.f0 < a1_0 then a1_0 else y.f0) = lo := hlo.symm
        obtain ⟨hi, hhi⟩ : ∃ m : Int, m = mn s1 s2 := ⟨_, rfl⟩
        have hhi' : (if s2 < s1 then s2 else s1) = hi := hhi.symm
        obtain ⟨d1, hd1⟩ : ∃ s : Int, s = wrap64 (lo - y.f0) := ⟨_, rfl⟩
        have hd1w : IntKind.i64.wrap (lo - y.f0) = d1 := by rw [hd1]; exact IntWalk.i64_left _
        have hd1w2 : wrap64 (lo - y.f0) = d1 := hd1.symm
        obtain ⟨d2, hd2⟩ : ∃ s : Int, s = wrap64 (s1 - hi) := ⟨_, rfl⟩
        have hd2w : IntKind.i64.wrap (s1 - hi) = d2 := by rw [hd2]; exact IntWalk.i64_left _
        have hd2w2 : wrap64 (s1 - hi) = d2 := hd2.symm
        have hcg : cutG ⟨a1_0, a1_1⟩ y = if hi ≤ lo then [y] else (if y.f0 < lo then [⟨y.f0, d1⟩] else []) ++ (if hi < s1 then [⟨hi, d2⟩] else []) := by
          unfold cutG
          show (if mn (wrap64 (y.f0 + y.f1)) (wrap64 (a1_0 + a1_1)) ≤ mx y.f0 a1_0 then [y] else (if y.f0 < mx y.f0 a1_0 then [⟨y.f0, wrap64 (mx y.f0 a1_0 - y.f0)⟩] else []) ++ (if mn (wrap64 (y.f0 + y.f1)) (wrap64 (a1_0 + a1_1)) < wrap64 (y.f0 + y.f1) then [⟨mn (wrap64 (y.f0 + y.f1)) (wrap64 (a1_0 + a1_1)), wrap64 (wrap64 (y.f0 + y.f1) - mn (wrap64 (y.f0 + y.f1)) (wrap64 (a1_0 + a1_1)))⟩] else [])) = _
          rw [← hs1, ← hs2, ← hlo, ← hhi, ← hd1, ← hd2]
        have HCG := Aside0.mk hcg
        clear hcg hs1 hs2 hlo hhi hd1 hd2
        go_wp2_with fail
        go_quiet (fail)
        obtain ⟨W1, hW1⟩ : ∃ W, W = wr.drewN nq := ⟨_, rfl⟩
        rw [← hW1]
        have HO1 := Aside0.mk (show Kd.R k40 40 W1 w.heap.size (fun k => k ≠ w.heap.size) (.slice Ao no co) o by rw [hW1]; exact Kd.R_drewN HO.out nq)
        have HB1 := Aside0.mk (show Below w.heap.size w W1 by rw [hW1]; exact pw_below_drewN HS.out.1 nq)
        have HX1 := Aside0.mk (show W1.heap[w.heap.size]? = some (.cells #[.int .i64 a1_0, .int .i64 a1_1] 40 (0, 0)) by rw [hW1]; exact HS.out.2)
        have HG1 := Aside0.mk (show W1.cell? (ad.add (i.toNat * 2)) = some (.int .i64 y.f0) ∧ W1.cell? ⟨(ad.add (i.toNat * 2)).block, (ad.add (i.toNat * 2)).off + 1, none⟩ = some (.int .i64 y.f1) by rw [hW1]; exact ⟨g0, g1⟩)
        have HSZ1 := Aside0.mk (show w.heap.size < W1.heap.size from blk_lt HX1.out)
        clear hW1 g0 g1 x0 x1 hs2w hs2w2 hlo' hhi'
        have g0 := HG1.out.1
        have g1 := HG1.out.2
        by_cases c1 : hi ≤ lo
        · have hdc : decide (hi ≤ lo) = true := decide_eq_true c1
          have HC1 := Aside0.mk c1
          obtain ⟨os, hos⟩ : ∃ os, os = o ++ [(⟨y.f0, y.f1⟩ : S40)] := ⟨_, rfl⟩
          have HOS := Aside0.mk hos
          clear hos hd1w hd1w2 hd2w hd2w2 hs1w hs1w2
          go_wp2_with (first | ((with_reducible refine gate_builtin (b := .append) (xs := #[.tmp 43, .tmp 48]) rfl ?_); at_builtin; refine Kd.R_append k40 (w0 := w) w.heap.size rfl (.tmp 43) (.tmp 48) 54 40 (.agg #[(.int .i64 0), (.int .i64 0)]) 16 rfl Try.underlying54 info40 rfl (by decide) (by omega) (.slice Ao no co) o (⟨y.f0, y.f1⟩ : S40) [.int .i64 ((⟨y.f0, y.f1⟩ : S40) : S40).f0, .int .i64 ((⟨y.f0, y.f1⟩ : S40) : S40).f1] (fun k => k ≠ w.heap.size) (fun _ => False) rfl (by first | (go_simp; done) | (go_simp; rfl)) ?aP (fun _ hk => hk.elim) ?aF ?aO ?aB ?aS ?aL ?_; (case aP => exact k40_mkM _ _ _ ((⟨y.f0, y.f1⟩ : S40) : S40)); (case aF => exact (fun k hk => Nat.ne_of_gt (Nat.lt_of_lt_of_le HSZ1.out hk))); (case aO => exact HO1.out); (case aB => exact HB1.out); (case aS => exact (HB1.out).size); (case aL => exact (by rw [← HNO.out]; have := HOL.out; omega)); intro v1 w8 ho hb hg hat; rw [← HOS.out] at ho; obtain ⟨A8, c8, rfl⟩ := Kd.R_slice ho; have HO8 := Aside0.mk ho; have HB8 := Aside0.mk hb; have HG8 := Aside0.mk (hg.block w.heap.size); clear ho hb hg hat))
          go_roundg k1
          case measure => omega
          case rel =>
            refine ⟨i + 1, os, by first | rfl | (simp; done) | go_num, ⟨by have := HP.out.1; omega, by have := HI.out.2; omega⟩, ⟨?_⟩, ⟨HO8.out⟩, ⟨⟨HB8.out, ?_⟩⟩⟩
            · rw [HST.out, HCG.out, if_pos HC1.out, HOS.out]
            · exact (HG8.out HSZ1.out (fun e => HO1.out.1 w.heap.size e.symm rfl)).trans HX1.out
        · have hdc : decide (hi ≤ lo) = false := decide_eq_false c1
          have HC1 := Aside0.mk c1
          by_cases c2 : y.f0 < lo
          · have hdc2 : decide (y.f0 < lo) = true := decide_eq_true c2
            have HC2 := Aside0.mk c2
            obtain ⟨op, hop⟩ : ∃ os, os = o ++ [(⟨y.f0, d1⟩ : S40)] := ⟨_, rfl⟩
            have hopl : (op.length : Int) = no + 1 := by rw [hop, List.length_append, List.length_singleton, HNO.out]; omega
            have HOP := Aside0.mk hop
            obtain ⟨nop, hnop⟩ : ∃ m, m = op.length := ⟨_, rfl⟩
            have HNOP := Aside0.mk hnop
            have HOPL := Aside0.mk (show (nop : Int) ≤ 8193 by rw [hnop, hopl]; have := HOL.out; omega)
            clear hop hopl hnop
            have g0d : ({ heap := W1.heap, tape := W1.tape, drawn := W1.drawn + 1, os := W1.os, output := W1.output } : World).cell? (ad.add (i.toNat * 2)) = some (.int .i64 y.f0) := g0
            have g1d : ({ heap := W1.heap, tape := W1.tape, drawn := W1.drawn + 1, os := W1.os, output := W1.output } : World).cell? ⟨(ad.add (i.toNat * 2)).block, (ad.add (i.toNat * 2)).off + 1, none⟩ = some (.int .i64 y.f1) := g1
            go_wp2_with fail
            have hde : IntKind.i64.wrap (lo - y.f0) = d1 := hd1w
            refine start_ (n := 17) (S := fun w' => w'.cell? (ad.add (i.toNat * 2)) = some (.int .i64 y.f0) ∧ w'.cell? ⟨(ad.add (i.toNat * 2)).block, (ad.add (i.toNat * 2)).off + 1, none⟩ = some (.int .i64 y.f1)) (ds := []) (lb 17 0) (by kernel_rfl) rfl (by kernel_rfl) ⟨g0, g1⟩ (fun hHeld => ?_)
            refine with_tabW wo_tab9 wo_bits9 (fun HT_ HW_ => ?_)
            have HOd := Aside0.mk (Kd.R_drew HO1.out)
            have HBd := Aside0.mk (below_drew HB1.out)
            have HXd := Aside0.mk (show W1.drew.heap[w.heap.size]? = some (.cells #[.int .i64 a1_0, .int .i64 a1_1] 40 (0, 0)) from HX1.out)
            have HZd := Aside0.mk (show w.heap.size < W1.drew.heap.size from HSZ1.out)
            generalize W1.drew = Wd at HOd HBd HXd HZd hHeld ⊢
            clear g0 g1
            have g0 := hHeld.1
            have g1 := hHeld.2
            refine pu_ 0 57 17 1 ?_
            refine pu_ 1 58 17 3 ?_
            refine pu_ 2 59 17 7 ?_
            refine pu_ 3 60 17 15 ?_
            refine pu_ 4 61 17 31 ?_
            refine pu_ 6 63 17 95 ?_
            refine pu_ 7 64 17 223 ?_
            refine pu_ 8 65 17 479 ?_
            refine pu_ 9 66 17 991 ?_
            refine pu_ 10 67 17 2015 ?_
            refine tk_ 5 62 17 2047 ?_
            refine tk_ 11 68 17 4095 ?_
            refine pu_ 12 69 17 8191 ?_
            refine pu_ 13 70 17 16383 ?_
            refine on_ 14 71 17 32767 (fun K hK => ?_)
            refine value_ (w1 := ?_) (v := ?_) (by rfl) rfl ?_ ?_
            rotate_left 2
            · go_simp
              constructor
              · rfl
              · rfl
            refine hK.out _ _ ⟨(World.cell?_alloc_lt _ _ _ (World.block_lt_of_cell? _ _ g0)).trans g0, (World.cell?_alloc_lt _ _ _ (World.block_lt_of_cell? _ _ g1)).trans g1⟩ (fun hHeld => ?_)
            clear hK K
            refine nm_ 71 ?_
            refine on_ 15 72 17 65535 (fun K hK => ?_)
            refine Kd.R_append_step k40 (w0 := w) w.heap.size (by rfl) (.tmp 57) (.tmp 71) 54 40 (.agg #[(.int .i64 0), (.int .i64 0)]) 16 rfl Try.underlying54 info40 rfl (by decide) (by omega) (.slice Ao no co) o (⟨y.f0, d1⟩ : S40) [.int .i64 y.f0, .int .i64 d1] (fun k => k ≠ w.heap.size) (fun _ => False) rfl rfl ?aP (fun _ hk => hk.elim) ?aF ?aO ?aB ?aS ?aL ?_
            (case aP => exact k40_mkM _ _ _ (⟨y.f0, d1⟩ : S40))
            (case aF => exact (fun k hk => Nat.ne_of_gt (Nat.lt_of_lt_of_le HZd.out hk)))
            (case aO => exact HOd.out)
            (case aB => exact HBd.out)
            (case aS => exact HBd.out.size)
            (case aL => exact (by rw [← HNO.out]; have := HOL.out; omega))
            intro v1 w8 ho hb hg hat
            rw [← HOP.out] at ho
            obtain ⟨A8, c8, rfl⟩ := Kd.R_slice ho
            rw [← HNOP.out] at ho ⊢
            have HO8 := Aside0.mk ho
            have HB8 := Aside0.mk hb
            have HG8 := Aside0.mk (hg.block w.heap.size)
            clear ho hb hg hat
            have HX8 := Aside0.mk (show w8.heap[w.heap.size]? = some (.cells #[.int .i64 a1_0, .int .i64 a1_1] 40 (0, 0)) from (HG8.out HZd.out (fun e => HOd.out.1 w.heap.size e.symm rfl)).trans HXd.out)
            clear g0 g1 hHeld
            obtain ⟨ad8, e8, g0, g1⟩ := at_T40 (Kd.C_below HR0.out HB8.out) i HP.out.1 (by rw [← HNN.out]; exact HP.out.2)
            rw [← Option.some.inj e8, ← HY.out] at g0 g1
            clear e8
            have HG8a := Aside0.mk (And.intro g0 g1)
            refine hK.out _ _ ⟨g0, g1⟩ (fun hHeld => ?_)
            clear hK K
            refine nm_ 72 ?_
            refine pu_ 16 5 17 131071 ?_
            refine done_ (done_of HT_.out (by kernel_rfl)) ?_
            clear hde hd1w hd1w2
            go_wp2_with fail
            go_quiet (fail)
            obtain ⟨W5, hW5⟩ : ∃ W, W = (w8).drewN nq := ⟨_, rfl⟩
            rw [← hW5]
            have HO5 := Aside0.mk (show Kd.R k40 40 W5 w.heap.size (fun k => k ≠ w.heap.size) (.slice A8 nop c8) op by rw [hW5]; exact Kd.R_drewN HO8.out nq)
            have HB5 := Aside0.mk (show Below w.heap.size w W5 by rw [hW5]; exact pw_below_drewN HB8.out nq)
            have HX5 := Aside0.mk (show W5.heap[w.heap.size]? = some (.cells #[.int .i64 a1_0, .int .i64 a1_1] 40 (0, 0)) by rw [hW5]; exact HX8.out)
            have HG5 := Aside0.mk (show W5.cell? (ad.add (i.toNat * 2)) = some (.int .i64 y.f0) ∧ W5.cell? ⟨(ad.add (i.toNat * 2)).block, (ad.add (i.toNat * 2)).off + 1, none⟩ = some (.int .i64 y.f1) by rw [hW5]; exact ⟨HG8a.out.1, HG8a.out.2⟩)
            have HSZ5 := Aside0.mk (show w.heap.size < W5.heap.size from blk_lt HX5.out)
            clear hW5 g0 g1
            have g0 := HG5.out.1
            have g1 := HG5.out.2
            by_cases c3 : hi < s1
            · have hdk : decide (hi < s1) = true := decide_eq_true c3
              have HC3 := Aside0.mk c3
              obtain ⟨os, hos⟩ : ∃ os, os = op ++ [(⟨hi, d2⟩ : S40)] := ⟨_, rfl⟩
              have HOS := Aside0.mk hos
              clear hos
              have g0d : ({ heap := W5.heap, tape := W5.tape, drawn := W5.drawn + 1, os := W5.os, output := W5.output } : World).cell? (ad.add (i.toNat * 2)) = some (.int .i64 y.f0) := g0
              have g1d : ({ heap := W5.heap, tape := W5.tape, drawn := W5.drawn + 1, os := W5.os, output := W5.output } : World).cell? ⟨(ad.add (i.toNat * 2)).block, (ad.add (i.toNat * 2)).off + 1, none⟩ = some (.int .i64 y.f1) := g1
              go_wp2_with fail
              refine start_ (n := 19) (S := fun w' => w'.cell? (ad.add (i.toNat * 2)) = some (.int .i64 y.f0) ∧ w'.cell? ⟨(ad.add (i.toNat * 2)).block, (ad.add (i.toNat * 2)).off + 1, none⟩ = some (.int .i64 y.f1)) (ds := []) (lb 19 0) (by kernel_rfl) rfl (by kernel_rfl) ⟨g0, g1⟩ (fun hHeld => ?_)
              refine with_tabW wo_tab11 wo_bits11 (fun HT_ HW_ => ?_)
              have HOd := Aside0.mk (Kd.R_drew HO5.out)
              have HBd := Aside0.mk (below_drew HB5.out)
              have HXd := Aside0.mk (show W5.drew.heap[w.heap.size]? = some (.cells #[.int .i64 a1_0, .int .i64 a1_1] 40 (0, 0)) from HX5.out)
              have HZd := Aside0.mk (show w.heap.size < W5.drew.heap.size from HSZ5.out)
              generalize W5.drew = Wd at HOd HBd HXd HZd hHeld ⊢
              clear g0 g1
              have g0 := hHeld.1
              have g1 := hHeld.2
              refine pu_ 0 86 19 1 ?_
              refine pu_ 1 87 19 3 ?_
              refine pu_ 2 88 19 7 ?_
              refine pu_ 3 89 19 15 ?_
              refine pu_ 4 90 19 31 ?_
              refine pu_ 5 91 19 63 ?_
              refine pu_ 7 93 19 191 ?_
              refine pu_ 8 94 19 447 ?_
              refine pu_ 9 95 19 959 ?_
              refine pu_ 10 96 19 1983 ?_
              refine pu_ 13 99 19 10175 ?_
              refine tk_ 6 92 19 10239 ?_
              refine tk_ 11 97 19 12287 ?_
              refine pu_ 12 98 19 16383 ?_
              refine pu_ 14 100 19 32767 ?_
              refine pu_ 15 101 19 65535 ?_
              refine on_ 16 102 19 131071 (fun K hK => ?_)
              refine value_ (w1 := ?_) (v := ?_) (by rfl) rfl ?_ ?_
              rotate_left 2
              · go_simp
                constructor
                · rfl
                · rfl
              refine hK.out _ _ ⟨(World.cell?_alloc_lt _ _ _ (World.block_lt_of_cell? _ _ g0)).trans g0, (World.cell?_alloc_lt _ _ _ (World.block_lt_of_cell? _ _ g1)).trans g1⟩ (fun hHeld => ?_)
              clear hK K
              refine nm_ 102 ?_
              refine on_ 17 103 19 262143 (fun K hK => ?_)
              refine Kd.R_append_step k40 (w0 := w) w.heap.size (by rfl) (.tmp 86) (.tmp 102) 54 40 (.agg #[(.int .i64 0), (.int .i64 0)]) 16 rfl Try.underlying54 info40 rfl (by decide) (by omega) (.slice A8 nop c8) op (⟨hi, d2⟩ : S40) [.int .i64 hi, .int .i64 d2] (fun k => k ≠ w.heap.size) (fun _ => False) rfl rfl ?aP (fun _ hk => hk.elim) ?aF ?aO ?aB ?aS ?aL ?_
              (case aP => exact k40_mkM _ _ _ (⟨hi, d2⟩ : S40))
              (case aF => exact (fun k hk => Nat.ne_of_gt (Nat.lt_of_lt_of_le HZd.out hk)))
              (case aO => exact HOd.out)
              (case aB => exact HBd.out)
              (case aS => exact HBd.out.size)
              (case aL => exact (by rw [← HNOP.out]; have := HOPL.out; omega))
              intro v1 w9 ho hb hg hat
              rw [← HOS.out] at ho
              obtain ⟨A9, c9, rfl⟩ := Kd.R_slice ho
              have HO9 := Aside0.mk ho
              have HB9 := Aside0.mk hb
              have HG9 := Aside0.mk (hg.block w.heap.size)
              clear ho hb hg hat
              have HX9 := Aside0.mk (show w9.heap[w.heap.size]? = some (.cells #[.int .i64 a1_0, .int .i64 a1_1] 40 (0, 0)) from (HG9.out HZd.out (fun e => HOd.out.1 w.heap.size e.symm rfl)).trans HXd.out)
              clear g0 g1 hHeld
              obtain ⟨ad9, e9, g0, g1⟩ := at_T40 (Kd.C_below HR0.out HB9.out) i HP.out.1 (by rw [← HNN.out]; exact HP.out.2)
              rw [← Option.some.inj e9, ← HY.out] at g0 g1
              clear e9
              refine hK.out _ _ ⟨g0, g1⟩ (fun hHeld => ?_)
              clear hK K
              refine nm_ 103 ?_
              refine pu_ 18 5 19 524287 ?_
              refine done_ (done_of HT_.out (by kernel_rfl)) ?_
              clear hs1w hs1w2 hd2w hd2w2
              go_wp2_with fail
              go_roundg k1
              case measure => omega
              case rel =>
                refine ⟨i + 1, os, by first | rfl | (simp; done) | go_num, ⟨by have := HP.out.1; omega, by have := HI.out.2; omega⟩, ⟨?_⟩, ⟨HO9.out⟩, ⟨⟨HB9.out, ?_⟩⟩⟩
                · rw [HST.out, HCG.out, if_neg (by have := HC1.out; omega), if_pos HC2.out, if_pos HC3.out, HOS.out, HOP.out, List.append_assoc]
                · exact HX9.out
            · have hdk : decide (hi < s1) = false := decide_eq_false c3
              have HC3 := Aside0.mk c3
              clear hs1w hs1w2 hd2w hd2w2
              go_wp2_with fail
              go_roundg k1
              case measure => omega
              case rel =>
                refine ⟨i + 1, op, by first | rfl | (simp; done) | go_num, ⟨by have := HP.out.1; omega, by have := HI.out.2; omega⟩, ⟨?_⟩, ⟨HO5.out⟩, ⟨⟨HB5.out, HX5.out⟩⟩⟩
                rw [HST.out, HCG.out, if_neg (by have := HC1.out; omega), if_pos HC2.out, if_neg (by have := HC3.out; omega), HOP.out, List.append_nil]
          · have hdc2 : decide (y.f0 < lo) = false := decide_eq_false c2
            have HC2 := Aside0.mk c2
            clear hd1w hd1w2
            go_wp2_with fail
            go_quiet (fail)
            obtain ⟨W5, hW5⟩ : ∃ W, W = (W1).drewN nq := ⟨_, rfl⟩
            rw [← hW5]
            have HO5 := Aside0.mk (show Kd.R k40 40 W5 w.heap.size (fun k => k ≠ w.heap.size) (.slice Ao no co) o by rw [hW5]; exact Kd.R_drewN HO1.out nq)
            have HB5 := Aside0.mk (show Below w.heap.size w W5 by rw [hW5]; exact pw_below_drewN HB1.out nq)
            have HX5 := Aside0.mk (show W5.heap[w.heap.size]? = some (.cells #[.int .i64 a1_0, .int .i64 a1_1] 40 (0, 0)) by rw [hW5]; exact HX1.out)
            have HG5 := Aside0.mk (show W5.cell? (ad.add (i.toNat * 2)) = some (.int .i64 y.f0) ∧ W5.cell? ⟨(ad.add (i.toNat * 2)).block, (ad.add (i.toNat * 2)).off + 1, none⟩ = some (.int .i64 y.f1) by rw [hW5]; exact ⟨HG1.out.1, HG1.out.2⟩)
            have HSZ5 := Aside0.mk (show w.heap.size < W5.heap.size from blk_lt HX5.out)
            clear hW5 g0 g1
            have g0 := HG5.out.1
            have g1 := HG5.out.2
            by_cases c3 : hi < s1
            · have hdk : decide (hi < s1) = true := decide_eq_true c3
              have HC3 := Aside0.mk c3
              obtain ⟨os, hos⟩ : ∃ os, os = o ++ [(⟨hi, d2⟩ : S40)] := ⟨_, rfl⟩
              have HOS := Aside0.mk hos
              clear hos
              have g0d : ({ heap := W5.heap, tape := W5.tape, drawn := W5.drawn + 1, os := W5.os, output := W5.output } : World).cell? (ad.add (i.toNat * 2)) = some (.int .i64 y.f0) := g0
              have g1d : ({ heap := W5.heap, tape := W5.tape, drawn := W5.drawn + 1, os := W5.os, output := W5.output } : World).cell? ⟨(ad.add (i.toNat * 2)).block, (ad.add (i.toNat * 2)).off + 1, none⟩ = some (.int .i64 y.f1) := g1
              go_wp2_with fail
              refine start_ (n := 19) (S := fun w' => w'.cell? (ad.add (i.toNat * 2)) = some (.int .i64 y.f0) ∧ w'.cell? ⟨(ad.add (i.toNat * 2)).block, (ad.add (i.toNat * 2)).off + 1, none⟩ = some (.int .i64 y.f1)) (ds := []) (lb 19 0) (by kernel_rfl) rfl (by kernel_rfl) ⟨g0, g1⟩ (fun hHeld => ?_)
              refine with_tabW wo_tab11 wo_bits11 (fun HT_ HW_ => ?_)
              have HOd := Aside0.mk (Kd.R_drew HO5.out)
              have HBd := Aside0.mk (below_drew HB5.out)
              have HXd := Aside0.mk (show W5.drew.heap[w.heap.size]? = some (.cells #[.int .i64 a1_0, .int .i64 a1_1] 40 (0, 0)) from HX5.out)
              have HZd := Aside0.mk (show w.heap.size < W5.drew.heap.size from HSZ5.out)
              generalize W5.drew = Wd at HOd HBd HXd HZd hHeld ⊢
              clear g0 g1
              have g0 := hHeld.1
              have g1 := hHeld.2
              refine pu_ 0 86 19 1 ?_
              refine pu_ 1 87 19 3 ?_
              refine pu_ 2 88 19 7 ?_
              refine pu_ 3 89 19 15 ?_
              refine pu_ 4 90 19 31 ?_
              refine pu_ 5 91 19 63 ?_
              refine pu_ 7 93 19 191 ?_
              refine pu_ 8 94 19 447 ?_
              refine pu_ 9 95 19 959 ?_
              refine pu_ 10 96 19 1983 ?_
              refine pu_ 13 99 19 10175 ?_
              refine tk_ 6 92 19 10239 ?_
              refine tk_ 11 97 19 12287 ?_
              refine pu_ 12 98 19 16383 ?_
              refine pu_ 14 100 19 32767 ?_
              refine pu_ 15 101 19 65535 ?_
              refine on_ 16 102 19 131071 (fun K hK => ?_)
              refine value_ (w1 := ?_) (v := ?_) (by rfl) rfl ?_ ?_
              rotate_left 2
              · go_simp
                constructor
                · rfl
                · rfl
              refine hK.out _ _ ⟨(World.cell?_alloc_lt _ _ _ (World.block_lt_of_cell? _ _ g0)).trans g0, (World.cell?_alloc_lt _ _ _ (World.block_lt_of_cell? _ _ g1)).trans g1⟩ (fun hHeld => ?_)
              clear hK K
              refine nm_ 102 ?_
              refine on_ 17 103 19 262143 (fun K hK => ?_)
              refine Kd.R_append_step k40 (w0 := w) w.heap.size (by rfl) (.tmp 86) (.tmp 102) 54 40 (.agg #[(.int .i64 0), (.int .i64 0)]) 16 rfl Try.underlying54 info40 rfl (by decide) (by omega) (.slice Ao no co) o (⟨hi, d2⟩ : S40) [.int .i64 hi, .int .i64 d2] (fun k => k ≠ w.heap.size) (fun _ => False) rfl rfl ?aP (fun _ hk => hk.elim) ?aF ?aO ?aB ?aS ?aL ?_
              (case aP => exact k40_mkM _ _ _ (⟨hi, d2⟩ : S40))
              (case aF => exact (fun k hk => Nat.ne_of_gt (Nat.lt_of_lt_of_le HZd.out hk)))
              (case aO => exact HOd.out)
              (case aB => exact HBd.out)
              (case aS => exact HBd.out.size)
              (case aL => exact (by rw [← HNO.out]; have := HOL.out; omega))
              intro v1 w9 ho hb hg hat
              rw [← HOS.out] at ho
              obtain ⟨A9, c9, rfl⟩ := Kd.R_slice ho
              have HO9 := Aside0.mk ho
              have HB9 := Aside0.mk hb
              have HG9 := Aside0.mk (hg.block w.heap.size)
              clear ho hb hg hat
              have HX9 := Aside0.mk (show w9.heap[w.heap.size]? = some (.cells #[.int .i64 a1_0, .int .i64 a1_1] 40 (0, 0)) from (HG9.out HZd.out (fun e => HOd.out.1 w.heap.size e.symm rfl)).trans HXd.out)
              clear g0 g1 hHeld
              obtain ⟨ad9, e9, g0, g1⟩ := at_T40 (Kd.C_below HR0.out HB9.out) i HP.out.1 (by rw [← HNN.out]; exact HP.out.2)
              rw [← Option.some.inj e9, ← HY.out] at g0 g1
              clear e9
              refine hK.out _ _ ⟨g0, g1⟩ (fun hHeld => ?_)
              clear hK K
              refine nm_ 103 ?_
              refine pu_ 18 5 19 524287 ?_
              refine done_ (done_of HT_.out (by kernel_rfl)) ?_
              clear hs1w hs1w2 hd2w hd2w2
              go_wp2_with fail
              go_roundg k1
              case measure => omega
              case rel =>
                refine ⟨i + 1, os, by first | rfl | (simp; done) | go_num, ⟨by have := HP.out.1; omega, by have := HI.out.2; omega⟩, ⟨?_⟩, ⟨HO9.out⟩, ⟨⟨HB9.out, ?_⟩⟩⟩
                · rw [HST.out, HCG.out, if_neg (by have := HC1.out; omega), if_neg (by have := HC2.out; omega), List.nil_append, if_pos HC3.out, HOS.out]
                  try rfl
                · exact HX9.out
            · have hdk : decide (hi < s1) = false := decide_eq_false c3
              have HC3 := Aside0.mk c3
              clear hs1w hs1w2 hd2w hd2w2
              go_wp2_with fail
              go_roundg k1
              case measure => omega
              case rel =>
                refine ⟨i + 1, o, by first | rfl | (simp; done) | go_num, ⟨by have := HP.out.1; omega, by have := HI.out.2; omega⟩, ⟨?_⟩, ⟨HO5.out⟩, ⟨⟨HB5.out, HX5.out⟩⟩⟩
                rw [HST.out, HCG.out, if_neg (by have := HC1.out; omega), if_neg (by have := HC2.out; omega), List.nil_append, if_neg (by have := HC3.out; omega)]
                rw [List.append_nil]
  · cases h
end Go.Proofs.Ytkkfkdncddbaeaa.Fn
namespace Go.Proofs.Ytkkfkdncddbaeaa.Fn
open Go.RowKit Go.Proofs.YtkkfkdncddbaeaaW.PrintWords Go.Proofs.YtkkfkdncddbaeaaW.PrintLast Go.Proofs.YtkkfkdncddbaeaaW.PrintMore
attribute [local go_sem] max2_int min2_int max_two min_two max_three min_three max_four min_four
set_option linter.unusedVariables false
set_option linter.unusedSimpArgs false
def flagstoneref06_Resize.j0 : Nat → Int → Int → Bool → Int → List (S40) → Option (Int × (List (S40)) × Int)
 | 0, _, _, _, _, _ => none
 | k + 1, x1, x6, x19, x102000, x102001 => if x19 = true then (some (0, ([] : List (S40)), 4)) else (if x1 < x6 then (some (0, ([] : List (S40)), 72)) else (if x1 < x102000 then ((flagstoneref06_without.f x102001 x1 (wrap64 (x102000 - x1))).bind fun t105 => (some (x1, t105, 0))) else (if x1 = x102000 then ((flagstoneref06_Own.f x102000 x102001).bind fun bt108 => (some (bt108.1, bt108.2, 0))) else ((flagstoneref06_with.f k x102001 x102000 (wrap64 (x1 - x102000))).bind fun t112 => (if (t112.length : Int) > 1024 then (some (0, ([] : List (S40)), 51)) else (some (x1, t112, 0)))))))
def flagstoneref06_Resize.f (k : Nat) (a0_0 : Int) (l0_1 : List (S40)) (a1 : Int) : Option (Int × (List (S40)) × Int) := (flagstoneref06_Highest.f k a0_0 l0_1).bind fun bt103 => (if bt103.2 = 0 then (if a1 < 0 then (flagstoneref06_Resize.j0 k a1 bt103.1 true a0_0 l0_1) else (flagstoneref06_Resize.j0 k a1 bt103.1 (decide (a1 > 65536)) a0_0 l0_1)) else (some (0, ([] : List (S40)), bt103.2)))
theorem flagstoneref06_Resize.mono_l : ∀ k, (∀ y0 y1 y2 y3 y4, LeO (flagstoneref06_Resize.j0 k y0 y1 y2 y3 y4) (flagstoneref06_Resize.j0 (k + 1) y0 y1 y2 y3 y4))
 | 0 => fun _ _ _ _ _ r h => by simp [flagstoneref06_Resize.j0] at h
 | k + 1 => by
  have ih0 := flagstoneref06_Resize.mono_l k
  ·intro y0 y1 y2 y3 y4
   unfold flagstoneref06_Resize.j0
   repeat' first
   | (with_reducible exact ih0 _ _ _ _ _)
   | (with_reducible exact flagstoneref06_Highest.mono _ _ _)
   | (with_reducible exact flagstoneref06_with.mono _ _ _ _)
   | (with_reducible exact LeO.refl _)
   | (with_reducible exact LeO.none _)
   | (with_reducible refine LeO.ite ?_ ?_)
   | (with_reducible refine LeO.bind ?_ (fun _ => ?_))
   | exact ih0 _ _ _ _ _
   | exact flagstoneref06_Highest.mono _ _ _
   | exact flagstoneref06_with.mono _ _ _ _
   | exact LeO.none _
   | refine LeO.ite ?_ ?_
   | refine LeO.bind ?_ (fun _ => ?_)
theorem flagstoneref06_Resize.mono : ∀ a0 a1 a2 k, LeO (flagstoneref06_Resize.f k a0 a1 a2) (flagstoneref06_Resize.f (k + 1) a0 a1 a2) := by
 intro a0 a1 a2 k
 have ih0 := flagstoneref06_Resize.mono_l k
 unfold flagstoneref06_Resize.f
 repeat' first
  | (with_reducible exact ih0 _ _ _ _ _)
  | (with_reducible exact flagstoneref06_Highest.mono _ _ _)
  | (with_reducible exact flagstoneref06_with.mono _ _ _ _)
  | (with_reducible exact LeO.refl _)
  | (with_reducible exact LeO.none _)
  | (with_reducible refine LeO.ite ?_ ?_)
  | (with_reducible refine LeO.bind ?_ (fun _ => ?_))
  | exact ih0 _ _ _ _ _
  | exact flagstoneref06_Highest.mono _ _ _
  | exact flagstoneref06_with.mono _ _ _ _
  | exact LeO.none _
  | refine LeO.ite ?_ ?_
  | refine LeO.bind ?_ (fun _ => ?_)
set_option maxHeartbeats 8000000 in
set_option maxRecDepth 100000 in
theorem flagstoneref06_Resize.calls (k : Nat) (a0_0 : Int) (A0_1 : Option Addr) (c0_1 : Nat) (l0_1 : List (S40)) (a1 : Int) (r1 : Int) (r2 : List (S40)) (r3 : Int) (w : World) (hr0_1 : Kd.C k40 w A0_1 l0_1.length l0_1) (hc0_1 : l0_1.length ≤ c0_1) (h : flagstoneref06_Resize.f k a0_0 l0_1 a1 = some (r1, r2, r3)) :
 Calls Try.prog 82 #[.agg #[.int .i64 a0_0, .slice A0_1 l0_1.length c0_1], .int .i64 a1] w fun e w' => ∃ v1_ : Value, e = .returned (.tuple #[.agg #[.int .i64 r1, v1_], .int .i64 r3]) ∧ Kd.R k40 40 w' w.heap.size (fun _ => True) v1_ r2 ∧ Below w.heap.size w w' := by
 have hu56 := Try.underlying56
 have hu40 := Try.underlying40
 have HR0_1 := Aside0.mk hr0_1
 have HC0_1 := Aside0.mk hc0_1
 clear hr0_1 hc0_1
 have HB := Aside0.mk (Below.refl w.heap.size w)
 have H : ((flagstoneref06_Highest.f k a0_0 l0_1).bind fun bt103 => (if bt103.2 = 0 then (if a1 < 0 then (flagstoneref06_Resize.j0 k a1 bt103.1 true a0_0 l0_1) else (flagstoneref06_Resize.j0 k a1 bt103.1 (decide (a1 > 65536)) a0_0 l0_1)) else (some (0, ([] : List (S40)), bt103.2)))) = some (r1, r2, r3) := h
 clear h
 replace H := Option.bind_eq_some_iff.mp H
 obtain ⟨⟨t103, t104⟩, A30, H⟩ := H
 replace H : (if t104 = 0 then (if a1 < 0 then (flagstoneref06_Resize.j0 k a1 t103 true a0_0 l0_1) else (flagstoneref06_Resize.j0 k a1 t103 (decide (a1 > 65536)) a0_0 l0_1)) else (some (0, ([] : List (S40)), t104))) = some (r1, r2, r3) := H
 have A3 := Aside0.mk A30
 clear A30
 by_cases c4 : t104 = 0
 ·rw [if_pos c4] at H
  have c4b0 : (t104 == 0) = true := beq_iff_eq.mpr c4
  have c4b1 : (t104 != 0) = false := bne_eq_false_iff_eq.mpr c4
  clear c4
  have HC5 := Aside0.mk H
  clear H
  go_enter Try.func82, Try.ntmps82
  go_upto_region 4 with (first | ((with_reducible refine gate_dst (N := 2) rfl ?_); refine box_event ?hg (N := 2) ?hd (cs := #[.int .i64 a0_0, .slice A0_1 l0_1.length c0_1]) (t := 56) ?hr ?_; (case hd => rfl); (case hg => rfl); (case hr => first | (go_simp; done) | (go_simp; rfl)); intro gb101 hg w6 hbox hb; have n0_ := Aside0.mk (below_step (by repeat (first | (with_reducible first | exact HB.out | apply below_alloc | apply pw_below_drewN | apply below_drew1) | exact HB.out)) hb); have n1_ := Aside0.mk (hbox); have n2_ := Aside0.mk ((by rw [hg]; exact (below_size (by repeat (first | (with_reducible first | exact HB.out | apply below_alloc | apply pw_below_drewN | apply below_drew1) | exact HB.out))) : w.heap.size ≤ gb101)); have n3_ := Aside0.mk ((by rw [hg]; exact (below_size (by repeat (first | (with_reducible first | exact HB.out | apply below_alloc | apply pw_below_drewN | apply below_drew1) | exact HB.out))) : w.heap.size ≤ gb101)); clear HB; have HB := n0_; have BK101 := n1_; have GW101 := n2_; have GE101 := n3_; clear n0_ n1_ n2_ n3_; clear hb hbox hg) | ((with_reducible refine gate_dst (N := 4) rfl ?_); refine box_event ?hg (N := 4) ?hd (cs := #[.int .i64 0, .slice none 0 0]) (t := 56) ?hr ?_; (case hd => rfl); (case hg => rfl); (case hr => first | (go_simp; done) | (go_simp; rfl)); intro gb102 hg w7 hbox hb; have n0_ := Aside0.mk (blk_below (g := gb101) (o := .cells #[.int .i64 a0_0, .slice A0_1 l0_1.length c0_1] 56 (0, 0)) (by (with_reducible repeat (first | refine blk_drewN ?_ _ | refine blk_drew ?_ | refine blk_alloc ?_ _)); exact BK101.out) hb); have n1_ := Aside0.mk (below_step (by repeat (first | (with_reducible first | exact HB.out | apply below_alloc | apply pw_below_drewN | apply below_drew1 | refine below_set ?_ GE101.out) | exact HB.out)) hb); have n2_ := Aside0.mk (hbox); have n3_ := Aside0.mk ((by rw [hg]; exact (below_size (by repeat (first | (with_reducible first | exact HB.out | apply below_alloc | apply pw_below_drewN | apply below_drew1 | refine below_set ?_ GE101.out) | exact HB.out))) : w.heap.size ≤ gb102)); have n4_ := Aside0.mk ((by rw [hg]; exact (below_size (by repeat (first | (with_reducible first | exact HB.out | apply below_alloc | apply pw_below_drewN | apply below_drew1 | refine below_set ?_ GE101.out) | exact HB.out))) : w.heap.size ≤ gb102)); have n5_ := Aside0.mk ((by rw [hg]; exact Nat.ne_of_lt (blk_lt (g := gb101) (o := .cells #[.int .i64 a0_0, .slice A0_1 l0_1.length c0_1] 56 (0, 0)) (by (with_reducible repeat (first | refine blk_drewN ?_ _ | refine blk_drew ?_ | refine blk_alloc ?_ _)); exact BK101.out)) : gb101 ≠ gb102)); have n6_ := Aside0.mk ((by rw [hg]; exact Nat.ne_of_gt (blk_lt (g := gb101) (o := .cells #[.int .i64 a0_0, .slice A0_1 l0_1.length c0_1] 56 (0, 0)) (by (with_reducible repeat (first | refine blk_drewN ?_ _ | refine blk_drew ?_ | refine blk_alloc ?_ _)); exact BK101.out)) : gb102 ≠ gb101)); clear BK101; clear HB; have BK101 := n0_; have HB := n1_; have BK102 := n2_; have GW102 := n3_; have GE102 := n4_; have NB101_102 := n5_; have NB102_101 := n6_; clear n0_ n1_ n2_ n3_ n4_ n5_ n6_; clear hb hbox hg; have hnb8 := NB101_102.out; have hnc8 := NB102_101.out; have hcz9_0 : w7.cell? ⟨gb101, 0, none⟩ = some (.int .i64 a0_0) := (blk_cell BK101.out 0).trans rfl; have hcz9_1 : w7.cell? ⟨gb101, 1, none⟩ = some (.slice A0_1 l0_1.length c0_1) := (blk_cell BK101.out 1).trans rfl; have hfz9_0 := blk_frozen BK101.out 0; have hfz9_1 := blk_frozen BK101.out 1) | ((with_reducible refine gate_callee (f := 80) rfl ?_); refine goesL_ (some 11) rfl rfl Try.func80 (by kernel_rfl) rfl #[.agg #[.int .i64 a0_0, .slice A0_1 l0_1.length c0_1]] rfl (by (try simp only [List.map_toArray, List.map_cons, List.map_nil]); first | done | rfl | (simp only [List.length_drop, List.length_take]; rfl)) ?_; (with_reducible refine (flagstoneref06_Highest.calls k a0_0 _ _ l0_1 t103 t104 _ ?side1 ?side2 A3.out).mono ?_); (case side1 => repeat (first | exact (Kd.C_below HR0_1.out HB.out) | (with_reducible refine Kd.C_alloc ?_ _) | (with_reducible refine Kd.C_drewN ?_ _) | (with_reducible refine Kd.C_drew ?_))); (case side2 => exact HC0_1.out); rintro e w10 ⟨rfl, hb⟩; refine ⟨_, rfl, ?_⟩; have n0_ := Aside0.mk (blk_below (g := gb101) (o := .cells #[.int .i64 a0_0, .slice A0_1 l0_1.length c0_1] 56 (0, 0)) (by (with_reducible repeat (first | refine blk_drewN ?_ _ | refine blk_drew ?_ | refine blk_alloc ?_ _)); exact BK101.out) hb); have n1_ := Aside0.mk (blk_below (g := gb102) (o := .cells #[.int .i64 0, .slice none 0 0] 56 (0, 0)) (by (with_reducible repeat (first | refine blk_drewN ?_ _ | refine blk_drew ?_ | refine blk_alloc ?_ _)); exact BK102.out) hb); have n2_ := Aside0.mk (below_step (by repeat (first | (with_reducible first | exact HB.out | apply below_alloc | apply pw_below_drewN | apply below_drew1 | refine below_set ?_ GE101.out | refine below_set ?_ GE102.out) | exact HB.out)) hb); clear BK101; clear BK102; clear HB; have BK101 := n0_; have BK102 := n1_; have HB := n2_; clear n0_ n1_ n2_; (try clear hb); (try clear hb2); (try clear hk); (try clear hi)))
  (try simp only [Act.put, List.setIfInBounds_toArray, List.set_cons_zero, List.set_cons_succ])
  go_cut [19] (fun v19 wc => ∃ (kq : Nat) (x19_4 : Bool), v19 = .bool x19_4 ∧ Aside0 (flagstoneref06_Resize.j0 kq a1 t103 x19_4 a0_0 l0_1 = some (r1, r2, r3)) ∧ Aside0 (kq ≤ k) ∧ Aside0 (wc.heap[gb101]? = some (.cells #[.int .i64 a0_0, (.slice A0_1 l0_1.length c0_1)] 56 (0, 0))) ∧ Aside0 (wc.heap[gb102]? = some (.cells #[.int .i64 0, (.slice none 0 0)] 56 (0, 0))) ∧ Aside0 (Below w.heap.size w wc))
  case first =>
   have H := HC5.out
   clear HC5
   by_cases c11 : a1 < 0
   ·rw [if_pos c11] at H
    have c11b0 : decide (a1 < 0) = true := decide_eq_true c11
    clear c11
    (first | rw [c11b0] | (simp only [i64_w, i32_w]; rw [c11b0]) | skip)
    have H' := Aside0.mk H
    clear H
    go_wp2
    go_meet
    case rel => exact ⟨_, (true), (by first | rfl | (simp; done) | (simp [*]; done)), H', ⟨by first | omega | exact Nat.le_refl _⟩, ⟨by (with_reducible repeat (first | refine blk_drewN ?_ _ | refine blk_drew ?_ | refine blk_alloc ?_ _)); exact BK101.out⟩, ⟨by (with_reducible repeat (first | refine blk_drewN ?_ _ | refine blk_drew ?_ | refine blk_alloc ?_ _)); exact BK102.out⟩, ⟨by repeat (first | (with_reducible first | exact HB.out | apply below_alloc | apply pw_below_drewN | apply below_drew1 | refine below_set ?_ GE101.out | refine below_set ?_ GE102.out) | exact HB.out)⟩⟩
   ·rw [if_neg c11] at H
    have c11b0 : decide (a1 < 0) = false := decide_eq_false c11
    clear c11
    (first | rw [c11b0] | (simp only [i64_w, i32_w]; rw [c11b0]) | skip)
    have H' := Aside0.mk H
    clear H
    go_wp2
    go_meet
    case rel => exact ⟨_, (decide (a1 > 65536)), (by first | rfl | (simp; done) | (simp [*]; done)), H', ⟨by first | omega | exact Nat.le_refl _⟩, ⟨by (with_reducible repeat (first | refine blk_drewN ?_ _ | refine blk_drew ?_ | refine blk_alloc ?_ _)); exact BK101.out⟩, ⟨by (with_reducible repeat (first | refine blk_drewN ?_ _ | refine blk_drew ?_ | refine blk_alloc ?_ _)); exact BK102.out⟩, ⟨by repeat (first | (with_reducible first | exact HB.out | apply below_alloc | apply pw_below_drewN | apply below_drew1 | refine below_set ?_ GE101.out | refine below_set ?_ GE102.out) | exact HB.out)⟩⟩
  case rest =>
   clear HC5
   try clear c1
   try clear p2
   try clear c4
   try clear c4b0
   try clear c4b1
   try clear c8
   try clear c11
   try clear c11b0
   try clear hcz9_0
   try clear hcz9_1
   try clear hfz9_0
   try clear hfz9_1
   obtain ⟨kq, x19_4, rfl, HA, HJ4, BK101, BK102, HB⟩ := hcut
   cases kq with
   | zero => exact absurd HA.out (by simp [flagstoneref06_Resize.j0])
   | succ kj4 =>
    have H := HA.out
    clear HA
    simp only [flagstoneref06_Resize.j0] at H
    by_cases c12 : x19_4 = true
    ·subst c12
     have H1 : (some (0, ([] : List (S40)), 4)) = some (r1, r2, r3) := by rw [if_pos rfl] at H; exact H
     clear H
     have H := H1
     clear H1
     simp only [Option.some.injEq, Prod.mk.injEq] at H
     obtain ⟨rfl, rfl, rfl⟩ := H
     have hnb13 := NB102_101.out
     have hnc13 := NB101_102.out
     have hcz14_0 : wc.cell? ⟨gb102, 0, none⟩ = some (.int .i64 0) := (blk_cell BK102.out 0).trans rfl
     have hcz14_1 : wc.cell? ⟨gb102, 1, none⟩ = some (.slice none 0 0) := (blk_cell BK102.out 1).trans rfl
     have hfz14_0 := blk_frozen BK102.out 0
     have hfz14_1 := blk_frozen BK102.out 1
     go_wp2
     refine bodyPost_ret (results_ct rfl _ _ gb102 56 #[.int .i64 0, .slice none 0 0] (0, 0) _ rfl (by (with_reducible repeat (first | refine blk_drewN ?_ _ | refine blk_drew ?_ | refine blk_alloc ?_ _)); refine blk_put (cs := #[.int .i64 0, .slice none 0 0]) ?_ 1 _ rfl; (with_reducible repeat (first | refine blk_drewN ?_ _ | refine blk_drew ?_ | refine blk_alloc ?_ _)); refine blk_put (cs := #[.int .i64 0, .slice none 0 0]) ?_ 0 _ rfl; (with_reducible repeat (first | refine blk_drewN ?_ _ | refine blk_drew ?_ | refine blk_alloc ?_ _)); exact BK102.out) Try.underlying56 rfl (by kernel_rfl)) rfl ?_
     exact ⟨_, by first | rfl | (simp [errW_none, errW_some] <;> rfl) | (simp [*, errW_none, errW_some] <;> rfl), by first | exact Kd.R_nil _ _ _ _ _ | exact Kd.N_nil _ _ _ _ _ | exact Kd.V_nil _ _ _ _ _ | exact Kd.Q_nil _ _ _ _ _ | exact Kd.S_nil _ _ _ _ _, by repeat (first | (with_reducible first | exact HB.out | apply below_alloc | apply pw_below_drewN | apply below_drew1 | refine below_set ?_ GE101.out | refine below_set ?_ GE102.out) | exact HB.out)⟩
    ·replace c12 := Bool.eq_false_iff.mpr c12
     subst c12
     have H1 : (if a1 < t103 then (some (0, ([] : List (S40)), 72)) else (if a1 < a0_0 then ((flagstoneref06_without.f l0_1 a1 (wrap64 (a0_0 - a1))).bind fun t105 => (some (a1, t105, 0))) else (if a1 = a0_0 then ((flagstoneref06_Own.f a0_0 l0_1).bind fun bt108 => (some (bt108.1, bt108.2, 0))) else ((flagstoneref06_with.f kj4 l0_1 a0_0 (wrap64 (a1 - a0_0))).bind fun t112 => (if (t112.length : Int) > 1024 then (some (0, ([] : List (S40)), 51)) else (some (a1, t112, 0))))))) = some (r1, r2, r3) := by rw [if_neg (show ¬ (false = true) by decide)] at H; exact H
     clear H
     have H := H1
     clear H1
     by_cases c15 : a1 < t103
     ·rw [if_pos c15] at H
      have c15b0 : decide (a1 < t103) = true := decide_eq_true c15
      clear c15
      simp only [Option.some.injEq, Prod.mk.injEq] at H
      obtain ⟨rfl, rfl, rfl⟩ := H
      have hnb16 := NB102_101.out
      have hnc16 := NB101_102.out
      have hcz17_0 : wc.cell? ⟨gb102, 0, none⟩ = some (.int .i64 0) := (blk_cell BK102.out 0).trans rfl
      have hcz17_1 : wc.cell? ⟨gb102, 1, none⟩ = some (.slice none 0 0) := (blk_cell BK102.out 1).trans rfl
      have hfz17_0 := blk_frozen BK102.out 0
      have hfz17_1 := blk_frozen BK102.out 1
      go_wp2
      refine bodyPost_ret (results_ct rfl _ _ gb102 56 #[.int .i64 0, .slice none 0 0] (0, 0) _ rfl (by (with_reducible repeat (first | refine blk_drewN ?_ _ | refine blk_drew ?_ | refine blk_alloc ?_ _)); refine blk_put (cs := #[.int .i64 0, .slice none 0 0]) ?_ 1 _ rfl; (with_reducible repeat (first | refine blk_drewN ?_ _ | refine blk_drew ?_ | refine blk_alloc ?_ _)); refine blk_put (cs := #[.int .i64 0, .slice none 0 0]) ?_ 0 _ rfl; (with_reducible repeat (first | refine blk_drewN ?_ _ | refine blk_drew ?_ | refine blk_alloc ?_ _)); exact BK102.out) Try.underlying56 rfl (by kernel_rfl)) rfl ?_
      exact ⟨_, by first | rfl | (simp [errW_none, errW_some] <;> rfl) | (simp [*, errW_none, errW_some] <;> rfl), by first | exact Kd.R_nil _ _ _ _ _ | exact Kd.N_nil _ _ _ _ _ | exact Kd.V_nil _ _ _ _ _ | exact Kd.Q_nil _ _ _ _ _ | exact Kd.S_nil _ _ _ _ _, by repeat (first | (with_reducible first | exact HB.out | apply below_alloc | apply pw_below_drewN | apply below_drew1 | refine below_set ?_ GE101.out | refine below_set ?_ GE102.out) | exact HB.out)⟩
     ·rw [if_neg c15] at H
      have c15b0 : decide (a1 < t103) = false := decide_eq_false c15
      clear c15
      by_cases c18 : a1 < a0_0
      ·rw [if_pos c18] at H
       have c18b0 : decide (a1 < a0_0) = true := decide_eq_true c18
       clear c18
       replace H := Option.bind_eq_some_iff.mp H
       obtain ⟨t105, A190, H⟩ := H
       replace H : (some (a1, t105, 0)) = some (r1, r2, r3) := H
       have A19 := Aside0.mk A190
       clear A190
       simp only [Option.some.injEq, Prod.mk.injEq] at H
       obtain ⟨rfl, rfl, rfl⟩ := H
       have hnb20 := NB101_102.out
       have hnc20 := NB102_101.out
       have hcz21_0 : wc.cell? ⟨gb101, 0, none⟩ = some (.int .i64 a0_0) := (blk_cell BK101.out 0).trans rfl
       have hcz21_1 : wc.cell? ⟨gb101, 1, none⟩ = some (.slice A0_1 l0_1.length c0_1) := (blk_cell BK101.out 1).trans rfl
       have hfz21_0 := blk_frozen BK101.out 0
       have hfz21_1 := blk_frozen BK101.out 1
       go_wp2_with (first | ((with_reducible refine gate_callee (f := 134) rfl ?_); refine goesL_ (some 46) rfl rfl Try.func134 (by kernel_rfl) rfl #[.slice A0_1 l0_1.length c0_1, .agg #[.int .i64 a1, .int .i64 (wrap64 (a0_0 - a1))]] rfl (by (try simp only [List.map_toArray, List.map_cons, List.map_nil]); first | done | rfl | (simp only [List.length_drop, List.length_take]; rfl)) ?_; (with_reducible refine (flagstoneref06_without.calls _ _ l0_1 a1 (wrap64 (a0_0 - a1)) t105 _ ?side1 ?side2 A19.out).mono ?_); (case side1 => repeat (first | exact (Kd.C_below HR0_1.out HB.out) | (with_reducible refine Kd.C_alloc ?_ _) | (with_reducible refine Kd.C_drewN ?_ _) | (with_reducible refine Kd.C_drew ?_))); (case side2 => exact HC0_1.out); rintro e w22 ⟨v106, rfl, ho0, hb⟩; refine ⟨_, rfl, ?_⟩; have n0_ := Aside0.mk (Kd.R_lower ho0 (below_size (by repeat (first | (with_reducible first | exact HB.out | apply below_alloc | apply pw_below_drewN | apply below_drew1 | refine below_set ?_ GE101.out | refine below_set ?_ GE102.out) | exact HB.out)))); have n1_ := Aside0.mk (blk_below (g := gb101) (o := .cells #[.int .i64 a0_0, .slice A0_1 l0_1.length c0_1] 56 (0, 0)) (by (with_reducible repeat (first | refine blk_drewN ?_ _ | refine blk_drew ?_ | refine blk_alloc ?_ _)); exact BK101.out) hb); have n2_ := Aside0.mk (blk_below (g := gb102) (o := .cells #[.int .i64 0, .slice none 0 0] 56 (0, 0)) (by (with_reducible repeat (first | refine blk_drewN ?_ _ | refine blk_drew ?_ | refine blk_alloc ?_ _)); exact BK102.out) hb); have n3_ := Aside0.mk (below_step (by repeat (first | (with_reducible first | exact HB.out | apply below_alloc | apply pw_below_drewN | apply below_drew1 | refine below_set ?_ GE101.out | refine below_set ?_ GE102.out) | exact HB.out)) hb); clear BK101; clear BK102; clear HB; have HO107 := n0_; have BK101 := n1_; have BK102 := n2_; have HB := n3_; clear n0_ n1_ n2_ n3_; (try clear hb); (try clear hb2); (try clear hk); (try clear hi); (try clear ho0); obtain ⟨Ao23, co23, eo23⟩ := Kd.R_slice HO107.out; subst eo23; have hcz24_0 : w22.cell? ⟨gb102, 0, none⟩ = some (.int .i64 0) := (blk_cell BK102.out 0).trans rfl; have hcz24_1 : w22.cell? ⟨gb102, 1, none⟩ = some (.slice none 0 0) := (blk_cell BK102.out 1).trans rfl; have hfz24_0 := blk_frozen BK102.out 0; have hfz24_1 := blk_frozen BK102.out 1))
       refine bodyPost_ret (results_ct rfl _ _ gb102 56 #[.int .i64 a1, .slice Ao23 t105.length co23] (0, 0) _ rfl (by (with_reducible repeat (first | refine blk_drewN ?_ _ | refine blk_drew ?_ | refine blk_alloc ?_ _)); refine blk_put (cs := #[.int .i64 a1, .slice none 0 0]) ?_ 1 _ rfl; (with_reducible repeat (first | refine blk_drewN ?_ _ | refine blk_drew ?_ | refine blk_alloc ?_ _)); refine blk_put (cs := #[.int .i64 0, .slice none 0 0]) ?_ 0 _ rfl; (with_reducible repeat (first | refine blk_drewN ?_ _ | refine blk_drew ?_ | refine blk_alloc ?_ _)); exact BK102.out) Try.underlying56 rfl (by kernel_rfl)) rfl ?_
       exact ⟨_, by first | rfl | (simp [errW_none, errW_some] <;> rfl) | (simp [*, errW_none, errW_some] <;> rfl), by (with_reducible repeat (first | apply Kd.R_alloc | apply Kd.R_drewN | apply Kd.R_drew)); exact Kd.R_mono (Kd.R_far (p := ⟨gb102, 1, none⟩) (Kd.R_far (p := ⟨gb102, 0, none⟩) (Kd.R_types HO107.out BK102.out (by decide)) (fun _ hk => hk.2) (.int .i64 a1)) (fun _ hk => hk.2) (.slice Ao23 t105.length co23)) (fun _ hk => trivial), by repeat (first | (with_reducible first | exact HB.out | apply below_alloc | apply pw_below_drewN | apply below_drew1 | refine below_set ?_ GE101.out | refine below_set ?_ GE102.out) | exact HB.out)⟩
      ·rw [if_neg c18] at H
       have c18b0 : decide (a1 < a0_0) = false := decide_eq_false c18
       clear c18
       by_cases c25 : a1 = a0_0
       ·rw [if_pos c25] at H
        have c25b0 : (a1 == a0_0) = true := beq_iff_eq.mpr c25
        have c25b1 : (a1 != a0_0) = false := bne_eq_false_iff_eq.mpr c25
        clear c25
        replace H := Option.bind_eq_some_iff.mp H
        obtain ⟨⟨t108, t109⟩, A260, H⟩ := H
        replace H : (some (t108, t109, 0)) = some (r1, r2, r3) := H
        have A26 := Aside0.mk A260
        clear A260
        simp only [Option.some.injEq, Prod.mk.injEq] at H
        obtain ⟨rfl, rfl, rfl⟩ := H
        have hnb27 := NB101_102.out
        have hnc27 := NB102_101.out
        have hcz28_0 : wc.cell? ⟨gb101, 0, none⟩ = some (.int .i64 a0_0) := (blk_cell BK101.out 0).trans rfl
        have hcz28_1 : wc.cell? ⟨gb101, 1, none⟩ = some (.slice A0_1 l0_1.length c0_1) := (blk_cell BK101.out 1).trans rfl
        have hfz28_0 := blk_frozen BK101.out 0
        have hfz28_1 := blk_frozen BK101.out 1
        go_wp2_with (first | ((with_reducible refine gate_callee (f := 135) rfl ?_); refine goesL_ (some 54) rfl rfl Try.func135 (by kernel_rfl) rfl #[.agg #[.int .i64 a0_0, .slice A0_1 l0_1.length c0_1]] rfl (by (try simp only [List.map_toArray, List.map_cons, List.map_nil]); first | done | rfl | (simp only [List.length_drop, List.length_take]; rfl)) ?_; (with_reducible refine (flagstoneref06_Own.calls a0_0 _ _ l0_1 t108 t109 _ ?side1 ?side2 A26.out).mono ?_); (case side1 => repeat (first | exact (Kd.C_below HR0_1.out HB.out) | (with_reducible refine Kd.C_alloc ?_ _) | (with_reducible refine Kd.C_drewN ?_ _) | (with_reducible refine Kd.C_drew ?_))); (case side2 => exact HC0_1.out); rintro e w29 ⟨v110, rfl, ho0, hb⟩; refine ⟨_, rfl, ?_⟩; have n0_ := Aside0.mk (Kd.R_lower ho0 (below_size (by repeat (first | (with_reducible first | exact HB.out | apply below_alloc | apply pw_below_drewN | apply below_drew1 | refine below_set ?_ GE101.out | refine below_set ?_ GE102.out) | exact HB.out)))); have n1_ := Aside0.mk (blk_below (g := gb101) (o := .cells #[.int .i64 a0_0, .slice A0_1 l0_1.length c0_1] 56 (0, 0)) (by (with_reducible repeat (first | refine blk_drewN ?_ _ | refine blk_drew ?_ | refine blk_alloc ?_ _)); exact BK101.out) hb); have n2_ := Aside0.mk (blk_below (g := gb102) (o := .cells #[.int .i64 0, .slice none 0 0] 56 (0, 0)) (by (with_reducible repeat (first | refine blk_drewN ?_ _ | refine blk_drew ?_ | refine blk_alloc ?_ _)); exact BK102.out) hb); have n3_ := Aside0.mk (below_step (by repeat (first | (with_reducible first | exact HB.out | apply below_alloc | apply pw_below_drewN | apply below_drew1 | refine below_set ?_ GE101.out | refine below_set ?_ GE102.out) | exact HB.out)) hb); clear BK101; clear BK102; clear HB; have HO111 := n0_; have BK101 := n1_; have BK102 := n2_; have HB := n3_; clear n0_ n1_ n2_ n3_; (try clear hb); (try clear hb2); (try clear hk); (try clear hi); (try clear ho0); have hcz30_0 : w29.cell? ⟨gb102, 0, none⟩ = some (.int .i64 0) := (blk_cell BK102.out 0).trans rfl; have hcz30_1 : w29.cell? ⟨gb102, 1, none⟩ = some (.slice none 0 0) := (blk_cell BK102.out 1).trans rfl; have hfz30_0 := blk_frozen BK102.out 0; have hfz30_1 := blk_frozen BK102.out 1; obtain ⟨Ao31, co31, eo31⟩ := Kd.R_slice HO111.out; subst eo31))
        refine bodyPost_ret (results_ct rfl _ _ gb102 56 #[.int .i64 t108, .slice Ao31 t109.length co31] (0, 0) _ rfl (by (with_reducible repeat (first | refine blk_drewN ?_ _ | refine blk_drew ?_ | refine blk_alloc ?_ _)); refine blk_put (cs := #[.int .i64 t108, .slice none 0 0]) ?_ 1 _ rfl; (with_reducible repeat (first | refine blk_drewN ?_ _ | refine blk_drew ?_ | refine blk_alloc ?_ _)); refine blk_put (cs := #[.int .i64 0, .slice none 0 0]) ?_ 0 _ rfl; (with_reducible repeat (first | refine blk_drewN ?_ _ | refine blk_drew ?_ | refine blk_alloc ?_ _)); exact BK102.out) Try.underlying56 rfl (by kernel_rfl)) rfl ?_
        exact ⟨_, by first | rfl | (simp [errW_none, errW_some] <;> rfl) | (simp [*, errW_none, errW_some] <;> rfl), by (with_reducible repeat (first | apply Kd.R_alloc | apply Kd.R_drewN | apply Kd.R_drew)); exact Kd.R_mono (Kd.R_far (p := ⟨gb102, 1, none⟩) (Kd.R_far (p := ⟨gb102, 0, none⟩) (Kd.R_types HO111.out BK102.out (by decide)) (fun _ hk => hk.2) (.int .i64 t108)) (fun _ hk => hk.2) (.slice Ao31 t109.length co31)) (fun _ hk => trivial), by repeat (first | (with_reducible first | exact HB.out | apply below_alloc | apply pw_below_drewN | apply below_drew1 | refine below_set ?_ GE101.out | refine below_set ?_ GE102.out) | exact HB.out)⟩
       ·rw [if_neg c25] at H
        have c25b0 : (a1 == a0_0) = false := beq_eq_false_iff_ne.mpr c25
        have c25b1 : (a1 != a0_0) = true := bne_iff_ne.mpr c25
        replace H := Option.bind_eq_some_iff.mp H
        obtain ⟨t112, A320, H⟩ := H
        replace H : (if (t112.length : Int) > 1024 then (some (0, ([] : List (S40)), 51)) else (some (a1, t112, 0))) = some (r1, r2, r3) := H
        have A32 := Aside0.mk A320
        clear A320
        by_cases c33 : (t112.length : Int) > 1024
        ·rw [if_pos c33] at H
         have c33b0 : decide (1024 < (t112.length : Int)) = true := decide_eq_true c33
         have c33b1 : decide (1024 < t112.length) = true := decide_eq_true (by omega)
         clear c33
         simp only [Option.some.injEq, Prod.mk.injEq] at H
         obtain ⟨rfl, rfl, rfl⟩ := H
         have hnb34 := NB101_102.out
         have hnc34 := NB102_101.out
         have hcz35_0 : wc.cell? ⟨gb101, 0, none⟩ = some (.int .i64 a0_0) := (blk_cell BK101.out 0).trans rfl
         have hcz35_1 : wc.cell? ⟨gb101, 1, none⟩ = some (.slice A0_1 l0_1.length c0_1) := (blk_cell BK101.out 1).trans rfl
         have hfz35_0 := blk_frozen BK101.out 0
         have hfz35_1 := blk_frozen BK101.out 1
         go_wp2_with (first | ((with_reducible refine gate_callee (f := 136) rfl ?_); refine goesL_ (some 64) rfl rfl Try.func136 (by kernel_rfl) rfl #[.slice A0_1 l0_1.length c0_1, .agg #[.int .i64 a0_0, .int .i64 (wrap64 (a1 - a0_0))]] rfl (by (try simp only [List.map_toArray, List.map_cons, List.map_nil]); first | done | rfl | (simp only [List.length_drop, List.length_take]; rfl)) ?_; (with_reducible refine (flagstoneref06_with.calls kj4 _ _ l0_1 a0_0 (wrap64 (a1 - a0_0)) t112 _ ?side1 ?side2 A32.out).mono ?_); (case side1 => repeat (first | exact (Kd.C_below HR0_1.out HB.out) | (with_reducible refine Kd.C_alloc ?_ _) | (with_reducible refine Kd.C_drewN ?_ _) | (with_reducible refine Kd.C_drew ?_))); (case side2 => exact HC0_1.out); rintro e w36 ⟨v113, rfl, ho0, hb⟩; refine ⟨_, rfl, ?_⟩; have n0_ := Aside0.mk (Kd.R_lower ho0 (below_size (by repeat (first | (with_reducible first | exact HB.out | apply below_alloc | apply pw_below_drewN | apply below_drew1 | refine below_set ?_ GE101.out | refine below_set ?_ GE102.out) | exact HB.out)))); have n1_ := Aside0.mk (blk_below (g := gb101) (o := .cells #[.int .i64 a0_0, .slice A0_1 l0_1.length c0_1] 56 (0, 0)) (by (with_reducible repeat (first | refine blk_drewN ?_ _ | refine blk_drew ?_ | refine blk_alloc ?_ _)); exact BK101.out) hb); have n2_ := Aside0.mk (blk_below (g := gb102) (o := .cells #[.int .i64 0, .slice none 0 0] 56 (0, 0)) (by (with_reducible repeat (first | refine blk_drewN ?_ _ | refine blk_drew ?_ | refine blk_alloc ?_ _)); exact BK102.out) hb); have n3_ := Aside0.mk (below_step (by repeat (first | (with_reducible first | exact HB.out | apply below_alloc | apply pw_below_drewN | apply below_drew1 | refine below_set ?_ GE101.out | refine below_set ?_ GE102.out) | exact HB.out)) hb); clear BK101; clear BK102; clear HB; have HO114 := n0_; have BK101 := n1_; have BK102 := n2_; have HB := n3_; clear n0_ n1_ n2_ n3_; (try clear hb); (try clear hb2); (try clear hk); (try clear hi); (try clear ho0); obtain ⟨Ao37, co37, eo37⟩ := Kd.R_slice HO114.out; subst eo37; have hcz38_0 : w36.cell? ⟨gb102, 0, none⟩ = some (.int .i64 0) := (blk_cell BK102.out 0).trans rfl; have hcz38_1 : w36.cell? ⟨gb102, 1, none⟩ = some (.slice none 0 0) := (blk_cell BK102.out 1).trans rfl; have hfz38_0 := blk_frozen BK102.out 0; have hfz38_1 := blk_frozen BK102.out 1))
         refine bodyPost_ret (results_ct rfl _ _ gb102 56 #[.int .i64 0, .slice none 0 0] (0, 0) _ rfl (by (with_reducible repeat (first | refine blk_drewN ?_ _ | refine blk_drew ?_ | refine blk_alloc ?_ _)); refine blk_put (cs := #[.int .i64 0, .slice none 0 0]) ?_ 1 _ rfl; (with_reducible repeat (first | refine blk_drewN ?_ _ | refine blk_drew ?_ | refine blk_alloc ?_ _)); refine blk_put (cs := #[.int .i64 0, .slice none 0 0]) ?_ 0 _ rfl; (with_reducible repeat (first | refine blk_drewN ?_ _ | refine blk_drew ?_ | refine blk_alloc ?_ _)); exact BK102.out) Try.underlying56 rfl (by kernel_rfl)) rfl ?_
         exact ⟨_, by first | rfl | (simp [errW_none, errW_some] <;> rfl) | (simp [*, errW_none, errW_some] <;> rfl), by first | exact Kd.R_nil _ _ _ _ _ | exact Kd.N_nil _ _ _ _ _ | exact Kd.V_nil _ _ _ _ _ | exact Kd.Q_nil _ _ _ _ _ | exact Kd.S_nil _ _ _ _ _, by repeat (first | (with_reducible first | exact HB.out | apply below_alloc | apply pw_below_drewN | apply below_drew1 | refine below_set ?_ GE101.out | refine below_set ?_ GE102.out) | exact HB.out)⟩
        ·rw [if_neg c33] at H
         have c33b0 : decide (1024 < (t112.length : Int)) = false := decide_eq_false c33
         have c33b1 : decide (1024 < t112.length) = false := decide_eq_false (by omega)
         clear c33
         simp only [Option.some.injEq, Prod.mk.injEq] at H
         obtain ⟨rfl, rfl, rfl⟩ := H
         have hnb39 := NB101_102.out
         have hnc39 := NB102_101.out
         have hcz40_0 : wc.cell? ⟨gb101, 0, none⟩ = some (.int .i64 a0_0) := (blk_cell BK101.out 0).trans rfl
         have hcz40_1 : wc.cell? ⟨gb101, 1, none⟩ = some (.slice A0_1 l0_1.length c0_1) := (blk_cell BK101.out 1).trans rfl
         have hfz40_0 := blk_frozen BK101.out 0
         have hfz40_1 := blk_frozen BK101.out 1
         go_wp2_with (first | ((with_reducible refine gate_callee (f := 136) rfl ?_); refine goesL_ (some 64) rfl rfl Try.func136 (by kernel_rfl) rfl #[.slice A0_1 l0_1.length c0_1, .agg #[.int .i64 a0_0, .int .i64 (wrap64 (a1 - a0_0))]] rfl (by (try simp only [List.map_toArray, List.map_cons, List.map_nil]); first | done | rfl | (simp only [List.length_drop, List.length_take]; rfl)) ?_; (with_reducible refine (flagstoneref06_with.calls kj4 _ _ l0_1 a0_0 (wrap64 (a1 - a0_0)) t112 _ ?side1 ?side2 A32.out).mono ?_); (case side1 => repeat (first | exact (Kd.C_below HR0_1.out HB.out) | (with_reducible refine Kd.C_alloc ?_ _) | (with_reducible refine Kd.C_drewN ?_ _) | (with_reducible refine Kd.C_drew ?_))); (case side2 => exact HC0_1.out); rintro e w41 ⟨v113, rfl, ho0, hb⟩; refine ⟨_, rfl, ?_⟩; have n0_ := Aside0.mk (Kd.R_lower ho0 (below_size (by repeat (first | (with_reducible first | exact HB.out | apply below_alloc | apply pw_below_drewN | apply below_drew1 | refine below_set ?_ GE101.out | refine below_set ?_ GE102.out) | exact HB.out)))); have n1_ := Aside0.mk (blk_below (g := gb101) (o := .cells #[.int .i64 a0_0, .slice A0_1 l0_1.length c0_1] 56 (0, 0)) (by (with_reducible repeat (first | refine blk_drewN ?_ _ | refine blk_drew ?_ | refine blk_alloc ?_ _)); exact BK101.out) hb); have n2_ := Aside0.mk (blk_below (g := gb102) (o := .cells #[.int .i64 0, .slice none 0 0] 56 (0, 0)) (by (with_reducible repeat (first | refine blk_drewN ?_ _ | refine blk_drew ?_ | refine blk_alloc ?_ _)); exact BK102.out) hb); have n3_ := Aside0.mk (below_step (by repeat (first | (with_reducible first | exact HB.out | apply below_alloc | apply pw_below_drewN | apply below_drew1 | refine below_set ?_ GE101.out | refine below_set ?_ GE102.out) | exact HB.out)) hb); clear BK101; clear BK102; clear HB; have HO114 := n0_; have BK101 := n1_; have BK102 := n2_; have HB := n3_; clear n0_ n1_ n2_ n3_; (try clear hb); (try clear hb2); (try clear hk); (try clear hi); (try clear ho0); obtain ⟨Ao42, co42, eo42⟩ := Kd.R_slice HO114.out; subst eo42; have hcz43_0 : w41.cell? ⟨gb102, 0, none⟩ = some (.int .i64 0) := (blk_cell BK102.out 0).trans rfl; have hcz43_1 : w41.cell? ⟨gb102, 1, none⟩ = some (.slice none 0 0) := (blk_cell BK102.out 1).trans rfl; have hfz43_0 := blk_frozen BK102.out 0; have hfz43_1 := blk_frozen BK102.out 1))
         refine bodyPost_ret (results_ct rfl _ _ gb102 56 #[.int .i64 a1, .slice Ao42 t112.length co42] (0, 0) _ rfl (by (with_reducible repeat (first | refine blk_drewN ?_ _ | refine blk_drew ?_ | refine blk_alloc ?_ _)); refine blk_put (cs := #[.int .i64 a1, .slice none 0 0]) ?_ 1 _ rfl; (with_reducible repeat (first | refine blk_drewN ?_ _ | refine blk_drew ?_ | refine blk_alloc ?_ _)); refine blk_put (cs := #[.int .i64 0, .slice none 0 0]) ?_ 0 _ rfl; (with_reducible repeat (first | refine blk_drewN ?_ _ | refine blk_drew ?_ | refine blk_alloc ?_ _)); exact BK102.out) Try.underlying56 rfl (by kernel_rfl)) rfl ?_
         exact ⟨_, by first | rfl | (simp [errW_none, errW_some] <;> rfl) | (simp [*, errW_none, errW_some] <;> rfl), by (with_reducible repeat (first | apply Kd.R_alloc | apply Kd.R_drewN | apply Kd.R_drew)); exact Kd.R_mono (Kd.R_far (p := ⟨gb102, 1, none⟩) (Kd.R_far (p := ⟨gb102, 0, none⟩) (Kd.R_types HO114.out BK102.out (by decide)) (fun _ hk => hk.2) (.int .i64 a1)) (fun _ hk => hk.2) (.slice Ao42 t112.length co42)) (fun _ hk => trivial), by repeat (first | (with_reducible first | exact HB.out | apply below_alloc | apply pw_below_drewN | apply below_drew1 | refine below_set ?_ GE101.out | refine below_set ?_ GE102.out) | exact HB.out)⟩
 ·rw [if_neg c4] at H
  have c4b0 : (t104 == 0) = false := beq_eq_false_iff_ne.mpr c4
  have c4b1 : (t104 != 0) = true := bne_iff_ne.mpr c4
  simp only [Option.some.injEq, Prod.mk.injEq] at H
  obtain ⟨rfl, rfl, rfl⟩ := H
  go_enter Try.func82, Try.ntmps82
  go_wp2_with (first | ((with_reducible refine gate_dst (N := 2) rfl ?_); refine box_event ?hg (N := 2) ?hd (cs := #[.int .i64 a0_0, .slice A0_1 l0_1.length c0_1]) (t := 56) ?hr ?_; (case hd => rfl); (case hg => rfl); (case hr => first | (go_simp; done) | (go_simp; rfl)); intro gb101 hg w44 hbox hb; have n0_ := Aside0.mk (below_step (by repeat (first | (with_reducible first | exact HB.out | apply below_alloc | apply pw_below_drewN | apply below_drew1) | exact HB.out)) hb); have n1_ := Aside0.mk (hbox); have n2_ := Aside0.mk ((by rw [hg]; exact (below_size (by repeat (first | (with_reducible first | exact HB.out | apply below_alloc | apply pw_below_drewN | apply below_drew1) | exact HB.out))) : w.heap.size ≤ gb101)); have n3_ := Aside0.mk ((by rw [hg]; exact (below_size (by repeat (first | (with_reducible first | exact HB.out | apply below_alloc | apply pw_below_drewN | apply below_drew1) | exact HB.out))) : w.heap.size ≤ gb101)); clear HB; have HB := n0_; have BK101 := n1_; have GW101 := n2_; have GE101 := n3_; clear n0_ n1_ n2_ n3_; clear hb hbox hg) | ((with_reducible refine gate_dst (N := 4) rfl ?_); refine box_event ?hg (N := 4) ?hd (cs := #[.int .i64 0, .slice none 0 0]) (t := 56) ?hr ?_; (case hd => rfl); (case hg => rfl); (case hr => first | (go_simp; done) | (go_simp; rfl)); intro gb102 hg w45 hbox hb; have n0_ := Aside0.mk (blk_below (g := gb101) (o := .cells #[.int .i64 a0_0, .slice A0_1 l0_1.length c0_1] 56 (0, 0)) (by (with_reducible repeat (first | refine blk_drewN ?_ _ | refine blk_drew ?_ | refine blk_alloc ?_ _)); exact BK101.out) hb); have n1_ := Aside0.mk (below_step (by repeat (first | (with_reducible first | exact HB.out | apply below_alloc | apply pw_below_drewN | apply below_drew1 | refine below_set ?_ GE101.out) | exact HB.out)) hb); have n2_ := Aside0.mk (hbox); have n3_ := Aside0.mk ((by rw [hg]; exact (below_size (by repeat (first | (with_reducible first | exact HB.out | apply below_alloc | apply pw_below_drewN | apply below_drew1 | refine below_set ?_ GE101.out) | exact HB.out))) : w.heap.size ≤ gb102)); have n4_ := Aside0.mk ((by rw [hg]; exact (below_size (by repeat (first | (with_reducible first | exact HB.out | apply below_alloc | apply pw_below_drewN | apply below_drew1 | refine below_set ?_ GE101.out) | exact HB.out))) : w.heap.size ≤ gb102)); have n5_ := Aside0.mk ((by rw [hg]; exact Nat.ne_of_lt (blk_lt (g := gb101) (o := .cells #[.int .i64 a0_0, .slice A0_1 l0_1.length c0_1] 56 (0, 0)) (by (with_reducible repeat (first | refine blk_drewN ?_ _ | refine blk_drew ?_ | refine blk_alloc ?_ _)); exact BK101.out)) : gb101 ≠ gb102)); have n6_ := Aside0.mk ((by rw [hg]; exact Nat.ne_of_gt (blk_lt (g := gb101) (o := .cells #[.int .i64 a0_0, .slice A0_1 l0_1.length c0_1] 56 (0, 0)) (by (with_reducible repeat (first | refine blk_drewN ?_ _ | refine blk_drew ?_ | refine blk_alloc ?_ _)); exact BK101.out)) : gb102 ≠ gb101)); clear BK101; clear HB; have BK101 := n0_; have HB := n1_; have BK102 := n2_; have GW102 := n3_; have GE102 := n4_; have NB101_102 := n5_; have NB102_101 := n6_; clear n0_ n1_ n2_ n3_ n4_ n5_ n6_; clear hb hbox hg; have hnb46 := NB101_102.out; have hnc46 := NB102_101.out; have hcz47_0 : w45.cell? ⟨gb101, 0, none⟩ = some (.int .i64 a0_0) := (blk_cell BK101.out 0).trans rfl; have hcz47_1 : w45.cell? ⟨gb101, 1, none⟩ = some (.slice A0_1 l0_1.length c0_1) := (blk_cell BK101.out 1).trans rfl; have hfz47_0 := blk_frozen BK101.out 0; have hfz47_1 := blk_frozen BK101.out 1) | ((with_reducible refine gate_callee (f := 80) rfl ?_); refine goesL_ (some 11) rfl rfl Try.func80 (by kernel_rfl) rfl #[.agg #[.int .i64 a0_0, .slice A0_1 l0_1.length c0_1]] rfl (by (try simp only [List.map_toArray, List.map_cons, List.map_nil]); first | done | rfl | (simp only [List.length_drop, List.length_take]; rfl)) ?_; (with_reducible refine (flagstoneref06_Highest.calls k a0_0 _ _ l0_1 t103 t104 _ ?side1 ?side2 A3.out).mono ?_); (case side1 => repeat (first | exact (Kd.C_below HR0_1.out HB.out) | (with_reducible refine Kd.C_alloc ?_ _) | (with_reducible refine Kd.C_drewN ?_ _) | (with_reducible refine Kd.C_drew ?_))); (case side2 => exact HC0_1.out); rintro e w48 ⟨rfl, hb⟩; refine ⟨_, rfl, ?_⟩; have n0_ := Aside0.mk (blk_below (g := gb101) (o := .cells #[.int .i64 a0_0, .slice A0_1 l0_1.length c0_1] 56 (0, 0)) (by (with_reducible repeat (first | refine blk_drewN ?_ _ | refine blk_drew ?_ | refine blk_alloc ?_ _)); exact BK101.out) hb); have n1_ := Aside0.mk (blk_below (g := gb102) (o := .cells #[.int .i64 0, .slice none 0 0] 56 (0, 0)) (by (with_reducible repeat (first | refine blk_drewN ?_ _ | refine blk_drew ?_ | refine blk_alloc ?_ _)); exact BK102.out) hb); have n2_ := Aside0.mk (below_step (by repeat (first | (with_reducible first | exact HB.out | apply below_alloc | apply pw_below_drewN | apply below_drew1 | refine below_set ?_ GE101.out | refine below_set ?_ GE102.out) | exact HB.out)) hb); clear BK101; clear BK102; clear HB; have BK101 := n0_; have BK102 := n1_; have HB := n2_; clear n0_ n1_ n2_; (try clear hb); (try clear hb2); (try clear hk); (try clear hi); have hcz49_0 : w48.cell? ⟨gb102, 0, none⟩ = some (.int .i64 0) := (blk_cell BK102.out 0).trans rfl; have hcz49_1 : w48.cell? ⟨gb102, 1, none⟩ = some (.slice none 0 0) := (blk_cell BK102.out 1).trans rfl; have hfz49_0 := blk_frozen BK102.out 0; have hfz49_1 := blk_frozen BK102.out 1))
  refine bodyPost_ret (results_ct rfl _ _ gb102 56 #[.int .i64 0, .slice none 0 0] (0, 0) _ rfl (by (with_reducible repeat (first | refine blk_drewN ?_ _ | refine blk_drew ?_ | refine blk_alloc ?_ _)); refine blk_put (cs := #[.int .i64 0, .slice none 0 0]) ?_ 1 _ rfl; (with_reducible repeat (first | refine blk_drewN ?_ _ | refine blk_drew ?_ | refine blk_alloc ?_ _)); refine blk_put (cs := #[.int .i64 0, .slice none 0 0]) ?_ 0 _ rfl; (with_reducible repeat (first | refine blk_drewN ?_ _ | refine blk_drew ?_ | refine blk_alloc ?_ _)); exact BK102.out) Try.underlying56 rfl (by kernel_rfl)) rfl ?_
  exact ⟨_, by first | rfl | (simp [errW_none, errW_some] <;> rfl) | (simp [*, errW_none, errW_some] <;> rfl), by first | exact Kd.R_nil _ _ _ _ _ | exact Kd.N_nil _ _ _ _ _ | exact Kd.V_nil _ _ _ _ _ | exact Kd.Q_nil _ _ _ _ _ | exact Kd.S_nil _ _ _ _ _, by repeat (first | (with_reducible first | exact HB.out | apply below_alloc | apply pw_below_drewN | apply below_drew1 | refine below_set ?_ GE101.out | refine below_set ?_ GE102.out) | exact HB.out)⟩
end Go.Proofs.Ytkkfkdncddbaeaa.Fn
