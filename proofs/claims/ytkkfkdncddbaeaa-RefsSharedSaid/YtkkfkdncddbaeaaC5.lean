/- Part 5 of the walk: printed by programs of this session (by way of the kit's print) or told by hand. -/
import Derived.Test.YtkkfkdncddbaeaaC4
import Derived.Shelf.SlicesQ.IndexFunc
namespace Go.Proofs.Ytkkfkdncddbaeaa.Fn
open Go.RowKit Go.Proofs.YtkkfkdncddbaeaaW.PrintWords Go.Proofs.YtkkfkdncddbaeaaW.PrintLast Go.Proofs.YtkkfkdncddbaeaaW.PrintMore
attribute [local go_sem] max2_int min2_int max_two min_two max_three min_three max_four min_four
set_option linter.unusedVariables false
set_option linter.unusedSimpArgs false
def refs_Used.l0 : Nat → List (S40) → List (S88) → Int → Int → Option ((List (S40)) × Int)
 | 0, _, _, _, _ => none
 | k + 1, x6, x17, x18, x19 => if x19 < x18 then (if 0 ≤ x19 then (if x19 < (x17.length : Int) then (if x6.length < 8796093022208 then (refs_Used.l0 k (x6 ++ [(⟨(rd_T88 x17 x19).f0, (rd_T88 x17 x19).f1⟩ : S40)]) x17 x18 (wrap64 (x19 + 1))) else (none)) else (none)) else (none)) else ((extent_Join.f x6).bind fun t110 => (some (t110, 0)))
def refs_Used.f (k : Nat) (l0 : List (S94)) : Option ((List (S40)) × Int) := (refs_Refs.f l0).bind fun bt101 => (if bt101.2 = 0 then (refs_Used.l0 k ([] : List (S40)) bt101.1 (bt101.1.length : Int) 0) else (some (([] : List (S40)), bt101.2)))
theorem refs_Used.mono_l : ∀ k, (∀ y0 y1 y2 y3, LeO (refs_Used.l0 k y0 y1 y2 y3) (refs_Used.l0 (k + 1) y0 y1 y2 y3))
 | 0 => fun _ _ _ _ r h => by simp [refs_Used.l0] at h
 | k + 1 => by
  have ih0 := refs_Used.mono_l k
  ·intro y0 y1 y2 y3
   unfold refs_Used.l0
   repeat' first
   | (with_reducible exact ih0 _ _ _ _)
   | (with_reducible exact LeO.refl _)
   | (with_reducible exact LeO.none _)
   | (with_reducible refine LeO.ite ?_ ?_)
   | (with_reducible refine LeO.bind ?_ (fun _ => ?_))
   | exact ih0 _ _ _ _
   | exact LeO.none _
   | refine LeO.ite ?_ ?_
   | refine LeO.bind ?_ (fun _ => ?_)
theorem refs_Used.mono : ∀ a0 k, LeO (refs_Used.f k a0) (refs_Used.f (k + 1) a0) := by
 intro a0 k
 have ih0 := refs_Used.mono_l k
 unfold refs_Used.f
 repeat' first
  | (with_reducible exact ih0 _ _ _ _)
  | (with_reducible exact LeO.refl _)
  | (with_reducible exact LeO.none _)
  | (with_reducible refine LeO.ite ?_ ?_)
  | (with_reducible refine LeO.bind ?_ (fun _ => ?_))
  | exact ih0 _ _ _ _
  | exact LeO.none _
  | refine LeO.ite ?_ ?_
  | refine LeO.bind ?_ (fun _ => ?_)
set_option maxHeartbeats 8000000 in
set_option maxRecDepth 100000 in
theorem refs_Used.calls (k : Nat) (A0 : Option Addr) (c0 : Nat) (l0 : List (S94)) (r1 : List (S40)) (r2 : Int) (w : World) (hr0 : Kd.C k94 w A0 l0.length l0) (hc0 : l0.length ≤ c0) (h : refs_Used.f k l0 = some (r1, r2)) :
 Calls Try.prog 64 #[.slice A0 l0.length c0] w fun e w' => ∃ v0_ : Value, e = .returned (.tuple #[v0_, .int .i64 r2]) ∧ Kd.R k40 40 w' w.heap.size (fun _ => True) v0_ r1 ∧ Below w.heap.size w w' := by
 have hu88 := Try.underlying88
 have hu40 := Try.underlying40
 have HR0 := Aside0.mk hr0
 have HC0 := Aside0.mk hc0
 clear hr0 hc0
 have HB := Aside0.mk (Below.refl w.heap.size w)
 have H : ((refs_Refs.f l0).bind fun bt101 => (if bt101.2 = 0 then (refs_Used.l0 k ([] : List (S40)) bt101.1 (bt101.1.length : Int) 0) else (some (([] : List (S40)), bt101.2)))) = some (r1, r2) := h
 clear h
 replace H := Option.bind_eq_some_iff.mp H
 obtain ⟨⟨t101, t102⟩, A20, H⟩ := H
 replace H : (if t102 = 0 then (refs_Used.l0 k ([] : List (S40)) t101 (t101.length : Int) 0) else (some (([] : List (S40)), t102))) = some (r1, r2) := H
 have A2 := Aside0.mk A20
 clear A20
 by_cases c3 : t102 = 0
 ·rw [if_pos c3] at H
  have c3b0 : (t102 == 0) = true := beq_iff_eq.mpr c3
  have c3b1 : (t102 != 0) = false := bne_eq_false_iff_eq.mpr c3
  clear c3
  have H' := Aside0.mk H
  clear H
  go_enter Try.func64, Try.ntmps64
  go_wp2_with (first | ((with_reducible refine gate_callee (f := 65) rfl ?_); refine goesL_ (some 11) rfl rfl Try.func65 (by kernel_rfl) rfl #[.slice A0 l0.length c0] rfl (by (try simp only [List.map_toArray, List.map_cons, List.map_nil]); first | done | rfl | (simp only [List.length_drop, List.length_take]; rfl)) ?_; (with_reducible refine (refs_Refs.calls _ _ l0 t101 t102 _ ?side1 ?side2 A2.out).mono ?_); (case side1 => repeat (first | exact HR0.out | (with_reducible refine Kd.C_alloc ?_ _) | (with_reducible refine Kd.C_drewN ?_ _) | (with_reducible refine Kd.C_drew ?_))); (case side2 => exact HC0.out); rintro e w4 ⟨v103, rfl, ho0, hb⟩; refine ⟨_, rfl, ?_⟩; have n0_ := Aside0.mk (Kd.R_lower ho0 (below_size (by repeat (first | (with_reducible first | exact HB.out | apply below_alloc | apply pw_below_drewN | apply below_drew1) | exact HB.out)))); have n1_ := Aside0.mk (below_step (by repeat (first | (with_reducible first | exact HB.out | apply below_alloc | apply pw_below_drewN | apply below_drew1) | exact HB.out)) hb); clear HB; have HO104 := n0_; have HB := n1_; clear n0_ n1_; (try clear hb); (try clear hb2); (try clear hk); (try clear hi); (try clear ho0); obtain ⟨Ao5, co5, eo5⟩ := Kd.R_slice HO104.out; subst eo5))
  go_loopg [6, 19] k (fun kq v6 v19 w' => ∃ (x6_1 : List (S40)) (x19_1 : Int), v19 = .int .i64 x19_1 ∧ Aside0 (refs_Used.l0 kq x6_1 t101 (t101.length : Int) x19_1 = some (r1, r2)) ∧ Aside0 (kq ≤ k) ∧ Aside0 (Kd.R k40 40 w' w.heap.size (fun _ => True) v6 x6_1) ∧ Aside0 (Kd.R k88 88 w' w.heap.size (fun _ => True) (.slice Ao5 t101.length co5) t101) ∧ Aside0 (Below w.heap.size w w'))
  case atStart => exact ⟨(([] : List (S40))), (0), (by first | rfl | (simp; done) | (simp [*]; done)), H', ⟨Nat.le_refl _⟩, ⟨by first | exact Kd.R_nil _ _ _ _ _ | exact Kd.N_nil _ _ _ _ _ | exact Kd.V_nil _ _ _ _ _ | exact Kd.Q_nil _ _ _ _ _ | exact Kd.S_nil _ _ _ _ _⟩, ⟨by (with_reducible repeat (first | apply Kd.R_alloc | apply Kd.R_drewN | apply Kd.R_drew)); exact HO104.out⟩, ⟨by repeat (first | (with_reducible first | exact HB.out | apply below_alloc | apply pw_below_drewN | apply below_drew1) | exact HB.out)⟩⟩
  case round =>
   clear H'
   try clear p2
   try clear c3
   try clear c3b0
   try clear c3b1
   obtain ⟨x6_1, x19_1, rfl, HA, HK1, HO_6, HO_17, HB⟩ := hrel
   cases gk with
   | zero => exact absurd HA.out (by simp [refs_Used.l0])
   | succ k1 =>
    have H := HA.out
    clear HA
    simp only [refs_Used.l0] at H
    by_cases c6 : x19_1 < (t101.length : Int)
    ·rw [if_pos c6] at H
     have c6b0 : decide (x19_1 < (t101.length : Int)) = true := decide_eq_true c6
     clear c6
     by_cases c7 : 0 ≤ x19_1
     ·rw [if_pos c7] at H
      have c7b0 : decide (0 ≤ x19_1) = true := decide_eq_true c7
      clear c7
      by_cases c8 : x19_1 < (t101.length : Int)
      ·rw [if_pos c8] at H
       have c8b0 : decide (x19_1 < (t101.length : Int)) = true := decide_eq_true c8
       clear c8
       by_cases c9 : x6_1.length < 8796093022208
       ·rw [if_pos c9] at H
        have LMc9 := Aside0.mk c9
        clear c9
        obtain ⟨y107, hy107⟩ : ∃ y_ : List (S40), y_ = (x6_1 ++ [(⟨(rd_T88 t101 x19_1).f0, (rd_T88 t101 x19_1).f1⟩ : S40)]) := ⟨_, rfl⟩
        replace H : (refs_Used.l0 k1 y107 t101 (t101.length : Int) (wrap64 (x19_1 + 1))) = some (r1, r2) := by first | (rw [hy107]; with_reducible exact H) | (have H2_ := (Option.bind_some _ _).symm.trans H; rw [hy107]; with_reducible exact H2_) | (have H2_ := (Option.bind_some _ _).symm.trans H; with_reducible exact H2_) | with_reducible exact H | (rw [hy107]; exact H) | exact H
        have Ny107 := Aside0.mk hy107
        clear hy107
        have H' := Aside0.mk H
        clear H
        have p105 : 0 ≤ (x19_1 : Int) := of_decide_eq_true (by first | (with_reducible assumption) | assumption)
        have q105 : x19_1 < (t101.length : Int) := of_decide_eq_true (by first | (with_reducible assumption) | assumption)
        obtain ⟨ad105, e105, hx105_0, hx105_1, hx105_2, hx105_3⟩ := at_T88 (Kd.R_reads' HO_17.out).2.2 x19_1 p105 q105
        cases e105
        replace p105 := eq_true p105
        replace q105 := eq_true q105
        go_wp2_with (first | ((with_reducible refine gate_dst (N := 8) rfl ?_); refine box_event ?hg (N := 8) ?hd (cs := #[.int .i64 0, .int .i64 0, .int .i64 0, .int .i64 0]) (t := 88) ?hr ?_; (case hd => rfl); (case hg => rfl); (case hr => first | (go_simp; done) | (go_simp; rfl)); intro gb106 hg w10 hbox hb; have n0_ := Aside0.mk (Kd.R_below (by (with_reducible repeat (first | apply Kd.R_alloc | apply Kd.R_drewN | apply Kd.R_drew)); exact HO_6.out) hb); have n1_ := Aside0.mk (Kd.R_below (Kd.R_elderB (by (with_reducible repeat (first | apply Kd.R_alloc | apply Kd.R_drewN | apply Kd.R_drew)); exact HO_17.out) gb106 (Nat.le_of_eq hg.symm)) hb); have n2_ := Aside0.mk (below_step (by repeat (first | (with_reducible first | exact HB.out | apply below_alloc | apply pw_below_drewN | apply below_drew1) | exact HB.out)) hb); have n3_ := Aside0.mk (hbox); have n4_ := Aside0.mk ((by rw [hg]; exact (below_size (by repeat (first | (with_reducible first | exact HB.out | apply below_alloc | apply pw_below_drewN | apply below_drew1) | exact HB.out))) : w.heap.size ≤ gb106)); have n5_ := Aside0.mk ((by rw [hg]; exact (below_size (by repeat (first | (with_reducible first | exact HB.out | apply below_alloc | apply pw_below_drewN | apply below_drew1) | exact HB.out))) : w.heap.size ≤ gb106)); clear HO_6; clear HO_17; clear HB; have HO_6 := n0_; have HO_17 := n1_; have HB := n2_; have BK106 := n3_; have GW106 := n4_; have GE106 := n5_; clear n0_ n1_ n2_ n3_ n4_ n5_; clear hb hbox hg; have hcz11_0 : w10.cell? ⟨gb106, 0, none⟩ = some (.int .i64 0) := (blk_cell BK106.out 0).trans rfl; have hcz11_1 : w10.cell? ⟨gb106, 1, none⟩ = some (.int .i64 0) := (blk_cell BK106.out 1).trans rfl; have hcz11_2 : w10.cell? ⟨gb106, 2, none⟩ = some (.int .i64 0) := (blk_cell BK106.out 2).trans rfl; have hcz11_3 : w10.cell? ⟨gb106, 3, none⟩ = some (.int .i64 0) := (blk_cell BK106.out 3).trans rfl; have hfz11_0 := blk_frozen BK106.out 0; have hfz11_1 := blk_frozen BK106.out 1; have hfz11_2 := blk_frozen BK106.out 2; have hfz11_3 := blk_frozen BK106.out 3) | ((with_reducible refine gate_builtin (b := .append) (xs := #[.tmp 23, .tmp 29]) rfl ?_); at_builtin; refine Kd.R_append k40 (w0 := w) w.heap.size rfl (.tmp 23) (.tmp 29) 54 40 (.agg #[(.int .i64 0), (.int .i64 0)]) 16 rfl Try.underlying54 info40 rfl (by decide) (by omega) u6 x6_1 (⟨(rd_T88 t101 x19_1).f0, (rd_T88 t101 x19_1).f1⟩ : S40) [.int .i64 ((rd_T88 t101 x19_1).f0), .int .i64 ((rd_T88 t101 x19_1).f1)] (fun _ => True) (fun _ => False) rfl (by first | (go_simp; done) | (go_simp; rfl)) ?aP (fun _ hk => hk.elim) ?aF ?aO ?aB ?aS ?aL ?_; (case aP => exact k40_mkM _ _ _ (⟨(rd_T88 t101 x19_1).f0, (rd_T88 t101 x19_1).f1⟩ : S40)); (case aB => exact (by repeat (first | (with_reducible first | exact HB.out | apply below_alloc | apply pw_below_drewN | apply below_drew1 | refine below_set ?_ GE106.out) | exact HB.out))); (case aF => exact (fun _ _ => trivial)); (case aO => exact (by (with_reducible repeat (first | apply Kd.R_alloc | apply Kd.R_drewN | apply Kd.R_drew)); exact Kd.R_mono (Kd.R_far (p := ⟨gb106, 3, none⟩) (Kd.R_far (p := ⟨gb106, 2, none⟩) (Kd.R_far (p := ⟨gb106, 1, none⟩) (Kd.R_far (p := ⟨gb106, 0, none⟩) (Kd.R_types HO_6.out BK106.out (by decide)) (fun _ hk => hk.2) (.int .i64 ((rd_T88 t101 x19_1).f0))) (fun _ hk => hk.2) (.int .i64 ((rd_T88 t101 x19_1).f1))) (fun _ hk => hk.2) (.int .i64 ((rd_T88 t101 x19_1).f2))) (fun _ hk => hk.2) (.int .i64 ((rd_T88 t101 x19_1).f3))) (fun _ hk => trivial))); (case aS => exact (below_size (by repeat (first | (with_reducible first | exact HB.out | apply below_alloc | apply pw_below_drewN | apply below_drew1 | refine below_set ?_ GE106.out) | exact HB.out)))); (case aL => have := LMc9.out; omega); intro v108 w12 ho hb hg hat; rw [← Ny107.out] at ho; have n0_ := Aside0.mk (Kd.R_over' (by (with_reducible repeat (first | apply Kd.R_alloc | apply Kd.R_drewN | apply Kd.R_drew)); exact (Kd.R_mono (Kd.R_far (p := ⟨gb106, 3, none⟩) (Kd.R_far (p := ⟨gb106, 2, none⟩) (Kd.R_far (p := ⟨gb106, 1, none⟩) (Kd.R_far (p := ⟨gb106, 0, none⟩) (Kd.R_mono HO_17.out (fun k_ hk => (⟨hk, hk.2⟩ : _ ∧ k_ ≠ gb106))) (fun _ hk => hk.2) (.int .i64 ((rd_T88 t101 x19_1).f0))) (fun _ hk => hk.2) (.int .i64 ((rd_T88 t101 x19_1).f1))) (fun _ hk => hk.2) (.int .i64 ((rd_T88 t101 x19_1).f2))) (fun _ hk => hk.2) (.int .i64 ((rd_T88 t101 x19_1).f3))) (fun _ h_ => h_.1))) (Kd.R_typed (by (with_reducible repeat (first | apply Kd.R_alloc | apply Kd.R_drewN | apply Kd.R_drew)); exact (Kd.R_mono (Kd.R_far (p := ⟨gb106, 3, none⟩) (Kd.R_far (p := ⟨gb106, 2, none⟩) (Kd.R_far (p := ⟨gb106, 1, none⟩) (Kd.R_far (p := ⟨gb106, 0, none⟩) (Kd.R_types HO_6.out BK106.out (by decide)) (fun _ hk => hk.2) (.int .i64 ((rd_T88 t101 x19_1).f0))) (fun _ hk => hk.2) (.int .i64 ((rd_T88 t101 x19_1).f1))) (fun _ hk => hk.2) (.int .i64 ((rd_T88 t101 x19_1).f2))) (fun _ hk => hk.2) (.int .i64 ((rd_T88 t101 x19_1).f3))) (fun _ h_ => h_.1)))) (by decide) hg); have n1_ := Aside0.mk (blk_grown (g := gb106) (o := .cells #[.int .i64 ((rd_T88 t101 x19_1).f0), .int .i64 ((rd_T88 t101 x19_1).f1), .int .i64 ((rd_T88 t101 x19_1).f2), .int .i64 ((rd_T88 t101 x19_1).f3)] 88 (0, 0)) (by (with_reducible repeat (first | refine blk_drewN ?_ _ | refine blk_drew ?_ | refine blk_alloc ?_ _)); refine blk_put (cs := #[.int .i64 ((rd_T88 t101 x19_1).f0), .int .i64 ((rd_T88 t101 x19_1).f1), .int .i64 ((rd_T88 t101 x19_1).f2), .int .i64 0]) ?_ 3 _ rfl; (with_reducible repeat (first | refine blk_drewN ?_ _ | refine blk_drew ?_ | refine blk_alloc ?_ _)); refine blk_put (cs := #[.int .i64 ((rd_T88 t101 x19_1).f0), .int .i64 ((rd_T88 t101 x19_1).f1), .int .i64 0, .int .i64 0]) ?_ 2 _ rfl; (with_reducible repeat (first | refine blk_drewN ?_ _ | refine blk_drew ?_ | refine blk_alloc ?_ _)); refine blk_put (cs := #[.int .i64 ((rd_T88 t101 x19_1).f0), .int .i64 0, .int .i64 0, .int .i64 0]) ?_ 1 _ rfl; (with_reducible repeat (first | refine blk_drewN ?_ _ | refine blk_drew ?_ | refine blk_alloc ?_ _)); refine blk_put (cs := #[.int .i64 0, .int .i64 0, .int .i64 0, .int .i64 0]) ?_ 0 _ rfl; (with_reducible repeat (first | refine blk_drewN ?_ _ | refine blk_drew ?_ | refine blk_alloc ?_ _)); exact BK106.out) hg (Kd.R_ne HO_6.out BK106.out (by decide))); have n2_ := Aside0.mk (hb); have n3_ := Aside0.mk (ho); clear HO_17; clear BK106; clear HB; clear HO_6; have HO_17 := n0_; have BK106 := n1_; have HB := n2_; have HO109 := n3_; clear n0_ n1_ n2_ n3_; clear ho hb hg hat))
        go_roundg k1
        case measure => have := HK1.out; omega
        case rel => exact ⟨(y107), (wrap64 (x19_1 + 1)), (by first | rfl | (simp; done) | (simp [*]; done)), H', ⟨by have := HK1.out; omega⟩, ⟨by (with_reducible repeat (first | apply Kd.R_alloc | apply Kd.R_drewN | apply Kd.R_drew)); exact HO109.out⟩, ⟨by (with_reducible repeat (first | apply Kd.R_alloc | apply Kd.R_drewN | apply Kd.R_drew)); exact Kd.R_mono HO_17.out (fun _ hk => trivial)⟩, ⟨by repeat (first | (with_reducible first | exact HB.out | apply below_alloc | apply pw_below_drewN | apply below_drew1 | refine below_set ?_ GE106.out) | exact HB.out)⟩⟩
       ·rw [if_neg c9] at H
        exact absurd H (by simp)
      ·rw [if_neg c8] at H
       exact absurd H (by simp)
     ·rw [if_neg c7] at H
      exact absurd H (by simp)
    ·rw [if_neg c6] at H
     have c6b0 : decide (x19_1 < (t101.length : Int)) = false := decide_eq_false c6
     clear c6
     replace H := Option.bind_eq_some_iff.mp H
     obtain ⟨t110, A130, H⟩ := H
     replace H : (some (t110, 0)) = some (r1, r2) := H
     have A13 := Aside0.mk A130
     clear A130
     simp only [Option.some.injEq, Prod.mk.injEq] at H
     obtain ⟨rfl, rfl⟩ := H
     obtain ⟨Ao14, co14, eo14⟩ := Kd.R_slice HO_6.out
     subst eo14
     go_wp2_with (first | ((with_reducible refine gate_callee (f := 111) rfl ?_); refine goesL_ (some 33) rfl rfl Try.func111 (by kernel_rfl) rfl #[.slice Ao14 x6_1.length co14] rfl (by (try simp only [List.map_toArray, List.map_cons, List.map_nil]); first | done | rfl | (simp only [List.length_drop, List.length_take]; rfl)) ?_; (with_reducible refine (extent_Join.calls _ _ x6_1 t110 _ ?side1 ?side2 A13.out).mono ?_); (case side1 => repeat (first | exact (Kd.R_reads' HO_6.out).2.2 | (with_reducible refine Kd.C_alloc ?_ _) | (with_reducible refine Kd.C_drewN ?_ _) | (with_reducible refine Kd.C_drew ?_))); (case side2 => exact (Kd.R_reads' HO_6.out).2.1); rintro e w15 ⟨v111, rfl, ho0, hb⟩; refine ⟨_, rfl, ?_⟩; have n0_ := Aside0.mk (Kd.R_elder' (by (with_reducible repeat (first | apply Kd.R_alloc | apply Kd.R_drewN | apply Kd.R_drew)); exact HO_6.out) (Kd.R_base ho0) hb); have n1_ := Aside0.mk (Kd.R_below (by (with_reducible repeat (first | apply Kd.R_alloc | apply Kd.R_drewN | apply Kd.R_drew)); exact HO_17.out) hb); have n2_ := Aside0.mk (Kd.R_lower (Kd.R_new' ho0 (Kd.R_lt (by (with_reducible repeat (first | apply Kd.R_alloc | apply Kd.R_drewN | apply Kd.R_drew)); exact HO_6.out))) (below_size (by repeat (first | (with_reducible first | exact HB.out | apply below_alloc | apply pw_below_drewN | apply below_drew1) | exact HB.out)))); have n3_ := Aside0.mk (below_step (by repeat (first | (with_reducible first | exact HB.out | apply below_alloc | apply pw_below_drewN | apply below_drew1) | exact HB.out)) hb); clear HO_6; clear HO_17; clear HB; have HO_6 := n0_; have HO_17 := n1_; have HO112 := n2_; have HB := n3_; clear n0_ n1_ n2_ n3_; (try clear hb); (try clear hb2); (try clear hk); (try clear hi); (try clear ho0)))
     go_ret2
     exact ⟨_, by first | rfl | (simp [errW_none, errW_some] <;> rfl) | (simp [*, errW_none, errW_some] <;> rfl), by (with_reducible repeat (first | apply Kd.R_alloc | apply Kd.R_drewN | apply Kd.R_drew)); exact Kd.R_mono HO112.out (fun _ hk => trivial), by repeat (first | (with_reducible first | exact HB.out | apply below_alloc | apply pw_below_drewN | apply below_drew1) | exact HB.out)⟩
 ·rw [if_neg c3] at H
  have c3b0 : (t102 == 0) = false := beq_eq_false_iff_ne.mpr c3
  have c3b1 : (t102 != 0) = true := bne_iff_ne.mpr c3
  simp only [Option.some.injEq, Prod.mk.injEq] at H
  obtain ⟨rfl, rfl⟩ := H
  go_enter Try.func64, Try.ntmps64
  go_wp2_with (first | ((with_reducible refine gate_callee (f := 65) rfl ?_); refine goesL_ (some 11) rfl rfl Try.func65 (by kernel_rfl) rfl #[.slice A0 l0.length c0] rfl (by (try simp only [List.map_toArray, List.map_cons, List.map_nil]); first | done | rfl | (simp only [List.length_drop, List.length_take]; rfl)) ?_; (with_reducible refine (refs_Refs.calls _ _ l0 t101 t102 _ ?side1 ?side2 A2.out).mono ?_); (case side1 => repeat (first | exact HR0.out | (with_reducible refine Kd.C_alloc ?_ _) | (with_reducible refine Kd.C_drewN ?_ _) | (with_reducible refine Kd.C_drew ?_))); (case side2 => exact HC0.out); rintro e w16 ⟨v103, rfl, ho0, hb⟩; refine ⟨_, rfl, ?_⟩; have n0_ := Aside0.mk (Kd.R_lower ho0 (below_size (by repeat (first | (with_reducible first | exact HB.out | apply below_alloc | apply pw_below_drewN | apply below_drew1) | exact HB.out)))); have n1_ := Aside0.mk (below_step (by repeat (first | (with_reducible first | exact HB.out | apply below_alloc | apply pw_below_drewN | apply below_drew1) | exact HB.out)) hb); clear HB; have HO104 := n0_; have HB := n1_; clear n0_ n1_; (try clear hb); (try clear hb2); (try clear hk); (try clear hi); (try clear ho0)))
  go_ret2
  exact ⟨_, by first | rfl | (simp [errW_none, errW_some] <;> rfl) | (simp [*, errW_none, errW_some] <;> rfl), by first | exact Kd.R_nil _ _ _ _ _ | exact Kd.N_nil _ _ _ _ _ | exact Kd.V_nil _ _ _ _ _ | exact Kd.Q_nil _ _ _ _ _ | exact Kd.S_nil _ _ _ _ _, by repeat (first | (with_reducible first | exact HB.out | apply below_alloc | apply pw_below_drewN | apply below_drew1) | exact HB.out)⟩
end Go.Proofs.Ytkkfkdncddbaeaa.Fn
namespace Go.Proofs.Ytkkfkdncddbaeaa.Fn
open Go.RowKit Go.Proofs.YtkkfkdncddbaeaaW.PrintWords Go.Proofs.YtkkfkdncddbaeaaW.PrintLast Go.Proofs.YtkkfkdncddbaeaaW.PrintMore
attribute [local go_sem] max2_int min2_int max_two min_two max_three min_three max_four min_four
set_option linter.unusedVariables false
set_option linter.unusedSimpArgs false
mutual
def flagstonelaw09_RefsCounts.l0 : Nat → Int → List (S96) → List (S88) → Int → List (S40) → Int → Int → Int → Option (Bool)
 | 0, _, _, _, _, _, _, _, _ => none
 | k + 1, x1, x5, x7, x8, x9, x10, x11, x12 => if x12 < (x5.length : Int) then (if 0 ≤ x12 then (if x1 ≥ ((rd_T96 x5 x12).f0) then (if (wrap64 (x1 - ((rd_T96 x5 x12).f0))) < ((rd_T96 x5 x12).f1) then (flagstonelaw09_RefsCounts.l0 k x1 x5 x7 x8 x9 x10 (wrap64 (x11 + ((rd_T96 x5 x12).f2))) (wrap64 (x12 + 1))) else (flagstonelaw09_RefsCounts.l0 k x1 x5 x7 x8 x9 x10 x11 (wrap64 (x12 + 1)))) else (flagstonelaw09_RefsCounts.l0 k x1 x5 x7 x8 x9 x10 x11 (wrap64 (x12 + 1)))) else (none)) else (flagstonelaw09_RefsCounts.l1 k x1 x7 x8 x9 x10 x11 false 0)
def flagstonelaw09_RefsCounts.l1 : Nat → Int → List (S88) → Int → List (S40) → Int → Int → Bool → Int → Option (Bool)
 | 0, _, _, _, _, _, _, _, _ => none
 | k + 1, x1, x7, x8, x9, x10, x11, x13, x14 => if x14 < (x9.length : Int) then (if x13 = true then (flagstonelaw09_RefsCounts.l1 k x1 x7 x8 x9 x10 x11 true (wrap64 (x14 + 1))) else (if 0 ≤ x14 then (if x1 ≥ ((rd_T40 x9 x14).f0) then (flagstonelaw09_RefsCounts.l1 k x1 x7 x8 x9 x10 x11 (decide ((wrap64 (x1 - ((rd_T40 x9 x14).f0))) < ((rd_T40 x9 x14).f1))) (wrap64 (x14 + 1))) else (flagstonelaw09_RefsCounts.l1 k x1 x7 x8 x9 x10 x11 false (wrap64 (x14 + 1)))) else (none))) else ((flagstonelaw09_num.f x8).bind fun t133 => ((flagstonelaw09_num.f x10).bind fun t134 => (if (wrap64 (t133 + t134)) = 0 then (if x11 = (x7.length : Int) then (some (x13 == (decide (x11 > 0)))) else (some false)) else (some false))))
end
def flagstonelaw09_RefsCounts.f (k : Nat) (l0 : List (S86)) (a1 : Int) : Option (Bool) := (flagstonelaw09_alive.f).bind fun t101 => (if t101 = true then ((flagstonelaw09_Of.f k l0).bind fun t102 => ((refs_Counts.f t102).bind fun bt105 => ((flagstonelaw09_Of.f k l0).bind fun t109 => ((refs_Who.f t109 (Int.tmod (wrap64 ((Int.tmod a1 65536) + 65536)) 65536) 1).bind fun bt112 => ((flagstonelaw09_Of.f k l0).bind fun t116 => ((refs_Used.f k t116).bind fun bt119 => ((flagstonelaw09_num.f bt105.2).bind fun t123 => (if t123 = 0 then (flagstonelaw09_RefsCounts.l0 k (Int.tmod (wrap64 ((Int.tmod a1 65536) + 65536)) 65536) bt105.1 bt112.1 bt112.2 bt119.1 bt119.2 0 0) else ((flagstonelaw09_num.f bt112.2).bind fun t124 => (if t124 = 9 then ((flagstonelaw09_num.f bt119.2).bind fun t125 => (if t125 = 9 then (some ((bt112.1.length : Int) == 0)) else (some false))) else (some false))))))))))) else (some false))
theorem flagstonelaw09_RefsCounts.mono_l : ∀ k, (∀ y0 y1 y2 y3 y4 y5 y6 y7, LeO (flagstonelaw09_RefsCounts.l0 k y0 y1 y2 y3 y4 y5 y6 y7) (flagstonelaw09_RefsCounts.l0 (k + 1) y0 y1 y2 y3 y4 y5 y6 y7)) ∧ (∀ y0 y1 y2 y3 y4 y5 y6 y7, LeO (flagstonelaw09_RefsCounts.l1 k y0 y1 y2 y3 y4 y5 y6 y7) (flagstonelaw09_RefsCounts.l1 (k + 1) y0 y1 y2 y3 y4 y5 y6 y7))
 | 0 => ⟨fun _ _ _ _ _ _ _ _ r h => by simp [flagstonelaw09_RefsCounts.l0] at h, fun _ _ _ _ _ _ _ _ r h => by simp [flagstonelaw09_RefsCounts.l1] at h⟩
 | k + 1 => by
  obtain ⟨ih0, ih1⟩ := flagstonelaw09_RefsCounts.mono_l k
  refine ⟨?_, ?_⟩
  ·intro y0 y1 y2 y3 y4 y5 y6 y7
   unfold flagstonelaw09_RefsCounts.l0
   repeat' first
   | (with_reducible exact ih0 _ _ _ _ _ _ _ _)
   | (with_reducible exact ih1 _ _ _ _ _ _ _ _)
   | (with_reducible exact flagstonelaw09_Of.mono _ _)
   | (with_reducible exact refs_Used.mono _ _)
   | (with_reducible exact LeO.refl _)
   | (with_reducible exact LeO.none _)
   | (with_reducible refine LeO.ite ?_ ?_)
   | (with_reducible refine LeO.bind ?_ (fun _ => ?_))
   | exact ih0 _ _ _ _ _ _ _ _
   | exact ih1 _ _ _ _ _ _ _ _
   | exact flagstonelaw09_Of.mono _ _
   | exact refs_Used.mono _ _
   | exact LeO.none _
   | refine LeO.ite ?_ ?_
   | refine LeO.bind ?_ (fun _ => ?_)
  ·intro y0 y1 y2 y3 y4 y5 y6 y7
   unfold flagstonelaw09_RefsCounts.l1
   repeat' first
   | (with_reducible exact ih0 _ _ _ _ _ _ _ _)
   | (with_reducible exact ih1 _ _ _ _ _ _ _ _)
   | (with_reducible exact flagstonelaw09_Of.mono _ _)
   | (with_reducible exact refs_Used.mono _ _)
   | (with_reducible exact LeO.refl _)
   | (with_reducible exact LeO.none _)
   | (with_reducible refine LeO.ite ?_ ?_)
   | (with_reducible refine LeO.bind ?_ (fun _ => ?_))
   | exact ih0 _ _ _ _ _ _ _ _
   | exact ih1 _ _ _ _ _ _ _ _
   | exact flagstonelaw09_Of.mono _ _
   | exact refs_Used.mono _ _
   | exact LeO.none _
   | refine LeO.ite ?_ ?_
   | refine LeO.bind ?_ (fun _ => ?_)
theorem flagstonelaw09_RefsCounts.mono : ∀ a0 a1 k, LeO (flagstonelaw09_RefsCounts.f k a0 a1) (flagstonelaw09_RefsCounts.f (k + 1) a0 a1) := by
 intro a0 a1 k
 obtain ⟨ih0, ih1⟩ := flagstonelaw09_RefsCounts.mono_l k
 unfold flagstonelaw09_RefsCounts.f
 repeat' first
  | (with_reducible exact ih0 _ _ _ _ _ _ _ _)
  | (with_reducible exact ih1 _ _ _ _ _ _ _ _)
  | (with_reducible exact flagstonelaw09_Of.mono _ _)
  | (with_reducible exact refs_Used.mono _ _)
  | (with_reducible exact LeO.refl _)
  | (with_reducible exact LeO.none _)
  | (with_reducible refine LeO.ite ?_ ?_)
  | (with_reducible refine LeO.bind ?_ (fun _ => ?_))
  | exact ih0 _ _ _ _ _ _ _ _
  | exact ih1 _ _ _ _ _ _ _ _
  | exact flagstonelaw09_Of.mono _ _
  | exact refs_Used.mono _ _
  | exact LeO.none _
  | refine LeO.ite ?_ ?_
  | refine LeO.bind ?_ (fun _ => ?_)
set_option maxHeartbeats 8000000 in
set_option maxRecDepth 100000 in
theorem flagstonelaw09_RefsCounts.calls (k : Nat) (A0 : Option Addr) (c0 : Nat) (l0 : List (S86)) (a1 : Int) (r : Bool) (w : World) (hr0 : Kd.C k86 w A0 l0.length l0) (hc0 : l0.length ≤ c0) (h : flagstonelaw09_RefsCounts.f k l0 a1 = some r) :
 Calls Try.prog 18 #[.slice A0 l0.length c0, .int .i64 a1] w fun e w' => e = .returned (.bool r) ∧ Below w.heap.size w w' := by
 have hu40 := Try.underlying40
 have HR0 := Aside0.mk hr0
 have HC0 := Aside0.mk hc0
 clear hr0 hc0
 have HB := Aside0.mk (Below.refl w.heap.size w)
 have H : ((flagstonelaw09_alive.f).bind fun t101 => (if t101 = true then ((flagstonelaw09_Of.f k l0).bind fun t102 => ((refs_Counts.f t102).bind fun bt105 => ((flagstonelaw09_Of.f k l0).bind fun t109 => ((refs_Who.f t109 (Int.tmod (wrap64 ((Int.tmod a1 65536) + 65536)) 65536) 1).bind fun bt112 => ((flagstonelaw09_Of.f k l0).bind fun t116 => ((refs_Used.f k t116).bind fun bt119 => ((flagstonelaw09_num.f bt105.2).bind fun t123 => (if t123 = 0 then (flagstonelaw09_RefsCounts.l0 k (Int.tmod (wrap64 ((Int.tmod a1 65536) + 65536)) 65536) bt105.1 bt112.1 bt112.2 bt119.1 bt119.2 0 0) else ((flagstonelaw09_num.f bt112.2).bind fun t124 => (if t124 = 9 then ((flagstonelaw09_num.f bt119.2).bind fun t125 => (if t125 = 9 then (some ((bt112.1.length : Int) == 0)) else (some false))) else (some false))))))))))) else (some false))) = some r := h
 clear h
 replace H := Option.bind_eq_some_iff.mp H
 obtain ⟨t101, A30, H⟩ := H
 replace H : (if t101 = true then ((flagstonelaw09_Of.f k l0).bind fun t102 => ((refs_Counts.f t102).bind fun bt105 => ((flagstonelaw09_Of.f k l0).bind fun t109 => ((refs_Who.f t109 (Int.tmod (wrap64 ((Int.tmod a1 65536) + 65536)) 65536) 1).bind fun bt112 => ((flagstonelaw09_Of.f k l0).bind fun t116 => ((refs_Used.f k t116).bind fun bt119 => ((flagstonelaw09_num.f bt105.2).bind fun t123 => (if t123 = 0 then (flagstonelaw09_RefsCounts.l0 k (Int.tmod (wrap64 ((Int.tmod a1 65536) + 65536)) 65536) bt105.1 bt112.1 bt112.2 bt119.1 bt119.2 0 0) else ((flagstonelaw09_num.f bt112.2).bind fun t124 => (if t124 = 9 then ((flagstonelaw09_num.f bt119.2).bind fun t125 => (if t125 = 9 then (some ((bt112.1.length : Int) == 0)) else (some false))) else (some false))))))))))) else (some false)) = some r := H
 have A3 := Aside0.mk A30
 clear A30
 by_cases c4 : t101 = true
 ·subst c4
  have H1 : ((flagstonelaw09_Of.f k l0).bind fun t102 => ((refs_Counts.f t102).bind fun bt105 => ((flagstonelaw09_Of.f k l0).bind fun t109 => ((refs_Who.f t109 (Int.tmod (wrap64 ((Int.tmod a1 65536) + 65536)) 65536) 1).bind fun bt112 => ((flagstonelaw09_Of.f k l0).bind fun t116 => ((refs_Used.f k t116).bind fun bt119 => ((flagstonelaw09_num.f bt105.2).bind fun t123 => (if t123 = 0 then (flagstonelaw09_RefsCounts.l0 k (Int.tmod (wrap64 ((Int.tmod a1 65536) + 65536)) 65536) bt105.1 bt112.1 bt112.2 bt119.1 bt119.2 0 0) else ((flagstonelaw09_num.f bt112.2).bind fun t124 => (if t124 = 9 then ((flagstonelaw09_num.f bt119.2).bind fun t125 => (if t125 = 9 then (some ((bt112.1.length : Int) == 0)) else (some false))) else (some false))))))))))) = some r := by rw [if_pos rfl] at H; exact H
  clear H
  have H := H1
  clear H1
  replace H := Option.bind_eq_some_iff.mp H
  obtain ⟨t102, A50, H⟩ := H
  replace H : ((refs_Counts.f t102).bind fun bt105 => ((flagstonelaw09_Of.f k l0).bind fun t109 => ((refs_Who.f t109 (Int.tmod (wrap64 ((Int.tmod a1 65536) + 65536)) 65536) 1).bind fun bt112 => ((flagstonelaw09_Of.f k l0).bind fun t116 => ((refs_Used.f k t116).bind fun bt119 => ((flagstonelaw09_num.f bt105.2).bind fun t123 => (if t123 = 0 then (flagstonelaw09_RefsCounts.l0 k (Int.tmod (wrap64 ((Int.tmod a1 65536) + 65536)) 65536) bt105.1 bt112.1 bt112.2 bt119.1 bt119.2 0 0) else ((flagstonelaw09_num.f bt112.2).bind fun t124 => (if t124 = 9 then ((flagstonelaw09_num.f bt119.2).bind fun t125 => (if t125 = 9 then (some ((bt112.1.length : Int) == 0)) else (some false))) else (some false)))))))))) = some r := H
  have A5 := Aside0.mk A50
  clear A50
  replace H := Option.bind_eq_some_iff.mp H
  obtain ⟨⟨t105, t106⟩, A60, H⟩ := H
  replace H : ((flagstonelaw09_Of.f k l0).bind fun t109 => ((refs_Who.f t109 (Int.tmod (wrap64 ((Int.tmod a1 65536) + 65536)) 65536) 1).bind fun bt112 => ((flagstonelaw09_Of.f k l0).bind fun t116 => ((refs_Used.f k t116).bind fun bt119 => ((flagstonelaw09_num.f t106).bind fun t123 => (if t123 = 0 then (flagstonelaw09_RefsCounts.l0 k (Int.tmod (wrap64 ((Int.tmod a1 65536) + 65536)) 65536) t105 bt112.1 bt112.2 bt119.1 bt119.2 0 0) else ((flagstonelaw09_num.f bt112.2).bind fun t124 => (if t124 = 9 then ((flagstonelaw09_num.f bt119.2).bind fun t125 => (if t125 = 9 then (some ((bt112.1.length : Int) == 0)) else (some false))) else (some false))))))))) = some r := H
  have A6 := Aside0.mk A60
  clear A60
  replace H := Option.bind_eq_some_iff.mp H
  obtain ⟨t109, A70, H⟩ := H
  replace H : ((refs_Who.f t109 (Int.tmod (wrap64 ((Int.tmod a1 65536) + 65536)) 65536) 1).bind fun bt112 => ((flagstonelaw09_Of.f k l0).bind fun t116 => ((refs_Used.f k t116).bind fun bt119 => ((flagstonelaw09_num.f t106).bind fun t123 => (if t123 = 0 then (flagstonelaw09_RefsCounts.l0 k (Int.tmod (wrap64 ((Int.tmod a1 65536) + 65536)) 65536) t105 bt112.1 bt112.2 bt119.1 bt119.2 0 0) else ((flagstonelaw09_num.f bt112.2).bind fun t124 => (if t124 = 9 then ((flagstonelaw09_num.f bt119.2).bind fun t125 => (if t125 = 9 then (some ((bt112.1.length : Int) == 0)) else (some false))) else (some false)))))))) = some r := H
  have A7 := Aside0.mk A70
  clear A70
  replace H := Option.bind_eq_some_iff.mp H
  obtain ⟨⟨t112, t115⟩, A80, H⟩ := H
  replace H : ((flagstonelaw09_Of.f k l0).bind fun t116 => ((refs_Used.f k t116).bind fun bt119 => ((flagstonelaw09_num.f t106).bind fun t123 => (if t123 = 0 then (flagstonelaw09_RefsCounts.l0 k (Int.tmod (wrap64 ((Int.tmod a1 65536) + 65536)) 65536) t105 t112 t115 bt119.1 bt119.2 0 0) else ((flagstonelaw09_num.f t115).bind fun t124 => (if t124 = 9 then ((flagstonelaw09_num.f bt119.2).bind fun t125 => (if t125 = 9 then (some ((t112.length : Int) == 0)) else (some false))) else (some false))))))) = some r := H
  have A8 := Aside0.mk A80
  clear A80
  replace H := Option.bind_eq_some_iff.mp H
  obtain ⟨t116, A90, H⟩ := H
  replace H : ((refs_Used.f k t116).bind fun bt119 => ((flagstonelaw09_num.f t106).bind fun t123 => (if t123 = 0 then (flagstonelaw09_RefsCounts.l0 k (Int.tmod (wrap64 ((Int.tmod a1 65536) + 65536)) 65536) t105 t112 t115 bt119.1 bt119.2 0 0) else ((flagstonelaw09_num.f t115).bind fun t124 => (if t124 = 9 then ((flagstonelaw09_num.f bt119.2).bind fun t125 => (if t125 = 9 then (some ((t112.length : Int) == 0)) else (some false))) else (some false)))))) = some r := H
  have A9 := Aside0.mk A90
  clear A90
  replace H := Option.bind_eq_some_iff.mp H
  obtain ⟨⟨t119, t120⟩, A100, H⟩ := H
  replace H : ((flagstonelaw09_num.f t106).bind fun t123 => (if t123 = 0 then (flagstonelaw09_RefsCounts.l0 k (Int.tmod (wrap64 ((Int.tmod a1 65536) + 65536)) 65536) t105 t112 t115 t119 t120 0 0) else ((flagstonelaw09_num.f t115).bind fun t124 => (if t124 = 9 then ((flagstonelaw09_num.f t120).bind fun t125 => (if t125 = 9 then (some ((t112.length : Int) == 0)) else (some false))) else (some false))))) = some r := H
  have A10 := Aside0.mk A100
  clear A100
  replace H := Option.bind_eq_some_iff.mp H
  obtain ⟨t123, A110, H⟩ := H
  replace H : (if t123 = 0 then (flagstonelaw09_RefsCounts.l0 k (Int.tmod (wrap64 ((Int.tmod a1 65536) + 65536)) 65536) t105 t112 t115 t119 t120 0 0) else ((flagstonelaw09_num.f t115).bind fun t124 => (if t124 = 9 then ((flagstonelaw09_num.f t120).bind fun t125 => (if t125 = 9 then (some ((t112.length : Int) == 0)) else (some false))) else (some false)))) = some r := H
  have A11 := Aside0.mk A110
  clear A110
  by_cases c12 : t123 = 0
  ·rw [if_pos c12] at H
   have c12b0 : (t123 == 0) = true := beq_iff_eq.mpr c12
   have c12b1 : (t123 != 0) = false := bne_eq_false_iff_eq.mpr c12
   clear c12
   have H' := Aside0.mk H
   clear H
   go_enter Try.func18, Try.ntmps18
   go_wp2_with (first | (go_at_call 57; (with_reducible refine (flagstonelaw09_alive.calls  true _ A3.out).mono ?_); rintro e w13 ⟨rfl, hb⟩; have n0_ := Aside0.mk (below_step (by repeat (first | (with_reducible first | exact HB.out | apply below_alloc | apply pw_below_drewN | apply below_drew1) | exact HB.out)) hb); clear HB; have HB := n0_; clear n0_; (try clear hb); (try clear hb2); (try clear hk); (try clear hi)) | ((fail_if_success (have q_ := ON_A5.out)); have ON_A5 := Aside0.mk True.intro; go_at_call 59; (with_reducible refine (flagstonelaw09_Of.calls k _ _ l0 t102 _ ?side1 ?side2 A5.out).mono ?_); (case side1 => repeat (first | exact (Kd.C_below HR0.out HB.out) | (with_reducible refine Kd.C_alloc ?_ _) | (with_reducible refine Kd.C_drewN ?_ _) | (with_reducible refine Kd.C_drew ?_))); (case side2 => exact HC0.out); rintro e w14 ⟨v103, rfl, ho0, hb⟩; have n0_ := Aside0.mk (Kd.S_lower ho0 (below_size (by repeat (first | (with_reducible first | exact HB.out | apply below_alloc | apply pw_below_drewN | apply below_drew1) | exact HB.out)))); have n1_ := Aside0.mk (below_step (by repeat (first | (with_reducible first | exact HB.out | apply below_alloc | apply pw_below_drewN | apply below_drew1) | exact HB.out)) hb); clear HB; have HO104 := n0_; have HB := n1_; clear n0_ n1_; (try clear hb); (try clear hb2); (try clear hk); (try clear hi); (try clear ho0); obtain ⟨Ao15, co15, eo15⟩ := Kd.S_slice HO104.out; subst eo15) | (go_at_call 62; (with_reducible refine (refs_Counts.calls _ _ t102 t105 t106 _ ?side1 ?side2 A6.out).mono ?_); (case side1 => repeat (first | exact (Kd.S_reads' HO104.out).2.2 | (with_reducible refine Kd.C_alloc ?_ _) | (with_reducible refine Kd.C_drewN ?_ _) | (with_reducible refine Kd.C_drew ?_))); (case side2 => exact (Kd.S_reads' HO104.out).2.1); rintro e w16 ⟨v107, rfl, ho0, hb⟩; have n0_ := Aside0.mk (Kd.S_below (by (with_reducible repeat (first | apply Kd.S_alloc | apply Kd.S_drewN | apply Kd.S_drew)); exact HO104.out) hb); have n1_ := Aside0.mk (Kd.R_lower ho0 (below_size (by repeat (first | (with_reducible first | exact HB.out | apply below_alloc | apply pw_below_drewN | apply below_drew1) | exact HB.out)))); have n2_ := Aside0.mk (below_step (by repeat (first | (with_reducible first | exact HB.out | apply below_alloc | apply pw_below_drewN | apply below_drew1) | exact HB.out)) hb); clear HO104; clear HB; have HO104 := n0_; have HO108 := n1_; have HB := n2_; clear n0_ n1_ n2_; (try clear hb); (try clear hb2); (try clear hk); (try clear hi); (try clear ho0)) | ((fail_if_success (have q_ := ON_A7.out)); have ON_A7 := Aside0.mk True.intro; go_at_call 59; (with_reducible refine (flagstonelaw09_Of.calls k _ _ l0 t109 _ ?side1 ?side2 A7.out).mono ?_); (case side1 => repeat (first | exact (Kd.C_below HR0.out HB.out) | (with_reducible refine Kd.C_alloc ?_ _) | (with_reducible refine Kd.C_drewN ?_ _) | (with_reducible refine Kd.C_drew ?_))); (case side2 => exact HC0.out); rintro e w17 ⟨v110, rfl, ho0, hb⟩; have n0_ := Aside0.mk (Kd.S_elder' (by (with_reducible repeat (first | apply Kd.S_alloc | apply Kd.S_drewN | apply Kd.S_drew)); exact HO104.out) (Kd.S_base ho0) hb); have n1_ := Aside0.mk (Kd.R_below (by (with_reducible repeat (first | apply Kd.R_alloc | apply Kd.R_drewN | apply Kd.R_drew)); exact HO108.out) hb); have n2_ := Aside0.mk (Kd.S_lower (Kd.S_new' ho0 (Kd.S_lt (by (with_reducible repeat (first | apply Kd.S_alloc | apply Kd.S_drewN | apply Kd.S_drew)); exact HO104.out))) (below_size (by repeat (first | (with_reducible first | exact HB.out | apply below_alloc | apply pw_below_drewN | apply below_drew1) | exact HB.out)))); have n3_ := Aside0.mk (below_step (by repeat (first | (with_reducible first | exact HB.out | apply below_alloc | apply pw_below_drewN | apply below_drew1) | exact HB.out)) hb); clear HO104; clear HO108; clear HB; have HO104 := n0_; have HO108 := n1_; have HO111 := n2_; have HB := n3_; clear n0_ n1_ n2_ n3_; (try clear hb); (try clear hb2); (try clear hk); (try clear hi); (try clear ho0); obtain ⟨Ao18, co18, eo18⟩ := Kd.S_slice HO111.out; subst eo18) | (go_at_call 58; (with_reducible refine (refs_Who.calls _ _ t109 (Int.tmod (wrap64 ((Int.tmod a1 65536) + 65536)) 65536) 1 t112 t115 _ ?side1 ?side2 A8.out).mono ?_); (case side1 => repeat (first | exact (Kd.S_reads' HO111.out).2.2 | (with_reducible refine Kd.C_alloc ?_ _) | (with_reducible refine Kd.C_drewN ?_ _) | (with_reducible refine Kd.C_drew ?_))); (case side2 => exact (Kd.S_reads' HO111.out).2.1); rintro e w19 ⟨v113, rfl, ho0, hb⟩; have n0_ := Aside0.mk (Kd.S_below (by (with_reducible repeat (first | apply Kd.S_alloc | apply Kd.S_drewN | apply Kd.S_drew)); exact HO104.out) hb); have n1_ := Aside0.mk (Kd.R_below (by (with_reducible repeat (first | apply Kd.R_alloc | apply Kd.R_drewN | apply Kd.R_drew)); exact HO108.out) hb); have n2_ := Aside0.mk (Kd.S_below (by (with_reducible repeat (first | apply Kd.S_alloc | apply Kd.S_drewN | apply Kd.S_drew)); exact HO111.out) hb); have n3_ := Aside0.mk (Kd.R_lower ho0 (below_size (by repeat (first | (with_reducible first | exact HB.out | apply below_alloc | apply pw_below_drewN | apply below_drew1) | exact HB.out)))); have n4_ := Aside0.mk (below_step (by repeat (first | (with_reducible first | exact HB.out | apply below_alloc | apply pw_below_drewN | apply below_drew1) | exact HB.out)) hb); clear HO104; clear HO108; clear HO111; clear HB; have HO104 := n0_; have HO108 := n1_; have HO111 := n2_; have HO114 := n3_; have HB := n4_; clear n0_ n1_ n2_ n3_ n4_; (try clear hb); (try clear hb2); (try clear hk); (try clear hi); (try clear ho0)) | ((fail_if_success (have q_ := ON_A9.out)); have ON_A9 := Aside0.mk True.intro; go_at_call 59; (with_reducible refine (flagstonelaw09_Of.calls k _ _ l0 t116 _ ?side1 ?side2 A9.out).mono ?_); (case side1 => repeat (first | exact (Kd.C_below HR0.out HB.out) | (with_reducible refine Kd.C_alloc ?_ _) | (with_reducible refine Kd.C_drewN ?_ _) | (with_reducible refine Kd.C_drew ?_))); (case side2 => exact HC0.out); rintro e w20 ⟨v117, rfl, ho0, hb⟩; have n0_ := Aside0.mk (Kd.S_elder' (by (with_reducible repeat (first | apply Kd.S_alloc | apply Kd.S_drewN | apply Kd.S_drew)); exact HO104.out) (Kd.S_base ho0) hb); have n1_ := Aside0.mk (Kd.R_below (by (with_reducible repeat (first | apply Kd.R_alloc | apply Kd.R_drewN | apply Kd.R_drew)); exact HO108.out) hb); have n2_ := Aside0.mk (Kd.S_elder' (by (with_reducible repeat (first | apply Kd.S_alloc | apply Kd.S_drewN | apply Kd.S_drew)); exact HO111.out) (Kd.S_base ho0) hb); have n3_ := Aside0.mk (Kd.R_below (by (with_reducible repeat (first | apply Kd.R_alloc | apply Kd.R_drewN | apply Kd.R_drew)); exact HO114.out) hb); have n4_ := Aside0.mk (Kd.S_lower (Kd.S_new' (Kd.S_new' ho0 (Kd.S_lt (by (with_reducible repeat (first | apply Kd.S_alloc | apply Kd.S_drewN | apply Kd.S_drew)); exact HO104.out))) (Kd.S_lt (by (with_reducible repeat (first | apply Kd.S_alloc | apply Kd.S_drewN | apply Kd.S_drew)); exact HO111.out))) (below_size (by repeat (first | (with_reducible first | exact HB.out | apply below_alloc | apply pw_below_drewN | apply below_drew1) | exact HB.out)))); have n5_ := Aside0.mk (below_step (by repeat (first | (with_reducible first | exact HB.out | apply below_alloc | apply pw_below_drewN | apply below_drew1) | exact HB.out)) hb); clear HO104; clear HO108; clear HO111; clear HO114; clear HB; have HO104 := n0_; have HO108 := n1_; have HO111 := n2_; have HO114 := n3_; have HO118 := n4_; have HB := n5_; clear n0_ n1_ n2_ n3_ n4_ n5_; (try clear hb); (try clear hb2); (try clear hk); (try clear hi); (try clear ho0); obtain ⟨Ao21, co21, eo21⟩ := Kd.S_slice HO118.out; subst eo21) | (go_at_call 64; (with_reducible refine (refs_Used.calls k _ _ t116 t119 t120 _ ?side1 ?side2 A10.out).mono ?_); (case side1 => repeat (first | exact (Kd.S_reads' HO118.out).2.2 | (with_reducible refine Kd.C_alloc ?_ _) | (with_reducible refine Kd.C_drewN ?_ _) | (with_reducible refine Kd.C_drew ?_))); (case side2 => exact (Kd.S_reads' HO118.out).2.1); rintro e w22 ⟨v121, rfl, ho0, hb⟩; have n0_ := Aside0.mk (Kd.S_below (by (with_reducible repeat (first | apply Kd.S_alloc | apply Kd.S_drewN | apply Kd.S_drew)); exact HO104.out) hb); have n1_ := Aside0.mk (Kd.R_below (by (with_reducible repeat (first | apply Kd.R_alloc | apply Kd.R_drewN | apply Kd.R_drew)); exact HO108.out) hb); have n2_ := Aside0.mk (Kd.S_below (by (with_reducible repeat (first | apply Kd.S_alloc | apply Kd.S_drewN | apply Kd.S_drew)); exact HO111.out) hb); have n3_ := Aside0.mk (Kd.R_below (by (with_reducible repeat (first | apply Kd.R_alloc | apply Kd.R_drewN | apply Kd.R_drew)); exact HO114.out) hb); have n4_ := Aside0.mk (Kd.S_below (by (with_reducible repeat (first | apply Kd.S_alloc | apply Kd.S_drewN | apply Kd.S_drew)); exact HO118.out) hb); have n5_ := Aside0.mk (Kd.R_lower ho0 (below_size (by repeat (first | (with_reducible first | exact HB.out | apply below_alloc | apply pw_below_drewN | apply below_drew1) | exact HB.out)))); have n6_ := Aside0.mk (below_step (by repeat (first | (with_reducible first | exact HB.out | apply below_alloc | apply pw_below_drewN | apply below_drew1) | exact HB.out)) hb); clear HO104; clear HO108; clear HO111; clear HO114; clear HO118; clear HB; have HO104 := n0_; have HO108 := n1_; have HO111 := n2_; have HO114 := n3_; have HO118 := n4_; have HO122 := n5_; have HB := n6_; clear n0_ n1_ n2_ n3_ n4_ n5_ n6_; (try clear hb); (try clear hb2); (try clear hk); (try clear hi); (try clear ho0)) | (go_at_call 60; (with_reducible refine (flagstonelaw09_num.calls t106 t123 _ A11.out).mono ?_); rintro e w' ⟨rfl, ⟨nd, rfl⟩⟩; (try first | exact ⟨rfl, _, World.drewN_drewN _ _ _⟩ | exact ⟨rfl, _, Eq.trans (World.drewN_drewN _ _ _) (congrArg (World.drewN _) (Nat.add_assoc _ _ _))⟩)))
   repeat (go_quiet (first | (go_at_call 57; (with_reducible refine (flagstonelaw09_alive.calls  true _ A3.out).mono ?_); rintro e w13 ⟨rfl, hb⟩; have n0_ := Aside0.mk (below_step (by repeat (first | (with_reducible first | exact HB.out | apply below_alloc | apply pw_below_drewN | apply below_drew1) | exact HB.out)) hb); clear HB; have HB := n0_; clear n0_; (try clear hb); (try clear hb2); (try clear hk); (try clear hi)) | ((fail_if_success (have q_ := ON_A5.out)); have ON_A5 := Aside0.mk True.intro; go_at_call 59; (with_reducible refine (flagstonelaw09_Of.calls k _ _ l0 t102 _ ?side1 ?side2 A5.out).mono ?_); (case side1 => repeat (first | exact (Kd.C_below HR0.out HB.out) | (with_reducible refine Kd.C_alloc ?_ _) | (with_reducible refine Kd.C_drewN ?_ _) | (with_reducible refine Kd.C_drew ?_))); (case side2 => exact HC0.out); rintro e w14 ⟨v103, rfl, ho0, hb⟩; have n0_ := Aside0.mk (Kd.S_lower ho0 (below_size (by repeat (first | (with_reducible first | exact HB.out | apply below_alloc | apply pw_below_drewN | apply below_drew1) | exact HB.out)))); have n1_ := Aside0.mk (below_step (by repeat (first | (with_reducible first | exact HB.out | apply below_alloc | apply pw_below_drewN | apply below_drew1) | exact HB.out)) hb); clear HB; have HO104 := n0_; have HB := n1_; clear n0_ n1_; (try clear hb); (try clear hb2); (try clear hk); (try clear hi); (try clear ho0); obtain ⟨Ao15, co15, eo15⟩ := Kd.S_slice HO104.out; subst eo15) | (go_at_call 62; (with_reducible refine (refs_Counts.calls _ _ t102 t105 t106 _ ?side1 ?side2 A6.out).mono ?_); (case side1 => repeat (first | exact (Kd.S_reads' HO104.out).2.2 | (with_reducible refine Kd.C_alloc ?_ _) | (with_reducible refine Kd.C_drewN ?_ _) | (with_reducible refine Kd.C_drew ?_))); (case side2 => exact (Kd.S_reads' HO104.out).2.1); rintro e w16 ⟨v107, rfl, ho0, hb⟩; have n0_ := Aside0.mk (Kd.S_below (by (with_reducible repeat (first | apply Kd.S_alloc | apply Kd.S_drewN | apply Kd.S_drew)); exact HO104.out) hb); have n1_ := Aside0.mk (Kd.R_lower ho0 (below_size (by repeat (first | (with_reducible first | exact HB.out | apply below_alloc | apply pw_below_drewN | apply below_drew1) | exact HB.out)))); have n2_ := Aside0.mk (below_step (by repeat (first | (with_reducible first | exact HB.out | apply below_alloc | apply pw_below_drewN | apply below_drew1) | exact HB.out)) hb); clear HO104; clear HB; have HO104 := n0_; have HO108 := n1_; have HB := n2_; clear n0_ n1_ n2_; (try clear hb); (try clear hb2); (try clear hk); (try clear hi); (try clear ho0)) | ((fail_if_success (have q_ := ON_A7.out)); have ON_A7 := Aside0.mk True.intro; go_at_call 59; (with_reducible refine (flagstonelaw09_Of.calls k _ _ l0 t109 _ ?side1 ?side2 A7.out).mono ?_); (case side1 => repeat (first | exact (Kd.C_below HR0.out HB.out) | (with_reducible refine Kd.C_alloc ?_ _) | (with_reducible refine Kd.C_drewN ?_ _) | (with_reducible refine Kd.C_drew ?_))); (case side2 => exact HC0.out); rintro e w17 ⟨v110, rfl, ho0, hb⟩; have n0_ := Aside0.mk (Kd.S_elder' (by (with_reducible repeat (first | apply Kd.S_alloc | apply Kd.S_drewN | apply Kd.S_drew)); exact HO104.out) (Kd.S_base ho0) hb); have n1_ := Aside0.mk (Kd.R_below (by (with_reducible repeat (first | apply Kd.R_alloc | apply Kd.R_drewN | apply Kd.R_drew)); exact HO108.out) hb); have n2_ := Aside0.mk (Kd.S_lower (Kd.S_new' ho0 (Kd.S_lt (by (with_reducible repeat (first | apply Kd.S_alloc | apply Kd.S_drewN | apply Kd.S_drew)); exact HO104.out))) (below_size (by repeat (first | (with_reducible first | exact HB.out | apply below_alloc | apply pw_below_drewN | apply below_drew1) | exact HB.out)))); have n3_ := Aside0.mk (below_step (by repeat (first | (with_reducible first | exact HB.out | apply below_alloc | apply pw_below_drewN | apply below_drew1) | exact HB.out)) hb); clear HO104; clear HO108; clear HB; have HO104 := n0_; have HO108 := n1_; have HO111 := n2_; have HB := n3_; clear n0_ n1_ n2_ n3_; (try clear hb); (try clear hb2); (try clear hk); (try clear hi); (try clear ho0); obtain ⟨Ao18, co18, eo18⟩ := Kd.S_slice HO111.out; subst eo18) | (go_at_call 58; (with_reducible refine (refs_Who.calls _ _ t109 (Int.tmod (wrap64 ((Int.tmod a1 65536) + 65536)) 65536) 1 t112 t115 _ ?side1 ?side2 A8.out).mono ?_); (case side1 => repeat (first | exact (Kd.S_reads' HO111.out).2.2 | (with_reducible refine Kd.C_alloc ?_ _) | (with_reducible refine Kd.C_drewN ?_ _) | (with_reducible refine Kd.C_drew ?_))); (case side2 => exact (Kd.S_reads' HO111.out).2.1); rintro e w19 ⟨v113, rfl, ho0, hb⟩; have n0_ := Aside0.mk (Kd.S_below (by (with_reducible repeat (first | apply Kd.S_alloc | apply Kd.S_drewN | apply Kd.S_drew)); exact HO104.out) hb); have n1_ := Aside0.mk (Kd.R_below (by (with_reducible repeat (first | apply Kd.R_alloc | apply Kd.R_drewN | apply Kd.R_drew)); exact HO108.out) hb); have n2_ := Aside0.mk (Kd.S_below (by (with_reducible repeat (first | apply Kd.S_alloc | apply Kd.S_drewN | apply Kd.S_drew)); exact HO111.out) hb); have n3_ := Aside0.mk (Kd.R_lower ho0 (below_size (by repeat (first | (with_reducible first | exact HB.out | apply below_alloc | apply pw_below_drewN | apply below_drew1) | exact HB.out)))); have n4_ := Aside0.mk (below_step (by repeat (first | (with_reducible first | exact HB.out | apply below_alloc | apply pw_below_drewN | apply below_drew1) | exact HB.out)) hb); clear HO104; clear HO108; clear HO111; clear HB; have HO104 := n0_; have HO108 := n1_; have HO111 := n2_; have HO114 := n3_; have HB := n4_; clear n0_ n1_ n2_ n3_ n4_; (try clear hb); (try clear hb2); (try clear hk); (try clear hi); (try clear ho0)) | ((fail_if_success (have q_ := ON_A9.out)); have ON_A9 := Aside0.mk True.intro; go_at_call 59; (with_reducible refine (flagstonelaw09_Of.calls k _ _ l0 t116 _ ?side1 ?side2 A9.out).mono ?_); (case side1 => repeat (first | exact (Kd.C_below HR0.out HB.out) | (with_reducible refine Kd.C_alloc ?_ _) | (with_reducible refine Kd.C_drewN ?_ _) | (with_reducible refine Kd.C_drew ?_))); (case side2 => exact HC0.out); rintro e w20 ⟨v117, rfl, ho0, hb⟩; have n0_ := Aside0.mk (Kd.S_elder' (by (with_reducible repeat (first | apply Kd.S_alloc | apply Kd.S_drewN | apply Kd.S_drew)); exact HO104.out) (Kd.S_base ho0) hb); have n1_ := Aside0.mk (Kd.R_below (by (with_reducible repeat (first | apply Kd.R_alloc | apply Kd.R_drewN | apply Kd.R_drew)); exact HO108.out) hb); have n2_ := Aside0.mk (Kd.S_elder' (by (with_reducible repeat (first | apply Kd.S_alloc | apply Kd.S_drewN | apply Kd.S_drew)); exact HO111.out) (Kd.S_base ho0) hb); have n3_ := Aside0.mk (Kd.R_below (by (with_reducible repeat (first | apply Kd.R_alloc | apply Kd.R_drewN | apply Kd.R_drew)); exact HO114.out) hb); have n4_ := Aside0.mk (Kd.S_lower (Kd.S_new' (Kd.S_new' ho0 (Kd.S_lt (by (with_reducible repeat (first | apply Kd.S_alloc | apply Kd.S_drewN | apply Kd.S_drew)); exact HO104.out))) (Kd.S_lt (by (with_reducible repeat (first | apply Kd.S_alloc | apply Kd.S_drewN | apply Kd.S_drew)); exact HO111.out))) (below_size (by repeat (first | (with_reducible first | exact HB.out | apply below_alloc | apply pw_below_drewN | apply below_drew1) | exact HB.out)))); have n5_ := Aside0.mk (below_step (by repeat (first | (with_reducible first | exact HB.out | apply below_alloc | apply pw_below_drewN | apply below_drew1) | exact HB.out)) hb); clear HO104; clear HO108; clear HO111; clear HO114; clear HB; have HO104 := n0_; have HO108 := n1_; have HO111 := n2_; have HO114 := n3_; have HO118 := n4_; have HB := n5_; clear n0_ n1_ n2_ n3_ n4_ n5_; (try clear hb); (try clear hb2); (try clear hk); (try clear hi); (try clear ho0); obtain ⟨Ao21, co21, eo21⟩ := Kd.S_slice HO118.out; subst eo21) | (go_at_call 64; (with_reducible refine (refs_Used.calls k _ _ t116 t119 t120 _ ?side1 ?side2 A10.out).mono ?_); (case side1 => repeat (first | exact (Kd.S_reads' HO118.out).2.2 | (with_reducible refine Kd.C_alloc ?_ _) | (with_reducible refine Kd.C_drewN ?_ _) | (with_reducible refine Kd.C_drew ?_))); (case side2 => exact (Kd.S_reads' HO118.out).2.1); rintro e w22 ⟨v121, rfl, ho0, hb⟩; have n0_ := Aside0.mk (Kd.S_below (by (with_reducible repeat (first | apply Kd.S_alloc | apply Kd.S_drewN | apply Kd.S_drew)); exact HO104.out) hb); have n1_ := Aside0.mk (Kd.R_below (by (with_reducible repeat (first | apply Kd.R_alloc | apply Kd.R_drewN | apply Kd.R_drew)); exact HO108.out) hb); have n2_ := Aside0.mk (Kd.S_below (by (with_reducible repeat (first | apply Kd.S_alloc | apply Kd.S_drewN | apply Kd.S_drew)); exact HO111.out) hb); have n3_ := Aside0.mk (Kd.R_below (by (with_reducible repeat (first | apply Kd.R_alloc | apply Kd.R_drewN | apply Kd.R_drew)); exact HO114.out) hb); have n4_ := Aside0.mk (Kd.S_below (by (with_reducible repeat (first | apply Kd.S_alloc | apply Kd.S_drewN | apply Kd.S_drew)); exact HO118.out) hb); have n5_ := Aside0.mk (Kd.R_lower ho0 (below_size (by repeat (first | (with_reducible first | exact HB.out | apply below_alloc | apply pw_below_drewN | apply below_drew1) | exact HB.out)))); have n6_ := Aside0.mk (below_step (by repeat (first | (with_reducible first | exact HB.out | apply below_alloc | apply pw_below_drewN | apply below_drew1) | exact HB.out)) hb); clear HO104; clear HO108; clear HO111; clear HO114; clear HO118; clear HB; have HO104 := n0_; have HO108 := n1_; have HO111 := n2_; have HO114 := n3_; have HO118 := n4_; have HO122 := n5_; have HB := n6_; clear n0_ n1_ n2_ n3_ n4_ n5_ n6_; (try clear hb); (try clear hb2); (try clear hk); (try clear hi); (try clear ho0)) | (go_at_call 60; (with_reducible refine (flagstonelaw09_num.calls t106 t123 _ A11.out).mono ?_); rintro e w' ⟨rfl, ⟨nd, rfl⟩⟩; (try first | exact ⟨rfl, _, World.drewN_drewN _ _ _⟩ | exact ⟨rfl, _, Eq.trans (World.drewN_drewN _ _ _) (congrArg (World.drewN _) (Nat.add_assoc _ _ _))⟩))); try go_wp2_with (first | (go_at_call 57; (with_reducible refine (flagstonelaw09_alive.calls  true _ A3.out).mono ?_); rintro e w13 ⟨rfl, hb⟩; have n0_ := Aside0.mk (below_step (by repeat (first | (with_reducible first | exact HB.out | apply below_alloc | apply pw_below_drewN | apply below_drew1) | exact HB.out)) hb); clear HB; have HB := n0_; clear n0_; (try clear hb); (try clear hb2); (try clear hk); (try clear hi)) | ((fail_if_success (have q_ := ON_A5.out)); have ON_A5 := Aside0.mk True.intro; go_at_call 59; (with_reducible refine (flagstonelaw09_Of.calls k _ _ l0 t102 _ ?side1 ?side2 A5.out).mono ?_); (case side1 => repeat (first | exact (Kd.C_below HR0.out HB.out) | (with_reducible refine Kd.C_alloc ?_ _) | (with_reducible refine Kd.C_drewN ?_ _) | (with_reducible refine Kd.C_drew ?_))); (case side2 => exact HC0.out); rintro e w14 ⟨v103, rfl, ho0, hb⟩; have n0_ := Aside0.mk (Kd.S_lower ho0 (below_size (by repeat (first | (with_reducible first | exact HB.out | apply below_alloc | apply pw_below_drewN | apply below_drew1) | exact HB.out)))); have n1_ := Aside0.mk (below_step (by repeat (first | (with_reducible first | exact HB.out | apply below_alloc | apply pw_below_drewN | apply below_drew1) | exact HB.out)) hb); clear HB; have HO104 := n0_; have HB := n1_; clear n0_ n1_; (try clear hb); (try clear hb2); (try clear hk); (try clear hi); (try clear ho0); obtain ⟨Ao15, co15, eo15⟩ := Kd.S_slice HO104.out; subst eo15) | (go_at_call 62; (with_reducible refine (refs_Counts.calls _ _ t102 t105 t106 _ ?side1 ?side2 A6.out).mono ?_); (case side1 => repeat (first | exact (Kd.S_reads' HO104.out).2.2 | (with_reducible refine Kd.C_alloc ?_ _) | (with_reducible refine Kd.C_drewN ?_ _) | (with_reducible refine Kd.C_drew ?_))); (case side2 => exact (Kd.S_reads' HO104.out).2.1); rintro e w16 ⟨v107, rfl, ho0, hb⟩; have n0_ := Aside0.mk (Kd.S_below (by (with_reducible repeat (first | apply Kd.S_alloc | apply Kd.S_drewN | apply Kd.S_drew)); exact HO104.out) hb); have n1_ := Aside0.mk (Kd.R_lower ho0 (below_size (by repeat (first | (with_reducible first | exact HB.out | apply below_alloc | apply pw_below_drewN | apply below_drew1) | exact HB.out)))); have n2_ := Aside0.mk (below_step (by repeat (first | (with_reducible first | exact HB.out | apply below_alloc | apply pw_below_drewN | apply below_drew1) | exact HB.out)) hb); clear HO104; clear HB; have HO104 := n0_; have HO108 := n1_; have HB := n2_; clear n0_ n1_ n2_; (try clear hb); (try clear hb2); (try clear hk); (try clear hi); (try clear ho0)) | ((fail_if_success (have q_ := ON_A7.out)); have ON_A7 := Aside0.mk True.intro; go_at_call 59; (with_reducible refine (flagstonelaw09_Of.calls k _ _ l0 t109 _ ?side1 ?side2 A7.out).mono ?_); (case side1 => repeat (first | exact (Kd.C_below HR0.out HB.out) | (with_reducible refine Kd.C_alloc ?_ _) | (with_reducible refine Kd.C_drewN ?_ _) | (with_reducible refine Kd.C_drew ?_))); (case side2 => exact HC0.out); rintro e w17 ⟨v110, rfl, ho0, hb⟩; have n0_ := Aside0.mk (Kd.S_elder' (by (with_reducible repeat (first | apply Kd.S_alloc | apply Kd.S_drewN | apply Kd.S_drew)); exact HO104.out) (Kd.S_base ho0) hb); have n1_ := Aside0.mk (Kd.R_below (by (with_reducible repeat (first | apply Kd.R_alloc | apply Kd.R_drewN | apply Kd.R_drew)); exact HO108.out) hb); have n2_ := Aside0.mk (Kd.S_lower (Kd.S_new' ho0 (Kd.S_lt (by (with_reducible repeat (first | apply Kd.S_alloc | apply Kd.S_drewN | apply Kd.S_drew)); exact HO104.out))) (below_size (by repeat (first | (with_reducible first | exact HB.out | apply below_alloc | apply pw_below_drewN | apply below_drew1) | exact HB.out)))); have n3_ := Aside0.mk (below_step (by repeat (first | (with_reducible first | exact HB.out | apply below_alloc | apply pw_below_drewN | apply below_drew1) | exact HB.out)) hb); clear HO104; clear HO108; clear HB; have HO104 := n0_; have HO108 := n1_; have HO111 := n2_; have HB := n3_; clear n0_ n1_ n2_ n3_; (try clear hb); (try clear hb2); (try clear hk); (try clear hi); (try clear ho0); obtain ⟨Ao18, co18, eo18⟩ := Kd.S_slice HO111.out; subst eo18) | (go_at_call 58; (with_reducible refine (refs_Who.calls _ _ t109 (Int.tmod (wrap64 ((Int.tmod a1 65536) + 65536)) 65536) 1 t112 t115 _ ?side1 ?side2 A8.out).mono ?_); (case side1 => repeat (first | exact (Kd.S_reads' HO111.out).2.2 | (with_reducible refine Kd.C_alloc ?_ _) | (with_reducible refine Kd.C_drewN ?_ _) | (with_reducible refine Kd.C_drew ?_))); (case side2 => exact (Kd.S_reads' HO111.out).2.1); rintro e w19 ⟨v113, rfl, ho0, hb⟩; have n0_ := Aside0.mk (Kd.S_below (by (with_reducible repeat (first | apply Kd.S_alloc | apply Kd.S_drewN | apply Kd.S_drew)); exact HO104.out) hb); have n1_ := Aside0.mk (Kd.R_below (by (with_reducible repeat (first | apply Kd.R_alloc | apply Kd.R_drewN | apply Kd.R_drew)); exact HO108.out) hb); have n2_ := Aside0.mk (Kd.S_below (by (with_reducible repeat (first | apply Kd.S_alloc | apply Kd.S_drewN | apply Kd.S_drew)); exact HO111.out) hb); have n3_ := Aside0.mk (Kd.R_lower ho0 (below_size (by repeat (first | (with_reducible first | exact HB.out | apply below_alloc | apply pw_below_drewN | apply below_drew1) | exact HB.out)))); have n4_ := Aside0.mk (below_step (by repeat (first | (with_reducible first | exact HB.out | apply below_alloc | apply pw_below_drewN | apply below_drew1) | exact HB.out)) hb); clear HO104; clear HO108; clear HO111; clear HB; have HO104 := n0_; have HO108 := n1_; have HO111 := n2_; have HO114 := n3_; have HB := n4_; clear n0_ n1_ n2_ n3_ n4_; (try clear hb); (try clear hb2); (try clear hk); (try clear hi); (try clear ho0)) | ((fail_if_success (have q_ := ON_A9.out)); have ON_A9 := Aside0.mk True.intro; go_at_call 59; (with_reducible refine (flagstonelaw09_Of.calls k _ _ l0 t116 _ ?side1 ?side2 A9.out).mono ?_); (case side1 => repeat (first | exact (Kd.C_below HR0.out HB.out) | (with_reducible refine Kd.C_alloc ?_ _) | (with_reducible refine Kd.C_drewN ?_ _) | (with_reducible refine Kd.C_drew ?_))); (case side2 => exact HC0.out); rintro e w20 ⟨v117, rfl, ho0, hb⟩; have n0_ := Aside0.mk (Kd.S_elder' (by (with_reducible repeat (first | apply Kd.S_alloc | apply Kd.S_drewN | apply Kd.S_drew)); exact HO104.out) (Kd.S_base ho0) hb); have n1_ := Aside0.mk (Kd.R_below (by (with_reducible repeat (first | apply Kd.R_alloc | apply Kd.R_drewN | apply Kd.R_drew)); exact HO108.out) hb); have n2_ := Aside0.mk (Kd.S_elder' (by (with_reducible repeat (first | apply Kd.S_alloc | apply Kd.S_drewN | apply Kd.S_drew)); exact HO111.out) (Kd.S_base ho0) hb); have n3_ := Aside0.mk (Kd.R_below (by (with_reducible repeat (first | apply Kd.R_alloc | apply Kd.R_drewN | apply Kd.R_drew)); exact HO114.out) hb); have n4_ := Aside0.mk (Kd.S_lower (Kd.S_new' (Kd.S_new' ho0 (Kd.S_lt (by (with_reducible repeat (first | apply Kd.S_alloc | apply Kd.S_drewN | apply Kd.S_drew)); exact HO104.out))) (Kd.S_lt (by (with_reducible repeat (first | apply Kd.S_alloc | apply Kd.S_drewN | apply Kd.S_drew)); exact HO111.out))) (below_size (by repeat (first | (with_reducible first | exact HB.out | apply below_alloc | apply pw_below_drewN | apply below_drew1) | exact HB.out)))); have n5_ := Aside0.mk (below_step (by repeat (first | (with_reducible first | exact HB.out | apply below_alloc | apply pw_below_drewN | apply below_drew1) | exact HB.out)) hb); clear HO104; clear HO108; clear HO111; clear HO114; clear HB; have HO104 := n0_; have HO108 := n1_; have HO111 := n2_; have HO114 := n3_; have HO118 := n4_; have HB := n5_; clear n0_ n1_ n2_ n3_ n4_ n5_; (try clear hb); (try clear hb2); (try clear hk); (try clear hi); (try clear ho0); obtain ⟨Ao21, co21, eo21⟩ := Kd.S_slice HO118.out; subst eo21) | (go_at_call 64; (with_reducible refine (refs_Used.calls k _ _ t116 t119 t120 _ ?side1 ?side2 A10.out).mono ?_); (case side1 => repeat (first | exact (Kd.S_reads' HO118.out).2.2 | (with_reducible refine Kd.C_alloc ?_ _) | (with_reducible refine Kd.C_drewN ?_ _) | (with_reducible refine Kd.C_drew ?_))); (case side2 => exact (Kd.S_reads' HO118.out).2.1); rintro e w22 ⟨v121, rfl, ho0, hb⟩; have n0_ := Aside0.mk (Kd.S_below (by (with_reducible repeat (first | apply Kd.S_alloc | apply Kd.S_drewN | apply Kd.S_drew)); exact HO104.out) hb); have n1_ := Aside0.mk (Kd.R_below (by (with_reducible repeat (first | apply Kd.R_alloc | apply Kd.R_drewN | apply Kd.R_drew)); exact HO108.out) hb); have n2_ := Aside0.mk (Kd.S_below (by (with_reducible repeat (first | apply Kd.S_alloc | apply Kd.S_drewN | apply Kd.S_drew)); exact HO111.out) hb); have n3_ := Aside0.mk (Kd.R_below (by (with_reducible repeat (first | apply Kd.R_alloc | apply Kd.R_drewN | apply Kd.R_drew)); exact HO114.out) hb); have n4_ := Aside0.mk (Kd.S_below (by (with_reducible repeat (first | apply Kd.S_alloc | apply Kd.S_drewN | apply Kd.S_drew)); exact HO118.out) hb); have n5_ := Aside0.mk (Kd.R_lower ho0 (below_size (by repeat (first | (with_reducible first | exact HB.out | apply below_alloc | apply pw_below_drewN | apply below_drew1) | exact HB.out)))); have n6_ := Aside0.mk (below_step (by repeat (first | (with_reducible first | exact HB.out | apply below_alloc | apply pw_below_drewN | apply below_drew1) | exact HB.out)) hb); clear HO104; clear HO108; clear HO111; clear HO114; clear HO118; clear HB; have HO104 := n0_; have HO108 := n1_; have HO111 := n2_; have HO114 := n3_; have HO118 := n4_; have HO122 := n5_; have HB := n6_; clear n0_ n1_ n2_ n3_ n4_ n5_ n6_; (try clear hb); (try clear hb2); (try clear hk); (try clear hi); (try clear ho0)) | (go_at_call 60; (with_reducible refine (flagstonelaw09_num.calls t106 t123 _ A11.out).mono ?_); rintro e w' ⟨rfl, ⟨nd, rfl⟩⟩; (try first | exact ⟨rfl, _, World.drewN_drewN _ _ _⟩ | exact ⟨rfl, _, Eq.trans (World.drewN_drewN _ _ _) (congrArg (World.drewN _) (Nat.add_assoc _ _ _))⟩))))
   go_loopg [11, 12] k (fun kq v11 v12 w' => ∃ (x11_1 : Int) (x12_1 : Int), v11 = .int .i64 x11_1 ∧ v12 = .int .i64 x12_1 ∧ Aside0 (flagstonelaw09_RefsCounts.l0 kq (Int.tmod (wrap64 ((Int.tmod a1 65536) + 65536)) 65536) t105 t112 t115 t119 t120 x11_1 x12_1 = some r) ∧ Aside0 (kq ≤ k) ∧ Aside0 (Kd.R k96 96 w' w.heap.size (fun _ => True) v107 t105) ∧ Aside0 (Kd.R k88 88 w' w.heap.size (fun _ => True) v113 t112) ∧ Aside0 (Kd.R k40 40 w' w.heap.size (fun _ => True) v121 t119) ∧ Aside0 (Below w.heap.size w w'))
   case atStart => exact ⟨(0), (0), (by first | rfl | (simp; done) | (simp [*]; done)), (by first | rfl | (simp; done) | (simp [*]; done)), H', ⟨Nat.le_refl _⟩, ⟨by (with_reducible repeat (first | apply Kd.R_alloc | apply Kd.R_drewN | apply Kd.R_drew)); exact HO108.out⟩, ⟨by (with_reducible repeat (first | apply Kd.R_alloc | apply Kd.R_drewN | apply Kd.R_drew)); exact HO114.out⟩, ⟨by (with_reducible repeat (first | apply Kd.R_alloc | apply Kd.R_drewN | apply Kd.R_drew)); exact HO122.out⟩, ⟨by repeat (first | (with_reducible first | exact HB.out | apply below_alloc | apply pw_below_drewN | apply below_drew1) | exact HB.out)⟩⟩
   case round =>
    clear H'
    try clear c1
    try clear p2
    try clear c4
    try clear p6
    try clear c12
    try clear c12b0
    try clear c12b1
    try clear c18
    obtain ⟨x11_1, x12_1, rfl, rfl, HA, HK1, HO_5, HO_7, HO_9, HB⟩ := hrel
    cases gk with
    | zero => exact absurd HA.out (by simp [flagstonelaw09_RefsCounts.l0])
    | succ k1 =>
     have H := HA.out
     clear HA
     simp only [flagstonelaw09_RefsCounts.l0] at H
     by_cases c23 : x12_1 < (t105.length : Int)
     ·rw [if_pos c23] at H
      have c23b0 : decide (x12_1 < (t105.length : Int)) = true := decide_eq_true c23
      clear c23
      by_cases c24 : 0 ≤ x12_1
      ·rw [if_pos c24] at H
       have c24b0 : decide (0 ≤ x12_1) = true := decide_eq_true c24
       clear c24
       by_cases c25 : (Int.tmod (wrap64 ((Int.tmod a1 65536) + 65536)) 65536) ≥ ((rd_T96 t105 x12_1).f0)
       ·rw [if_pos c25] at H
        have c25b0 : decide (((rd_T96 t105 x12_1).f0) ≤ (Int.tmod (wrap64 ((Int.tmod a1 65536) + 65536)) 65536)) = true := decide_eq_true c25
        clear c25
        by_cases c26 : (wrap64 ((Int.tmod (wrap64 ((Int.tmod a1 65536) + 65536)) 65536) - ((rd_T96 t105 x12_1).f0))) < ((rd_T96 t105 x12_1).f1)
        ·rw [if_pos c26] at H
         have c26b0 : decide ((wrap64 ((Int.tmod (wrap64 ((Int.tmod a1 65536) + 65536)) 65536) - ((rd_T96 t105 x12_1).f0))) < ((rd_T96 t105 x12_1).f1)) = true := decide_eq_true c26
         clear c26
         have H' := Aside0.mk H
         clear H
         obtain ⟨Ao27, co27, eo27⟩ := Kd.R_slice HO_5.out
         subst eo27
         have p126 : 0 ≤ (x12_1 : Int) := of_decide_eq_true (by first | (with_reducible assumption) | assumption)
         have q126 : x12_1 < (t105.length : Int) := of_decide_eq_true (by first | (with_reducible assumption) | assumption)
         obtain ⟨ad126, e126, hx126_0, hx126_1, hx126_2⟩ := at_T96 (Kd.R_reads' HO_5.out).2.2 x12_1 p126 q126
         cases e126
         replace p126 := eq_true p126
         replace q126 := eq_true q126
         have p127 : 0 ≤ (x12_1 : Int) := of_decide_eq_true (by first | (with_reducible assumption) | assumption)
         have q127 : x12_1 < (t105.length : Int) := of_decide_eq_true (by first | (with_reducible assumption) | assumption)
         obtain ⟨ad127, e127, hx127_0, hx127_1, hx127_2⟩ := at_T96 (Kd.R_reads' HO_5.out).2.2 x12_1 p127 q127
         obtain rfl : ad126 = ad127 := (by injection e127)
         replace p127 := eq_true p127
         replace q127 := eq_true q127
         have p128 : 0 ≤ (x12_1 : Int) := of_decide_eq_true (by first | (with_reducible assumption) | assumption)
         have q128 : x12_1 < (t105.length : Int) := of_decide_eq_true (by first | (with_reducible assumption) | assumption)
         obtain ⟨ad128, e128, hx128_0, hx128_1, hx128_2⟩ := at_T96 (Kd.R_reads' HO_5.out).2.2 x12_1 p128 q128
         obtain rfl : ad126 = ad128 := (by injection e128)
         replace p128 := eq_true p128
         replace q128 := eq_true q128
         have p129 : 0 ≤ (x12_1 : Int) := of_decide_eq_true (by first | (with_reducible assumption) | assumption)
         have q129 : x12_1 < (t105.length : Int) := of_decide_eq_true (by first | (with_reducible assumption) | assumption)
         obtain ⟨ad129, e129, hx129_0, hx129_1, hx129_2⟩ := at_T96 (Kd.R_reads' HO_5.out).2.2 x12_1 p129 q129
         obtain rfl : ad126 = ad129 := (by injection e129)
         replace p129 := eq_true p129
         replace q129 := eq_true q129
         go_wp2
         repeat (go_quiet (fail); try go_wp2)
         go_roundg k1
         case measure => have := HK1.out; omega
         case rel => exact ⟨(wrap64 (x11_1 + ((rd_T96 t105 x12_1).f2))), (wrap64 (x12_1 + 1)), (by first | rfl | (simp; done) | (simp [*]; done)), (by first | rfl | (simp; done) | (simp [*]; done)), H', ⟨by have := HK1.out; omega⟩, ⟨by (with_reducible repeat (first | apply Kd.R_alloc | apply Kd.R_drewN | apply Kd.R_drew)); exact HO_5.out⟩, ⟨by (with_reducible repeat (first | apply Kd.R_alloc | apply Kd.R_drewN | apply Kd.R_drew)); exact HO_7.out⟩, ⟨by (with_reducible repeat (first | apply Kd.R_alloc | apply Kd.R_drewN | apply Kd.R_drew)); exact HO_9.out⟩, ⟨by repeat (first | (with_reducible first | exact HB.out | apply below_alloc | apply pw_below_drewN | apply below_drew1) | exact HB.out)⟩⟩
        ·rw [if_neg c26] at H
         have c26b0 : decide ((wrap64 ((Int.tmod (wrap64 ((Int.tmod a1 65536) + 65536)) 65536) - ((rd_T96 t105 x12_1).f0))) < ((rd_T96 t105 x12_1).f1)) = false := decide_eq_false c26
         clear c26
         have H' := Aside0.mk H
         clear H
         obtain ⟨Ao28, co28, eo28⟩ := Kd.R_slice HO_5.out
         subst eo28
         have p126 : 0 ≤ (x12_1 : Int) := of_decide_eq_true (by first | (with_reducible assumption) | assumption)
         have q126 : x12_1 < (t105.length : Int) := of_decide_eq_true (by first | (with_reducible assumption) | assumption)
         obtain ⟨ad126, e126, hx126_0, hx126_1, hx126_2⟩ := at_T96 (Kd.R_reads' HO_5.out).2.2 x12_1 p126 q126
         cases e126
         replace p126 := eq_true p126
         replace q126 := eq_true q126
         have p127 : 0 ≤ (x12_1 : Int) := of_decide_eq_true (by first | (with_reducible assumption) | assumption)
         have q127 : x12_1 < (t105.length : Int) := of_decide_eq_true (by first | (with_reducible assumption) | assumption)
         obtain ⟨ad127, e127, hx127_0, hx127_1, hx127_2⟩ := at_T96 (Kd.R_reads' HO_5.out).2.2 x12_1 p127 q127
         obtain rfl : ad126 = ad127 := (by injection e127)
         replace p127 := eq_true p127
         replace q127 := eq_true q127
         have p128 : 0 ≤ (x12_1 : Int) := of_decide_eq_true (by first | (with_reducible assumption) | assumption)
         have q128 : x12_1 < (t105.length : Int) := of_decide_eq_true (by first | (with_reducible assumption) | assumption)
         obtain ⟨ad128, e128, hx128_0, hx128_1, hx128_2⟩ := at_T96 (Kd.R_reads' HO_5.out).2.2 x12_1 p128 q128
         obtain rfl : ad126 = ad128 := (by injection e128)
         replace p128 := eq_true p128
         replace q128 := eq_true q128
         go_wp2
         repeat (go_quiet (fail); try go_wp2)
         go_roundg k1
         case measure => have := HK1.out; omega
         case rel => exact ⟨(x11_1), (wrap64 (x12_1 + 1)), (by first | rfl | (simp; done) | (simp [*]; done)), (by first | rfl | (simp; done) | (simp [*]; done)), H', ⟨by have := HK1.out; omega⟩, ⟨by (with_reducible repeat (first | apply Kd.R_alloc | apply Kd.R_drewN | apply Kd.R_drew)); exact HO_5.out⟩, ⟨by (with_reducible repeat (first | apply Kd.R_alloc | apply Kd.R_drewN | apply Kd.R_drew)); exact HO_7.out⟩, ⟨by (with_reducible repeat (first | apply Kd.R_alloc | apply Kd.R_drewN | apply Kd.R_drew)); exact HO_9.out⟩, ⟨by repeat (first | (with_reducible first | exact HB.out | apply below_alloc | apply pw_below_drewN | apply below_drew1) | exact HB.out)⟩⟩
       ·rw [if_neg c25] at H
        have c25b0 : decide (((rd_T96 t105 x12_1).f0) ≤ (Int.tmod (wrap64 ((Int.tmod a1 65536) + 65536)) 65536)) = false := decide_eq_false c25
        clear c25
        have H' := Aside0.mk H
        clear H
        obtain ⟨Ao29, co29, eo29⟩ := Kd.R_slice HO_5.out
        subst eo29
        have p126 : 0 ≤ (x12_1 : Int) := of_decide_eq_true (by first | (with_reducible assumption) | assumption)
        have q126 : x12_1 < (t105.length : Int) := of_decide_eq_true (by first | (with_reducible assumption) | assumption)
        obtain ⟨ad126, e126, hx126_0, hx126_1, hx126_2⟩ := at_T96 (Kd.R_reads' HO_5.out).2.2 x12_1 p126 q126
        cases e126
        replace p126 := eq_true p126
        replace q126 := eq_true q126
        go_wp2
        repeat (go_quiet (fail); try go_wp2)
        go_roundg k1
        case measure => have := HK1.out; omega
        case rel => exact ⟨(x11_1), (wrap64 (x12_1 + 1)), (by first | rfl | (simp; done) | (simp [*]; done)), (by first | rfl | (simp; done) | (simp [*]; done)), H', ⟨by have := HK1.out; omega⟩, ⟨by (with_reducible repeat (first | apply Kd.R_alloc | apply Kd.R_drewN | apply Kd.R_drew)); exact HO_5.out⟩, ⟨by (with_reducible repeat (first | apply Kd.R_alloc | apply Kd.R_drewN | apply Kd.R_drew)); exact HO_7.out⟩, ⟨by (with_reducible repeat (first | apply Kd.R_alloc | apply Kd.R_drewN | apply Kd.R_drew)); exact HO_9.out⟩, ⟨by repeat (first | (with_reducible first | exact HB.out | apply below_alloc | apply pw_below_drewN | apply below_drew1) | exact HB.out)⟩⟩
      ·rw [if_neg c24] at H
       exact absurd H (by simp)
     ·rw [if_neg c23] at H
      have c23b0 : decide (x12_1 < (t105.length : Int)) = false := decide_eq_false c23
      clear c23
      have H' := Aside0.mk H
      clear H
      obtain ⟨Ao30, co30, eo30⟩ := Kd.R_slice HO_5.out
      subst eo30
      go_wp2
      repeat (go_quiet (fail); try go_wp2)
      go_loopg [13, 14] k1 (fun kq v13 v14 w' => ∃ (x13_2 : Bool) (x14_2 : Int), v13 = .bool x13_2 ∧ v14 = .int .i64 x14_2 ∧ Aside0 (flagstonelaw09_RefsCounts.l1 kq (Int.tmod (wrap64 ((Int.tmod a1 65536) + 65536)) 65536) t112 t115 t119 t120 x11_1 x13_2 x14_2 = some r) ∧ Aside0 (kq ≤ k1) ∧ Aside0 (Kd.R k88 88 w' w.heap.size (fun _ => True) v113 t112) ∧ Aside0 (Kd.R k40 40 w' w.heap.size (fun _ => True) v121 t119) ∧ Aside0 (Below w.heap.size w w'))
      case atStart => exact ⟨(false), (0), (by first | rfl | (simp; done) | (simp [*]; done)), (by first | rfl | (simp; done) | (simp [*]; done)), H', ⟨Nat.le_refl _⟩, ⟨by (with_reducible repeat (first | apply Kd.R_alloc | apply Kd.R_drewN | apply Kd.R_drew)); exact HO_7.out⟩, ⟨by (with_reducible repeat (first | apply Kd.R_alloc | apply Kd.R_drewN | apply Kd.R_drew)); exact HO_9.out⟩, ⟨by repeat (first | (with_reducible first | exact HB.out | apply below_alloc | apply pw_below_drewN | apply below_drew1) | exact HB.out)⟩⟩
      case round =>
       clear H'
       try clear c1
       try clear p1
       try clear q1
       try clear hx1
       try clear c2
       try clear p2
       try clear c4
       try clear p6
       try clear c12
       try clear c12b0
       try clear c12b1
       try clear p12
       try clear q12
       try clear hx12
       try clear c18
       try clear c23
       try clear c23b0
       try clear c24
       try clear c24b0
       try clear c25
       try clear c25b0
       try clear c26
       try clear c26b0
       try clear hx126_0
       try clear hx126_1
       try clear hx126_2
       try clear hx127_0
       try clear hx127_1
       try clear hx127_2
       try clear hx128_0
       try clear hx128_1
       try clear hx128_2
       try clear hx129_0
       try clear hx129_1
       try clear hx129_2
       try clear p126
       try clear p127
       try clear p128
       try clear p129
       try clear p2
       try clear p6
       try clear q126
       try clear q127
       try clear q128
       try clear q129
       obtain ⟨x13_2, x14_2, rfl, rfl, HA, HK2, HO_7, HO_9, HB⟩ := hrel
       cases gk with
       | zero => exact absurd HA.out (by simp [flagstonelaw09_RefsCounts.l1])
       | succ k2 =>
        have H := HA.out
        clear HA
        simp only [flagstonelaw09_RefsCounts.l1] at H
        by_cases c31 : x14_2 < (t119.length : Int)
        ·rw [if_pos c31] at H
         have c31b0 : decide (x14_2 < (t119.length : Int)) = true := decide_eq_true c31
         clear c31
         by_cases c32 : x13_2 = true
         ·subst c32
          have H1 : (flagstonelaw09_RefsCounts.l1 k2 (Int.tmod (wrap64 ((Int.tmod a1 65536) + 65536)) 65536) t112 t115 t119 t120 x11_1 true (wrap64 (x14_2 + 1))) = some r := by rw [if_pos rfl] at H; exact H
          clear H
          have H := H1
          clear H1
          have H' := Aside0.mk H
          clear H
          obtain ⟨Ao33, co33, eo33⟩ := Kd.R_slice HO_9.out
          subst eo33
          go_wp2
          repeat (go_quiet (fail); try go_wp2)
          go_roundg k2
          case measure => have := HK1.out; have := HK2.out; omega
          case rel => exact ⟨(true), (wrap64 (x14_2 + 1)), (by first | rfl | (simp; done) | (simp [*]; done)), (by first | rfl | (simp; done) | (simp [*]; done)), H', ⟨by have := HK1.out; have := HK2.out; omega⟩, ⟨by (with_reducible repeat (first | apply Kd.R_alloc | apply Kd.R_drewN | apply Kd.R_drew)); exact HO_7.out⟩, ⟨by (with_reducible repeat (first | apply Kd.R_alloc | apply Kd.R_drewN | apply Kd.R_drew)); exact HO_9.out⟩, ⟨by repeat (first | (with_reducible first | exact HB.out | apply below_alloc | apply pw_below_drewN | apply below_drew1) | exact HB.out)⟩⟩
         ·replace c32 := Bool.eq_false_iff.mpr c32
          subst c32
          have H1 : (if 0 ≤ x14_2 then (if (Int.tmod (wrap64 ((Int.tmod a1 65536) + 65536)) 65536) ≥ ((rd_T40 t119 x14_2).f0) then (flagstonelaw09_RefsCounts.l1 k2 (Int.tmod (wrap64 ((Int.tmod a1 65536) + 65536)) 65536) t112 t115 t119 t120 x11_1 (decide ((wrap64 ((Int.tmod (wrap64 ((Int.tmod a1 65536) + 65536)) 65536) - ((rd_T40 t119 x14_2).f0))) < ((rd_T40 t119 x14_2).f1))) (wrap64 (x14_2 + 1))) else (flagstonelaw09_RefsCounts.l1 k2 (Int.tmod (wrap64 ((Int.tmod a1 65536) + 65536)) 65536) t112 t115 t119 t120 x11_1 false (wrap64 (x14_2 + 1)))) else (none)) = some r := by rw [if_neg (show ¬ (false = true) by decide)] at H; exact H
          clear H
          have H := H1
          clear H1
          by_cases c34 : 0 ≤ x14_2
          ·rw [if_pos c34] at H
           have c34b0 : decide (0 ≤ x14_2) = true := decide_eq_true c34
           clear c34
           by_cases c35 : (Int.tmod (wrap64 ((Int.tmod a1 65536) + 65536)) 65536) ≥ ((rd_T40 t119 x14_2).f0)
           ·rw [if_pos c35] at H
            have c35b0 : decide (((rd_T40 t119 x14_2).f0) ≤ (Int.tmod (wrap64 ((Int.tmod a1 65536) + 65536)) 65536)) = true := decide_eq_true c35
            clear c35
            have H' := Aside0.mk H
            clear H
            obtain ⟨Ao36, co36, eo36⟩ := Kd.R_slice HO_9.out
            subst eo36
            have p130 : 0 ≤ (x14_2 : Int) := of_decide_eq_true (by first | (with_reducible assumption) | assumption)
            have q130 : x14_2 < (t119.length : Int) := of_decide_eq_true (by first | (with_reducible assumption) | assumption)
            obtain ⟨ad130, e130, hx130_0, hx130_1⟩ := at_T40 (Kd.R_reads' HO_9.out).2.2 x14_2 p130 q130
            cases e130
            replace p130 := eq_true p130
            replace q130 := eq_true q130
            have p131 : 0 ≤ (x14_2 : Int) := of_decide_eq_true (by first | (with_reducible assumption) | assumption)
            have q131 : x14_2 < (t119.length : Int) := of_decide_eq_true (by first | (with_reducible assumption) | assumption)
            obtain ⟨ad131, e131, hx131_0, hx131_1⟩ := at_T40 (Kd.R_reads' HO_9.out).2.2 x14_2 p131 q131
            obtain rfl : ad130 = ad131 := (by injection e131)
            replace p131 := eq_true p131
            replace q131 := eq_true q131
            have p132 : 0 ≤ (x14_2 : Int) := of_decide_eq_true (by first | (with_reducible assumption) | assumption)
            have q132 : x14_2 < (t119.length : Int) := of_decide_eq_true (by first | (with_reducible assumption) | assumption)
            obtain ⟨ad132, e132, hx132_0, hx132_1⟩ := at_T40 (Kd.R_reads' HO_9.out).2.2 x14_2 p132 q132
            obtain rfl : ad130 = ad132 := (by injection e132)
            replace p132 := eq_true p132
            replace q132 := eq_true q132
            go_wp2
            repeat (go_quiet (fail); try go_wp2)
            go_roundg k2
            case measure => have := HK1.out; have := HK2.out; omega
            case rel => exact ⟨(decide ((wrap64 ((Int.tmod (wrap64 ((Int.tmod a1 65536) + 65536)) 65536) - ((rd_T40 t119 x14_2).f0))) < ((rd_T40 t119 x14_2).f1))), (wrap64 (x14_2 + 1)), (by first | rfl | (simp; done) | (simp [*]; done)), (by first | rfl | (simp; done) | (simp [*]; done)), H', ⟨by have := HK1.out; have := HK2.out; omega⟩, ⟨by (with_reducible repeat (first | apply Kd.R_alloc | apply Kd.R_drewN | apply Kd.R_drew)); exact HO_7.out⟩, ⟨by (with_reducible repeat (first | apply Kd.R_alloc | apply Kd.R_drewN | apply Kd.R_drew)); exact HO_9.out⟩, ⟨by repeat (first | (with_reducible first | exact HB.out | apply below_alloc | apply pw_below_drewN | apply below_drew1) | exact HB.out)⟩⟩
           ·rw [if_neg c35] at H
            have c35b0 : decide (((rd_T40 t119 x14_2).f0) ≤ (Int.tmod (wrap64 ((Int.tmod a1 65536) + 65536)) 65536)) = false := decide_eq_false c35
            clear c35
            have H' := Aside0.mk H
            clear H
            obtain ⟨Ao37, co37, eo37⟩ := Kd.R_slice HO_9.out
            subst eo37
            have p130 : 0 ≤ (x14_2 : Int) := of_decide_eq_true (by first | (with_reducible assumption) | assumption)
            have q130 : x14_2 < (t119.length : Int) := of_decide_eq_true (by first | (with_reducible assumption) | assumption)
            obtain ⟨ad130, e130, hx130_0, hx130_1⟩ := at_T40 (Kd.R_reads' HO_9.out).2.2 x14_2 p130 q130
            cases e130
            replace p130 := eq_true p130
            replace q130 := eq_true q130
            go_wp2
            repeat (go_quiet (fail); try go_wp2)
            go_roundg k2
            case measure => have := HK1.out; have := HK2.out; omega
            case rel => exact ⟨(false), (wrap64 (x14_2 + 1)), (by first | rfl | (simp; done) | (simp [*]; done)), (by first | rfl | (simp; done) | (simp [*]; done)), H', ⟨by have := HK1.out; have := HK2.out; omega⟩, ⟨by (with_reducible repeat (first | apply Kd.R_alloc | apply Kd.R_drewN | apply Kd.R_drew)); exact HO_7.out⟩, ⟨by (with_reducible repeat (first | apply Kd.R_alloc | apply Kd.R_drewN | apply Kd.R_drew)); exact HO_9.out⟩, ⟨by repeat (first | (with_reducible first | exact HB.out | apply below_alloc | apply pw_below_drewN | apply below_drew1) | exact HB.out)⟩⟩
          ·rw [if_neg c34] at H
           exact absurd H (by simp)
        ·rw [if_neg c31] at H
         have c31b0 : decide (x14_2 < (t119.length : Int)) = false := decide_eq_false c31
         clear c31
         replace H := Option.bind_eq_some_iff.mp H
         obtain ⟨t133, A380, H⟩ := H
         replace H : ((flagstonelaw09_num.f t120).bind fun t134 => (if (wrap64 (t133 + t134)) = 0 then (if x11_1 = (t112.length : Int) then (some (x13_2 == (decide (x11_1 > 0)))) else (some false)) else (some false))) = some r := H
         have A38 := Aside0.mk A380
         clear A380
         replace H := Option.bind_eq_some_iff.mp H
         obtain ⟨t134, A390, H⟩ := H
         replace H : (if (wrap64 (t133 + t134)) = 0 then (if x11_1 = (t112.length : Int) then (some (x13_2 == (decide (x11_1 > 0)))) else (some false)) else (some false)) = some r := H
         have A39 := Aside0.mk A390
         clear A390
         by_cases c40 : (wrap64 (t133 + t134)) = 0
         ·rw [if_pos c40] at H
          have c40b0 : ((wrap64 (t133 + t134)) == 0) = true := beq_iff_eq.mpr c40
          have c40b1 : ((wrap64 (t133 + t134)) != 0) = false := bne_eq_false_iff_eq.mpr c40
          clear c40
          by_cases c41 : x11_1 = (t112.length : Int)
          ·rw [if_pos c41] at H
           have c41b0 : (x11_1 == (t112.length : Int)) = true := beq_iff_eq.mpr c41
           have c41b1 : (x11_1 != (t112.length : Int)) = false := bne_eq_false_iff_eq.mpr c41
           clear c41
           obtain rfl := Option.some.inj H
           obtain ⟨Ao42, co42, eo42⟩ := Kd.R_slice HO_9.out
           subst eo42
           go_wp2_with (first | ((fail_if_success (have q_ := ON_A38.out)); have ON_A38 := Aside0.mk True.intro; go_at_call 60; (with_reducible refine (flagstonelaw09_num.calls t115 t133 _ A38.out).mono ?_); rintro e w' ⟨rfl, ⟨nd, rfl⟩⟩; (try first | exact ⟨rfl, _, World.drewN_drewN _ _ _⟩ | exact ⟨rfl, _, Eq.trans (World.drewN_drewN _ _ _) (congrArg (World.drewN _) (Nat.add_assoc _ _ _))⟩)) | ((fail_if_success (have q_ := ON_A39.out)); have ON_A39 := Aside0.mk True.intro; go_at_call 60; (with_reducible refine (flagstonelaw09_num.calls t120 t134 _ A39.out).mono ?_); rintro e w' ⟨rfl, ⟨nd, rfl⟩⟩; (try first | exact ⟨rfl, _, World.drewN_drewN _ _ _⟩ | exact ⟨rfl, _, Eq.trans (World.drewN_drewN _ _ _) (congrArg (World.drewN _) (Nat.add_assoc _ _ _))⟩); obtain ⟨Ao43, co43, eo43⟩ := Kd.R_slice HO_7.out; subst eo43))
           repeat (go_quiet (first | ((fail_if_success (have q_ := ON_A38.out)); have ON_A38 := Aside0.mk True.intro; go_at_call 60; (with_reducible refine (flagstonelaw09_num.calls t115 t133 _ A38.out).mono ?_); rintro e w' ⟨rfl, ⟨nd, rfl⟩⟩; (try first | exact ⟨rfl, _, World.drewN_drewN _ _ _⟩ | exact ⟨rfl, _, Eq.trans (World.drewN_drewN _ _ _) (congrArg (World.drewN _) (Nat.add_assoc _ _ _))⟩)) | ((fail_if_success (have q_ := ON_A39.out)); have ON_A39 := Aside0.mk True.intro; go_at_call 60; (with_reducible refine (flagstonelaw09_num.calls t120 t134 _ A39.out).mono ?_); rintro e w' ⟨rfl, ⟨nd, rfl⟩⟩; (try first | exact ⟨rfl, _, World.drewN_drewN _ _ _⟩ | exact ⟨rfl, _, Eq.trans (World.drewN_drewN _ _ _) (congrArg (World.drewN _) (Nat.add_assoc _ _ _))⟩); obtain ⟨Ao43, co43, eo43⟩ := Kd.R_slice HO_7.out; subst eo43)); try go_wp2_with (first | ((fail_if_success (have q_ := ON_A38.out)); have ON_A38 := Aside0.mk True.intro; go_at_call 60; (with_reducible refine (flagstonelaw09_num.calls t115 t133 _ A38.out).mono ?_); rintro e w' ⟨rfl, ⟨nd, rfl⟩⟩; (try first | exact ⟨rfl, _, World.drewN_drewN _ _ _⟩ | exact ⟨rfl, _, Eq.trans (World.drewN_drewN _ _ _) (congrArg (World.drewN _) (Nat.add_assoc _ _ _))⟩)) | ((fail_if_success (have q_ := ON_A39.out)); have ON_A39 := Aside0.mk True.intro; go_at_call 60; (with_reducible refine (flagstonelaw09_num.calls t120 t134 _ A39.out).mono ?_); rintro e w' ⟨rfl, ⟨nd, rfl⟩⟩; (try first | exact ⟨rfl, _, World.drewN_drewN _ _ _⟩ | exact ⟨rfl, _, Eq.trans (World.drewN_drewN _ _ _) (congrArg (World.drewN _) (Nat.add_assoc _ _ _))⟩); obtain ⟨Ao43, co43, eo43⟩ := Kd.R_slice HO_7.out; subst eo43)))
           go_ret
           exact ⟨by first | rfl | (simp [errW_none, errW_some] <;> rfl) | (simp [*, errW_none, errW_some] <;> rfl), by repeat (first | (with_reducible first | exact HB.out | apply below_alloc | apply pw_below_drewN | apply below_drew1) | exact HB.out)⟩
          ·rw [if_neg c41] at H
           have c41b0 : (x11_1 == (t112.length : Int)) = false := beq_eq_false_iff_ne.mpr c41
           have c41b1 : (x11_1 != (t112.length : Int)) = true := bne_iff_ne.mpr c41
           obtain rfl := Option.some.inj H
           obtain ⟨Ao44, co44, eo44⟩ := Kd.R_slice HO_9.out
           subst eo44
           go_wp2_with (first | ((fail_if_success (have q_ := ON_A38.out)); have ON_A38 := Aside0.mk True.intro; go_at_call 60; (with_reducible refine (flagstonelaw09_num.calls t115 t133 _ A38.out).mono ?_); rintro e w' ⟨rfl, ⟨nd, rfl⟩⟩; (try first | exact ⟨rfl, _, World.drewN_drewN _ _ _⟩ | exact ⟨rfl, _, Eq.trans (World.drewN_drewN _ _ _) (congrArg (World.drewN _) (Nat.add_assoc _ _ _))⟩)) | ((fail_if_success (have q_ := ON_A39.out)); have ON_A39 := Aside0.mk True.intro; go_at_call 60; (with_reducible refine (flagstonelaw09_num.calls t120 t134 _ A39.out).mono ?_); rintro e w' ⟨rfl, ⟨nd, rfl⟩⟩; (try first | exact ⟨rfl, _, World.drewN_drewN _ _ _⟩ | exact ⟨rfl, _, Eq.trans (World.drewN_drewN _ _ _) (congrArg (World.drewN _) (Nat.add_assoc _ _ _))⟩); obtain ⟨Ao45, co45, eo45⟩ := Kd.R_slice HO_7.out; subst eo45))
           repeat (go_quiet (first | ((fail_if_success (have q_ := ON_A38.out)); have ON_A38 := Aside0.mk True.intro; go_at_call 60; (with_reducible refine (flagstonelaw09_num.calls t115 t133 _ A38.out).mono ?_); rintro e w' ⟨rfl, ⟨nd, rfl⟩⟩; (try first | exact ⟨rfl, _, World.drewN_drewN _ _ _⟩ | exact ⟨rfl, _, Eq.trans (World.drewN_drewN _ _ _) (congrArg (World.drewN _) (Nat.add_assoc _ _ _))⟩)) | ((fail_if_success (have q_ := ON_A39.out)); have ON_A39 := Aside0.mk True.intro; go_at_call 60; (with_reducible refine (flagstonelaw09_num.calls t120 t134 _ A39.out).mono ?_); rintro e w' ⟨rfl, ⟨nd, rfl⟩⟩; (try first | exact ⟨rfl, _, World.drewN_drewN _ _ _⟩ | exact ⟨rfl, _, Eq.trans (World.drewN_drewN _ _ _) (congrArg (World.drewN _) (Nat.add_assoc _ _ _))⟩); obtain ⟨Ao45, co45, eo45⟩ := Kd.R_slice HO_7.out; subst eo45)); try go_wp2_with (first | ((fail_if_success (have q_ := ON_A38.out)); have ON_A38 := Aside0.mk True.intro; go_at_call 60; (with_reducible refine (flagstonelaw09_num.calls t115 t133 _ A38.out).mono ?_); rintro e w' ⟨rfl, ⟨nd, rfl⟩⟩; (try first | exact ⟨rfl, _, World.drewN_drewN _ _ _⟩ | exact ⟨rfl, _, Eq.trans (World.drewN_drewN _ _ _) (congrArg (World.drewN _) (Nat.add_assoc _ _ _))⟩)) | ((fail_if_success (have q_ := ON_A39.out)); have ON_A39 := Aside0.mk True.intro; go_at_call 60; (with_reducible refine (flagstonelaw09_num.calls t120 t134 _ A39.out).mono ?_); rintro e w' ⟨rfl, ⟨nd, rfl⟩⟩; (try first | exact ⟨rfl, _, World.drewN_drewN _ _ _⟩ | exact ⟨rfl, _, Eq.trans (World.drewN_drewN _ _ _) (congrArg (World.drewN _) (Nat.add_assoc _ _ _))⟩); obtain ⟨Ao45, co45, eo45⟩ := Kd.R_slice HO_7.out; subst eo45)))
           go_ret
           exact ⟨by first | rfl | (simp [errW_none, errW_some] <;> rfl) | (simp [*, errW_none, errW_some] <;> rfl), by repeat (first | (with_reducible first | exact HB.out | apply below_alloc | apply pw_below_drewN | apply below_drew1) | exact HB.out)⟩
         ·rw [if_neg c40] at H
          have c40b0 : ((wrap64 (t133 + t134)) == 0) = false := beq_eq_false_iff_ne.mpr c40
          have c40b1 : ((wrap64 (t133 + t134)) != 0) = true := bne_iff_ne.mpr c40
          obtain rfl := Option.some.inj H
          obtain ⟨Ao46, co46, eo46⟩ := Kd.R_slice HO_9.out
          subst eo46
          go_wp2_with (first | ((fail_if_success (have q_ := ON_A38.out)); have ON_A38 := Aside0.mk True.intro; go_at_call 60; (with_reducible refine (flagstonelaw09_num.calls t115 t133 _ A38.out).mono ?_); rintro e w' ⟨rfl, ⟨nd, rfl⟩⟩; (try first | exact ⟨rfl, _, World.drewN_drewN _ _ _⟩ | exact ⟨rfl, _, Eq.trans (World.drewN_drewN _ _ _) (congrArg (World.drewN _) (Nat.add_assoc _ _ _))⟩)) | ((fail_if_success (have q_ := ON_A39.out)); have ON_A39 := Aside0.mk True.intro; go_at_call 60; (with_reducible refine (flagstonelaw09_num.calls t120 t134 _ A39.out).mono ?_); rintro e w' ⟨rfl, ⟨nd, rfl⟩⟩; (try first | exact ⟨rfl, _, World.drewN_drewN _ _ _⟩ | exact ⟨rfl, _, Eq.trans (World.drewN_drewN _ _ _) (congrArg (World.drewN _) (Nat.add_assoc _ _ _))⟩)))
          repeat (go_quiet (first | ((fail_if_success (have q_ := ON_A38.out)); have ON_A38 := Aside0.mk True.intro; go_at_call 60; (with_reducible refine (flagstonelaw09_num.calls t115 t133 _ A38.out).mono ?_); rintro e w' ⟨rfl, ⟨nd, rfl⟩⟩; (try first | exact ⟨rfl, _, World.drewN_drewN _ _ _⟩ | exact ⟨rfl, _, Eq.trans (World.drewN_drewN _ _ _) (congrArg (World.drewN _) (Nat.add_assoc _ _ _))⟩)) | ((fail_if_success (have q_ := ON_A39.out)); have ON_A39 := Aside0.mk True.intro; go_at_call 60; (with_reducible refine (flagstonelaw09_num.calls t120 t134 _ A39.out).mono ?_); rintro e w' ⟨rfl, ⟨nd, rfl⟩⟩; (try first | exact ⟨rfl, _, World.drewN_drewN _ _ _⟩ | exact ⟨rfl, _, Eq.trans (World.drewN_drewN _ _ _) (congrArg (World.drewN _) (Nat.add_assoc _ _ _))⟩))); try go_wp2_with (first | ((fail_if_success (have q_ := ON_A38.out)); have ON_A38 := Aside0.mk True.intro; go_at_call 60; (with_reducible refine (flagstonelaw09_num.calls t115 t133 _ A38.out).mono ?_); rintro e w' ⟨rfl, ⟨nd, rfl⟩⟩; (try first | exact ⟨rfl, _, World.drewN_drewN _ _ _⟩ | exact ⟨rfl, _, Eq.trans (World.drewN_drewN _ _ _) (congrArg (World.drewN _) (Nat.add_assoc _ _ _))⟩)) | ((fail_if_success (have q_ := ON_A39.out)); have ON_A39 := Aside0.mk True.intro; go_at_call 60; (with_reducible refine (flagstonelaw09_num.calls t120 t134 _ A39.out).mono ?_); rintro e w' ⟨rfl, ⟨nd, rfl⟩⟩; (try first | exact ⟨rfl, _, World.drewN_drewN _ _ _⟩ | exact ⟨rfl, _, Eq.trans (World.drewN_drewN _ _ _) (congrArg (World.drewN _) (Nat.add_assoc _ _ _))⟩))))
          go_ret
          exact ⟨by first | rfl | (simp [errW_none, errW_some] <;> rfl) | (simp [*, errW_none, errW_some] <;> rfl), by repeat (first | (with_reducible first | exact HB.out | apply below_alloc | apply pw_below_drewN | apply below_drew1) | exact HB.out)⟩
  ·rw [if_neg c12] at H
   have c12b0 : (t123 == 0) = false := beq_eq_false_iff_ne.mpr c12
   have c12b1 : (t123 != 0) = true := bne_iff_ne.mpr c12
   replace H := Option.bind_eq_some_iff.mp H
   obtain ⟨t124, A470, H⟩ := H
   replace H : (if t124 = 9 then ((flagstonelaw09_num.f t120).bind fun t125 => (if t125 = 9 then (some ((t112.length : Int) == 0)) else (some false))) else (some false)) = some r := H
   have A47 := Aside0.mk A470
   clear A470
   by_cases c48 : t124 = 9
   ·rw [if_pos c48] at H
    have c48b0 : (t124 == 9) = true := beq_iff_eq.mpr c48
    have c48b1 : (t124 != 9) = false := bne_eq_false_iff_eq.mpr c48
    clear c48
    replace H := Option.bind_eq_some_iff.mp H
    obtain ⟨t125, A490, H⟩ := H
    replace H : (if t125 = 9 then (some ((t112.length : Int) == 0)) else (some false)) = some r := H
    have A49 := Aside0.mk A490
    clear A490
    by_cases c50 : t125 = 9
    ·rw [if_pos c50] at H
     have c50b0 : (t125 == 9) = true := beq_iff_eq.mpr c50
     have c50b1 : (t125 != 9) = false := bne_eq_false_iff_eq.mpr c50
     clear c50
     obtain rfl := Option.some.inj H
     go_enter Try.func18, Try.ntmps18
     go_wp2_with (first | (go_at_call 57; (with_reducible refine (flagstonelaw09_alive.calls  true _ A3.out).mono ?_); rintro e w51 ⟨rfl, hb⟩; have n0_ := Aside0.mk (below_step (by repeat (first | (with_reducible first | exact HB.out | apply below_alloc | apply pw_below_drewN | apply below_drew1) | exact HB.out)) hb); clear HB; have HB := n0_; clear n0_; (try clear hb); (try clear hb2); (try clear hk); (try clear hi)) | ((fail_if_success (have q_ := ON_A5.out)); have ON_A5 := Aside0.mk True.intro; go_at_call 59; (with_reducible refine (flagstonelaw09_Of.calls k _ _ l0 t102 _ ?side1 ?side2 A5.out).mono ?_); (case side1 => repeat (first | exact (Kd.C_below HR0.out HB.out) | (with_reducible refine Kd.C_alloc ?_ _) | (with_reducible refine Kd.C_drewN ?_ _) | (with_reducible refine Kd.C_drew ?_))); (case side2 => exact HC0.out); rintro e w52 ⟨v103, rfl, ho0, hb⟩; have n0_ := Aside0.mk (Kd.S_lower ho0 (below_size (by repeat (first | (with_reducible first | exact HB.out | apply below_alloc | apply pw_below_drewN | apply below_drew1) | exact HB.out)))); have n1_ := Aside0.mk (below_step (by repeat (first | (with_reducible first | exact HB.out | apply below_alloc | apply pw_below_drewN | apply below_drew1) | exact HB.out)) hb); clear HB; have HO104 := n0_; have HB := n1_; clear n0_ n1_; (try clear hb); (try clear hb2); (try clear hk); (try clear hi); (try clear ho0); obtain ⟨Ao53, co53, eo53⟩ := Kd.S_slice HO104.out; subst eo53) | (go_at_call 62; (with_reducible refine (refs_Counts.calls _ _ t102 t105 t106 _ ?side1 ?side2 A6.out).mono ?_); (case side1 => repeat (first | exact (Kd.S_reads' HO104.out).2.2 | (with_reducible refine Kd.C_alloc ?_ _) | (with_reducible refine Kd.C_drewN ?_ _) | (with_reducible refine Kd.C_drew ?_))); (case side2 => exact (Kd.S_reads' HO104.out).2.1); rintro e w54 ⟨v107, rfl, ho0, hb⟩; have n0_ := Aside0.mk (Kd.S_below (by (with_reducible repeat (first | apply Kd.S_alloc | apply Kd.S_drewN | apply Kd.S_drew)); exact HO104.out) hb); have n1_ := Aside0.mk (Kd.R_lower ho0 (below_size (by repeat (first | (with_reducible first | exact HB.out | apply below_alloc | apply pw_below_drewN | apply below_drew1) | exact HB.out)))); have n2_ := Aside0.mk (below_step (by repeat (first | (with_reducible first | exact HB.out | apply below_alloc | apply pw_below_drewN | apply below_drew1) | exact HB.out)) hb); clear HO104; clear HB; have HO104 := n0_; have HO108 := n1_; have HB := n2_; clear n0_ n1_ n2_; (try clear hb); (try clear hb2); (try clear hk); (try clear hi); (try clear ho0)) | ((fail_if_success (have q_ := ON_A7.out)); have ON_A7 := Aside0.mk True.intro; go_at_call 59; (with_reducible refine (flagstonelaw09_Of.calls k _ _ l0 t109 _ ?side1 ?side2 A7.out).mono ?_); (case side1 => repeat (first | exact (Kd.C_below HR0.out HB.out) | (with_reducible refine Kd.C_alloc ?_ _) | (with_reducible refine Kd.C_drewN ?_ _) | (with_reducible refine Kd.C_drew ?_))); (case side2 => exact HC0.out); rintro e w55 ⟨v110, rfl, ho0, hb⟩; have n0_ := Aside0.mk (Kd.S_elder' (by (with_reducible repeat (first | apply Kd.S_alloc | apply Kd.S_drewN | apply Kd.S_drew)); exact HO104.out) (Kd.S_base ho0) hb); have n1_ := Aside0.mk (Kd.R_below (by (with_reducible repeat (first | apply Kd.R_alloc | apply Kd.R_drewN | apply Kd.R_drew)); exact HO108.out) hb); have n2_ := Aside0.mk (Kd.S_lower (Kd.S_new' ho0 (Kd.S_lt (by (with_reducible repeat (first | apply Kd.S_alloc | apply Kd.S_drewN | apply Kd.S_drew)); exact HO104.out))) (below_size (by repeat (first | (with_reducible first | exact HB.out | apply below_alloc | apply pw_below_drewN | apply below_drew1) | exact HB.out)))); have n3_ := Aside0.mk (below_step (by repeat (first | (with_reducible first | exact HB.out | apply below_alloc | apply pw_below_drewN | apply below_drew1) | exact HB.out)) hb); clear HO104; clear HO108; clear HB; have HO104 := n0_; have HO108 := n1_; have HO111 := n2_; have HB := n3_; clear n0_ n1_ n2_ n3_; (try clear hb); (try clear hb2); (try clear hk); (try clear hi); (try clear ho0); obtain ⟨Ao56, co56, eo56⟩ := Kd.S_slice HO111.out; subst eo56) | (go_at_call 58; (with_reducible refine (refs_Who.calls _ _ t109 (Int.tmod (wrap64 ((Int.tmod a1 65536) + 65536)) 65536) 1 t112 t115 _ ?side1 ?side2 A8.out).mono ?_); (case side1 => repeat (first | exact (Kd.S_reads' HO111.out).2.2 | (with_reducible refine Kd.C_alloc ?_ _) | (with_reducible refine Kd.C_drewN ?_ _) | (with_reducible refine Kd.C_drew ?_))); (case side2 => exact (Kd.S_reads' HO111.out).2.1); rintro e w57 ⟨v113, rfl, ho0, hb⟩; have n0_ := Aside0.mk (Kd.S_below (by (with_reducible repeat (first | apply Kd.S_alloc | apply Kd.S_drewN | apply Kd.S_drew)); exact HO104.out) hb); have n1_ := Aside0.mk (Kd.R_below (by (with_reducible repeat (first | apply Kd.R_alloc | apply Kd.R_drewN | apply Kd.R_drew)); exact HO108.out) hb); have n2_ := Aside0.mk (Kd.S_below (by (with_reducible repeat (first | apply Kd.S_alloc | apply Kd.S_drewN | apply Kd.S_drew)); exact HO111.out) hb); have n3_ := Aside0.mk (Kd.R_lower ho0 (below_size (by repeat (first | (with_reducible first | exact HB.out | apply below_alloc | apply pw_below_drewN | apply below_drew1) | exact HB.out)))); have n4_ := Aside0.mk (below_step (by repeat (first | (with_reducible first | exact HB.out | apply below_alloc | apply pw_below_drewN | apply below_drew1) | exact HB.out)) hb); clear HO104; clear HO108; clear HO111; clear HB; have HO104 := n0_; have HO108 := n1_; have HO111 := n2_; have HO114 := n3_; have HB := n4_; clear n0_ n1_ n2_ n3_ n4_; (try clear hb); (try clear hb2); (try clear hk); (try clear hi); (try clear ho0)) | ((fail_if_success (have q_ := ON_A9.out)); have ON_A9 := Aside0.mk True.intro; go_at_call 59; (with_reducible refine (flagstonelaw09_Of.calls k _ _ l0 t116 _ ?side1 ?side2 A9.out).mono ?_); (case side1 => repeat (first | exact (Kd.C_below HR0.out HB.out) | (with_reducible refine Kd.C_alloc ?_ _) | (with_reducible refine Kd.C_drewN ?_ _) | (with_reducible refine Kd.C_drew ?_))); (case side2 => exact HC0.out); rintro e w58 ⟨v117, rfl, ho0, hb⟩; have n0_ := Aside0.mk (Kd.S_elder' (by (with_reducible repeat (first | apply Kd.S_alloc | apply Kd.S_drewN | apply Kd.S_drew)); exact HO104.out) (Kd.S_base ho0) hb); have n1_ := Aside0.mk (Kd.R_below (by (with_reducible repeat (first | apply Kd.R_alloc | apply Kd.R_drewN | apply Kd.R_drew)); exact HO108.out) hb); have n2_ := Aside0.mk (Kd.S_elder' (by (with_reducible repeat (first | apply Kd.S_alloc | apply Kd.S_drewN | apply Kd.S_drew)); exact HO111.out) (Kd.S_base ho0) hb); have n3_ := Aside0.mk (Kd.R_below (by (with_reducible repeat (first | apply Kd.R_alloc | apply Kd.R_drewN | apply Kd.R_drew)); exact HO114.out) hb); have n4_ := Aside0.mk (Kd.S_lower (Kd.S_new' (Kd.S_new' ho0 (Kd.S_lt (by (with_reducible repeat (first | apply Kd.S_alloc | apply Kd.S_drewN | apply Kd.S_drew)); exact HO104.out))) (Kd.S_lt (by (with_reducible repeat (first | apply Kd.S_alloc | apply Kd.S_drewN | apply Kd.S_drew)); exact HO111.out))) (below_size (by repeat (first | (with_reducible first | exact HB.out | apply below_alloc | apply pw_below_drewN | apply below_drew1) | exact HB.out)))); have n5_ := Aside0.mk (below_step (by repeat (first | (with_reducible first | exact HB.out | apply below_alloc | apply pw_below_drewN | apply below_drew1) | exact HB.out)) hb); clear HO104; clear HO108; clear HO111; clear HO114; clear HB; have HO104 := n0_; have HO108 := n1_; have HO111 := n2_; have HO114 := n3_; have HO118 := n4_; have HB := n5_; clear n0_ n1_ n2_ n3_ n4_ n5_; (try clear hb); (try clear hb2); (try clear hk); (try clear hi); (try clear ho0); obtain ⟨Ao59, co59, eo59⟩ := Kd.S_slice HO118.out; subst eo59) | (go_at_call 64; (with_reducible refine (refs_Used.calls k _ _ t116 t119 t120 _ ?side1 ?side2 A10.out).mono ?_); (case side1 => repeat (first | exact (Kd.S_reads' HO118.out).2.2 | (with_reducible refine Kd.C_alloc ?_ _) | (with_reducible refine Kd.C_drewN ?_ _) | (with_reducible refine Kd.C_drew ?_))); (case side2 => exact (Kd.S_reads' HO118.out).2.1); rintro e w60 ⟨v121, rfl, ho0, hb⟩; have n0_ := Aside0.mk (Kd.S_below (by (with_reducible repeat (first | apply Kd.S_alloc | apply Kd.S_drewN | apply Kd.S_drew)); exact HO104.out) hb); have n1_ := Aside0.mk (Kd.R_below (by (with_reducible repeat (first | apply Kd.R_alloc | apply Kd.R_drewN | apply Kd.R_drew)); exact HO108.out) hb); have n2_ := Aside0.mk (Kd.S_below (by (with_reducible repeat (first | apply Kd.S_alloc | apply Kd.S_drewN | apply Kd.S_drew)); exact HO111.out) hb); have n3_ := Aside0.mk (Kd.R_below (by (with_reducible repeat (first | apply Kd.R_alloc | apply Kd.R_drewN | apply Kd.R_drew)); exact HO114.out) hb); have n4_ := Aside0.mk (Kd.S_below (by (with_reducible repeat (first | apply Kd.S_alloc | apply Kd.S_drewN | apply Kd.S_drew)); exact HO118.out) hb); have n5_ := Aside0.mk (Kd.R_lower ho0 (below_size (by repeat (first | (with_reducible first | exact HB.out | apply below_alloc | apply pw_below_drewN | apply below_drew1) | exact HB.out)))); have n6_ := Aside0.mk (below_step (by repeat (first | (with_reducible first | exact HB.out | apply below_alloc | apply pw_below_drewN | apply below_drew1) | exact HB.out)) hb); clear HO104; clear HO108; clear HO111; clear HO114; clear HO118; clear HB; have HO104 := n0_; have HO108 := n1_; have HO111 := n2_; have HO114 := n3_; have HO118 := n4_; have HO122 := n5_; have HB := n6_; clear n0_ n1_ n2_ n3_ n4_ n5_ n6_; (try clear hb); (try clear hb2); (try clear hk); (try clear hi); (try clear ho0)) | ((fail_if_success (have q_ := ON_A11.out)); have ON_A11 := Aside0.mk True.intro; go_at_call 60; (with_reducible refine (flagstonelaw09_num.calls t106 t123 _ A11.out).mono ?_); rintro e w' ⟨rfl, ⟨nd, rfl⟩⟩; (try first | exact ⟨rfl, _, World.drewN_drewN _ _ _⟩ | exact ⟨rfl, _, Eq.trans (World.drewN_drewN _ _ _) (congrArg (World.drewN _) (Nat.add_assoc _ _ _))⟩)) | ((fail_if_success (have q_ := ON_A47.out)); have ON_A47 := Aside0.mk True.intro; go_at_call 60; (with_reducible refine (flagstonelaw09_num.calls t115 t124 _ A47.out).mono ?_); rintro e w' ⟨rfl, ⟨nd, rfl⟩⟩; (try first | exact ⟨rfl, _, World.drewN_drewN _ _ _⟩ | exact ⟨rfl, _, Eq.trans (World.drewN_drewN _ _ _) (congrArg (World.drewN _) (Nat.add_assoc _ _ _))⟩)) | ((fail_if_success (have q_ := ON_A49.out)); have ON_A49 := Aside0.mk True.intro; go_at_call 60; (with_reducible refine (flagstonelaw09_num.calls t120 t125 _ A49.out).mono ?_); rintro e w' ⟨rfl, ⟨nd, rfl⟩⟩; (try first | exact ⟨rfl, _, World.drewN_drewN _ _ _⟩ | exact ⟨rfl, _, Eq.trans (World.drewN_drewN _ _ _) (congrArg (World.drewN _) (Nat.add_assoc _ _ _))⟩); obtain ⟨Ao61, co61, eo61⟩ := Kd.R_slice HO114.out; subst eo61))
     repeat (go_quiet (first | (go_at_call 57; (with_reducible refine (flagstonelaw09_alive.calls  true _ A3.out).mono ?_); rintro e w51 ⟨rfl, hb⟩; have n0_ := Aside0.mk (below_step (by repeat (first | (with_reducible first | exact HB.out | apply below_alloc | apply pw_below_drewN | apply below_drew1) | exact HB.out)) hb); clear HB; have HB := n0_; clear n0_; (try clear hb); (try clear hb2); (try clear hk); (try clear hi)) | ((fail_if_success (have q_ := ON_A5.out)); have ON_A5 := Aside0.mk True.intro; go_at_call 59; (with_reducible refine (flagstonelaw09_Of.calls k _ _ l0 t102 _ ?side1 ?side2 A5.out).mono ?_); (case side1 => repeat (first | exact (Kd.C_below HR0.out HB.out) | (with_reducible refine Kd.C_alloc ?_ _) | (with_reducible refine Kd.C_drewN ?_ _) | (with_reducible refine Kd.C_drew ?_))); (case side2 => exact HC0.out); rintro e w52 ⟨v103, rfl, ho0, hb⟩; have n0_ := Aside0.mk (Kd.S_lower ho0 (below_size (by repeat (first | (with_reducible first | exact HB.out | apply below_alloc | apply pw_below_drewN | apply below_drew1) | exact HB.out)))); have n1_ := Aside0.mk (below_step (by repeat (first | (with_reducible first | exact HB.out | apply below_alloc | apply pw_below_drewN | apply below_drew1) | exact HB.out)) hb); clear HB; have HO104 := n0_; have HB := n1_; clear n0_ n1_; (try clear hb); (try clear hb2); (try clear hk); (try clear hi); (try clear ho0); obtain ⟨Ao53, co53, eo53⟩ := Kd.S_slice HO104.out; subst eo53) | (go_at_call 62; (with_reducible refine (refs_Counts.calls _ _ t102 t105 t106 _ ?side1 ?side2 A6.out).mono ?_); (case side1 => repeat (first | exact (Kd.S_reads' HO104.out).2.2 | (with_reducible refine Kd.C_alloc ?_ _) | (with_reducible refine Kd.C_drewN ?_ _) | (with_reducible refine Kd.C_drew ?_))); (case side2 => exact (Kd.S_reads' HO104.out).2.1); rintro e w54 ⟨v107, rfl, ho0, hb⟩; have n0_ := Aside0.mk (Kd.S_below (by (with_reducible repeat (first | apply Kd.S_alloc | apply Kd.S_drewN | apply Kd.S_drew)); exact HO104.out) hb); have n1_ := Aside0.mk (Kd.R_lower ho0 (below_size (by repeat (first | (with_reducible first | exact HB.out | apply below_alloc | apply pw_below_drewN | apply below_drew1) | exact HB.out)))); have n2_ := Aside0.mk (below_step (by repeat (first | (with_reducible first | exact HB.out | apply below_alloc | apply pw_below_drewN | apply below_drew1) | exact HB.out)) hb); clear HO104; clear HB; have HO104 := n0_; have HO108 := n1_; have HB := n2_; clear n0_ n1_ n2_; (try clear hb); (try clear hb2); (try clear hk); (try clear hi); (try clear ho0)) | ((fail_if_success (have q_ := ON_A7.out)); have ON_A7 := Aside0.mk True.intro; go_at_call 59; (with_reducible refine (flagstonelaw09_Of.calls k _ _ l0 t109 _ ?side1 ?side2 A7.out).mono ?_); (case side1 => repeat (first | exact (Kd.C_below HR0.out HB.out) | (with_reducible refine Kd.C_alloc ?_ _) | (with_reducible refine Kd.C_drewN ?_ _) | (with_reducible refine Kd.C_drew ?_))); (case side2 => exact HC0.out); rintro e w55 ⟨v110, rfl, ho0, hb⟩; have n0_ := Aside0.mk (Kd.S_elder' (by (with_reducible repeat (first | apply Kd.S_alloc | apply Kd.S_drewN | apply Kd.S_drew)); exact HO104.out) (Kd.S_base ho0) hb); have n1_ := Aside0.mk (Kd.R_below (by (with_reducible repeat (first | apply Kd.R_alloc | apply Kd.R_drewN | apply Kd.R_drew)); exact HO108.out) hb); have n2_ := Aside0.mk (Kd.S_lower (Kd.S_new' ho0 (Kd.S_lt (by (with_reducible repeat (first | apply Kd.S_alloc | apply Kd.S_drewN | apply Kd.S_drew)); exact HO104.out))) (below_size (by repeat (first | (with_reducible first | exact HB.out | apply below_alloc | apply pw_below_drewN | apply below_drew1) | exact HB.out)))); have n3_ := Aside0.mk (below_step (by repeat (first | (with_reducible first | exact HB.out | apply below_alloc | apply pw_below_drewN | apply below_drew1) | exact HB.out)) hb); clear HO104; clear HO108; clear HB; have HO104 := n0_; have HO108 := n1_; have HO111 := n2_; have HB := n3_; clear n0_ n1_ n2_ n3_; (try clear hb); (try clear hb2); (try clear hk); (try clear hi); (try clear ho0); obtain ⟨Ao56, co56, eo56⟩ := Kd.S_slice HO111.out; subst eo56) | (go_at_call 58; (with_reducible refine (refs_Who.calls _ _ t109 (Int.tmod (wrap64 ((Int.tmod a1 65536) + 65536)) 65536) 1 t112 t115 _ ?side1 ?side2 A8.out).mono ?_); (case side1 => repeat (first | exact (Kd.S_reads' HO111.out).2.2 | (with_reducible refine Kd.C_alloc ?_ _) | (with_reducible refine Kd.C_drewN ?_ _) | (with_reducible refine Kd.C_drew ?_))); (case side2 => exact (Kd.S_reads' HO111.out).2.1); rintro e w57 ⟨v113, rfl, ho0, hb⟩; have n0_ := Aside0.mk (Kd.S_below (by (with_reducible repeat (first | apply Kd.S_alloc | apply Kd.S_drewN | apply Kd.S_drew)); exact HO104.out) hb); have n1_ := Aside0.mk (Kd.R_below (by (with_reducible repeat (first | apply Kd.R_alloc | apply Kd.R_drewN | apply Kd.R_drew)); exact HO108.out) hb); have n2_ := Aside0.mk (Kd.S_below (by (with_reducible repeat (first | apply Kd.S_alloc | apply Kd.S_drewN | apply Kd.S_drew)); exact HO111.out) hb); have n3_ := Aside0.mk (Kd.R_lower ho0 (below_size (by repeat (first | (with_reducible first | exact HB.out | apply below_alloc | apply pw_below_drewN | apply below_drew1) | exact HB.out)))); have n4_ := Aside0.mk (below_step (by repeat (first | (with_reducible first | exact HB.out | apply below_alloc | apply pw_below_drewN | apply below_drew1) | exact HB.out)) hb); clear HO104; clear HO108; clear HO111; clear HB; have HO104 := n0_; have HO108 := n1_; have HO111 := n2_; have HO114 := n3_; have HB := n4_; clear n0_ n1_ n2_ n3_ n4_; (try clear hb); (try clear hb2); (try clear hk); (try clear hi); (try clear ho0)) | ((fail_if_success (have q_ := ON_A9.out)); have ON_A9 := Aside0.mk True.intro; go_at_call 59; (with_reducible refine (flagstonelaw09_Of.calls k _ _ l0 t116 _ ?side1 ?side2 A9.out).mono ?_); (case side1 => repeat (first | exact (Kd.C_below HR0.out HB.out) | (with_reducible refine Kd.C_alloc ?_ _) | (with_reducible refine Kd.C_drewN ?_ _) | (with_reducible refine Kd.C_drew ?_))); (case side2 => exact HC0.out); rintro e w58 ⟨v117, rfl, ho0, hb⟩; have n0_ := Aside0.mk (Kd.S_elder' (by (with_reducible repeat (first | apply Kd.S_alloc | apply Kd.S_drewN | apply Kd.S_drew)); exact HO104.out) (Kd.S_base ho0) hb); have n1_ := Aside0.mk (Kd.R_below (by (with_reducible repeat (first | apply Kd.R_alloc | apply Kd.R_drewN | apply Kd.R_drew)); exact HO108.out) hb); have n2_ := Aside0.mk (Kd.S_elder' (by (with_reducible repeat (first | apply Kd.S_alloc | apply Kd.S_drewN | apply Kd.S_drew)); exact HO111.out) (Kd.S_base ho0) hb); have n3_ := Aside0.mk (Kd.R_below (by (with_reducible repeat (first | apply Kd.R_alloc | apply Kd.R_drewN | apply Kd.R_drew)); exact HO114.out) hb); have n4_ := Aside0.mk (Kd.S_lower (Kd.S_new' (Kd.S_new' ho0 (Kd.S_lt (by (with_reducible repeat (first | apply Kd.S_alloc | apply Kd.S_drewN | apply Kd.S_drew)); exact HO104.out))) (Kd.S_lt (by (with_reducible repeat (first | apply Kd.S_alloc | apply Kd.S_drewN | apply Kd.S_drew)); exact HO111.out))) (below_size (by repeat (first | (with_reducible first | exact HB.out | apply below_alloc | apply pw_below_drewN | apply below_drew1) | exact HB.out)))); have n5_ := Aside0.mk (below_step (by repeat (first | (with_reducible first | exact HB.out | apply below_alloc | apply pw_below_drewN | apply below_drew1) | exact HB.out)) hb); clear HO104; clear HO108; clear HO111; clear HO114; clear HB; have HO104 := n0_; have HO108 := n1_; have HO111 := n2_; have HO114 := n3_; have HO118 := n4_; have HB := n5_; clear n0_ n1_ n2_ n3_ n4_ n5_; (try clear hb); (try clear hb2); (try clear hk); (try clear hi); (try clear ho0); obtain ⟨Ao59, co59, eo59⟩ := Kd.S_slice HO118.out; subst eo59) | (go_at_call 64; (with_reducible refine (refs_Used.calls k _ _ t116 t119 t120 _ ?side1 ?side2 A10.out).mono ?_); (case side1 => repeat (first | exact (Kd.S_reads' HO118.out).2.2 | (with_reducible refine Kd.C_alloc ?_ _) | (with_reducible refine Kd.C_drewN ?_ _) | (with_reducible refine Kd.C_drew ?_))); (case side2 => exact (Kd.S_reads' HO118.out).2.1); rintro e w60 ⟨v121, rfl, ho0, hb⟩; have n0_ := Aside0.mk (Kd.S_below (by (with_reducible repeat (first | apply Kd.S_alloc | apply Kd.S_drewN | apply Kd.S_drew)); exact HO104.out) hb); have n1_ := Aside0.mk (Kd.R_below (by (with_reducible repeat (first | apply Kd.R_alloc | apply Kd.R_drewN | apply Kd.R_drew)); exact HO108.out) hb); have n2_ := Aside0.mk (Kd.S_below (by (with_reducible repeat (first | apply Kd.S_alloc | apply Kd.S_drewN | apply Kd.S_drew)); exact HO111.out) hb); have n3_ := Aside0.mk (Kd.R_below (by (with_reducible repeat (first | apply Kd.R_alloc | apply Kd.R_drewN | apply Kd.R_drew)); exact HO114.out) hb); have n4_ := Aside0.mk (Kd.S_below (by (with_reducible repeat (first | apply Kd.S_alloc | apply Kd.S_drewN | apply Kd.S_drew)); exact HO118.out) hb); have n5_ := Aside0.mk (Kd.R_lower ho0 (below_size (by repeat (first | (with_reducible first | exact HB.out | apply below_alloc | apply pw_below_drewN | apply below_drew1) | exact HB.out)))); have n6_ := Aside0.mk (below_step (by repeat (first | (with_reducible first | exact HB.out | apply below_alloc | apply pw_below_drewN | apply below_drew1) | exact HB.out)) hb); clear HO104; clear HO108; clear HO111; clear HO114; clear HO118; clear HB; have HO104 := n0_; have HO108 := n1_; have HO111 := n2_; have HO114 := n3_; have HO118 := n4_; have HO122 := n5_; have HB := n6_; clear n0_ n1_ n2_ n3_ n4_ n5_ n6_; (try clear hb); (try clear hb2); (try clear hk); (try clear hi); (try clear ho0)) | ((fail_if_success (have q_ := ON_A11.out)); have ON_A11 := Aside0.mk True.intro; go_at_call 60; (with_reducible refine (flagstonelaw09_num.calls t106 t123 _ A11.out).mono ?_); rintro e w' ⟨rfl, ⟨nd, rfl⟩⟩; (try first | exact ⟨rfl, _, World.drewN_drewN _ _ _⟩ | exact ⟨rfl, _, Eq.trans (World.drewN_drewN _ _ _) (congrArg (World.drewN _) (Nat.add_assoc _ _ _))⟩)) | ((fail_if_success (have q_ := ON_A47.out)); have ON_A47 := Aside0.mk True.intro; go_at_call 60; (with_reducible refine (flagstonelaw09_num.calls t115 t124 _ A47.out).mono ?_); rintro e w' ⟨rfl, ⟨nd, rfl⟩⟩; (try first | exact ⟨rfl, _, World.drewN_drewN _ _ _⟩ | exact ⟨rfl, _, Eq.trans (World.drewN_drewN _ _ _) (congrArg (World.drewN _) (Nat.add_assoc _ _ _))⟩)) | ((fail_if_success (have q_ := ON_A49.out)); have ON_A49 := Aside0.mk True.intro; go_at_call 60; (with_reducible refine (flagstonelaw09_num.calls t120 t125 _ A49.out).mono ?_); rintro e w' ⟨rfl, ⟨nd, rfl⟩⟩; (try first | exact ⟨rfl, _, World.drewN_drewN _ _ _⟩ | exact ⟨rfl, _, Eq.trans (World.drewN_drewN _ _ _) (congrArg (World.drewN _) (Nat.add_assoc _ _ _))⟩); obtain ⟨Ao61, co61, eo61⟩ := Kd.R_slice HO114.out; subst eo61)); try go_wp2_with (first | (go_at_call 57; (with_reducible refine (flagstonelaw09_alive.calls  true _ A3.out).mono ?_); rintro e w51 ⟨rfl, hb⟩; have n0_ := Aside0.mk (below_step (by repeat (first | (with_reducible first | exact HB.out | apply below_alloc | apply pw_below_drewN | apply below_drew1) | exact HB.out)) hb); clear HB; have HB := n0_; clear n0_; (try clear hb); (try clear hb2); (try clear hk); (try clear hi)) | ((fail_if_success (have q_ := ON_A5.out)); have ON_A5 := Aside0.mk True.intro; go_at_call 59; (with_reducible refine (flagstonelaw09_Of.calls k _ _ l0 t102 _ ?side1 ?side2 A5.out).mono ?_); (case side1 => repeat (first | exact (Kd.C_below HR0.out HB.out) | (with_reducible refine Kd.C_alloc ?_ _) | (with_reducible refine Kd.C_drewN ?_ _) | (with_reducible refine Kd.C_drew ?_))); (case side2 => exact HC0.out); rintro e w52 ⟨v103, rfl, ho0, hb⟩; have n0_ := Aside0.mk (Kd.S_lower ho0 (below_size (by repeat (first | (with_reducible first | exact HB.out | apply below_alloc | apply pw_below_drewN | apply below_drew1) | exact HB.out)))); have n1_ := Aside0.mk (below_step (by repeat (first | (with_reducible first | exact HB.out | apply below_alloc | apply pw_below_drewN | apply below_drew1) | exact HB.out)) hb); clear HB; have HO104 := n0_; have HB := n1_; clear n0_ n1_; (try clear hb); (try clear hb2); (try clear hk); (try clear hi); (try clear ho0); obtain ⟨Ao53, co53, eo53⟩ := Kd.S_slice HO104.out; subst eo53) | (go_at_call 62; (with_reducible refine (refs_Counts.calls _ _ t102 t105 t106 _ ?side1 ?side2 A6.out).mono ?_); (case side1 => repeat (first | exact (Kd.S_reads' HO104.out).2.2 | (with_reducible refine Kd.C_alloc ?_ _) | (with_reducible refine Kd.C_drewN ?_ _) | (with_reducible refine Kd.C_drew ?_))); (case side2 => exact (Kd.S_reads' HO104.out).2.1); rintro e w54 ⟨v107, rfl, ho0, hb⟩; have n0_ := Aside0.mk (Kd.S_below (by (with_reducible repeat (first | apply Kd.S_alloc | apply Kd.S_drewN | apply Kd.S_drew)); exact HO104.out) hb); have n1_ := Aside0.mk (Kd.R_lower ho0 (below_size (by repeat (first | (with_reducible first | exact HB.out | apply below_alloc | apply pw_below_drewN | apply below_drew1) | exact HB.out)))); have n2_ := Aside0.mk (below_step (by repeat (first | (with_reducible first | exact HB.out | apply below_alloc | apply pw_below_drewN | apply below_drew1) | exact HB.out)) hb); clear HO104; clear HB; have HO104 := n0_; have HO108 := n1_; have HB := n2_; clear n0_ n1_ n2_; (try clear hb); (try clear hb2); (try clear hk); (try clear hi); (try clear ho0)) | ((fail_if_success (have q_ := ON_A7.out)); have ON_A7 := Aside0.mk True.intro; go_at_call 59; (with_reducible refine (flagstonelaw09_Of.calls k _ _ l0 t109 _ ?side1 ?side2 A7.out).mono ?_); (case side1 => repeat (first | exact (Kd.C_below HR0.out HB.out) | (with_reducible refine Kd.C_alloc ?_ _) | (with_reducible refine Kd.C_drewN ?_ _) | (with_reducible refine Kd.C_drew ?_))); (case side2 => exact HC0.out); rintro e w55 ⟨v110, rfl, ho0, hb⟩; have n0_ := Aside0.mk (Kd.S_elder' (by (with_reducible repeat (first | apply Kd.S_alloc | apply Kd.S_drewN | apply Kd.S_drew)); exact HO104.out) (Kd.S_base ho0) hb); have n1_ := Aside0.mk (Kd.R_below (by (with_reducible repeat (first | apply Kd.R_alloc | apply Kd.R_drewN | apply Kd.R_drew)); exact HO108.out) hb); have n2_ := Aside0.mk (Kd.S_lower (Kd.S_new' ho0 (Kd.S_lt (by (with_reducible repeat (first | apply Kd.S_alloc | apply Kd.S_drewN | apply Kd.S_drew)); exact HO104.out))) (below_size (by repeat (first | (with_reducible first | exact HB.out | apply below_alloc | apply pw_below_drewN | apply below_drew1) | exact HB.out)))); have n3_ := Aside0.mk (below_step (by repeat (first | (with_reducible first | exact HB.out | apply below_alloc | apply pw_below_drewN | apply below_drew1) | exact HB.out)) hb); clear HO104; clear HO108; clear HB; have HO104 := n0_; have HO108 := n1_; have HO111 := n2_; have HB := n3_; clear n0_ n1_ n2_ n3_; (try clear hb); (try clear hb2); (try clear hk); (try clear hi); (try clear ho0); obtain ⟨Ao56, co56, eo56⟩ := Kd.S_slice HO111.out; subst eo56) | (go_at_call 58; (with_reducible refine (refs_Who.calls _ _ t109 (Int.tmod (wrap64 ((Int.tmod a1 65536) + 65536)) 65536) 1 t112 t115 _ ?side1 ?side2 A8.out).mono ?_); (case side1 => repeat (first | exact (Kd.S_reads' HO111.out).2.2 | (with_reducible refine Kd.C_alloc ?_ _) | (with_reducible refine Kd.C_drewN ?_ _) | (with_reducible refine Kd.C_drew ?_))); (case side2 => exact (Kd.S_reads' HO111.out).2.1); rintro e w57 ⟨v113, rfl, ho0, hb⟩; have n0_ := Aside0.mk (Kd.S_below (by (with_reducible repeat (first | apply Kd.S_alloc | apply Kd.S_drewN | apply Kd.S_drew)); exact HO104.out) hb); have n1_ := Aside0.mk (Kd.R_below (by (with_reducible repeat (first | apply Kd.R_alloc | apply Kd.R_drewN | apply Kd.R_drew)); exact HO108.out) hb); have n2_ := Aside0.mk (Kd.S_below (by (with_reducible repeat (first | apply Kd.S_alloc | apply Kd.S_drewN | apply Kd.S_drew)); exact HO111.out) hb); have n3_ := Aside0.mk (Kd.R_lower ho0 (below_size (by repeat (first | (with_reducible first | exact HB.out | apply below_alloc | apply pw_below_drewN | apply below_drew1) | exact HB.out)))); have n4_ := Aside0.mk (below_step (by repeat (first | (with_reducible first | exact HB.out | apply below_alloc | apply pw_below_drewN | apply below_drew1) | exact HB.out)) hb); clear HO104; clear HO108; clear HO111; clear HB; have HO104 := n0_; have HO108 := n1_; have HO111 := n2_; have HO114 := n3_; have HB := n4_; clear n0_ n1_ n2_ n3_ n4_; (try clear hb); (try clear hb2); (try clear hk); (try clear hi); (try clear ho0)) | ((fail_if_success (have q_ := ON_A9.out)); have ON_A9 := Aside0.mk True.intro; go_at_call 59; (with_reducible refine (flagstonelaw09_Of.calls k _ _ l0 t116 _ ?side1 ?side2 A9.out).mono ?_); (case side1 => repeat (first | exact (Kd.C_below HR0.out HB.out) | (with_reducible refine Kd.C_alloc ?_ _) | (with_reducible refine Kd.C_drewN ?_ _) | (with_reducible refine Kd.C_drew ?_))); (case side2 => exact HC0.out); rintro e w58 ⟨v117, rfl, ho0, hb⟩; have n0_ := Aside0.mk (Kd.S_elder' (by (with_reducible repeat (first | apply Kd.S_alloc | apply Kd.S_drewN | apply Kd.S_drew)); exact HO104.out) (Kd.S_base ho0) hb); have n1_ := Aside0.mk (Kd.R_below (by (with_reducible repeat (first | apply Kd.R_alloc | apply Kd.R_drewN | apply Kd.R_drew)); exact HO108.out) hb); have n2_ := Aside0.mk (Kd.S_elder' (by (with_reducible repeat (first | apply Kd.S_alloc | apply Kd.S_drewN | apply Kd.S_drew)); exact HO111.out) (Kd.S_base ho0) hb); have n3_ := Aside0.mk (Kd.R_below (by (with_reducible repeat (first | apply Kd.R_alloc | apply Kd.R_drewN | apply Kd.R_drew)); exact HO114.out) hb); have n4_ := Aside0.mk (Kd.S_lower (Kd.S_new' (Kd.S_new' ho0 (Kd.S_lt (by (with_reducible repeat (first | apply Kd.S_alloc | apply Kd.S_drewN | apply Kd.S_drew)); exact HO104.out))) (Kd.S_lt (by (with_reducible repeat (first | apply Kd.S_alloc | apply Kd.S_drewN | apply Kd.S_drew)); exact HO111.out))) (below_size (by repeat (first | (with_reducible first | exact HB.out | apply below_alloc | apply pw_below_drewN | apply below_drew1) | exact HB.out)))); have n5_ := Aside0.mk (below_step (by repeat (first | (with_reducible first | exact HB.out | apply below_alloc | apply pw_below_drewN | apply below_drew1) | exact HB.out)) hb); clear HO104; clear HO108; clear HO111; clear HO114; clear HB; have HO104 := n0_; have HO108 := n1_; have HO111 := n2_; have HO114 := n3_; have HO118 := n4_; have HB := n5_; clear n0_ n1_ n2_ n3_ n4_ n5_; (try clear hb); (try clear hb2); (try clear hk); (try clear hi); (try clear ho0); obtain ⟨Ao59, co59, eo59⟩ := Kd.S_slice HO118.out; subst eo59) | (go_at_call 64; (with_reducible refine (refs_Used.calls k _ _ t116 t119 t120 _ ?side1 ?side2 A10.out).mono ?_); (case side1 => repeat (first | exact (Kd.S_reads' HO118.out).2.2 | (with_reducible refine Kd.C_alloc ?_ _) | (with_reducible refine Kd.C_drewN ?_ _) | (with_reducible refine Kd.C_drew ?_))); (case side2 => exact (Kd.S_reads' HO118.out).2.1); rintro e w60 ⟨v121, rfl, ho0, hb⟩; have n0_ := Aside0.mk (Kd.S_below (by (with_reducible repeat (first | apply Kd.S_alloc | apply Kd.S_drewN | apply Kd.S_drew)); exact HO104.out) hb); have n1_ := Aside0.mk (Kd.R_below (by (with_reducible repeat (first | apply Kd.R_alloc | apply Kd.R_drewN | apply Kd.R_drew)); exact HO108.out) hb); have n2_ := Aside0.mk (Kd.S_below (by (with_reducible repeat (first | apply Kd.S_alloc | apply Kd.S_drewN | apply Kd.S_drew)); exact HO111.out) hb); have n3_ := Aside0.mk (Kd.R_below (by (with_reducible repeat (first | apply Kd.R_alloc | apply Kd.R_drewN | apply Kd.R_drew)); exact HO114.out) hb); have n4_ := Aside0.mk (Kd.S_below (by (with_reducible repeat (first | apply Kd.S_alloc | apply Kd.S_drewN | apply Kd.S_drew)); exact HO118.out) hb); have n5_ := Aside0.mk (Kd.R_lower ho0 (below_size (by repeat (first | (with_reducible first | exact HB.out | apply below_alloc | apply pw_below_drewN | apply below_drew1) | exact HB.out)))); have n6_ := Aside0.mk (below_step (by repeat (first | (with_reducible first | exact HB.out | apply below_alloc | apply pw_below_drewN | apply below_drew1) | exact HB.out)) hb); clear HO104; clear HO108; clear HO111; clear HO114; clear HO118; clear HB; have HO104 := n0_; have HO108 := n1_; have HO111 := n2_; have HO114 := n3_; have HO118 := n4_; have HO122 := n5_; have HB := n6_; clear n0_ n1_ n2_ n3_ n4_ n5_ n6_; (try clear hb); (try clear hb2); (try clear hk); (try clear hi); (try clear ho0)) | ((fail_if_success (have q_ := ON_A11.out)); have ON_A11 := Aside0.mk True.intro; go_at_call 60; (with_reducible refine (flagstonelaw09_num.calls t106 t123 _ A11.out).mono ?_); rintro e w' ⟨rfl, ⟨nd, rfl⟩⟩; (try first | exact ⟨rfl, _, World.drewN_drewN _ _ _⟩ | exact ⟨rfl, _, Eq.trans (World.drewN_drewN _ _ _) (congrArg (World.drewN _) (Nat.add_assoc _ _ _))⟩)) | ((fail_if_success (have q_ := ON_A47.out)); have ON_A47 := Aside0.mk True.intro; go_at_call 60; (with_reducible refine (flagstonelaw09_num.calls t115 t124 _ A47.out).mono ?_); rintro e w' ⟨rfl, ⟨nd, rfl⟩⟩; (try first | exact ⟨rfl, _, World.drewN_drewN _ _ _⟩ | exact ⟨rfl, _, Eq.trans (World.drewN_drewN _ _ _) (congrArg (World.drewN _) (Nat.add_assoc _ _ _))⟩)) | ((fail_if_success (have q_ := ON_A49.out)); have ON_A49 := Aside0.mk True.intro; go_at_call 60; (with_reducible refine (flagstonelaw09_num.calls t120 t125 _ A49.out).mono ?_); rintro e w' ⟨rfl, ⟨nd, rfl⟩⟩; (try first | exact ⟨rfl, _, World.drewN_drewN _ _ _⟩ | exact ⟨rfl, _, Eq.trans (World.drewN_drewN _ _ _) (congrArg (World.drewN _) (Nat.add_assoc _ _ _))⟩); obtain ⟨Ao61, co61, eo61⟩ := Kd.R_slice HO114.out; subst eo61)))
     go_ret
     exact ⟨by first | rfl | (simp [errW_none, errW_some] <;> rfl) | (simp [*, errW_none, errW_some] <;> rfl), by repeat (first | (with_reducible first | exact HB.out | apply below_alloc | apply pw_below_drewN | apply below_drew1) | exact HB.out)⟩
    ·rw [if_neg c50] at H
     have c50b0 : (t125 == 9) = false := beq_eq_false_iff_ne.mpr c50
     have c50b1 : (t125 != 9) = true := bne_iff_ne.mpr c50
     obtain rfl := Option.some.inj H
     go_enter Try.func18, Try.ntmps18
     go_wp2_with (first | (go_at_call 57; (with_reducible refine (flagstonelaw09_alive.calls  true _ A3.out).mono ?_); rintro e w62 ⟨rfl, hb⟩; have n0_ := Aside0.mk (below_step (by repeat (first | (with_reducible first | exact HB.out | apply below_alloc | apply pw_below_drewN | apply below_drew1) | exact HB.out)) hb); clear HB; have HB := n0_; clear n0_; (try clear hb); (try clear hb2); (try clear hk); (try clear hi)) | ((fail_if_success (have q_ := ON_A5.out)); have ON_A5 := Aside0.mk True.intro; go_at_call 59; (with_reducible refine (flagstonelaw09_Of.calls k _ _ l0 t102 _ ?side1 ?side2 A5.out).mono ?_); (case side1 => repeat (first | exact (Kd.C_below HR0.out HB.out) | (with_reducible refine Kd.C_alloc ?_ _) | (with_reducible refine Kd.C_drewN ?_ _) | (with_reducible refine Kd.C_drew ?_))); (case side2 => exact HC0.out); rintro e w63 ⟨v103, rfl, ho0, hb⟩; have n0_ := Aside0.mk (Kd.S_lower ho0 (below_size (by repeat (first | (with_reducible first | exact HB.out | apply below_alloc | apply pw_below_drewN | apply below_drew1) | exact HB.out)))); have n1_ := Aside0.mk (below_step (by repeat (first | (with_reducible first | exact HB.out | apply below_alloc | apply pw_below_drewN | apply below_drew1) | exact HB.out)) hb); clear HB; have HO104 := n0_; have HB := n1_; clear n0_ n1_; (try clear hb); (try clear hb2); (try clear hk); (try clear hi); (try clear ho0); obtain ⟨Ao64, co64, eo64⟩ := Kd.S_slice HO104.out; subst eo64) | (go_at_call 62; (with_reducible refine (refs_Counts.calls _ _ t102 t105 t106 _ ?side1 ?side2 A6.out).mono ?_); (case side1 => repeat (first | exact (Kd.S_reads' HO104.out).2.2 | (with_reducible refine Kd.C_alloc ?_ _) | (with_reducible refine Kd.C_drewN ?_ _) | (with_reducible refine Kd.C_drew ?_))); (case side2 => exact (Kd.S_reads' HO104.out).2.1); rintro e w65 ⟨v107, rfl, ho0, hb⟩; have n0_ := Aside0.mk (Kd.S_below (by (with_reducible repeat (first | apply Kd.S_alloc | apply Kd.S_drewN | apply Kd.S_drew)); exact HO104.out) hb); have n1_ := Aside0.mk (Kd.R_lower ho0 (below_size (by repeat (first | (with_reducible first | exact HB.out | apply below_alloc | apply pw_below_drewN | apply below_drew1) | exact HB.out)))); have n2_ := Aside0.mk (below_step (by repeat (first | (with_reducible first | exact HB.out | apply below_alloc | apply pw_below_drewN | apply below_drew1) | exact HB.out)) hb); clear HO104; clear HB; have HO104 := n0_; have HO108 := n1_; have HB := n2_; clear n0_ n1_ n2_; (try clear hb); (try clear hb2); (try clear hk); (try clear hi); (try clear ho0)) | ((fail_if_success (have q_ := ON_A7.out)); have ON_A7 := Aside0.mk True.intro; go_at_call 59; (with_reducible refine (flagstonelaw09_Of.calls k _ _ l0 t109 _ ?side1 ?side2 A7.out).mono ?_); (case side1 => repeat (first | exact (Kd.C_below HR0.out HB.out) | (with_reducible refine Kd.C_alloc ?_ _) | (with_reducible refine Kd.C_drewN ?_ _) | (with_reducible refine Kd.C_drew ?_))); (case side2 => exact HC0.out); rintro e w66 ⟨v110, rfl, ho0, hb⟩; have n0_ := Aside0.mk (Kd.S_elder' (by (with_reducible repeat (first | apply Kd.S_alloc | apply Kd.S_drewN | apply Kd.S_drew)); exact HO104.out) (Kd.S_base ho0) hb); have n1_ := Aside0.mk (Kd.R_below (by (with_reducible repeat (first | apply Kd.R_alloc | apply Kd.R_drewN | apply Kd.R_drew)); exact HO108.out) hb); have n2_ := Aside0.mk (Kd.S_lower (Kd.S_new' ho0 (Kd.S_lt (by (with_reducible repeat (first | apply Kd.S_alloc | apply Kd.S_drewN | apply Kd.S_drew)); exact HO104.out))) (below_size (by repeat (first | (with_reducible first | exact HB.out | apply below_alloc | apply pw_below_drewN | apply below_drew1) | exact HB.out)))); have n3_ := Aside0.mk (below_step (by repeat (first | (with_reducible first | exact HB.out | apply below_alloc | apply pw_below_drewN | apply below_drew1) | exact HB.out)) hb); clear HO104; clear HO108; clear HB; have HO104 := n0_; have HO108 := n1_; have HO111 := n2_; have HB := n3_; clear n0_ n1_ n2_ n3_; (try clear hb); (try clear hb2); (try clear hk); (try clear hi); (try clear ho0); obtain ⟨Ao67, co67, eo67⟩ := Kd.S_slice HO111.out; subst eo67) | (go_at_call 58; (with_reducible refine (refs_Who.calls _ _ t109 (Int.tmod (wrap64 ((Int.tmod a1 65536) + 65536)) 65536) 1 t112 t115 _ ?side1 ?side2 A8.out).mono ?_); (case side1 => repeat (first | exact (Kd.S_reads' HO111.out).2.2 | (with_reducible refine Kd.C_alloc ?_ _) | (with_reducible refine Kd.C_drewN ?_ _) | (with_reducible refine Kd.C_drew ?_))); (case side2 => exact (Kd.S_reads' HO111.out).2.1); rintro e w68 ⟨v113, rfl, ho0, hb⟩; have n0_ := Aside0.mk (Kd.S_below (by (with_reducible repeat (first | apply Kd.S_alloc | apply Kd.S_drewN | apply Kd.S_drew)); exact HO104.out) hb); have n1_ := Aside0.mk (Kd.R_below (by (with_reducible repeat (first | apply Kd.R_alloc | apply Kd.R_drewN | apply Kd.R_drew)); exact HO108.out) hb); have n2_ := Aside0.mk (Kd.S_below (by (with_reducible repeat (first | apply Kd.S_alloc | apply Kd.S_drewN | apply Kd.S_drew)); exact HO111.out) hb); have n3_ := Aside0.mk (Kd.R_lower ho0 (below_size (by repeat (first | (with_reducible first | exact HB.out | apply below_alloc | apply pw_below_drewN | apply below_drew1) | exact HB.out)))); have n4_ := Aside0.mk (below_step (by repeat (first | (with_reducible first | exact HB.out | apply below_alloc | apply pw_below_drewN | apply below_drew1) | exact HB.out)) hb); clear HO104; clear HO108; clear HO111; clear HB; have HO104 := n0_; have HO108 := n1_; have HO111 := n2_; have HO114 := n3_; have HB := n4_; clear n0_ n1_ n2_ n3_ n4_; (try clear hb); (try clear hb2); (try clear hk); (try clear hi); (try clear ho0)) | ((fail_if_success (have q_ := ON_A9.out)); have ON_A9 := Aside0.mk True.intro; go_at_call 59; (with_reducible refine (flagstonelaw09_Of.calls k _ _ l0 t116 _ ?side1 ?side2 A9.out).mono ?_); (case side1 => repeat (first | exact (Kd.C_below HR0.out HB.out) | (with_reducible refine Kd.C_alloc ?_ _) | (with_reducible refine Kd.C_drewN ?_ _) | (with_reducible refine Kd.C_drew ?_))); (case side2 => exact HC0.out); rintro e w69 ⟨v117, rfl, ho0, hb⟩; have n0_ := Aside0.mk (Kd.S_elder' (by (with_reducible repeat (first | apply Kd.S_alloc | apply Kd.S_drewN | apply Kd.S_drew)); exact HO104.out) (Kd.S_base ho0) hb); have n1_ := Aside0.mk (Kd.R_below (by (with_reducible repeat (first | apply Kd.R_alloc | apply Kd.R_drewN | apply Kd.R_drew)); exact HO108.out) hb); have n2_ := Aside0.mk (Kd.S_elder' (by (with_reducible repeat (first | apply Kd.S_alloc | apply Kd.S_drewN | apply Kd.S_drew)); exact HO111.out) (Kd.S_base ho0) hb); have n3_ := Aside0.mk (Kd.R_below (by (with_reducible repeat (first | apply Kd.R_alloc | apply Kd.R_drewN | apply Kd.R_drew)); exact HO114.out) hb); have n4_ := Aside0.mk (Kd.S_lower (Kd.S_new' (Kd.S_new' ho0 (Kd.S_lt (by (with_reducible repeat (first | apply Kd.S_alloc | apply Kd.S_drewN | apply Kd.S_drew)); exact HO104.out))) (Kd.S_lt (by (with_reducible repeat (first | apply Kd.S_alloc | apply Kd.S_drewN | apply Kd.S_drew)); exact HO111.out))) (below_size (by repeat (first | (with_reducible first | exact HB.out | apply below_alloc | apply pw_below_drewN | apply below_drew1) | exact HB.out)))); have n5_ := Aside0.mk (below_step (by repeat (first | (with_reducible first | exact HB.out | apply below_alloc | apply pw_below_drewN | apply below_drew1) | exact HB.out)) hb); clear HO104; clear HO108; clear HO111; clear HO114; clear HB; have HO104 := n0_; have HO108 := n1_; have HO111 := n2_; have HO114 := n3_; have HO118 := n4_; have HB := n5_; clear n0_ n1_ n2_ n3_ n4_ n5_; (try clear hb); (try clear hb2); (try clear hk); (try clear hi); (try clear ho0); obtain ⟨Ao70, co70, eo70⟩ := Kd.S_slice HO118.out; subst eo70) | (go_at_call 64; (with_reducible refine (refs_Used.calls k _ _ t116 t119 t120 _ ?side1 ?side2 A10.out).mono ?_); (case side1 => repeat (first | exact (Kd.S_reads' HO118.out).2.2 | (with_reducible refine Kd.C_alloc ?_ _) | (with_reducible refine Kd.C_drewN ?_ _) | (with_reducible refine Kd.C_drew ?_))); (case side2 => exact (Kd.S_reads' HO118.out).2.1); rintro e w71 ⟨v121, rfl, ho0, hb⟩; have n0_ := Aside0.mk (Kd.S_below (by (with_reducible repeat (first | apply Kd.S_alloc | apply Kd.S_drewN | apply Kd.S_drew)); exact HO104.out) hb); have n1_ := Aside0.mk (Kd.R_below (by (with_reducible repeat (first | apply Kd.R_alloc | apply Kd.R_drewN | apply Kd.R_drew)); exact HO108.out) hb); have n2_ := Aside0.mk (Kd.S_below (by (with_reducible repeat (first | apply Kd.S_alloc | apply Kd.S_drewN | apply Kd.S_drew)); exact HO111.out) hb); have n3_ := Aside0.mk (Kd.R_below (by (with_reducible repeat (first | apply Kd.R_alloc | apply Kd.R_drewN | apply Kd.R_drew)); exact HO114.out) hb); have n4_ := Aside0.mk (Kd.S_below (by (with_reducible repeat (first | apply Kd.S_alloc | apply Kd.S_drewN | apply Kd.S_drew)); exact HO118.out) hb); have n5_ := Aside0.mk (Kd.R_lower ho0 (below_size (by repeat (first | (with_reducible first | exact HB.out | apply below_alloc | apply pw_below_drewN | apply below_drew1) | exact HB.out)))); have n6_ := Aside0.mk (below_step (by repeat (first | (with_reducible first | exact HB.out | apply below_alloc | apply pw_below_drewN | apply below_drew1) | exact HB.out)) hb); clear HO104; clear HO108; clear HO111; clear HO114; clear HO118; clear HB; have HO104 := n0_; have HO108 := n1_; have HO111 := n2_; have HO114 := n3_; have HO118 := n4_; have HO122 := n5_; have HB := n6_; clear n0_ n1_ n2_ n3_ n4_ n5_ n6_; (try clear hb); (try clear hb2); (try clear hk); (try clear hi); (try clear ho0)) | ((fail_if_success (have q_ := ON_A11.out)); have ON_A11 := Aside0.mk True.intro; go_at_call 60; (with_reducible refine (flagstonelaw09_num.calls t106 t123 _ A11.out).mono ?_); rintro e w' ⟨rfl, ⟨nd, rfl⟩⟩; (try first | exact ⟨rfl, _, World.drewN_drewN _ _ _⟩ | exact ⟨rfl, _, Eq.trans (World.drewN_drewN _ _ _) (congrArg (World.drewN _) (Nat.add_assoc _ _ _))⟩)) | ((fail_if_success (have q_ := ON_A47.out)); have ON_A47 := Aside0.mk True.intro; go_at_call 60; (with_reducible refine (flagstonelaw09_num.calls t115 t124 _ A47.out).mono ?_); rintro e w' ⟨rfl, ⟨nd, rfl⟩⟩; (try first | exact ⟨rfl, _, World.drewN_drewN _ _ _⟩ | exact ⟨rfl, _, Eq.trans (World.drewN_drewN _ _ _) (congrArg (World.drewN _) (Nat.add_assoc _ _ _))⟩)) | ((fail_if_success (have q_ := ON_A49.out)); have ON_A49 := Aside0.mk True.intro; go_at_call 60; (with_reducible refine (flagstonelaw09_num.calls t120 t125 _ A49.out).mono ?_); rintro e w' ⟨rfl, ⟨nd, rfl⟩⟩; (try first | exact ⟨rfl, _, World.drewN_drewN _ _ _⟩ | exact ⟨rfl, _, Eq.trans (World.drewN_drewN _ _ _) (congrArg (World.drewN _) (Nat.add_assoc _ _ _))⟩)))
     repeat (go_quiet (first | (go_at_call 57; (with_reducible refine (flagstonelaw09_alive.calls  true _ A3.out).mono ?_); rintro e w62 ⟨rfl, hb⟩; have n0_ := Aside0.mk (below_step (by repeat (first | (with_reducible first | exact HB.out | apply below_alloc | apply pw_below_drewN | apply below_drew1) | exact HB.out)) hb); clear HB; have HB := n0_; clear n0_; (try clear hb); (try clear hb2); (try clear hk); (try clear hi)) | ((fail_if_success (have q_ := ON_A5.out)); have ON_A5 := Aside0.mk True.intro; go_at_call 59; (with_reducible refine (flagstonelaw09_Of.calls k _ _ l0 t102 _ ?side1 ?side2 A5.out).mono ?_); (case side1 => repeat (first | exact (Kd.C_below HR0.out HB.out) | (with_reducible refine Kd.C_alloc ?_ _) | (with_reducible refine Kd.C_drewN ?_ _) | (with_reducible refine Kd.C_drew ?_))); (case side2 => exact HC0.out); rintro e w63 ⟨v103, rfl, ho0, hb⟩; have n0_ := Aside0.mk (Kd.S_lower ho0 (below_size (by repeat (first | (with_reducible first | exact HB.out | apply below_alloc | apply pw_below_drewN | apply below_drew1) | exact HB.out)))); have n1_ := Aside0.mk (below_step (by repeat (first | (with_reducible first | exact HB.out | apply below_alloc | apply pw_below_drewN | apply below_drew1) | exact HB.out)) hb); clear HB; have HO104 := n0_; have HB := n1_; clear n0_ n1_; (try clear hb); (try clear hb2); (try clear hk); (try clear hi); (try clear ho0); obtain ⟨Ao64, co64, eo64⟩ := Kd.S_slice HO104.out; subst eo64) | (go_at_call 62; (with_reducible refine (refs_Counts.calls _ _ t102 t105 t106 _ ?side1 ?side2 A6.out).mono ?_); (case side1 => repeat (first | exact (Kd.S_reads' HO104.out).2.2 | (with_reducible refine Kd.C_alloc ?_ _) | (with_reducible refine Kd.C_drewN ?_ _) | (with_reducible refine Kd.C_drew ?_))); (case side2 => exact (Kd.S_reads' HO104.out).2.1); rintro e w65 ⟨v107, rfl, ho0, hb⟩; have n0_ := Aside0.mk (Kd.S_below (by (with_reducible repeat (first | apply Kd.S_alloc | apply Kd.S_drewN | apply Kd.S_drew)); exact HO104.out) hb); have n1_ := Aside0.mk (Kd.R_lower ho0 (below_size (by repeat (first | (with_reducible first | exact HB.out | apply below_alloc | apply pw_below_drewN | apply below_drew1) | exact HB.out)))); have n2_ := Aside0.mk (below_step (by repeat (first | (with_reducible first | exact HB.out | apply below_alloc | apply pw_below_drewN | apply below_drew1) | exact HB.out)) hb); clear HO104; clear HB; have HO104 := n0_; have HO108 := n1_; have HB := n2_; clear n0_ n1_ n2_; (try clear hb); (try clear hb2); (try clear hk); (try clear hi); (try clear ho0)) | ((fail_if_success (have q_ := ON_A7.out)); have ON_A7 := Aside0.mk True.intro; go_at_call 59; (with_reducible refine (flagstonelaw09_Of.calls k _ _ l0 t109 _ ?side1 ?side2 A7.out).mono ?_); (case side1 => repeat (first | exact (Kd.C_below HR0.out HB.out) | (with_reducible refine Kd.C_alloc ?_ _) | (with_reducible refine Kd.C_drewN ?_ _) | (with_reducible refine Kd.C_drew ?_))); (case side2 => exact HC0.out); rintro e w66 ⟨v110, rfl, ho0, hb⟩; have n0_ := Aside0.mk (Kd.S_elder' (by (with_reducible repeat (first | apply Kd.S_alloc | apply Kd.S_drewN | apply Kd.S_drew)); exact HO104.out) (Kd.S_base ho0) hb); have n1_ := Aside0.mk (Kd.R_below (by (with_reducible repeat (first | apply Kd.R_alloc | apply Kd.R_drewN | apply Kd.R_drew)); exact HO108.out) hb); have n2_ := Aside0.mk (Kd.S_lower (Kd.S_new' ho0 (Kd.S_lt (by (with_reducible repeat (first | apply Kd.S_alloc | apply Kd.S_drewN | apply Kd.S_drew)); exact HO104.out))) (below_size (by repeat (first | (with_reducible first | exact HB.out | apply below_alloc | apply pw_below_drewN | apply below_drew1) | exact HB.out)))); have n3_ := Aside0.mk (below_step (by repeat (first | (with_reducible first | exact HB.out | apply below_alloc | apply pw_below_drewN | apply below_drew1) | exact HB.out)) hb); clear HO104; clear HO108; clear HB; have HO104 := n0_; have HO108 := n1_; have HO111 := n2_; have HB := n3_; clear n0_ n1_ n2_ n3_; (try clear hb); (try clear hb2); (try clear hk); (try clear hi); (try clear ho0); obtain ⟨Ao67, co67, eo67⟩ := Kd.S_slice HO111.out; subst eo67) | (go_at_call 58; (with_reducible refine (refs_Who.calls _ _ t109 (Int.tmod (wrap64 ((Int.tmod a1 65536) + 65536)) 65536) 1 t112 t115 _ ?side1 ?side2 A8.out).mono ?_); (case side1 => repeat (first | exact (Kd.S_reads' HO111.out).2.2 | (with_reducible refine Kd.C_alloc ?_ _) | (with_reducible refine Kd.C_drewN ?_ _) | (with_reducible refine Kd.C_drew ?_))); (case side2 => exact (Kd.S_reads' HO111.out).2.1); rintro e w68 ⟨v113, rfl, ho0, hb⟩; have n0_ := Aside0.mk (Kd.S_below (by (with_reducible repeat (first | apply Kd.S_alloc | apply Kd.S_drewN | apply Kd.S_drew)); exact HO104.out) hb); have n1_ := Aside0.mk (Kd.R_below (by (with_reducible repeat (first | apply Kd.R_alloc | apply Kd.R_drewN | apply Kd.R_drew)); exact HO108.out) hb); have n2_ := Aside0.mk (Kd.S_below (by (with_reducible repeat (first | apply Kd.S_alloc | apply Kd.S_drewN | apply Kd.S_drew)); exact HO111.out) hb); have n3_ := Aside0.mk (Kd.R_lower ho0 (below_size (by repeat (first | (with_reducible first | exact HB.out | apply below_alloc | apply pw_below_drewN | apply below_drew1) | exact HB.out)))); have n4_ := Aside0.mk (below_step (by repeat (first | (with_reducible first | exact HB.out | apply below_alloc | apply pw_below_drewN | apply below_drew1) | exact HB.out)) hb); clear HO104; clear HO108; clear HO111; clear HB; have HO104 := n0_; have HO108 := n1_; have HO111 := n2_; have HO114 := n3_; have HB := n4_; clear n0_ n1_ n2_ n3_ n4_; (try clear hb); (try clear hb2); (try clear hk); (try clear hi); (try clear ho0)) | ((fail_if_success (have q_ := ON_A9.out)); have ON_A9 := Aside0.mk True.intro; go_at_call 59; (with_reducible refine (flagstonelaw09_Of.calls k _ _ l0 t116 _ ?side1 ?side2 A9.out).mono ?_); (case side1 => repeat (first | exact (Kd.C_below HR0.out HB.out) | (with_reducible refine Kd.C_alloc ?_ _) | (with_reducible refine Kd.C_drewN ?_ _) | (with_reducible refine Kd.C_drew ?_))); (case side2 => exact HC0.out); rintro e w69 ⟨v117, rfl, ho0, hb⟩; have n0_ := Aside0.mk (Kd.S_elder' (by (with_reducible repeat (first | apply Kd.S_alloc | apply Kd.S_drewN | apply Kd.S_drew)); exact HO104.out) (Kd.S_base ho0) hb); have n1_ := Aside0.mk (Kd.R_below (by (with_reducible repeat (first | apply Kd.R_alloc | apply Kd.R_drewN | apply Kd.R_drew)); exact HO108.out) hb); have n2_ := Aside0.mk (Kd.S_elder' (by (with_reducible repeat (first | apply Kd.S_alloc | apply Kd.S_drewN | apply Kd.S_drew)); exact HO111.out) (Kd.S_base ho0) hb); have n3_ := Aside0.mk (Kd.R_below (by (with_reducible repeat (first | apply Kd.R_alloc | apply Kd.R_drewN | apply Kd.R_drew)); exact HO114.out) hb); have n4_ := Aside0.mk (Kd.S_lower (Kd.S_new' (Kd.S_new' ho0 (Kd.S_lt (by (with_reducible repeat (first | apply Kd.S_alloc | apply Kd.S_drewN | apply Kd.S_drew)); exact HO104.out))) (Kd.S_lt (by (with_reducible repeat (first | apply Kd.S_alloc | apply Kd.S_drewN | apply Kd.S_drew)); exact HO111.out))) (below_size (by repeat (first | (with_reducible first | exact HB.out | apply below_alloc | apply pw_below_drewN | apply below_drew1) | exact HB.out)))); have n5_ := Aside0.mk (below_step (by repeat (first | (with_reducible first | exact HB.out | apply below_alloc | apply pw_below_drewN | apply below_drew1) | exact HB.out)) hb); clear HO104; clear HO108; clear HO111; clear HO114; clear HB; have HO104 := n0_; have HO108 := n1_; have HO111 := n2_; have HO114 := n3_; have HO118 := n4_; have HB := n5_; clear n0_ n1_ n2_ n3_ n4_ n5_; (try clear hb); (try clear hb2); (try clear hk); (try clear hi); (try clear ho0); obtain ⟨Ao70, co70, eo70⟩ := Kd.S_slice HO118.out; subst eo70) | (go_at_call 64; (with_reducible refine (refs_Used.calls k _ _ t116 t119 t120 _ ?side1 ?side2 A10.out).mono ?_); (case side1 => repeat (first | exact (Kd.S_reads' HO118.out).2.2 | (with_reducible refine Kd.C_alloc ?_ _) | (with_reducible refine Kd.C_drewN ?_ _) | (with_reducible refine Kd.C_drew ?_))); (case side2 => exact (Kd.S_reads' HO118.out).2.1); rintro e w71 ⟨v121, rfl, ho0, hb⟩; have n0_ := Aside0.mk (Kd.S_below (by (with_reducible repeat (first | apply Kd.S_alloc | apply Kd.S_drewN | apply Kd.S_drew)); exact HO104.out) hb); have n1_ := Aside0.mk (Kd.R_below (by (with_reducible repeat (first | apply Kd.R_alloc | apply Kd.R_drewN | apply Kd.R_drew)); exact HO108.out) hb); have n2_ := Aside0.mk (Kd.S_below (by (with_reducible repeat (first | apply Kd.S_alloc | apply Kd.S_drewN | apply Kd.S_drew)); exact HO111.out) hb); have n3_ := Aside0.mk (Kd.R_below (by (with_reducible repeat (first | apply Kd.R_alloc | apply Kd.R_drewN | apply Kd.R_drew)); exact HO114.out) hb); have n4_ := Aside0.mk (Kd.S_below (by (with_reducible repeat (first | apply Kd.S_alloc | apply Kd.S_drewN | apply Kd.S_drew)); exact HO118.out) hb); have n5_ := Aside0.mk (Kd.R_lower ho0 (below_size (by repeat (first | (with_reducible first | exact HB.out | apply below_alloc | apply pw_below_drewN | apply below_drew1) | exact HB.out)))); have n6_ := Aside0.mk (below_step (by repeat (first | (with_reducible first | exact HB.out | apply below_alloc | apply pw_below_drewN | apply below_drew1) | exact HB.out)) hb); clear HO104; clear HO108; clear HO111; clear HO114; clear HO118; clear HB; have HO104 := n0_; have HO108 := n1_; have HO111 := n2_; have HO114 := n3_; have HO118 := n4_; have HO122 := n5_; have HB := n6_; clear n0_ n1_ n2_ n3_ n4_ n5_ n6_; (try clear hb); (try clear hb2); (try clear hk); (try clear hi); (try clear ho0)) | ((fail_if_success (have q_ := ON_A11.out)); have ON_A11 := Aside0.mk True.intro; go_at_call 60; (with_reducible refine (flagstonelaw09_num.calls t106 t123 _ A11.out).mono ?_); rintro e w' ⟨rfl, ⟨nd, rfl⟩⟩; (try first | exact ⟨rfl, _, World.drewN_drewN _ _ _⟩ | exact ⟨rfl, _, Eq.trans (World.drewN_drewN _ _ _) (congrArg (World.drewN _) (Nat.add_assoc _ _ _))⟩)) | ((fail_if_success (have q_ := ON_A47.out)); have ON_A47 := Aside0.mk True.intro; go_at_call 60; (with_reducible refine (flagstonelaw09_num.calls t115 t124 _ A47.out).mono ?_); rintro e w' ⟨rfl, ⟨nd, rfl⟩⟩; (try first | exact ⟨rfl, _, World.drewN_drewN _ _ _⟩ | exact ⟨rfl, _, Eq.trans (World.drewN_drewN _ _ _) (congrArg (World.drewN _) (Nat.add_assoc _ _ _))⟩)) | ((fail_if_success (have q_ := ON_A49.out)); have ON_A49 := Aside0.mk True.intro; go_at_call 60; (with_reducible refine (flagstonelaw09_num.calls t120 t125 _ A49.out).mono ?_); rintro e w' ⟨rfl, ⟨nd, rfl⟩⟩; (try first | exact ⟨rfl, _, World.drewN_drewN _ _ _⟩ | exact ⟨rfl, _, Eq.trans (World.drewN_drewN _ _ _) (congrArg (World.drewN _) (Nat.add_assoc _ _ _))⟩))); try go_wp2_with (first | (go_at_call 57; (with_reducible refine (flagstonelaw09_alive.calls  true _ A3.out).mono ?_); rintro e w62 ⟨rfl, hb⟩; have n0_ := Aside0.mk (below_step (by repeat (first | (with_reducible first | exact HB.out | apply below_alloc | apply pw_below_drewN | apply below_drew1) | exact HB.out)) hb); clear HB; have HB := n0_; clear n0_; (try clear hb); (try clear hb2); (try clear hk); (try clear hi)) | ((fail_if_success (have q_ := ON_A5.out)); have ON_A5 := Aside0.mk True.intro; go_at_call 59; (with_reducible refine (flagstonelaw09_Of.calls k _ _ l0 t102 _ ?side1 ?side2 A5.out).mono ?_); (case side1 => repeat (first | exact (Kd.C_below HR0.out HB.out) | (with_reducible refine Kd.C_alloc ?_ _) | (with_reducible refine Kd.C_drewN ?_ _) | (with_reducible refine Kd.C_drew ?_))); (case side2 => exact HC0.out); rintro e w63 ⟨v103, rfl, ho0, hb⟩; have n0_ := Aside0.mk (Kd.S_lower ho0 (below_size (by repeat (first | (with_reducible first | exact HB.out | apply below_alloc | apply pw_below_drewN | apply below_drew1) | exact HB.out)))); have n1_ := Aside0.mk (below_step (by repeat (first | (with_reducible first | exact HB.out | apply below_alloc | apply pw_below_drewN | apply below_drew1) | exact HB.out)) hb); clear HB; have HO104 := n0_; have HB := n1_; clear n0_ n1_; (try clear hb); (try clear hb2); (try clear hk); (try clear hi); (try clear ho0); obtain ⟨Ao64, co64, eo64⟩ := Kd.S_slice HO104.out; subst eo64) | (go_at_call 62; (with_reducible refine (refs_Counts.calls _ _ t102 t105 t106 _ ?side1 ?side2 A6.out).mono ?_); (case side1 => repeat (first | exact (Kd.S_reads' HO104.out).2.2 | (with_reducible refine Kd.C_alloc ?_ _) | (with_reducible refine Kd.C_drewN ?_ _) | (with_reducible refine Kd.C_drew ?_))); (case side2 => exact (Kd.S_reads' HO104.out).2.1); rintro e w65 ⟨v107, rfl, ho0, hb⟩; have n0_ := Aside0.mk (Kd.S_below (by (with_reducible repeat (first | apply Kd.S_alloc | apply Kd.S_drewN | apply Kd.S_drew)); exact HO104.out) hb); have n1_ := Aside0.mk (Kd.R_lower ho0 (below_size (by repeat (first | (with_reducible first | exact HB.out | apply below_alloc | apply pw_below_drewN | apply below_drew1) | exact HB.out)))); have n2_ := Aside0.mk (below_step (by repeat (first | (with_reducible first | exact HB.out | apply below_alloc | apply pw_below_drewN | apply below_drew1) | exact HB.out)) hb); clear HO104; clear HB; have HO104 := n0_; have HO108 := n1_; have HB := n2_; clear n0_ n1_ n2_; (try clear hb); (try clear hb2); (try clear hk); (try clear hi); (try clear ho0)) | ((fail_if_success (have q_ := ON_A7.out)); have ON_A7 := Aside0.mk True.intro; go_at_call 59; (with_reducible refine (flagstonelaw09_Of.calls k _ _ l0 t109 _ ?side1 ?side2 A7.out).mono ?_); (case side1 => repeat (first | exact (Kd.C_below HR0.out HB.out) | (with_reducible refine Kd.C_alloc ?_ _) | (with_reducible refine Kd.C_drewN ?_ _) | (with_reducible refine Kd.C_drew ?_))); (case side2 => exact HC0.out); rintro e w66 ⟨v110, rfl, ho0, hb⟩; have n0_ := Aside0.mk (Kd.S_elder' (by (with_reducible repeat (first | apply Kd.S_alloc | apply Kd.S_drewN | apply Kd.S_drew)); exact HO104.out) (Kd.S_base ho0) hb); have n1_ := Aside0.mk (Kd.R_below (by (with_reducible repeat (first | apply Kd.R_alloc | apply Kd.R_drewN | apply Kd.R_drew)); exact HO108.out) hb); have n2_ := Aside0.mk (Kd.S_lower (Kd.S_new' ho0 (Kd.S_lt (by (with_reducible repeat (first | apply Kd.S_alloc | apply Kd.S_drewN | apply Kd.S_drew)); exact HO104.out))) (below_size (by repeat (first | (with_reducible first | exact HB.out | apply below_alloc | apply pw_below_drewN | apply below_drew1) | exact HB.out)))); have n3_ := Aside0.mk (below_step (by repeat (first | (with_reducible first | exact HB.out | apply below_alloc | apply pw_below_drewN | apply below_drew1) | exact HB.out)) hb); clear HO104; clear HO108; clear HB; have HO104 := n0_; have HO108 := n1_; have HO111 := n2_; have HB := n3_; clear n0_ n1_ n2_ n3_; (try clear hb); (try clear hb2); (try clear hk); (try clear hi); (try clear ho0); obtain ⟨Ao67, co67, eo67⟩ := Kd.S_slice HO111.out; subst eo67) | (go_at_call 58; (with_reducible refine (refs_Who.calls _ _ t109 (Int.tmod (wrap64 ((Int.tmod a1 65536) + 65536)) 65536) 1 t112 t115 _ ?side1 ?side2 A8.out).mono ?_); (case side1 => repeat (first | exact (Kd.S_reads' HO111.out).2.2 | (with_reducible refine Kd.C_alloc ?_ _) | (with_reducible refine Kd.C_drewN ?_ _) | (with_reducible refine Kd.C_drew ?_))); (case side2 => exact (Kd.S_reads' HO111.out).2.1); rintro e w68 ⟨v113, rfl, ho0, hb⟩; have n0_ := Aside0.mk (Kd.S_below (by (with_reducible repeat (first | apply Kd.S_alloc | apply Kd.S_drewN | apply Kd.S_drew)); exact HO104.out) hb); have n1_ := Aside0.mk (Kd.R_below (by (with_reducible repeat (first | apply Kd.R_alloc | apply Kd.R_drewN | apply Kd.R_drew)); exact HO108.out) hb); have n2_ := Aside0.mk (Kd.S_below (by (with_reducible repeat (first | apply Kd.S_alloc | apply Kd.S_drewN | apply Kd.S_drew)); exact HO111.out) hb); have n3_ := Aside0.mk (Kd.R_lower ho0 (below_size (by repeat (first | (with_reducible first | exact HB.out | apply below_alloc | apply pw_below_drewN | apply below_drew1) | exact HB.out)))); have n4_ := Aside0.mk (below_step (by repeat (first | (with_reducible first | exact HB.out | apply below_alloc | apply pw_below_drewN | apply below_drew1) | exact HB.out)) hb); clear HO104; clear HO108; clear HO111; clear HB; have HO104 := n0_; have HO108 := n1_; have HO111 := n2_; have HO114 := n3_; have HB := n4_; clear n0_ n1_ n2_ n3_ n4_; (try clear hb); (try clear hb2); (try clear hk); (try clear hi); (try clear ho0)) | ((fail_if_success (have q_ := ON_A9.out)); have ON_A9 := Aside0.mk True.intro; go_at_call 59; (with_reducible refine (flagstonelaw09_Of.calls k _ _ l0 t116 _ ?side1 ?side2 A9.out).mono ?_); (case side1 => repeat (first | exact (Kd.C_below HR0.out HB.out) | (with_reducible refine Kd.C_alloc ?_ _) | (with_reducible refine Kd.C_drewN ?_ _) | (with_reducible refine Kd.C_drew ?_))); (case side2 => exact HC0.out); rintro e w69 ⟨v117, rfl, ho0, hb⟩; have n0_ := Aside0.mk (Kd.S_elder' (by (with_reducible repeat (first | apply Kd.S_alloc | apply Kd.S_drewN | apply Kd.S_drew)); exact HO104.out) (Kd.S_base ho0) hb); have n1_ := Aside0.mk (Kd.R_below (by (with_reducible repeat (first | apply Kd.R_alloc | apply Kd.R_drewN | apply Kd.R_drew)); exact HO108.out) hb); have n2_ := Aside0.mk (Kd.S_elder' (by (with_reducible repeat (first | apply Kd.S_alloc | apply Kd.S_drewN | apply Kd.S_drew)); exact HO111.out) (Kd.S_base ho0) hb); have n3_ := Aside0.mk (Kd.R_below (by (with_reducible repeat (first | apply Kd.R_alloc | apply Kd.R_drewN | apply Kd.R_drew)); exact HO114.out) hb); have n4_ := Aside0.mk (Kd.S_lower (Kd.S_new' (Kd.S_new' ho0 (Kd.S_lt (by (with_reducible repeat (first | apply Kd.S_alloc | apply Kd.S_drewN | apply Kd.S_drew)); exact HO104.out))) (Kd.S_lt (by (with_reducible repeat (first | apply Kd.S_alloc | apply Kd.S_drewN | apply Kd.S_drew)); exact HO111.out))) (below_size (by repeat (first | (with_reducible first | exact HB.out | apply below_alloc | apply pw_below_drewN | apply below_drew1) | exact HB.out)))); have n5_ := Aside0.mk (below_step (by repeat (first | (with_reducible first | exact HB.out | apply below_alloc | apply pw_below_drewN | apply below_drew1) | exact HB.out)) hb); clear HO104; clear HO108; clear HO111; clear HO114; clear HB; have HO104 := n0_; have HO108 := n1_; have HO111 := n2_; have HO114 := n3_; have HO118 := n4_; have HB := n5_; clear n0_ n1_ n2_ n3_ n4_ n5_; (try clear hb); (try clear hb2); (try clear hk); (try clear hi); (try clear ho0); obtain ⟨Ao70, co70, eo70⟩ := Kd.S_slice HO118.out; subst eo70) | (go_at_call 64; (with_reducible refine (refs_Used.calls k _ _ t116 t119 t120 _ ?side1 ?side2 A10.out).mono ?_); (case side1 => repeat (first | exact (Kd.S_reads' HO118.out).2.2 | (with_reducible refine Kd.C_alloc ?_ _) | (with_reducible refine Kd.C_drewN ?_ _) | (with_reducible refine Kd.C_drew ?_))); (case side2 => exact (Kd.S_reads' HO118.out).2.1); rintro e w71 ⟨v121, rfl, ho0, hb⟩; have n0_ := Aside0.mk (Kd.S_below (by (with_reducible repeat (first | apply Kd.S_alloc | apply Kd.S_drewN | apply Kd.S_drew)); exact HO104.out) hb); have n1_ := Aside0.mk (Kd.R_below (by (with_reducible repeat (first | apply Kd.R_alloc | apply Kd.R_drewN | apply Kd.R_drew)); exact HO108.out) hb); have n2_ := Aside0.mk (Kd.S_below (by (with_reducible repeat (first | apply Kd.S_alloc | apply Kd.S_drewN | apply Kd.S_drew)); exact HO111.out) hb); have n3_ := Aside0.mk (Kd.R_below (by (with_reducible repeat (first | apply Kd.R_alloc | apply Kd.R_drewN | apply Kd.R_drew)); exact HO114.out) hb); have n4_ := Aside0.mk (Kd.S_below (by (with_reducible repeat (first | apply Kd.S_alloc | apply Kd.S_drewN | apply Kd.S_drew)); exact HO118.out) hb); have n5_ := Aside0.mk (Kd.R_lower ho0 (below_size (by repeat (first | (with_reducible first | exact HB.out | apply below_alloc | apply pw_below_drewN | apply below_drew1) | exact HB.out)))); have n6_ := Aside0.mk (below_step (by repeat (first | (with_reducible first | exact HB.out | apply below_alloc | apply pw_below_drewN | apply below_drew1) | exact HB.out)) hb); clear HO104; clear HO108; clear HO111; clear HO114; clear HO118; clear HB; have HO104 := n0_; have HO108 := n1_; have HO111 := n2_; have HO114 := n3_; have HO118 := n4_; have HO122 := n5_; have HB := n6_; clear n0_ n1_ n2_ n3_ n4_ n5_ n6_; (try clear hb); (try clear hb2); (try clear hk); (try clear hi); (try clear ho0)) | ((fail_if_success (have q_ := ON_A11.out)); have ON_A11 := Aside0.mk True.intro; go_at_call 60; (with_reducible refine (flagstonelaw09_num.calls t106 t123 _ A11.out).mono ?_); rintro e w' ⟨rfl, ⟨nd, rfl⟩⟩; (try first | exact ⟨rfl, _, World.drewN_drewN _ _ _⟩ | exact ⟨rfl, _, Eq.trans (World.drewN_drewN _ _ _) (congrArg (World.drewN _) (Nat.add_assoc _ _ _))⟩)) | ((fail_if_success (have q_ := ON_A47.out)); have ON_A47 := Aside0.mk True.intro; go_at_call 60; (with_reducible refine (flagstonelaw09_num.calls t115 t124 _ A47.out).mono ?_); rintro e w' ⟨rfl, ⟨nd, rfl⟩⟩; (try first | exact ⟨rfl, _, World.drewN_drewN _ _ _⟩ | exact ⟨rfl, _, Eq.trans (World.drewN_drewN _ _ _) (congrArg (World.drewN _) (Nat.add_assoc _ _ _))⟩)) | ((fail_if_success (have q_ := ON_A49.out)); have ON_A49 := Aside0.mk True.intro; go_at_call 60; (with_reducible refine (flagstonelaw09_num.calls t120 t125 _ A49.out).mono ?_); rintro e w' ⟨rfl, ⟨nd, rfl⟩⟩; (try first | exact ⟨rfl, _, World.drewN_drewN _ _ _⟩ | exact ⟨rfl, _, Eq.trans (World.drewN_drewN _ _ _) (congrArg (World.drewN _) (Nat.add_assoc _ _ _))⟩))))
     go_ret
     exact ⟨by first | rfl | (simp [errW_none, errW_some] <;> rfl) | (simp [*, errW_none, errW_some] <;> rfl), by repeat (first | (with_reducible first | exact HB.out | apply below_alloc | apply pw_below_drewN | apply below_drew1) | exact HB.out)⟩
   ·rw [if_neg c48] at H
    have c48b0 : (t124 == 9) = false := beq_eq_false_iff_ne.mpr c48
    have c48b1 : (t124 != 9) = true := bne_iff_ne.mpr c48
    obtain rfl := Option.some.inj H
    go_enter Try.func18, Try.ntmps18
    go_wp2_with (first | (go_at_call 57; (with_reducible refine (flagstonelaw09_alive.calls  true _ A3.out).mono ?_); rintro e w72 ⟨rfl, hb⟩; have n0_ := Aside0.mk (below_step (by repeat (first | (with_reducible first | exact HB.out | apply below_alloc | apply pw_below_drewN | apply below_drew1) | exact HB.out)) hb); clear HB; have HB := n0_; clear n0_; (try clear hb); (try clear hb2); (try clear hk); (try clear hi)) | ((fail_if_success (have q_ := ON_A5.out)); have ON_A5 := Aside0.mk True.intro; go_at_call 59; (with_reducible refine (flagstonelaw09_Of.calls k _ _ l0 t102 _ ?side1 ?side2 A5.out).mono ?_); (case side1 => repeat (first | exact (Kd.C_below HR0.out HB.out) | (with_reducible refine Kd.C_alloc ?_ _) | (with_reducible refine Kd.C_drewN ?_ _) | (with_reducible refine Kd.C_drew ?_))); (case side2 => exact HC0.out); rintro e w73 ⟨v103, rfl, ho0, hb⟩; have n0_ := Aside0.mk (Kd.S_lower ho0 (below_size (by repeat (first | (with_reducible first | exact HB.out | apply below_alloc | apply pw_below_drewN | apply below_drew1) | exact HB.out)))); have n1_ := Aside0.mk (below_step (by repeat (first | (with_reducible first | exact HB.out | apply below_alloc | apply pw_below_drewN | apply below_drew1) | exact HB.out)) hb); clear HB; have HO104 := n0_; have HB := n1_; clear n0_ n1_; (try clear hb); (try clear hb2); (try clear hk); (try clear hi); (try clear ho0); obtain ⟨Ao74, co74, eo74⟩ := Kd.S_slice HO104.out; subst eo74) | (go_at_call 62; (with_reducible refine (refs_Counts.calls _ _ t102 t105 t106 _ ?side1 ?side2 A6.out).mono ?_); (case side1 => repeat (first | exact (Kd.S_reads' HO104.out).2.2 | (with_reducible refine Kd.C_alloc ?_ _) | (with_reducible refine Kd.C_drewN ?_ _) | (with_reducible refine Kd.C_drew ?_))); (case side2 => exact (Kd.S_reads' HO104.out).2.1); rintro e w75 ⟨v107, rfl, ho0, hb⟩; have n0_ := Aside0.mk (Kd.S_below (by (with_reducible repeat (first | apply Kd.S_alloc | apply Kd.S_drewN | apply Kd.S_drew)); exact HO104.out) hb); have n1_ := Aside0.mk (Kd.R_lower ho0 (below_size (by repeat (first | (with_reducible first | exact HB.out | apply below_alloc | apply pw_below_drewN | apply below_drew1) | exact HB.out)))); have n2_ := Aside0.mk (below_step (by repeat (first | (with_reducible first | exact HB.out | apply below_alloc | apply pw_below_drewN | apply below_drew1) | exact HB.out)) hb); clear HO104; clear HB; have HO104 := n0_; have HO108 := n1_; have HB := n2_; clear n0_ n1_ n2_; (try clear hb); (try clear hb2); (try clear hk); (try clear hi); (try clear ho0)) | ((fail_if_success (have q_ := ON_A7.out)); have ON_A7 := Aside0.mk True.intro; go_at_call 59; (with_reducible refine (flagstonelaw09_Of.calls k _ _ l0 t109 _ ?side1 ?side2 A7.out).mono ?_); (case side1 => repeat (first | exact (Kd.C_below HR0.out HB.out) | (with_reducible refine Kd.C_alloc ?_ _) | (with_reducible refine Kd.C_drewN ?_ _) | (with_reducible refine Kd.C_drew ?_))); (case side2 => exact HC0.out); rintro e w76 ⟨v110, rfl, ho0, hb⟩; have n0_ := Aside0.mk (Kd.S_elder' (by (with_reducible repeat (first | apply Kd.S_alloc | apply Kd.S_drewN | apply Kd.S_drew)); exact HO104.out) (Kd.S_base ho0) hb); have n1_ := Aside0.mk (Kd.R_below (by (with_reducible repeat (first | apply Kd.R_alloc | apply Kd.R_drewN | apply Kd.R_drew)); exact HO108.out) hb); have n2_ := Aside0.mk (Kd.S_lower (Kd.S_new' ho0 (Kd.S_lt (by (with_reducible repeat (first | apply Kd.S_alloc | apply Kd.S_drewN | apply Kd.S_drew)); exact HO104.out))) (below_size (by repeat (first | (with_reducible first | exact HB.out | apply below_alloc | apply pw_below_drewN | apply below_drew1) | exact HB.out)))); have n3_ := Aside0.mk (below_step (by repeat (first | (with_reducible first | exact HB.out | apply below_alloc | apply pw_below_drewN | apply below_drew1) | exact HB.out)) hb); clear HO104; clear HO108; clear HB; have HO104 := n0_; have HO108 := n1_; have HO111 := n2_; have HB := n3_; clear n0_ n1_ n2_ n3_; (try clear hb); (try clear hb2); (try clear hk); (try clear hi); (try clear ho0); obtain ⟨Ao77, co77, eo77⟩ := Kd.S_slice HO111.out; subst eo77) | (go_at_call 58; (with_reducible refine (refs_Who.calls _ _ t109 (Int.tmod (wrap64 ((Int.tmod a1 65536) + 65536)) 65536) 1 t112 t115 _ ?side1 ?side2 A8.out).mono ?_); (case side1 => repeat (first | exact (Kd.S_reads' HO111.out).2.2 | (with_reducible refine Kd.C_alloc ?_ _) | (with_reducible refine Kd.C_drewN ?_ _) | (with_reducible refine Kd.C_drew ?_))); (case side2 => exact (Kd.S_reads' HO111.out).2.1); rintro e w78 ⟨v113, rfl, ho0, hb⟩; have n0_ := Aside0.mk (Kd.S_below (by (with_reducible repeat (first | apply Kd.S_alloc | apply Kd.S_drewN | apply Kd.S_drew)); exact HO104.out) hb); have n1_ := Aside0.mk (Kd.R_below (by (with_reducible repeat (first | apply Kd.R_alloc | apply Kd.R_drewN | apply Kd.R_drew)); exact HO108.out) hb); have n2_ := Aside0.mk (Kd.S_below (by (with_reducible repeat (first | apply Kd.S_alloc | apply Kd.S_drewN | apply Kd.S_drew)); exact HO111.out) hb); have n3_ := Aside0.mk (Kd.R_lower ho0 (below_size (by repeat (first | (with_reducible first | exact HB.out | apply below_alloc | apply pw_below_drewN | apply below_drew1) | exact HB.out)))); have n4_ := Aside0.mk (below_step (by repeat (first | (with_reducible first | exact HB.out | apply below_alloc | apply pw_below_drewN | apply below_drew1) | exact HB.out)) hb); clear HO104; clear HO108; clear HO111; clear HB; have HO104 := n0_; have HO108 := n1_; have HO111 := n2_; have HO114 := n3_; have HB := n4_; clear n0_ n1_ n2_ n3_ n4_; (try clear hb); (try clear hb2); (try clear hk); (try clear hi); (try clear ho0)) | ((fail_if_success (have q_ := ON_A9.out)); have ON_A9 := Aside0.mk True.intro; go_at_call 59; (with_reducible refine (flagstonelaw09_Of.calls k _ _ l0 t116 _ ?side1 ?side2 A9.out).mono ?_); (case side1 => repeat (first | exact (Kd.C_below HR0.out HB.out) | (with_reducible refine Kd.C_alloc ?_ _) | (with_reducible refine Kd.C_drewN ?_ _) | (with_reducible refine Kd.C_drew ?_))); (case side2 => exact HC0.out); rintro e w79 ⟨v117, rfl, ho0, hb⟩; have n0_ := Aside0.mk (Kd.S_elder' (by (with_reducible repeat (first | apply Kd.S_alloc | apply Kd.S_drewN | apply Kd.S_drew)); exact HO104.out) (Kd.S_base ho0) hb); have n1_ := Aside0.mk (Kd.R_below (by (with_reducible repeat (first | apply Kd.R_alloc | apply Kd.R_drewN | apply Kd.R_drew)); exact HO108.out) hb); have n2_ := Aside0.mk (Kd.S_elder' (by (with_reducible repeat (first | apply Kd.S_alloc | apply Kd.S_drewN | apply Kd.S_drew)); exact HO111.out) (Kd.S_base ho0) hb); have n3_ := Aside0.mk (Kd.R_below (by (with_reducible repeat (first | apply Kd.R_alloc | apply Kd.R_drewN | apply Kd.R_drew)); exact HO114.out) hb); have n4_ := Aside0.mk (Kd.S_lower (Kd.S_new' (Kd.S_new' ho0 (Kd.S_lt (by (with_reducible repeat (first | apply Kd.S_alloc | apply Kd.S_drewN | apply Kd.S_drew)); exact HO104.out))) (Kd.S_lt (by (with_reducible repeat (first | apply Kd.S_alloc | apply Kd.S_drewN | apply Kd.S_drew)); exact HO111.out))) (below_size (by repeat (first | (with_reducible first | exact HB.out | apply below_alloc | apply pw_below_drewN | apply below_drew1) | exact HB.out)))); have n5_ := Aside0.mk (below_step (by repeat (first | (with_reducible first | exact HB.out | apply below_alloc | apply pw_below_drewN | apply below_drew1) | exact HB.out)) hb); clear HO104; clear HO108; clear HO111; clear HO114; clear HB; have HO104 := n0_; have HO108 := n1_; have HO111 := n2_; have HO114 := n3_; have HO118 := n4_; have HB := n5_; clear n0_ n1_ n2_ n3_ n4_ n5_; (try clear hb); (try clear hb2); (try clear hk); (try clear hi); (try clear ho0); obtain ⟨Ao80, co80, eo80⟩ := Kd.S_slice HO118.out; subst eo80) | (go_at_call 64; (with_reducible refine (refs_Used.calls k _ _ t116 t119 t120 _ ?side1 ?side2 A10.out).mono ?_); (case side1 => repeat (first | exact (Kd.S_reads' HO118.out).2.2 | (with_reducible refine Kd.C_alloc ?_ _) | (with_reducible refine Kd.C_drewN ?_ _) | (with_reducible refine Kd.C_drew ?_))); (case side2 => exact (Kd.S_reads' HO118.out).2.1); rintro e w81 ⟨v121, rfl, ho0, hb⟩; have n0_ := Aside0.mk (Kd.S_below (by (with_reducible repeat (first | apply Kd.S_alloc | apply Kd.S_drewN | apply Kd.S_drew)); exact HO104.out) hb); have n1_ := Aside0.mk (Kd.R_below (by (with_reducible repeat (first | apply Kd.R_alloc | apply Kd.R_drewN | apply Kd.R_drew)); exact HO108.out) hb); have n2_ := Aside0.mk (Kd.S_below (by (with_reducible repeat (first | apply Kd.S_alloc | apply Kd.S_drewN | apply Kd.S_drew)); exact HO111.out) hb); have n3_ := Aside0.mk (Kd.R_below (by (with_reducible repeat (first | apply Kd.R_alloc | apply Kd.R_drewN | apply Kd.R_drew)); exact HO114.out) hb); have n4_ := Aside0.mk (Kd.S_below (by (with_reducible repeat (first | apply Kd.S_alloc | apply Kd.S_drewN | apply Kd.S_drew)); exact HO118.out) hb); have n5_ := Aside0.mk (Kd.R_lower ho0 (below_size (by repeat (first | (with_reducible first | exact HB.out | apply below_alloc | apply pw_below_drewN | apply below_drew1) | exact HB.out)))); have n6_ := Aside0.mk (below_step (by repeat (first | (with_reducible first | exact HB.out | apply below_alloc | apply pw_below_drewN | apply below_drew1) | exact HB.out)) hb); clear HO104; clear HO108; clear HO111; clear HO114; clear HO118; clear HB; have HO104 := n0_; have HO108 := n1_; have HO111 := n2_; have HO114 := n3_; have HO118 := n4_; have HO122 := n5_; have HB := n6_; clear n0_ n1_ n2_ n3_ n4_ n5_ n6_; (try clear hb); (try clear hb2); (try clear hk); (try clear hi); (try clear ho0)) | ((fail_if_success (have q_ := ON_A11.out)); have ON_A11 := Aside0.mk True.intro; go_at_call 60; (with_reducible refine (flagstonelaw09_num.calls t106 t123 _ A11.out).mono ?_); rintro e w' ⟨rfl, ⟨nd, rfl⟩⟩; (try first | exact ⟨rfl, _, World.drewN_drewN _ _ _⟩ | exact ⟨rfl, _, Eq.trans (World.drewN_drewN _ _ _) (congrArg (World.drewN _) (Nat.add_assoc _ _ _))⟩)) | ((fail_if_success (have q_ := ON_A47.out)); have ON_A47 := Aside0.mk True.intro; go_at_call 60; (with_reducible refine (flagstonelaw09_num.calls t115 t124 _ A47.out).mono ?_); rintro e w' ⟨rfl, ⟨nd, rfl⟩⟩; (try first | exact ⟨rfl, _, World.drewN_drewN _ _ _⟩ | exact ⟨rfl, _, Eq.trans (World.drewN_drewN _ _ _) (congrArg (World.drewN _) (Nat.add_assoc _ _ _))⟩)))
    repeat (go_quiet (first | (go_at_call 57; (with_reducible refine (flagstonelaw09_alive.calls  true _ A3.out).mono ?_); rintro e w72 ⟨rfl, hb⟩; have n0_ := Aside0.mk (below_step (by repeat (first | (with_reducible first | exact HB.out | apply below_alloc | apply pw_below_drewN | apply below_drew1) | exact HB.out)) hb); clear HB; have HB := n0_; clear n0_; (try clear hb); (try clear hb2); (try clear hk); (try clear hi)) | ((fail_if_success (have q_ := ON_A5.out)); have ON_A5 := Aside0.mk True.intro; go_at_call 59; (with_reducible refine (flagstonelaw09_Of.calls k _ _ l0 t102 _ ?side1 ?side2 A5.out).mono ?_); (case side1 => repeat (first | exact (Kd.C_below HR0.out HB.out) | (with_reducible refine Kd.C_alloc ?_ _) | (with_reducible refine Kd.C_drewN ?_ _) | (with_reducible refine Kd.C_drew ?_))); (case side2 => exact HC0.out); rintro e w73 ⟨v103, rfl, ho0, hb⟩; have n0_ := Aside0.mk (Kd.S_lower ho0 (below_size (by repeat (first | (with_reducible first | exact HB.out | apply below_alloc | apply pw_below_drewN | apply below_drew1) | exact HB.out)))); have n1_ := Aside0.mk (below_step (by repeat (first | (with_reducible first | exact HB.out | apply below_alloc | apply pw_below_drewN | apply below_drew1) | exact HB.out)) hb); clear HB; have HO104 := n0_; have HB := n1_; clear n0_ n1_; (try clear hb); (try clear hb2); (try clear hk); (try clear hi); (try clear ho0); obtain ⟨Ao74, co74, eo74⟩ := Kd.S_slice HO104.out; subst eo74) | (go_at_call 62; (with_reducible refine (refs_Counts.calls _ _ t102 t105 t106 _ ?side1 ?side2 A6.out).mono ?_); (case side1 => repeat (first | exact (Kd.S_reads' HO104.out).2.2 | (with_reducible refine Kd.C_alloc ?_ _) | (with_reducible refine Kd.C_drewN ?_ _) | (with_reducible refine Kd.C_drew ?_))); (case side2 => exact (Kd.S_reads' HO104.out).2.1); rintro e w75 ⟨v107, rfl, ho0, hb⟩; have n0_ := Aside0.mk (Kd.S_below (by (with_reducible repeat (first | apply Kd.S_alloc | apply Kd.S_drewN | apply Kd.S_drew)); exact HO104.out) hb); have n1_ := Aside0.mk (Kd.R_lower ho0 (below_size (by repeat (first | (with_reducible first | exact HB.out | apply below_alloc | apply pw_below_drewN | apply below_drew1) | exact HB.out)))); have n2_ := Aside0.mk (below_step (by repeat (first | (with_reducible first | exact HB.out | apply below_alloc | apply pw_below_drewN | apply below_drew1) | exact HB.out)) hb); clear HO104; clear HB; have HO104 := n0_; have HO108 := n1_; have HB := n2_; clear n0_ n1_ n2_; (try clear hb); (try clear hb2); (try clear hk); (try clear hi); (try clear ho0)) | ((fail_if_success (have q_ := ON_A7.out)); have ON_A7 := Aside0.mk True.intro; go_at_call 59; (with_reducible refine (flagstonelaw09_Of.calls k _ _ l0 t109 _ ?side1 ?side2 A7.out).mono ?_); (case side1 => repeat (first | exact (Kd.C_below HR0.out HB.out) | (with_reducible refine Kd.C_alloc ?_ _) | (with_reducible refine Kd.C_drewN ?_ _) | (with_reducible refine Kd.C_drew ?_))); (case side2 => exact HC0.out); rintro e w76 ⟨v110, rfl, ho0, hb⟩; have n0_ := Aside0.mk (Kd.S_elder' (by (with_reducible repeat (first | apply Kd.S_alloc | apply Kd.S_drewN | apply Kd.S_drew)); exact HO104.out) (Kd.S_base ho0) hb); have n1_ := Aside0.mk (Kd.R_below (by (with_reducible repeat (first | apply Kd.R_alloc | apply Kd.R_drewN | apply Kd.R_drew)); exact HO108.out) hb); have n2_ := Aside0.mk (Kd.S_lower (Kd.S_new' ho0 (Kd.S_lt (by (with_reducible repeat (first | apply Kd.S_alloc | apply Kd.S_drewN | apply Kd.S_drew)); exact HO104.out))) (below_size (by repeat (first | (with_reducible first | exact HB.out | apply below_alloc | apply pw_below_drewN | apply below_drew1) | exact HB.out)))); have n3_ := Aside0.mk (below_step (by repeat (first | (with_reducible first | exact HB.out | apply below_alloc | apply pw_below_drewN | apply below_drew1) | exact HB.out)) hb); clear HO104; clear HO108; clear HB; have HO104 := n0_; have HO108 := n1_; have HO111 := n2_; have HB := n3_; clear n0_ n1_ n2_ n3_; (try clear hb); (try clear hb2); (try clear hk); (try clear hi); (try clear ho0); obtain ⟨Ao77, co77, eo77⟩ := Kd.S_slice HO111.out; subst eo77) | (go_at_call 58; (with_reducible refine (refs_Who.calls _ _ t109 (Int.tmod (wrap64 ((Int.tmod a1 65536) + 65536)) 65536) 1 t112 t115 _ ?side1 ?side2 A8.out).mono ?_); (case side1 => repeat (first | exact (Kd.S_reads' HO111.out).2.2 | (with_reducible refine Kd.C_alloc ?_ _) | (with_reducible refine Kd.C_drewN ?_ _) | (with_reducible refine Kd.C_drew ?_))); (case side2 => exact (Kd.S_reads' HO111.out).2.1); rintro e w78 ⟨v113, rfl, ho0, hb⟩; have n0_ := Aside0.mk (Kd.S_below (by (with_reducible repeat (first | apply Kd.S_alloc | apply Kd.S_drewN | apply Kd.S_drew)); exact HO104.out) hb); have n1_ := Aside0.mk (Kd.R_below (by (with_reducible repeat (first | apply Kd.R_alloc | apply Kd.R_drewN | apply Kd.R_drew)); exact HO108.out) hb); have n2_ := Aside0.mk (Kd.S_below (by (with_reducible repeat (first | apply Kd.S_alloc | apply Kd.S_drewN | apply Kd.S_drew)); exact HO111.out) hb); have n3_ := Aside0.mk (Kd.R_lower ho0 (below_size (by repeat (first | (with_reducible first | exact HB.out | apply below_alloc | apply pw_below_drewN | apply below_drew1) | exact HB.out)))); have n4_ := Aside0.mk (below_step (by repeat (first | (with_reducible first | exact HB.out | apply below_alloc | apply pw_below_drewN | apply below_drew1) | exact HB.out)) hb); clear HO104; clear HO108; clear HO111; clear HB; have HO104 := n0_; have HO108 := n1_; have HO111 := n2_; have HO114 := n3_; have HB := n4_; clear n0_ n1_ n2_ n3_ n4_; (try clear hb); (try clear hb2); (try clear hk); (try clear hi); (try clear ho0)) | ((fail_if_success (have q_ := ON_A9.out)); have ON_A9 := Aside0.mk True.intro; go_at_call 59; (with_reducible refine (flagstonelaw09_Of.calls k _ _ l0 t116 _ ?side1 ?side2 A9.out).mono ?_); (case side1 => repeat (first | exact (Kd.C_below HR0.out HB.out) | (with_reducible refine Kd.C_alloc ?_ _) | (with_reducible refine Kd.C_drewN ?_ _) | (with_reducible refine Kd.C_drew ?_))); (case side2 => exact HC0.out); rintro e w79 ⟨v117, rfl, ho0, hb⟩; have n0_ := Aside0.mk (Kd.S_elder' (by (with_reducible repeat (first | apply Kd.S_alloc | apply Kd.S_drewN | apply Kd.S_drew)); exact HO104.out) (Kd.S_base ho0) hb); have n1_ := Aside0.mk (Kd.R_below (by (with_reducible repeat (first | apply Kd.R_alloc | apply Kd.R_drewN | apply Kd.R_drew)); exact HO108.out) hb); have n2_ := Aside0.mk (Kd.S_elder' (by (with_reducible repeat (first | apply Kd.S_alloc | apply Kd.S_drewN | apply Kd.S_drew)); exact HO111.out) (Kd.S_base ho0) hb); have n3_ := Aside0.mk (Kd.R_below (by (with_reducible repeat (first | apply Kd.R_alloc | apply Kd.R_drewN | apply Kd.R_drew)); exact HO114.out) hb); have n4_ := Aside0.mk (Kd.S_lower (Kd.S_new' (Kd.S_new' ho0 (Kd.S_lt (by (with_reducible repeat (first | apply Kd.S_alloc | apply Kd.S_drewN | apply Kd.S_drew)); exact HO104.out))) (Kd.S_lt (by (with_reducible repeat (first | apply Kd.S_alloc | apply Kd.S_drewN | apply Kd.S_drew)); exact HO111.out))) (below_size (by repeat (first | (with_reducible first | exact HB.out | apply below_alloc | apply pw_below_drewN | apply below_drew1) | exact HB.out)))); have n5_ := Aside0.mk (below_step (by repeat (first | (with_reducible first | exact HB.out | apply below_alloc | apply pw_below_drewN | apply below_drew1) | exact HB.out)) hb); clear HO104; clear HO108; clear HO111; clear HO114; clear HB; have HO104 := n0_; have HO108 := n1_; have HO111 := n2_; have HO114 := n3_; have HO118 := n4_; have HB := n5_; clear n0_ n1_ n2_ n3_ n4_ n5_; (try clear hb); (try clear hb2); (try clear hk); (try clear hi); (try clear ho0); obtain ⟨Ao80, co80, eo80⟩ := Kd.S_slice HO118.out; subst eo80) | (go_at_call 64; (with_reducible refine (refs_Used.calls k _ _ t116 t119 t120 _ ?side1 ?side2 A10.out).mono ?_); (case side1 => repeat (first | exact (Kd.S_reads' HO118.out).2.2 | (with_reducible refine Kd.C_alloc ?_ _) | (with_reducible refine Kd.C_drewN ?_ _) | (with_reducible refine Kd.C_drew ?_))); (case side2 => exact (Kd.S_reads' HO118.out).2.1); rintro e w81 ⟨v121, rfl, ho0, hb⟩; have n0_ := Aside0.mk (Kd.S_below (by (with_reducible repeat (first | apply Kd.S_alloc | apply Kd.S_drewN | apply Kd.S_drew)); exact HO104.out) hb); have n1_ := Aside0.mk (Kd.R_below (by (with_reducible repeat (first | apply Kd.R_alloc | apply Kd.R_drewN | apply Kd.R_drew)); exact HO108.out) hb); have n2_ := Aside0.mk (Kd.S_below (by (with_reducible repeat (first | apply Kd.S_alloc | apply Kd.S_drewN | apply Kd.S_drew)); exact HO111.out) hb); have n3_ := Aside0.mk (Kd.R_below (by (with_reducible repeat (first | apply Kd.R_alloc | apply Kd.R_drewN | apply Kd.R_drew)); exact HO114.out) hb); have n4_ := Aside0.mk (Kd.S_below (by (with_reducible repeat (first | apply Kd.S_alloc | apply Kd.S_drewN | apply Kd.S_drew)); exact HO118.out) hb); have n5_ := Aside0.mk (Kd.R_lower ho0 (below_size (by repeat (first | (with_reducible first | exact HB.out | apply below_alloc | apply pw_below_drewN | apply below_drew1) | exact HB.out)))); have n6_ := Aside0.mk (below_step (by repeat (first | (with_reducible first | exact HB.out | apply below_alloc | apply pw_below_drewN | apply below_drew1) | exact HB.out)) hb); clear HO104; clear HO108; clear HO111; clear HO114; clear HO118; clear HB; have HO104 := n0_; have HO108 := n1_; have HO111 := n2_; have HO114 := n3_; have HO118 := n4_; have HO122 := n5_; have HB := n6_; clear n0_ n1_ n2_ n3_ n4_ n5_ n6_; (try clear hb); (try clear hb2); (try clear hk); (try clear hi); (try clear ho0)) | ((fail_if_success (have q_ := ON_A11.out)); have ON_A11 := Aside0.mk True.intro; go_at_call 60; (with_reducible refine (flagstonelaw09_num.calls t106 t123 _ A11.out).mono ?_); rintro e w' ⟨rfl, ⟨nd, rfl⟩⟩; (try first | exact ⟨rfl, _, World.drewN_drewN _ _ _⟩ | exact ⟨rfl, _, Eq.trans (World.drewN_drewN _ _ _) (congrArg (World.drewN _) (Nat.add_assoc _ _ _))⟩)) | ((fail_if_success (have q_ := ON_A47.out)); have ON_A47 := Aside0.mk True.intro; go_at_call 60; (with_reducible refine (flagstonelaw09_num.calls t115 t124 _ A47.out).mono ?_); rintro e w' ⟨rfl, ⟨nd, rfl⟩⟩; (try first | exact ⟨rfl, _, World.drewN_drewN _ _ _⟩ | exact ⟨rfl, _, Eq.trans (World.drewN_drewN _ _ _) (congrArg (World.drewN _) (Nat.add_assoc _ _ _))⟩))); try go_wp2_with (first | (go_at_call 57; (with_reducible refine (flagstonelaw09_alive.calls  true _ A3.out).mono ?_); rintro e w72 ⟨rfl, hb⟩; have n0_ := Aside0.mk (below_step (by repeat (first | (with_reducible first | exact HB.out | apply below_alloc | apply pw_below_drewN | apply below_drew1) | exact HB.out)) hb); clear HB; have HB := n0_; clear n0_; (try clear hb); (try clear hb2); (try clear hk); (try clear hi)) | ((fail_if_success (have q_ := ON_A5.out)); have ON_A5 := Aside0.mk True.intro; go_at_call 59; (with_reducible refine (flagstonelaw09_Of.calls k _ _ l0 t102 _ ?side1 ?side2 A5.out).mono ?_); (case side1 => repeat (first | exact (Kd.C_below HR0.out HB.out) | (with_reducible refine Kd.C_alloc ?_ _) | (with_reducible refine Kd.C_drewN ?_ _) | (with_reducible refine Kd.C_drew ?_))); (case side2 => exact HC0.out); rintro e w73 ⟨v103, rfl, ho0, hb⟩; have n0_ := Aside0.mk (Kd.S_lower ho0 (below_size (by repeat (first | (with_reducible first | exact HB.out | apply below_alloc | apply pw_below_drewN | apply below_drew1) | exact HB.out)))); have n1_ := Aside0.mk (below_step (by repeat (first | (with_reducible first | exact HB.out | apply below_alloc | apply pw_below_drewN | apply below_drew1) | exact HB.out)) hb); clear HB; have HO104 := n0_; have HB := n1_; clear n0_ n1_; (try clear hb); (try clear hb2); (try clear hk); (try clear hi); (try clear ho0); obtain ⟨Ao74, co74, eo74⟩ := Kd.S_slice HO104.out; subst eo74) | (go_at_call 62; (with_reducible refine (refs_Counts.calls _ _ t102 t105 t106 _ ?side1 ?side2 A6.out).mono ?_); (case side1 => repeat (first | exact (Kd.S_reads' HO104.out).2.2 | (with_reducible refine Kd.C_alloc ?_ _) | (with_reducible refine Kd.C_drewN ?_ _) | (with_reducible refine Kd.C_drew ?_))); (case side2 => exact (Kd.S_reads' HO104.out).2.1); rintro e w75 ⟨v107, rfl, ho0, hb⟩; have n0_ := Aside0.mk (Kd.S_below (by (with_reducible repeat (first | apply Kd.S_alloc | apply Kd.S_drewN | apply Kd.S_drew)); exact HO104.out) hb); have n1_ := Aside0.mk (Kd.R_lower ho0 (below_size (by repeat (first | (with_reducible first | exact HB.out | apply below_alloc | apply pw_below_drewN | apply below_drew1) | exact HB.out)))); have n2_ := Aside0.mk (below_step (by repeat (first | (with_reducible first | exact HB.out | apply below_alloc | apply pw_below_drewN | apply below_drew1) | exact HB.out)) hb); clear HO104; clear HB; have HO104 := n0_; have HO108 := n1_; have HB := n2_; clear n0_ n1_ n2_; (try clear hb); (try clear hb2); (try clear hk); (try clear hi); (try clear ho0)) | ((fail_if_success (have q_ := ON_A7.out)); have ON_A7 := Aside0.mk True.intro; go_at_call 59; (with_reducible refine (flagstonelaw09_Of.calls k _ _ l0 t109 _ ?side1 ?side2 A7.out).mono ?_); (case side1 => repeat (first | exact (Kd.C_below HR0.out HB.out) | (with_reducible refine Kd.C_alloc ?_ _) | (with_reducible refine Kd.C_drewN ?_ _) | (with_reducible refine Kd.C_drew ?_))); (case side2 => exact HC0.out); rintro e w76 ⟨v110, rfl, ho0, hb⟩; have n0_ := Aside0.mk (Kd.S_elder' (by (with_reducible repeat (first | apply Kd.S_alloc | apply Kd.S_drewN | apply Kd.S_drew)); exact HO104.out) (Kd.S_base ho0) hb); have n1_ := Aside0.mk (Kd.R_below (by (with_reducible repeat (first | apply Kd.R_alloc | apply Kd.R_drewN | apply Kd.R_drew)); exact HO108.out) hb); have n2_ := Aside0.mk (Kd.S_lower (Kd.S_new' ho0 (Kd.S_lt (by (with_reducible repeat (first | apply Kd.S_alloc | apply Kd.S_drewN | apply Kd.S_drew)); exact HO104.out))) (below_size (by repeat (first | (with_reducible first | exact HB.out | apply below_alloc | apply pw_below_drewN | apply below_drew1) | exact HB.out)))); have n3_ := Aside0.mk (below_step (by repeat (first | (with_reducible first | exact HB.out | apply below_alloc | apply pw_below_drewN | apply below_drew1) | exact HB.out)) hb); clear HO104; clear HO108; clear HB; have HO104 := n0_; have HO108 := n1_; have HO111 := n2_; have HB := n3_; clear n0_ n1_ n2_ n3_; (try clear hb); (try clear hb2); (try clear hk); (try clear hi); (try clear ho0); obtain ⟨Ao77, co77, eo77⟩ := Kd.S_slice HO111.out; subst eo77) | (go_at_call 58; (with_reducible refine (refs_Who.calls _ _ t109 (Int.tmod (wrap64 ((Int.tmod a1 65536) + 65536)) 65536) 1 t112 t115 _ ?side1 ?side2 A8.out).mono ?_); (case side1 => repeat (first | exact (Kd.S_reads' HO111.out).2.2 | (with_reducible refine Kd.C_alloc ?_ _) | (with_reducible refine Kd.C_drewN ?_ _) | (with_reducible refine Kd.C_drew ?_))); (case side2 => exact (Kd.S_reads' HO111.out).2.1); rintro e w78 ⟨v113, rfl, ho0, hb⟩; have n0_ := Aside0.mk (Kd.S_below (by (with_reducible repeat (first | apply Kd.S_alloc | apply Kd.S_drewN | apply Kd.S_drew)); exact HO104.out) hb); have n1_ := Aside0.mk (Kd.R_below (by (with_reducible repeat (first | apply Kd.R_alloc | apply Kd.R_drewN | apply Kd.R_drew)); exact HO108.out) hb); have n2_ := Aside0.mk (Kd.S_below (by (with_reducible repeat (first | apply Kd.S_alloc | apply Kd.S_drewN | apply Kd.S_drew)); exact HO111.out) hb); have n3_ := Aside0.mk (Kd.R_lower ho0 (below_size (by repeat (first | (with_reducible first | exact HB.out | apply below_alloc | apply pw_below_drewN | apply below_drew1) | exact HB.out)))); have n4_ := Aside0.mk (below_step (by repeat (first | (with_reducible first | exact HB.out | apply below_alloc | apply pw_below_drewN | apply below_drew1) | exact HB.out)) hb); clear HO104; clear HO108; clear HO111; clear HB; have HO104 := n0_; have HO108 := n1_; have HO111 := n2_; have HO114 := n3_; have HB := n4_; clear n0_ n1_ n2_ n3_ n4_; (try clear hb); (try clear hb2); (try clear hk); (try clear hi); (try clear ho0)) | ((fail_if_success (have q_ := ON_A9.out)); have ON_A9 := Aside0.mk True.intro; go_at_call 59; (with_reducible refine (flagstonelaw09_Of.calls k _ _ l0 t116 _ ?side1 ?side2 A9.out).mono ?_); (case side1 => repeat (first | exact (Kd.C_below HR0.out HB.out) | (with_reducible refine Kd.C_alloc ?_ _) | (with_reducible refine Kd.C_drewN ?_ _) | (with_reducible refine Kd.C_drew ?_))); (case side2 => exact HC0.out); rintro e w79 ⟨v117, rfl, ho0, hb⟩; have n0_ := Aside0.mk (Kd.S_elder' (by (with_reducible repeat (first | apply Kd.S_alloc | apply Kd.S_drewN | apply Kd.S_drew)); exact HO104.out) (Kd.S_base ho0) hb); have n1_ := Aside0.mk (Kd.R_below (by (with_reducible repeat (first | apply Kd.R_alloc | apply Kd.R_drewN | apply Kd.R_drew)); exact HO108.out) hb); have n2_ := Aside0.mk (Kd.S_elder' (by (with_reducible repeat (first | apply Kd.S_alloc | apply Kd.S_drewN | apply Kd.S_drew)); exact HO111.out) (Kd.S_base ho0) hb); have n3_ := Aside0.mk (Kd.R_below (by (with_reducible repeat (first | apply Kd.R_alloc | apply Kd.R_drewN | apply Kd.R_drew)); exact HO114.out) hb); have n4_ := Aside0.mk (Kd.S_lower (Kd.S_new' (Kd.S_new' ho0 (Kd.S_lt (by (with_reducible repeat (first | apply Kd.S_alloc | apply Kd.S_drewN | apply Kd.S_drew)); exact HO104.out))) (Kd.S_lt (by (with_reducible repeat (first | apply Kd.S_alloc | apply Kd.S_drewN | apply Kd.S_drew)); exact HO111.out))) (below_size (by repeat (first | (with_reducible first | exact HB.out | apply below_alloc | apply pw_below_drewN | apply below_drew1) | exact HB.out)))); have n5_ := Aside0.mk (below_step (by repeat (first | (with_reducible first | exact HB.out | apply below_alloc | apply pw_below_drewN | apply below_drew1) | exact HB.out)) hb); clear HO104; clear HO108; clear HO111; clear HO114; clear HB; have HO104 := n0_; have HO108 := n1_; have HO111 := n2_; have HO114 := n3_; have HO118 := n4_; have HB := n5_; clear n0_ n1_ n2_ n3_ n4_ n5_; (try clear hb); (try clear hb2); (try clear hk); (try clear hi); (try clear ho0); obtain ⟨Ao80, co80, eo80⟩ := Kd.S_slice HO118.out; subst eo80) | (go_at_call 64; (with_reducible refine (refs_Used.calls k _ _ t116 t119 t120 _ ?side1 ?side2 A10.out).mono ?_); (case side1 => repeat (first | exact (Kd.S_reads' HO118.out).2.2 | (with_reducible refine Kd.C_alloc ?_ _) | (with_reducible refine Kd.C_drewN ?_ _) | (with_reducible refine Kd.C_drew ?_))); (case side2 => exact (Kd.S_reads' HO118.out).2.1); rintro e w81 ⟨v121, rfl, ho0, hb⟩; have n0_ := Aside0.mk (Kd.S_below (by (with_reducible repeat (first | apply Kd.S_alloc | apply Kd.S_drewN | apply Kd.S_drew)); exact HO104.out) hb); have n1_ := Aside0.mk (Kd.R_below (by (with_reducible repeat (first | apply Kd.R_alloc | apply Kd.R_drewN | apply Kd.R_drew)); exact HO108.out) hb); have n2_ := Aside0.mk (Kd.S_below (by (with_reducible repeat (first | apply Kd.S_alloc | apply Kd.S_drewN | apply Kd.S_drew)); exact HO111.out) hb); have n3_ := Aside0.mk (Kd.R_below (by (with_reducible repeat (first | apply Kd.R_alloc | apply Kd.R_drewN | apply Kd.R_drew)); exact HO114.out) hb); have n4_ := Aside0.mk (Kd.S_below (by (with_reducible repeat (first | apply Kd.S_alloc | apply Kd.S_drewN | apply Kd.S_drew)); exact HO118.out) hb); have n5_ := Aside0.mk (Kd.R_lower ho0 (below_size (by repeat (first | (with_reducible first | exact HB.out | apply below_alloc | apply pw_below_drewN | apply below_drew1) | exact HB.out)))); have n6_ := Aside0.mk (below_step (by repeat (first | (with_reducible first | exact HB.out | apply below_alloc | apply pw_below_drewN | apply below_drew1) | exact HB.out)) hb); clear HO104; clear HO108; clear HO111; clear HO114; clear HO118; clear HB; have HO104 := n0_; have HO108 := n1_; have HO111 := n2_; have HO114 := n3_; have HO118 := n4_; have HO122 := n5_; have HB := n6_; clear n0_ n1_ n2_ n3_ n4_ n5_ n6_; (try clear hb); (try clear hb2); (try clear hk); (try clear hi); (try clear ho0)) | ((fail_if_success (have q_ := ON_A11.out)); have ON_A11 := Aside0.mk True.intro; go_at_call 60; (with_reducible refine (flagstonelaw09_num.calls t106 t123 _ A11.out).mono ?_); rintro e w' ⟨rfl, ⟨nd, rfl⟩⟩; (try first | exact ⟨rfl, _, World.drewN_drewN _ _ _⟩ | exact ⟨rfl, _, Eq.trans (World.drewN_drewN _ _ _) (congrArg (World.drewN _) (Nat.add_assoc _ _ _))⟩)) | ((fail_if_success (have q_ := ON_A47.out)); have ON_A47 := Aside0.mk True.intro; go_at_call 60; (with_reducible refine (flagstonelaw09_num.calls t115 t124 _ A47.out).mono ?_); rintro e w' ⟨rfl, ⟨nd, rfl⟩⟩; (try first | exact ⟨rfl, _, World.drewN_drewN _ _ _⟩ | exact ⟨rfl, _, Eq.trans (World.drewN_drewN _ _ _) (congrArg (World.drewN _) (Nat.add_assoc _ _ _))⟩))))
    go_ret
    exact ⟨by first | rfl | (simp [errW_none, errW_some] <;> rfl) | (simp [*, errW_none, errW_some] <;> rfl), by repeat (first | (with_reducible first | exact HB.out | apply below_alloc | apply pw_below_drewN | apply below_drew1) | exact HB.out)⟩
 ·replace c4 := Bool.eq_false_iff.mpr c4
  subst c4
  have H1 : (some false) = some r := by rw [if_neg (show ¬ (false = true) by decide)] at H; exact H
  clear H
  have H := H1
  clear H1
  obtain rfl := Option.some.inj H
  go_enter Try.func18, Try.ntmps18
  go_wp2_with (first | (go_at_call 57; (with_reducible refine (flagstonelaw09_alive.calls  false _ A3.out).mono ?_); rintro e w82 ⟨rfl, hb⟩; have n0_ := Aside0.mk (below_step (by repeat (first | (with_reducible first | exact HB.out | apply below_alloc | apply pw_below_drewN | apply below_drew1) | exact HB.out)) hb); clear HB; have HB := n0_; clear n0_; (try clear hb); (try clear hb2); (try clear hk); (try clear hi)))
  repeat (go_quiet (first | (go_at_call 57; (with_reducible refine (flagstonelaw09_alive.calls  false _ A3.out).mono ?_); rintro e w82 ⟨rfl, hb⟩; have n0_ := Aside0.mk (below_step (by repeat (first | (with_reducible first | exact HB.out | apply below_alloc | apply pw_below_drewN | apply below_drew1) | exact HB.out)) hb); clear HB; have HB := n0_; clear n0_; (try clear hb); (try clear hb2); (try clear hk); (try clear hi))); try go_wp2_with (first | (go_at_call 57; (with_reducible refine (flagstonelaw09_alive.calls  false _ A3.out).mono ?_); rintro e w82 ⟨rfl, hb⟩; have n0_ := Aside0.mk (below_step (by repeat (first | (with_reducible first | exact HB.out | apply below_alloc | apply pw_below_drewN | apply below_drew1) | exact HB.out)) hb); clear HB; have HB := n0_; clear n0_; (try clear hb); (try clear hb2); (try clear hk); (try clear hi))))
  go_ret
  exact ⟨by first | rfl | (simp [errW_none, errW_some] <;> rfl) | (simp [*, errW_none, errW_some] <;> rfl), by repeat (first | (with_reducible first | exact HB.out | apply below_alloc | apply pw_below_drewN | apply below_drew1) | exact HB.out)⟩
end Go.Proofs.Ytkkfkdncddbaeaa.Fn
namespace Go.Proofs.Ytkkfkdncddbaeaa.Fn
open Go.RowKit Go.Proofs.YtkkfkdncddbaeaaW.PrintWords Go.Proofs.YtkkfkdncddbaeaaW.PrintLast Go.Proofs.YtkkfkdncddbaeaaW.PrintMore
attribute [local go_sem] max2_int min2_int max_two min_two max_three min_three max_four min_four
set_option linter.unusedVariables false
set_option linter.unusedSimpArgs false
theorem refs9 {l : List S94} (h : Flag.checkM (l.map toM) = 0) : Flag.Ok9 ((sortRefL (refsG l)).map toR) ∧ (sortRefL (refsG l)).length ≤ 9216 := by
  have h9 := Flag.checkM_ok.1 h
  have e1 : ((sortRefL (refsG l)).map toR).length = (refsG l).length := by rw [sortRefL_toR, (Flag.sortR_perm _).length_eq, List.length_map]
  rw [List.length_map] at e1
  refine ⟨?_, by rw [e1]; exact refsG_len h9⟩
  rw [sortRefL_toR, refsG_toR]
  exact (Flag.refsM_ok h9).perm (Flag.sortR_perm _)
theorem example9 : refs_Counts.f [(⟨0, [⟨0, 3, 4⟩]⟩ : S94), ⟨1, [⟨9, 3, 4⟩]⟩] = some ([⟨3, 4, 2⟩], 0) := by
  have h1 : Flag.checkM (List.map toM [(⟨0, [⟨0, 3, 4⟩]⟩ : S94), ⟨1, [⟨9, 3, 4⟩]⟩]) = 0 := by kernel_rfl
  have h2 : sortRefL (refsG [(⟨0, [⟨0, 3, 4⟩]⟩ : S94), ⟨1, [⟨9, 3, 4⟩]⟩]) = [⟨3, 4, 0, 0⟩, ⟨3, 4, 1, 9⟩] := by kernel_rfl
  have h3 : countsL [(⟨3, 4, 0, 0⟩ : S88), ⟨3, 4, 1, 9⟩] = [⟨3, 4, 2⟩] := by
    have h4 := (refs9 h1)
    rw [h2] at h4
    have e : edgesS [(⟨3, 4, 0, 0⟩ : S88), ⟨3, 4, 1, 9⟩] = [⟨3, 1⟩, ⟨7, -1⟩, ⟨3, 1⟩, ⟨7, -1⟩] := by kernel_rfl
    have hp : List.Perm [(⟨3, 1⟩ : S40), ⟨3, 1⟩, ⟨7, -1⟩, ⟨7, -1⟩] (edgesS [(⟨3, 4, 0, 0⟩ : S88), ⟨3, 4, 1, 9⟩]) := by
      rw [e]
      exact List.Perm.cons _ (List.Perm.swap _ _ _)
    have hs : List.Pairwise (fun a b : S40 => a.f0 ≤ b.f0) [⟨3, 1⟩, ⟨3, 1⟩, ⟨7, -1⟩, ⟨7, -1⟩] := by simp
    have h5 : (List.foldl stepS (([], 0, 0) : List S96 × Int × Int) [(⟨3, 1⟩ : S40), ⟨3, 1⟩, ⟨7, -1⟩, ⟨7, -1⟩]).1 = [⟨3, 4, 2⟩] := by kernel_rfl
    exact (counts_one h4.1 h4.2 hp hs).symm.trans h5
  unfold refs_Counts.f
  rw [if_pos h1, h2, h3]
theorem alive9 : flagstonelaw09_alive.f = some true := by
  unfold flagstonelaw09_alive.f flagstonelaw09_num.f
  rw [example9]
  kernel_rfl
def toS (x : S86) : S94 := ⟨x.f0, x.f1⟩
theorem rd_m9 (pre : List S86) (x : S86) (t : List S86) {i : Int} (h : i = pre.length) : rd_T86 (pre ++ x :: t) i = x := by
  unfold rd_T86
  rw [h, Int.toNat_natCast, List.getD_eq_getElem?_getD, List.getElem?_append_right (Nat.le_refl _), Nat.sub_self]; rfl
theorem rd_r9 (pre : List S88) (x : S88) (t : List S88) {i : Int} (h : i = pre.length) : rd_T88 (pre ++ x :: t) i = x := by
  unfold rd_T88
  rw [h, Int.toNat_natCast, List.getD_eq_getElem?_getD, List.getElem?_append_right (Nat.le_refl _), Nat.sub_self]; rfl
theorem copy9 {l : List S24} (hl : l.length < 5864062014805) : flagstoneplain_CopyExtents.f l = some l := by
  unfold flagstoneplain_CopyExtents.f
  rw [if_pos (by simp; omega), List.nil_append]
theorem of_loop (l : List S86) (hl : l.length < 4398046511104) (hx : ∀ x ∈ l, x.f1.length < 5864062014805) (t : List S86) : ∀ (pre : List S86) (k : Nat), l = pre ++ t → t.length < k → flagstonelaw09_Of.l0 k l (pre.map toS) (pre.length : Int) = some (l.map toS) := by
  induction t with
  | nil =>
    intro pre k h hk
    obtain ⟨k, rfl⟩ : ∃ k', k = k' + 1 := ⟨k - 1, by simp at hk; omega⟩
    rw [flagstonelaw09_Of.l0, if_neg (by rw [h]; simp), h, List.append_nil]
  | cons x t ih =>
    intro pre k h hk
    obtain ⟨k, rfl⟩ : ∃ k', k = k' + 1 := ⟨k - 1, by simp at hk; omega⟩
    have hlen : l.length = pre.length + t.length + 1 := by rw [h]; simp; omega
    have hr : rd_T86 l (pre.length : Int) = x := by rw [h]; exact rd_m9 pre x t rfl
    have e1 : wrap64 ((pre.length : Int) + 1) = ((pre ++ [x]).length : Int) := by rw [w64 (by omega)]; simp
    have hnext := ih (pre ++ [x]) k (by rw [h]; simp) (by simp at hk; omega)
    rw [flagstonelaw09_Of.l0, if_pos (by omega), if_pos (by omega), hr, copy9 (hx x (by rw [h]; simp)), Option.bind_some, if_pos (by rw [List.length_map]; omega), e1]
    rw [List.map_append] at hnext
    exact hnext
theorem of9 {l : List S86} (hl : l.length < 4398046511104) (hx : ∀ x ∈ l, x.f1.length < 5864062014805) {k : Nat} (hk : l.length < k) : flagstonelaw09_Of.f k l = some (l.map toS) := by
  unfold flagstonelaw09_Of.f
  have := of_loop l hl hx l [] k rfl hk
  exact this
end Go.Proofs.Ytkkfkdncddbaeaa.Fn
namespace Go.Proofs.Ytkkfkdncddbaeaa.Fn
open Go.RowKit Go.Proofs.YtkkfkdncddbaeaaW.PrintWords Go.Proofs.YtkkfkdncddbaeaaW.PrintLast Go.Proofs.YtkkfkdncddbaeaaW.PrintMore
attribute [local go_sem] max2_int min2_int max_two min_two max_three min_three max_four min_four
set_option linter.unusedVariables false
set_option linter.unusedSimpArgs false
def spR (r : S88) : S40 := ⟨r.f0, r.f1⟩
theorem ok_spR {l : List S88} (h : Flag.Ok9 (l.map toR)) : ∀ x ∈ l.map spR, OkSp x := by
  intro x hx
  obtain ⟨r, hr, rfl⟩ := List.mem_map.1 hx
  have h := h.each (toR r) (List.mem_map_of_mem hr)
  unfold toR at h
  dsimp only at h
  exact ⟨by show 0 ≤ r.f0; omega, by show 0 < r.f1; omega, by show r.f0 + r.f1 ≤ _; omega⟩
theorem used_loop (q : List S88) (hq : q.length ≤ 9216) (hok : Flag.Ok9 (q.map toR)) (t : List S88) : ∀ (pre : List S88) (k : Nat), q = pre ++ t → t.length < k →
    refs_Used.l0 k (pre.map spR) q (q.length : Int) (pre.length : Int) = some (joinL (q.map spR), 0) := by
  induction t with
  | nil =>
    intro pre k h hk
    obtain ⟨k, rfl⟩ : ∃ k', k = k' + 1 := ⟨k - 1, by simp at hk; omega⟩
    rw [List.append_nil] at h
    subst h
    rw [refs_Used.l0, if_neg (by omega)]
    unfold extent_Join.f
    rw [if_pos ⟨by rw [List.length_map]; omega, ok_spR hok⟩]
    rfl
  | cons s t ih =>
    intro pre k h hk
    obtain ⟨k, rfl⟩ : ∃ k', k = k' + 1 := ⟨k - 1, by simp at hk; omega⟩
    have hlen : q.length = pre.length + t.length + 1 := by rw [h]; simp; omega
    have hr : rd_T88 q (pre.length : Int) = s := by rw [h]; exact rd_r9 pre s t rfl
    have e1 : wrap64 ((pre.length : Int) + 1) = ((pre ++ [s]).length : Int) := by rw [w64 (by omega)]; simp
    have hnext := ih (pre ++ [s]) k (by rw [h]; simp) (by simp at hk; omega)
    rw [refs_Used.l0, if_pos (by omega), if_pos (by omega), if_pos (by omega), if_pos (by rw [List.length_map]; omega), hr, e1]
    rw [List.map_append] at hnext
    exact hnext
theorem used9 {l : List S94} {k : Nat} (hk : 9217 < k) : refs_Used.f k l = some (if Flag.checkM (l.map toM) = 0 then (joinL ((sortRefL (refsG l)).map spR), 0) else ([], 9)) := by
  unfold refs_Used.f refs_Refs.f
  rw [Option.bind_some]
  by_cases hc : Flag.checkM (l.map toM) = 0
  · obtain ⟨r1, r2⟩ := refs9 hc
    rw [if_pos hc, if_pos hc]
    dsimp only
    rw [if_pos rfl]
    have := used_loop _ r2 r1 (sortRefL (refsG l)) [] k rfl (by omega)
    exact this
  · rw [if_neg hc, if_neg hc]
    rfl
theorem join_len (l : List S40) : (joinL l).length ≤ l.length := by
  have h := joinFold_length (sortL l) []
  rw [(sortL_perm l).length_eq] at h
  simpa [joinL] using h
theorem join_mem {q : List S88} (hok : Flag.Ok9 (q.map toR)) (i : Int) : (∃ u ∈ joinL (q.map spR), u.f0 ≤ i ∧ i < u.f0 + u.f1) ↔ 0 < Flag.cnt (q.map toR) i := by
  have h1 := joinL_toP (ok_spR hok)
  have e : (q.map spR).map toP = Flag.spansR (q.map toR) := by
    unfold Flag.spansR
    rw [List.map_map, List.map_map]; rfl
  have hpos : ∀ x ∈ (sortL (q.map spR)).map toP, 0 < x.n := by
    intro x hx
    obtain ⟨y, hy, rfl⟩ := List.mem_map.1 hx
    exact (ok_spR hok y ((sortL_perm _).mem_iff.1 hy)).n
  have h2 := (Flag.joinS_spec (rising_toP (sortL_sorted (q.map spR))) hpos).2 i
  rw [← h1, Flag.memS_perm ((sortL_perm (q.map spR)).map toP), e, Flag.memS_spans] at h2
  rw [← h2, Flag.memS_iff]
  constructor
  · rintro ⟨u, hu, h3⟩
    exact ⟨toP u, List.mem_map_of_mem hu, h3⟩
  · rintro ⟨u, hu, h3⟩
    obtain ⟨v, hv, rfl⟩ := List.mem_map.1 hu
    exact ⟨v, hv, h3⟩
theorem join_ok {q : List S88} (hok : Flag.Ok9 (q.map toR)) : ∀ u ∈ joinL (q.map spR), OkSp u :=
  (joinFold_toP (sortL (q.map spR)) [] (fun y hy => by cases hy) (fun x hx => ok_spR hok x ((sortL_perm _).mem_iff.1 hx))).2
def sumC (i : Int) : List S96 → Int
  | [] => 0
  | c :: t => (if c.f0 ≤ i ∧ i < c.f0 + c.f1 then c.f2 else 0) + sumC i t
theorem sumC_nonneg {i : Int} {c : List S96} (h : ∀ x ∈ c, OkC x) : 0 ≤ sumC i c := by
  induction c with
  | nil => exact Int.le_refl _
  | cons x t ih =>
    have h1 := ih fun y hy => h y (List.mem_cons_of_mem _ hy)
    have h2 := (h x List.mem_cons_self).p
    rw [sumC]
    split <;> omega
theorem sumC_none {i : Int} {c : List S96} (h : ∀ x ∈ c, i < x.f0) : sumC i c = 0 := by
  induction c with
  | nil => rfl
  | cons x t ih =>
    have h1 := h x List.mem_cons_self
    rw [sumC, if_neg (by omega), ih fun y hy => h y (List.mem_cons_of_mem _ hy)]; rfl
theorem sumC_look {i : Int} {c : List S96} (hn : Flag.NF (c.map toC)) (h : ∀ x ∈ c, OkC x) : sumC i c = match Flag.lookE (c.map toC) i with | some v => v - i | none => 0 := by
  induction c with
  | nil => rfl
  | cons x t ih =>
    rw [List.map_cons] at hn ⊢
    rw [sumC, Flag.lookE]
    have hx := h x List.mem_cons_self
    show (if x.f0 ≤ i ∧ i < x.f0 + x.f1 then x.f2 else 0) + sumC i t = match (if x.f0 ≤ i ∧ i < x.f0 + x.f1 then some (Flag.valAt (toC x) i) else Flag.lookE (t.map toC) i) with | some v => v - i | none => 0
    by_cases hc : x.f0 ≤ i ∧ i < x.f0 + x.f1
    · rw [if_pos hc, if_pos hc, sumC_none fun y hy => by
        have := hn.after (toC y) (List.mem_map_of_mem hy)
        have : x.f0 + x.f1 ≤ y.f0 := this
        omega]
      have e : Flag.valAt (toC x) i = x.f2 + i := by
        have := hx.p; have := hx.a
        unfold Flag.valAt toC
        dsimp only
        rw [if_neg (by omega)]; omega
      rw [e]
      show x.f2 + 0 = x.f2 + i - i
      omega
    · rw [if_neg hc, if_neg hc, ih hn.tail fun y hy => h y (List.mem_cons_of_mem _ hy)]
      omega
theorem sum_counts {q : List S88} (hok : Flag.Ok9 (q.map toR)) (hq : q.length ≤ 9216) (i : Int) : sumC i (countsL q) = Flag.cnt (q.map toR) i := by
  obtain ⟨⟨h1, h2⟩, h3⟩ := countsL_spec hok hq
  rw [sumC_look h1 h3, h2]
  have h4 := Flag.cnt_nonneg (q.map toR) i
  unfold Flag.lookC
  by_cases hc : 0 < Flag.cnt (q.map toR) i
  · rw [if_pos hc]; show Flag.cnt (q.map toR) i + i - i = _; omega
  · rw [if_neg hc]; show (0 : Int) = _; omega
theorem cnt_le (l : List Flag.Rf) (i : Int) : Flag.cnt l i ≤ l.length := by
  induction l with
  | nil => exact Int.le_refl _
  | cons r t ih => rw [Flag.cnt, List.length_cons]; split <;> omega
theorem who_cnt {l : List Flag.Rf} (h : ∀ r ∈ l, 0 < r.n) (i : Int) : ((Flag.whoL l ⟨i, 1⟩).length : Int) = Flag.cnt l i := by
  induction l with
  | nil => rfl
  | cons r t ih =>
    have h1 := ih fun y hy => h y (List.mem_cons_of_mem _ hy)
    have h2 := Flag.lenC_pos (p := r.p) (n := r.n) (x := ⟨i, 1⟩) (by show (0 : Int) < 1; omega) (h r List.mem_cons_self)
    dsimp only at h2
    rw [Flag.cnt, ← h1]
    unfold Flag.whoL
    rw [List.flatMap_cons, List.length_append]
    have hcv : Flag.cover r i ↔ r.p ≤ i ∧ i < r.p + r.n := Iff.rfl
    by_cases hc : Flag.cover r i
    · have hc2 := hcv.1 hc
      rw [if_pos hc]
      unfold Flag.whoR
      rw [if_pos (h2.2 ⟨i, hc2, by omega, by omega⟩)]
      simp
    · rw [if_neg hc]
      unfold Flag.whoR
      rw [if_neg (fun h3 => hc (by obtain ⟨j, j1, j2, j3⟩ := h2.1 h3; rw [hcv]; omega))]
      simp
theorem whoS_cnt {q : List S88} (hok : Flag.Ok9 (q.map toR)) (i : Int) : ((whoS q i 1).length : Int) = Flag.cnt (q.map toR) i := by
  have e : (whoS q i 1).length = (Flag.whoL (q.map toR) ⟨i, 1⟩).length := by
    have h : ((whoS q i 1).map toR).length = (Flag.whoL (q.map toR) ⟨i, 1⟩).length := by rw [whoS_toR, (Flag.sortR_perm _).length_eq]
    rwa [List.length_map] at h
  rw [e]
  exact who_cnt (fun r hr => (hok.each r hr).1) i
theorem countsL_len (q : List S88) : (countsL q).length ≤ 2 * q.length := by
  have h := foldS_length (sortL (edgesS q)) ([], 0, 0)
  rw [(sortL_perm _).length_eq, edgesS_len] at h
  simpa [countsL] using h
theorem rd_c9 (pre : List S96) (x : S96) (t : List S96) {i : Int} (h : i = pre.length) : rd_T96 (pre ++ x :: t) i = x := by
  unfold rd_T96
  rw [h, Int.toNat_natCast, List.getD_eq_getElem?_getD, List.getElem?_append_right (Nat.le_refl _), Nat.sub_self]; rfl
theorem rd_s9 (pre : List S40) (x : S40) (t : List S40) {i : Int} (h : i = pre.length) : rd_T40 (pre ++ x :: t) i = x := by
  unfold rd_T40
  rw [h, Int.toNat_natCast, List.getD_eq_getElem?_getD, List.getElem?_append_right (Nat.le_refl _), Nat.sub_self]; rfl
end Go.Proofs.Ytkkfkdncddbaeaa.Fn
namespace Go.Proofs.Ytkkfkdncddbaeaa.Fn
open Go.RowKit Go.Proofs.YtkkfkdncddbaeaaW.PrintWords Go.Proofs.YtkkfkdncddbaeaaW.PrintLast Go.Proofs.YtkkfkdncddbaeaaW.PrintMore
attribute [local go_sem] max2_int min2_int max_two min_two max_three min_three max_four min_four
set_option linter.unusedVariables false
set_option linter.unusedSimpArgs false
theorem at_range (a : Int) : 0 ≤ Int.tmod (wrap64 (Int.tmod a 65536 + 65536)) 65536 ∧ Int.tmod (wrap64 (Int.tmod a 65536 + 65536)) 65536 < 65536 := by
  have h1 : -65536 < Int.tmod a 65536 ∧ Int.tmod a 65536 < 65536 := ⟨Int.lt_tmod_of_pos a (by omega), Int.tmod_lt_of_pos a (by omega)⟩
  rw [w64 (n := Int.tmod a 65536 + 65536) (by omega)]
  exact ⟨Int.tmod_nonneg _ (by omega), Int.tmod_lt_of_pos _ (by omega)⟩
theorem counts_l1 {i : Int} (hi : 0 ≤ i ∧ i < 65536) {w : List S88} {u : List S40} (hu : u.length ≤ 9216) (hok : ∀ x ∈ u, OkSp x) (n : Int) (hn : n = w.length) (hp : 0 < n ↔ ∃ x ∈ u, x.f0 ≤ i ∧ i < x.f0 + x.f1) (t : List S40) : ∀ (pre : List S40) (b : Bool) (k : Nat), u = pre ++ t → t.length < k →
    (b = true ↔ ∃ x ∈ pre, x.f0 ≤ i ∧ i < x.f0 + x.f1) → flagstonelaw09_RefsCounts.l1 k i w 0 u 0 n b (pre.length : Int) = some true := by
  induction t with
  | nil =>
    intro pre b k h hk hb
    obtain ⟨k, rfl⟩ : ∃ k', k = k' + 1 := ⟨k - 1, by simp at hk; omega⟩
    rw [List.append_nil] at h
    subst h
    rw [flagstonelaw09_RefsCounts.l1, if_neg (by omega)]
    unfold flagstonelaw09_num.f
    rw [Option.bind_some, Option.bind_some, if_pos (by kernel_rfl), if_pos hn]
    have e : b = decide (n > 0) := by
      rw [← hp] at hb
      cases b with
      | true => exact (decide_eq_true (hb.1 rfl)).symm
      | false => exact (decide_eq_false (fun h => by have := hb.2 h; cases this)).symm
    rw [e]
    simp
  | cons x t ih =>
    intro pre b k h hk hb
    obtain ⟨k, rfl⟩ : ∃ k', k = k' + 1 := ⟨k - 1, by simp at hk; omega⟩
    have hlen : u.length = pre.length + t.length + 1 := by rw [h]; simp; omega
    have hr : rd_T40 u (pre.length : Int) = x := by rw [h]; exact rd_s9 pre x t rfl
    have e1 : wrap64 ((pre.length : Int) + 1) = ((pre ++ [x]).length : Int) := by rw [w64 (by omega)]; simp
    have hx := hok x (by rw [h]; simp)
    obtain ⟨g1, g2, g3⟩ := hx
    have hnext := fun b hb => ih (pre ++ [x]) b k (by rw [h]; simp) (by simp at hk; omega) hb
    have hmore : (∃ y ∈ pre ++ [x], y.f0 ≤ i ∧ i < y.f0 + y.f1) ↔ (∃ y ∈ pre, y.f0 ≤ i ∧ i < y.f0 + y.f1) ∨ (x.f0 ≤ i ∧ i < x.f0 + x.f1) := by
      constructor
      · rintro ⟨y, hy, h1⟩
        rcases List.mem_append.1 hy with hy | hy
        · exact .inl ⟨y, hy, h1⟩
        · have : y = x := by simpa using hy
          rw [this] at h1
          exact .inr h1
      · rintro (⟨y, hy, h1⟩ | h1)
        · exact ⟨y, List.mem_append_left _ hy, h1⟩
        · exact ⟨x, by simp, h1⟩
    rw [flagstonelaw09_RefsCounts.l1, if_pos (by omega), hr, e1, w64 (n := i - x.f0) (by omega)]
    by_cases cb : b = true
    · rw [if_pos cb]
      exact hnext true (by rw [hmore]; simp [hb.1 cb])
    · rw [if_neg cb, if_pos (by omega)]
      have hno : ¬ ∃ y ∈ pre, y.f0 ≤ i ∧ i < y.f0 + y.f1 := fun h => cb (hb.2 h)
      by_cases c1 : i ≥ x.f0
      · rw [if_pos c1]
        refine hnext _ ?_
        rw [hmore, decide_eq_true_eq]
        constructor
        · intro h; exact .inr (by omega)
        · rintro (h | h)
          · exact absurd h hno
          · omega
      · rw [if_neg c1]
        refine hnext false ?_
        rw [hmore]
        constructor
        · intro h; cases h
        · rintro (h | h)
          · exact absurd h hno
          · omega
theorem counts_l0 {i : Int} (hi : 0 ≤ i ∧ i < 65536) {w : List S88} {u : List S40} {c : List S96} (hcl : c.length ≤ 18432) (hokc : ∀ x ∈ c, OkC x) (hu : u.length ≤ 9216) (hok : ∀ x ∈ u, OkSp x) (hn : sumC i c = w.length) (hw : w.length ≤ 9216) (hp : 0 < sumC i c ↔ ∃ x ∈ u, x.f0 ≤ i ∧ i < x.f0 + x.f1) (t : List S96) : ∀ (pre : List S96) (s : Int) (k : Nat), c = pre ++ t → t.length + 9300 < k →
    s + sumC i t = sumC i c → 0 ≤ s → flagstonelaw09_RefsCounts.l0 k i c w 0 u 0 s (pre.length : Int) = some true := by
  induction t with
  | nil =>
    intro pre s k h hk hs h0
    obtain ⟨k, rfl⟩ : ∃ k', k = k' + 1 := ⟨k - 1, by simp at hk; omega⟩
    rw [List.append_nil] at h
    subst h
    rw [flagstonelaw09_RefsCounts.l0, if_neg (by omega)]
    have hs : s = sumC i c := by rw [← hs]; simp [sumC]
    rw [hs]
    exact counts_l1 hi hu hok _ hn hp u [] false k rfl (by simp at hk; omega) (by simp)
  | cons x t ih =>
    intro pre s k h hk hs h0
    obtain ⟨k, rfl⟩ : ∃ k', k = k' + 1 := ⟨k - 1, by simp at hk; omega⟩
    have hlen : c.length = pre.length + t.length + 1 := by rw [h]; simp; omega
    have hr : rd_T96 c (pre.length : Int) = x := by rw [h]; exact rd_c9 pre x t rfl
    have e1 : wrap64 ((pre.length : Int) + 1) = ((pre ++ [x]).length : Int) := by rw [w64 (by omega)]; simp
    obtain ⟨g1, g2, g3, g4⟩ := hokc x (by rw [h]; simp)
    have ht0 : 0 ≤ sumC i t := sumC_nonneg fun y hy => hokc y (by rw [h]; simp [hy])
    have hnext := fun s hs h0 => ih (pre ++ [x]) s k (by rw [h]; simp) (by simp at hk; omega) hs h0
    rw [sumC] at hs
    rw [flagstonelaw09_RefsCounts.l0, if_pos (by omega), if_pos (by omega), hr, e1, w64 (n := i - x.f0) (by omega)]
    by_cases c1 : i ≥ x.f0
    · rw [if_pos c1]
      by_cases c2 : i - x.f0 < x.f1
      · rw [if_pos (by omega)] at hs
        rw [if_pos c2, w64 (n := s + x.f2) (by omega)]
        exact hnext _ (by omega) (by omega)
      · rw [if_neg (by omega)] at hs
        rw [if_neg c2]
        exact hnext _ (by omega) h0
    · rw [if_neg (by omega)] at hs
      rw [if_neg c1]
      exact hnext _ (by omega) h0
theorem counts_pure (m : List S86) (a : Int) (hl : m.length < 4398046511104) (hx : ∀ x ∈ m, x.f1.length < 5864062014805) : ∃ k, flagstonelaw09_RefsCounts.f k m a = some true := by
  refine ⟨40000 + m.length, ?_⟩
  obtain ⟨i, hi⟩ : ∃ i, i = Int.tmod (wrap64 (Int.tmod a 65536 + 65536)) 65536 := ⟨_, rfl⟩
  have hr := at_range a
  rw [← hi] at hr
  unfold flagstonelaw09_RefsCounts.f
  rw [← hi, alive9, Option.bind_some, if_pos rfl, of9 hl hx (by omega), Option.bind_some]
  unfold refs_Counts.f refs_Who.f
  rw [Option.bind_some, Option.bind_some, if_pos ⟨by omega, by omega⟩, Option.bind_some, Option.bind_some, used9 (by omega), Option.bind_some]
  by_cases hc : Flag.checkM ((m.map toS).map toM) = 0
  · obtain ⟨r1, r2⟩ := refs9 hc
    rw [if_pos hc, if_pos hc, if_pos hc, if_neg (by omega)]
    obtain ⟨q, hq⟩ : ∃ q, q = sortRefL (refsG (m.map toS)) := ⟨_, rfl⟩
    rw [← hq] at r1 r2 ⊢
    have h1 := sum_counts r1 r2 i
    have h2 := whoS_cnt r1 i
    have h3 := cnt_le (q.map toR) i
    rw [List.length_map] at h3
    have h4 := countsL_len q
    have h5 := join_len (q.map spR)
    rw [List.length_map] at h5
    unfold flagstonelaw09_num.f
    rw [Option.bind_some, if_pos rfl]
    exact counts_l0 hr (by omega) (countsL_spec r1 r2).2 (by omega) (join_ok r1) (by show sumC i (countsL q) = ((whoS q i 1).length : Int); omega) (by show (whoS q i 1).length ≤ 9216; omega) (by rw [h1]; exact (join_mem r1 i).symm) (countsL q) [] 0 _ rfl (by omega) (by omega) (by omega)
  · rw [if_neg hc, if_neg hc, if_neg hc]
    rfl
theorem counts_row (l : List S86) (a : Int) (y : l.length * 32 ≤ 140737488351232) (z : ∀ x ∈ l, x.f1.length * 24 ≤ 140737488351232) : ∃ k, flagstonelaw09_RefsCounts.f k l a = some true :=
  counts_pure l a (by omega) (fun u hu => by have := z u hu; omega)
end Go.Proofs.Ytkkfkdncddbaeaa.Fn
namespace Go.Proofs.Ytkkfkdncddbaeaa.Fn
open Go.RowKit Go.Proofs.YtkkfkdncddbaeaaW.PrintWords Go.Proofs.YtkkfkdncddbaeaaW.PrintLast Go.Proofs.YtkkfkdncddbaeaaW.PrintMore
attribute [local go_sem] max2_int min2_int max_two min_two max_three min_three max_four min_four
set_option linter.unusedVariables false
set_option linter.unusedSimpArgs false
def idxF {α : Type} (p : α → Bool) (l : List α) : Int := match l.findIdx? p with
  | some i => (i : Int)
  | none => -1
theorem idxF_hit {α : Type} {p : α → Bool} {l : List α} {k : Nat} (hk : k < l.length) (h : p l[k] = true) (ha : ∀ j (hj : j < k), p (l[j]'(by omega)) = false) : idxF p l = (k : Int) := by
  have : l.findIdx? p = some k := List.findIdx?_eq_some_iff_getElem.2 ⟨hk, h, fun j hj => by simpa using ha j hj⟩
  unfold idxF; rw [this]
theorem idxF_miss {α : Type} {p : α → Bool} {l : List α} (ha : ∀ x ∈ l, p x = false) : idxF p l = -1 := by
  have : l.findIdx? p = none := List.findIdx?_eq_none_iff.2 ha
  unfold idxF; rw [this]
end Go.Proofs.Ytkkfkdncddbaeaa.Fn
namespace Go.Proofs.Ytkkfkdncddbaeaa.Fn
open Go.RowKit Go.Proofs.YtkkfkdncddbaeaaW.PrintWords Go.Proofs.YtkkfkdncddbaeaaW.PrintLast Go.Proofs.YtkkfkdncddbaeaaW.PrintMore
attribute [local go_sem] max2_int min2_int max_two min_two max_three min_three max_four min_four
set_option linter.unusedVariables false
set_option linter.unusedSimpArgs false
set_option maxHeartbeats 2000000 in
set_option maxRecDepth 100000 in
theorem idx_cnt (cl : Nat) (lb : Array Value) (p : S96 → Bool) (eg : ∀ args w, (callFunc cl args).run Try.prog w = .ok (.enter cl args) w)
    (A0 : Option Addr) (c0 : Nat) (l0 : List S96) (w : World) (hr0 : Kd.C k96 w A0 l0.length l0)
    (hp : ∀ (W : World) (x : S96), Below w.heap.size w W → Calls Try.prog cl (#[.agg #[.int .i64 x.f0, .int .i64 x.f1, .int .i64 x.f2]] ++ lb) W fun e w' => e = .returned (.bool (p x)) ∧ Below w.heap.size w w') :
    Calls Try.prog 148 #[.slice A0 l0.length c0, .func (.func cl) #[] lb] w fun e w' => e = .returned (.int .i64 (idxF p l0)) ∧ Below w.heap.size w w' := by
  have hu96 := Try.underlying96
  have HR0 := Aside0.mk hr0
  have HP := Aside0.mk hp
  clear hr0 hp
  go_enter Try.func148, Try.ntmps148
  go_wp2
  go_loopg [5, 8] l0.length (fun gk _ v8 W => ∃ i : Int, v8 = .int .i64 i ∧ Aside0 (0 ≤ i ∧ i + gk = l0.length) ∧ Aside0 (Below w.heap.size w W) ∧ Aside0 (∀ j (hj : j < l0.length), (j : Int) < i → p l0[j] = false))
  case atStart => exact ⟨0, rfl, ⟨Int.le_refl _, by simp⟩, ⟨Below.refl _ w⟩, ⟨fun j hj h => by omega⟩⟩
  case round =>
    obtain ⟨i, rfl, HI, HB, HA⟩ := hrel
    cases gk with
    | zero =>
      have hi : i = l0.length := by have := HI.out.2; omega
      have hd : decide (i < (l0.length : Int)) = false := decide_eq_false (by omega)
      have hr : idxF p l0 = -1 := idxF_miss (fun x hx => by
        obtain ⟨j, hj, rfl⟩ := List.mem_iff_getElem.1 hx
        exact HA.out j hj (by omega))
      have HRES := Aside0.mk hr
      clear hi hr
      go_wp2
      go_ret
      exact ⟨by rw [HRES.out]; rfl, HB.out⟩
    | succ k1 =>
      have hp0 : 0 ≤ i := HI.out.1
      have hp1 : i < (l0.length : Int) := by have := HI.out.2; omega
      have hd : decide (i < (l0.length : Int)) = true := decide_eq_true hp1
      have hC : Kd.C k96 wr A0 l0.length l0 := Kd.C_below HR0.out HB.out
      have hlen64 : (l0.length : Int) ≤ 9223372036854775807 := by have := HR0.out.2.1; omega
      obtain ⟨ad, e3, g0, g1, g2⟩ := at_T96 hC i hp0 hp1
      cases e3
      obtain ⟨x, hx⟩ : ∃ x, x = rd_T96 l0 i := ⟨_, rfl⟩
      rw [← hx] at g0 g1 g2
      have hxi : x = l0[i.toNat]'(by omega) := by rw [hx]; unfold rd_T96; rw [List.getD_eq_getElem?_getD, List.getElem?_eq_getElem (by omega)]; rfl
      have hcall := HP.out wr x HB.out
      have HX := Aside0.mk hxi
      have HPI := Aside0.mk (And.intro hp0 hp1)
      clear hx hC hxi
      cases hq : p x with
      | true =>
        rw [hq] at hcall
        have hres : idxF p l0 = i := by
          have h1 := idxF_hit (p := p) (l := l0) (k := i.toNat) (by omega) (by rw [← HX.out]; exact hq) (fun j hj => HA.out j (by omega) (by omega))
          rw [h1]; omega
        have HRES := Aside0.mk hres
        clear hres
        go_wp2_with (go_at_fn cl; refine hcall.mono ?_; rintro e w' ⟨rfl, hb'⟩)
        go_ret
        exact ⟨by rw [HRES.out]; rfl, hb'⟩
      | false =>
        rw [hq] at hcall
        have HQ := Aside0.mk hq
        go_wp2_with (go_at_fn cl; refine hcall.mono ?_; rintro e w' ⟨rfl, hb'⟩)
        go_roundg k1
        case measure => omega
        case rel =>
          refine ⟨i + 1, by first | rfl | (simp; done) | go_num, ⟨by have := HPI.out.1; omega, by have := HI.out.2; omega⟩, ⟨hb'⟩, ⟨fun j hj h => ?_⟩⟩
          by_cases e : (j : Int) = i
          · have e2 : j = i.toNat := by omega
            subst e2
            rw [← HX.out]; exact HQ.out
          · exact HA.out j hj (by omega)
set_option maxHeartbeats 1000000 in
set_option maxRecDepth 100000 in
theorem has_cnt (cl : Nat) (lb : Array Value) (p : S96 → Bool) (eg : ∀ args w, (callFunc cl args).run Try.prog w = .ok (.enter cl args) w)
    (A0 : Option Addr) (c0 : Nat) (l0 : List S96) (w : World) (hr0 : Kd.C k96 w A0 l0.length l0)
    (hp : ∀ (W : World) (x : S96), Below w.heap.size w W → Calls Try.prog cl (#[.agg #[.int .i64 x.f0, .int .i64 x.f1, .int .i64 x.f2]] ++ lb) W fun e w' => e = .returned (.bool (p x)) ∧ Below w.heap.size w w') :
    Calls Try.prog 120 #[.slice A0 l0.length c0, .func (.func cl) #[] lb] w fun e w' => e = .returned (.bool (l0.any p)) ∧ Below w.heap.size w w' := by
  have hidx := idx_cnt cl lb p eg A0 c0 l0 w hr0 hp
  have hres : decide (0 ≤ idxF p l0) = l0.any p := by
    unfold idxF
    cases h : l0.findIdx? p with
    | some i =>
      have := List.findIdx?_eq_some_iff_getElem.1 h
      obtain ⟨h1, h2, _⟩ := this
      rw [List.any_eq_true.2 ⟨_, List.getElem_mem h1, h2⟩]
      exact decide_eq_true (by show (0 : Int) ≤ (i : Int); omega)
    | none =>
      have := List.findIdx?_eq_none_iff.1 h
      rw [List.any_eq_false.2 (fun x hx => by rw [this x hx]; decide)]
      rfl
  have HI := Aside0.mk hidx
  have HRES := Aside0.mk hres
  clear hidx hres hp hr0
  go_enter Try.func120, Try.ntmps120
  go_wp2_with fail
  refine HI.out.mono ?_
  rintro e w1 ⟨rfl, hb⟩
  have HB := Aside0.mk hb
  clear hb
  go_wp2
  go_ret
  exact ⟨by rw [← HRES.out]; rfl, HB.out⟩
end Go.Proofs.Ytkkfkdncddbaeaa.Fn
namespace Go.Proofs.Ytkkfkdncddbaeaa.Fn
open Go.RowKit Go.Proofs.YtkkfkdncddbaeaaW.PrintWords Go.Proofs.YtkkfkdncddbaeaaW.PrintLast Go.Proofs.YtkkfkdncddbaeaaW.PrintMore
attribute [local go_sem] max2_int min2_int max_two min_two max_three min_three max_four min_four
set_option linter.unusedVariables false
set_option linter.unusedSimpArgs false
def askCnt.f (l0 : List S94) (x0 x1 : Int) : Option (List S96 × Int) := some (if Flag.checkM (l0.map toM) = 0 then (if x0 < 0 ∨ x1 < 1 then ([], 4) else (countsL (sortRefL (refsG l0)), 0)) else ([], 9))
set_option maxHeartbeats 8000000 in
set_option maxRecDepth 100000 in
theorem askCnt.calls (A0 : Option Addr) (c0 : Nat) (l0 : List (S94)) (x0 x1 : Int) (r1 : List (S96)) (r2 : Int) (w : World) (hr0 : Kd.C k94 w A0 l0.length l0) (hc0 : l0.length ≤ c0) (h : askCnt.f l0 x0 x1 = some (r1, r2)) :
    Calls Try.prog 119 #[.slice A0 l0.length c0, .agg #[.int .i64 x0, .int .i64 x1], .func (.func 62) #[] #[]] w fun e w' => ∃ v0_ : Value, e = .returned (.tuple #[v0_, .int .i64 r2]) ∧ Kd.R k96 96 w' w.heap.size (fun _ => True) v0_ r1 ∧ Below w.heap.size w w' := by
  have hu40 := Try.underlying40
  unfold askCnt.f at h
  have h := Option.some.inj h
  obtain ⟨W1, hW1⟩ : ∃ W, W = w.alloc (.cells #[.int .i64 x0, .int .i64 x1] 40) := ⟨_, rfl⟩
  have hwz : w.heap.size ≤ W1.heap.size := by rw [hW1]; simp
  have hb1 : Below w.heap.size w W1 := by rw [hW1]; exact (Below.refl _ _).alloc (Nat.le_refl _) _
  have hx1 : W1.heap[w.heap.size]? = some (.cells #[.int .i64 x0, .int .i64 x1] 40 (0, 0)) := by rw [hW1]; exact blk_new w _
  have hlt := blk_lt hx1
  have hr1 : Kd.C k94 W1 A0 l0.length l0 := by rw [hW1]; exact Kd.C_alloc hr0 _
  have HX1 := Aside0.mk hx1
  have HB1 := Aside0.mk hb1
  have HLT := Aside0.mk hlt
  have HWZ := Aside0.mk hwz
  clear hx1 hb1 hr0 hlt hwz
  by_cases hc : Flag.checkM (l0.map toM) = 0
  · rw [if_pos hc] at h
    have hcall := refs_Counts.calls A0 c0 l0 (countsL (sortRefL (refsG l0))) 0 W1 hr1 hc0 (by unfold refs_Counts.f; rw [if_pos hc])
    have HCALL := Aside0.mk hcall
    obtain ⟨ls, hls⟩ : ∃ ls, ls = countsL (sortRefL (refsG l0)) := ⟨_, rfl⟩
    rw [← hls] at h HCALL
    clear hcall hr1 hc hls
    go_enter Try.func119, Try.ntmps119
    go_wp2_with fail
    rw [← hW1]
    clear hW1
    refine HCALL.out.mono ?_
    rintro e w1 ⟨v1, rfl, hR1, hb2⟩
    have hb3 : Below w.heap.size w w1 := HB1.out.trans (hb2.mono HWZ.out)
    have hx2 : w1.heap[w.heap.size]? = some (.cells #[.int .i64 x0, .int .i64 x1] 40 (0, 0)) := by rw [hb2.block _ HLT.out]; exact HX1.out
    have HR1 := Aside0.mk (Kd.R_lower hR1 HWZ.out)
    have HB3 := Aside0.mk hb3
    have p0 : w1.cell? ⟨w.heap.size, 0, none⟩ = some (.int .i64 x0) := (blk_cell hx2 0).trans rfl
    have p1 : w1.cell? ⟨w.heap.size, 1, none⟩ = some (.int .i64 x1) := (blk_cell hx2 1).trans rfl
    clear hR1 hb2 hb3 hx2
    by_cases hx0 : x0 < 0
    · have hd0 : decide (x0 < 0) = true := decide_eq_true hx0
      rw [if_pos (Or.inl hx0)] at h
      obtain ⟨rfl, rfl⟩ := Prod.mk.inj h
      clear h
      go_wp2
      go_ret2
      exact ⟨_, rfl, Kd.R_nil _ _ _ _ _, HB3.out⟩
    · have hd0 : decide (x0 < 0) = false := decide_eq_false hx0
      by_cases hx1 : x1 < 1
      · have hd1 : decide (x1 < 1) = true := decide_eq_true hx1
        rw [if_pos (Or.inr hx1)] at h
        obtain ⟨rfl, rfl⟩ := Prod.mk.inj h
        clear h
        go_wp2
        go_ret2
        exact ⟨_, rfl, Kd.R_nil _ _ _ _ _, HB3.out⟩
      · have hd1 : decide (x1 < 1) = false := decide_eq_false hx1
        rw [if_neg (fun h => h.elim hx0 hx1)] at h
        obtain ⟨rfl, rfl⟩ := Prod.mk.inj h
        clear h
        go_wp2
        go_ret2
        exact ⟨_, rfl, HR1.out, HB3.out⟩
  · rw [if_neg hc] at h
    obtain ⟨rfl, rfl⟩ := Prod.mk.inj h
    have hcall := refs_Counts.calls A0 c0 l0 [] 9 W1 hr1 hc0 (by unfold refs_Counts.f; rw [if_neg hc])
    have HCALL := Aside0.mk hcall
    clear hcall hr1 hc h
    go_enter Try.func119, Try.ntmps119
    go_wp2_with fail
    rw [← hW1]
    clear hW1
    refine HCALL.out.mono ?_
    rintro e w1 ⟨v1, rfl, hR1, hb2⟩
    have HB3 := Aside0.mk (HB1.out.trans (hb2.mono HWZ.out))
    clear hR1 hb2
    go_wp2
    go_ret2
    exact ⟨_, rfl, Kd.R_nil _ _ _ _ _, HB3.out⟩
end Go.Proofs.Ytkkfkdncddbaeaa.Fn
namespace Go.Proofs.Ytkkfkdncddbaeaa.Fn
open Go.RowKit Go.Proofs.YtkkfkdncddbaeaaW.PrintWords Go.Proofs.YtkkfkdncddbaeaaW.PrintLast Go.Proofs.YtkkfkdncddbaeaaW.PrintMore
attribute [local go_sem] max2_int min2_int max_two min_two max_three min_three max_four min_four
set_option linter.unusedVariables false
set_option linter.unusedSimpArgs false
def comLn (p n x0 x1 : Int) : Int := mn (wrap64 (wrap64 (p + n) - mx p x0)) (wrap64 (x1 - wrap64 (mx p x0 - x0)))
def shP (x0 x1 : Int) (c : S96) : Bool := decide (0 < comLn c.f0 c.f1 x0 x1) && decide (1 < c.f2)
set_option maxHeartbeats 1000000 in
set_option maxRecDepth 100000 in
theorem shared_cl (c : S96) (b : Nat) (x0 x1 : Int) (w : World) (hb : w.heap[b]? = some (.cells #[.int .i64 x0, .int .i64 x1] 40 (0, 0))) :
    Calls Try.prog 121 #[.agg #[.int .i64 c.f0, .int .i64 c.f1, .int .i64 c.f2], .pointer (some ⟨b, 0, none⟩)] w fun e w' => e = .returned (.bool (shP x0 x1 c)) ∧ Below w.heap.size w w' := by
  have hu40 := Try.underlying40
  have hu96 := Try.underlying96
  have h2 := blk_lt hb
  obtain ⟨n, hn⟩ : ∃ n, n = comLn c.f0 c.f1 x0 x1 := ⟨_, rfl⟩
  have hsh : shP x0 x1 c = (decide (0 < n) && decide (1 < c.f2)) := by rw [hn]; rfl
  rw [hsh]
  obtain ⟨W1, hW1⟩ : ∃ W, W = w.alloc (.cells #[.int .i64 c.f0, .int .i64 c.f1, .int .i64 c.f2] 96) := ⟨_, rfl⟩
  have hbl : Below w.heap.size w W1 := by rw [hW1]; exact (Below.refl w.heap.size w).alloc (Nat.le_refl _) _
  have hc1 : W1.heap[w.heap.size]? = some (.cells #[.int .i64 c.f0, .int .i64 c.f1, .int .i64 c.f2] 96 (0, 0)) := by rw [hW1]; exact blk_new w _
  have hx1 : W1.heap[b]? = some (.cells #[.int .i64 x0, .int .i64 x1] 40 (0, 0)) := (hbl.block b h2).trans hb
  have u0 : W1.cell? ⟨b, 0, none⟩ = some (.int .i64 x0) := (blk_cell hx1 0).trans rfl
  have u1 : W1.cell? ⟨b, 1, none⟩ = some (.int .i64 x1) := (blk_cell hx1 1).trans rfl
  have q0 : W1.cell? ⟨w.heap.size, 0, none⟩ = some (.int .i64 c.f0) := (blk_cell hc1 0).trans rfl
  have q1 : W1.cell? ⟨w.heap.size, 1, none⟩ = some (.int .i64 c.f1) := (blk_cell hc1 1).trans rfl
  have hcm := refs_common.calls c.f0 c.f1 x0 x1 (mx c.f0 x0) (comLn c.f0 c.f1 x0 x1) W1 rfl
  rw [← hn] at hcm
  clear hn hsh
  have HB := Aside0.mk hbl
  have HCM := Aside0.mk hcm
  have HC1 := Aside0.mk hc1
  rw [hW1] at u0 u1 q0 q1
  clear hbl hb hcm hc1 hx1
  go_enter Try.func121, Try.ntmps121
  go_wp2_with fail
  rw [← hW1]
  clear hW1 u0 u1 q0 q1
  refine HCM.out.mono ?_
  rintro e w1 ⟨rfl, hd⟩
  have hc2 : w1.heap[w.heap.size]? = some (.cells #[.int .i64 c.f0, .int .i64 c.f1, .int .i64 c.f2] 96 (0, 0)) := (hd.block _ (blk_lt HC1.out)).trans HC1.out
  have p2 : w1.cell? ⟨w.heap.size, 2, none⟩ = some (.int .i64 c.f2) := (blk_cell hc2 2).trans rfl
  have HB2 := Aside0.mk (below_step HB.out hd)
  clear hd hc2
  by_cases hp : 0 < n
  · have hdp : decide (0 < n) = true := decide_eq_true hp
    go_wp2
    go_ret
    exact ⟨by rw [hdp]; rfl, HB2.out⟩
  · have hdp : decide (0 < n) = false := decide_eq_false hp
    go_wp2
    go_ret
    exact ⟨by rw [hdp]; rfl, HB2.out⟩
def refs_Shared.f (l0 : List (S94)) (a1_0 : Int) (a1_1 : Int) : Option (Bool × Int) := some (if Flag.checkM (l0.map toM) = 0 then (if a1_0 < 0 ∨ a1_1 < 1 then (false, 4) else ((countsL (sortRefL (refsG l0))).any (shP a1_0 a1_1), 0)) else (false, 9))
set_option maxHeartbeats 8000000 in
set_option maxRecDepth 100000 in
theorem refs_Shared.calls (A0 : Option Addr) (c0 : Nat) (l0 : List (S94)) (x0 x1 : Int) (r1 : Bool) (r2 : Int) (w : World) (hr0 : Kd.C k94 w A0 l0.length l0) (hc0 : l0.length ≤ c0) (h : refs_Shared.f l0 x0 x1 = some (r1, r2)) :
    Calls Try.prog 63 #[.slice A0 l0.length c0, .agg #[.int .i64 x0, .int .i64 x1]] w fun e w' => e = .returned (.tuple #[.bool r1, .int .i64 r2]) ∧ Below w.heap.size w w' := by
  have hu40 := Try.underlying40
  have hu96 := Try.underlying96
  unfold refs_Shared.f at h
  have h := Option.some.inj h
  obtain ⟨W1, hW1⟩ : ∃ W, W = w.alloc (.cells #[.int .i64 x0, .int .i64 x1] 40) := ⟨_, rfl⟩
  have hwz : w.heap.size ≤ W1.heap.size := by rw [hW1]; simp
  have hb1 : Below w.heap.size w W1 := by rw [hW1]; exact (Below.refl _ _).alloc (Nat.le_refl _) _
  have hx1 : W1.heap[w.heap.size]? = some (.cells #[.int .i64 x0, .int .i64 x1] 40 (0, 0)) := by rw [hW1]; exact blk_new w _
  have hlt := blk_lt hx1
  have hr1 : Kd.C k94 W1 A0 l0.length l0 := by rw [hW1]; exact Kd.C_alloc hr0 _
  have q0 : W1.cell? ⟨w.heap.size, 0, none⟩ = some (.int .i64 x0) := (blk_cell hx1 0).trans rfl
  have q1 : W1.cell? ⟨w.heap.size, 1, none⟩ = some (.int .i64 x1) := (blk_cell hx1 1).trans rfl
  have HX1 := Aside0.mk hx1
  have HB1 := Aside0.mk hb1
  have HLT := Aside0.mk hlt
  have HWZ := Aside0.mk hwz
  clear hx1 hb1 hr0 hlt hwz
  by_cases hg : Flag.checkM (l0.map toM) = 0 ∧ ¬ (x0 < 0 ∨ x1 < 1)
  · rw [if_pos hg.1, if_neg hg.2] at h
    obtain ⟨rfl, rfl⟩ := Prod.mk.inj h
    have hcall := askCnt.calls A0 c0 l0 x0 x1 (countsL (sortRefL (refsG l0))) 0 W1 hr1 hc0 (by unfold askCnt.f; rw [if_pos hg.1, if_neg hg.2])
    obtain ⟨r, hr⟩ : ∃ r, r = countsL (sortRefL (refsG l0)) := ⟨_, rfl⟩
    rw [← hr] at hcall ⊢
    have HCALL := Aside0.mk hcall
    clear hcall h hr hg hr1
    go_enter Try.func63, Try.ntmps63
    rw [hW1] at q0 q1
    go_wp2_with fail
    rw [← hW1]
    clear hW1 q0 q1
    refine HCALL.out.mono ?_
    rintro e w1 ⟨v1, rfl, hR1, hb2⟩
    obtain ⟨A1, c1, rfl⟩ := Kd.R_slice hR1
    have hRC : Kd.C k96 w1 A1 r.length r := (Kd.R_reads' hR1).2.2
    have HB3 := Aside0.mk (HB1.out.trans (hb2.mono HWZ.out))
    have hX3 : w1.heap[w.heap.size]? = some (.cells #[.int .i64 x0, .int .i64 x1] 40 (0, 0)) := by rw [hb2.block _ HLT.out]; exact HX1.out
    have hhas := has_cnt 121 #[.pointer (some ⟨w.heap.size, 0, none⟩)] (shP x0 x1) (fun args w => enters_ Try.func121 (by kernel_rfl) rfl args w) A1 c1 r w1 hRC
      (fun W x hB => Calls.mono (shared_cl x w.heap.size x0 x1 W ((hB.block _ (blk_lt hX3)).trans hX3)) fun e w' h => ⟨h.1, below_step hB h.2⟩)
    have HHAS := Aside0.mk hhas
    clear hR1 hb2 hRC HB1 HX1 HCALL hX3 hhas
    go_wp2_with fail
    refine HHAS.out.mono ?_
    rintro e w2 ⟨rfl, hb3⟩
    have HB4 := Aside0.mk (HB3.out.trans (hb3.mono HB3.out.size))
    clear hb3
    go_wp2
    go_ret2
    exact ⟨rfl, HB4.out⟩
  · obtain ⟨ec, hec, hne, hr1', hr2'⟩ : ∃ ec : Int, askCnt.f l0 x0 x1 = some ([], ec) ∧ ec ≠ 0 ∧ r1 = false ∧ r2 = ec := by
      unfold askCnt.f
      by_cases hc : Flag.checkM (l0.map toM) = 0
      · have hb : x0 < 0 ∨ x1 < 1 := Classical.byContradiction fun hb => hg ⟨hc, hb⟩
        rw [if_pos hc, if_pos hb] at h
        obtain ⟨rfl, rfl⟩ := Prod.mk.inj h
        exact ⟨4, by rw [if_pos hc, if_pos hb], by decide, rfl, rfl⟩
      · rw [if_neg hc] at h
        obtain ⟨rfl, rfl⟩ := Prod.mk.inj h
        exact ⟨9, by rw [if_neg hc], by decide, rfl, rfl⟩
    subst hr1' hr2'
    have hcall := askCnt.calls A0 c0 l0 x0 x1 [] r2 W1 hr1 hc0 hec
    have HCALL := Aside0.mk hcall
    have hbn : (r2 != 0) = true := bne_iff_ne.mpr hne
    clear hcall hec h hg hr1 hne
    go_enter Try.func63, Try.ntmps63
    rw [hW1] at q0 q1
    go_wp2_with fail
    rw [← hW1]
    clear hW1 q0 q1
    refine HCALL.out.mono ?_
    rintro e w1 ⟨v1, rfl, hR1, hb2⟩
    have HB3 := Aside0.mk (HB1.out.trans (hb2.mono HWZ.out))
    clear hR1 hb2
    go_wp2
    go_ret2
    exact ⟨rfl, HB3.out⟩
end Go.Proofs.Ytkkfkdncddbaeaa.Fn
namespace Go.Proofs.Ytkkfkdncddbaeaa.Fn
open Go.RowKit Go.Proofs.YtkkfkdncddbaeaaW.PrintWords Go.Proofs.YtkkfkdncddbaeaaW.PrintLast Go.Proofs.YtkkfkdncddbaeaaW.PrintMore
attribute [local go_sem] max2_int min2_int max_two min_two max_three min_three max_four min_four
set_option linter.unusedVariables false
set_option linter.unusedSimpArgs false
def dbl (c : S96) : S96 := ⟨c.f0, c.f1, 2 * c.f2⟩
theorem nf_dbl {c : List S96} (h : ∀ x ∈ c, OkC x) (hn : Flag.NF (c.map toC)) : Flag.NF ((c.map dbl).map toC) := by
  induction c with
  | nil => trivial
  | cons x t ih =>
    have h1 := ih (fun y hy => h y (List.mem_cons_of_mem _ hy)) hn.tail
    cases t with
    | nil => exact hn
    | cons y t =>
      obtain ⟨a, b, c1, _⟩ := hn
      refine ⟨a, b, fun hg => c1 ?_, h1⟩
      have hx := h x List.mem_cons_self
      have hy := h y (by simp)
      obtain ⟨x1, x2, x3, x4⟩ := hx
      obtain ⟨y1, y2, y3, y4⟩ := hy
      obtain ⟨g1, g2⟩ := hg
      have g1 : x.f0 + x.f1 = y.f0 := g1
      refine ⟨g1, .inr ⟨by show 0 ≤ x.f2 + x.f0; omega, ?_⟩⟩
      show y.f2 + y.f0 = x.f2 + x.f0 + x.f1
      rcases g2 with ⟨g3, _⟩ | ⟨_, g3⟩
      · have g3 : 2 * x.f2 + x.f0 < 0 := g3
        omega
      · have g3 : 2 * y.f2 + y.f0 = 2 * x.f2 + x.f0 + x.f1 := g3
        omega
theorem look_dbl {c : List S96} (h : ∀ x ∈ c, OkC x) (i : Int) : Flag.lookE ((c.map dbl).map toC) i = match Flag.lookE (c.map toC) i with | some v => some (2 * (v - i) + i) | none => none := by
  induction c with
  | nil => rfl
  | cons x t ih =>
    have h1 := ih fun y hy => h y (List.mem_cons_of_mem _ hy)
    have hx := h x List.mem_cons_self
    show (if x.f0 ≤ i ∧ i < x.f0 + x.f1 then some (Flag.valAt (toC (dbl x)) i) else Flag.lookE ((t.map dbl).map toC) i) = match (if x.f0 ≤ i ∧ i < x.f0 + x.f1 then some (Flag.valAt (toC x) i) else Flag.lookE (t.map toC) i) with | some v => some (2 * (v - i) + i) | none => none
    by_cases hc : x.f0 ≤ i ∧ i < x.f0 + x.f1
    · rw [if_pos hc, if_pos hc]
      have e1 : Flag.valAt (toC x) i = x.f2 + i := by
        have := hx.p; have := hx.a
        unfold Flag.valAt toC
        dsimp only
        rw [if_neg (by omega)]; omega
      have e2 : Flag.valAt (toC (dbl x)) i = 2 * x.f2 + i := by
        have := hx.p; have := hx.a
        unfold Flag.valAt toC dbl
        dsimp only
        rw [if_neg (by omega)]; omega
      rw [e1, e2]
      show some (2 * x.f2 + i) = some (2 * (x.f2 + i - i) + i)
      congr 1; omega
    · rw [if_neg hc, if_neg hc]
      exact h1
def mapsOne (l : List S24) : List S94 := [⟨3, l⟩]
def mapsTwo (l : List S24) : List S94 := [⟨3, l⟩, ⟨4, l⟩]
theorem check_one (l : List S24) : Flag.checkM ((mapsOne l).map toM) = 0 ↔ Flag.checkE (l.map toE) = 0 := by
  unfold Flag.checkM mapsOne toM
  simp [Flag.risM]
theorem check_two (l : List S24) : Flag.checkM ((mapsTwo l).map toM) = 0 ↔ Flag.checkE (l.map toE) = 0 := by
  unfold Flag.checkM mapsTwo toM
  simp [Flag.risM]
theorem cnt_append (l m : List Flag.Rf) (i : Int) : Flag.cnt (l ++ m) i = Flag.cnt l i + Flag.cnt m i := by
  induction l with
  | nil => rw [List.nil_append, Flag.cnt]; omega
  | cons r t ih => rw [List.cons_append, Flag.cnt, Flag.cnt, ih]; omega
theorem cnt_owner (l : List Flag.Ex) (a b : Int) (i : Int) : Flag.cnt (l.map fun y => ⟨y.p, y.n, a, y.v⟩) i = Flag.cnt (l.map fun y => ⟨y.p, y.n, b, y.v⟩) i := by
  induction l with
  | nil => rfl
  | cons y t ih =>
    rw [List.map_cons, List.map_cons, Flag.cnt, Flag.cnt, ih]
    rfl
theorem cnt_two (l : List S24) (i : Int) : Flag.cnt ((sortRefL (refsG (mapsTwo l))).map toR) i = 2 * Flag.cnt ((sortRefL (refsG (mapsOne l))).map toR) i := by
  rw [sortRefL_toR, sortRefL_toR, Flag.cnt_perm (Flag.sortR_perm _), Flag.cnt_perm (Flag.sortR_perm _), refsG_toR, refsG_toR]
  unfold Flag.refsM mapsTwo mapsOne toM
  simp only [List.map_cons, List.map_nil, List.flatMap_cons, List.flatMap_nil, List.append_nil]
  rw [cnt_append, cnt_owner _ 4 3]
  omega
theorem counts_two {l : List S24} (h : Flag.checkE (l.map toE) = 0) : countsL (sortRefL (refsG (mapsTwo l))) = (countsL (sortRefL (refsG (mapsOne l)))).map dbl := by
  obtain ⟨a1, a2⟩ := refs9 ((check_one l).2 h)
  obtain ⟨b1, b2⟩ := refs9 ((check_two l).2 h)
  obtain ⟨⟨c1, c2⟩, c3⟩ := countsL_spec a1 a2
  have c4 := (countsL_spec b1 b2).1
  refine mapC_inj (c4.one ⟨nf_dbl c3 c1, fun i => ?_⟩)
  rw [look_dbl c3, c2]
  unfold Flag.lookC
  rw [cnt_two]
  have h0 := Flag.cnt_nonneg ((sortRefL (refsG (mapsOne l))).map toR) i
  by_cases hc : 0 < Flag.cnt ((sortRefL (refsG (mapsOne l))).map toR) i
  · rw [if_pos hc, if_pos (by omega)]
    show some (2 * (Flag.cnt ((sortRefL (refsG (mapsOne l))).map toR) i + i - i) + i) = _
    congr 1; omega
  · rw [if_neg hc, if_neg (by omega)]
theorem counts_le {l : List S24} (h : Flag.checkE (l.map toE) = 0) : ∀ c ∈ countsL (sortRefL (refsG (mapsOne l))), 0 < c.f2 ∧ c.f2 ≤ 9216 := by
  obtain ⟨a1, a2⟩ := refs9 ((check_one l).2 h)
  obtain ⟨c1, c3⟩ := countsL_spec a1 a2
  intro c hc
  obtain ⟨x1, x2, x3, x4⟩ := c3 c hc
  obtain ⟨y1, y2⟩ := c1.mem (List.mem_map_of_mem hc) (i := c.f0) (by show c.f0 ≤ c.f0; omega) (by show c.f0 < c.f0 + c.f1; omega)
  have h3 := cnt_le ((sortRefL (refsG (mapsOne l))).map toR) c.f0
  rw [List.length_map] at h3
  unfold Flag.valAt toC at y2
  dsimp only at y2
  rw [if_neg (by omega)] at y2
  exact ⟨x4, by omega⟩
theorem shared_who {l : List S24} (h : Flag.checkE (l.map toE) = 0) {x0 x1 : Int} (h0 : 0 ≤ x0 ∧ x0 < 9223372036854775808) (h1 : 0 < x1 ∧ x1 < 9223372036854775808) :
    (countsL (sortRefL (refsG (mapsTwo l)))).any (shP x0 x1) = decide (0 < ((whoS (sortRefL (refsG (mapsOne l))) x0 x1).length : Int)) := by
  obtain ⟨a1, a2⟩ := refs9 ((check_one l).2 h)
  obtain ⟨c1, c3⟩ := countsL_spec a1 a2
  obtain ⟨q, hq⟩ : ∃ q, q = sortRefL (refsG (mapsOne l)) := ⟨_, rfl⟩
  rw [counts_two h, ← hq]
  rw [← hq] at a1 a2 c1 c3
  have hln : ∀ c ∈ countsL q, comLn c.f0 c.f1 x0 x1 = Flag.lenC c.f0 c.f1 ⟨x0, x1⟩ := fun c hc => by
    obtain ⟨y1, y2, y3, y4⟩ := c3 c hc
    exact (com_eq (r := ⟨c.f0, c.f1, 0, 0⟩) ⟨y2, y1, y3⟩ h0 h1).2
  have hw : 0 < ((whoS q x0 x1).length : Int) ↔ ∃ i, x0 ≤ i ∧ i < x0 + x1 ∧ 0 < Flag.cnt (q.map toR) i := by
    have e : (whoS q x0 x1).length = (Flag.whoL (q.map toR) ⟨x0, x1⟩).length := by
      have h : ((whoS q x0 x1).map toR).length = (Flag.whoL (q.map toR) ⟨x0, x1⟩).length := by rw [whoS_toR, (Flag.sortR_perm _).length_eq]
      rwa [List.length_map] at h
    rw [e]
    constructor
    · intro hp
      obtain ⟨s, hs⟩ := List.exists_mem_of_length_pos (show 0 < (Flag.whoL (q.map toR) ⟨x0, x1⟩).length by omega)
      obtain ⟨r, hr, hp, _⟩ := Flag.mem_whoL.1 hs
      obtain ⟨i, i1, i2, i3⟩ := (Flag.lenC_pos (x := ⟨x0, x1⟩) h1.1 (a1.each r hr).1).1 hp
      exact ⟨i, i2, i3, Flag.cnt_pos.2 ⟨r, hr, i1⟩⟩
    · rintro ⟨i, i2, i3, hc⟩
      obtain ⟨r, hr, i1⟩ := Flag.cnt_pos.1 hc
      have := List.length_pos_of_mem (Flag.mem_whoL.2 ⟨r, hr, (Flag.lenC_pos (x := ⟨x0, x1⟩) h1.1 (a1.each r hr).1).2 ⟨i, i1, i2, i3⟩, rfl⟩)
      omega
  by_cases hd : 0 < ((whoS q x0 x1).length : Int)
  · rw [decide_eq_true hd, List.any_eq_true]
    obtain ⟨i, i1, i2, hc⟩ := hw.1 hd
    obtain ⟨y, hy, y1, y2, _⟩ := c1.some hc
    obtain ⟨c, hcm, rfl⟩ := List.mem_map.1 hy
    refine ⟨dbl c, List.mem_map_of_mem hcm, ?_⟩
    obtain ⟨z1, z2, z3, z4⟩ := c3 c hcm
    unfold shP dbl
    dsimp only
    have hp : 0 < Flag.lenC c.f0 c.f1 ⟨x0, x1⟩ := (Flag.lenC_pos (x := ⟨x0, x1⟩) h1.1 z2).2 ⟨i, ⟨y1, y2⟩, i1, i2⟩
    have hp2 : 1 < 2 * c.f2 := by omega
    rw [hln c hcm, decide_eq_true hp, decide_eq_true hp2]
    rfl
  · rw [decide_eq_false hd, List.any_eq_false]
    intro d hdm
    obtain ⟨c, hcm, rfl⟩ := List.mem_map.1 hdm
    obtain ⟨z1, z2, z3, z4⟩ := c3 c hcm
    unfold shP dbl
    dsimp only
    rw [hln c hcm]
    intro hh
    rw [Bool.and_eq_true, decide_eq_true_eq, decide_eq_true_eq] at hh
    obtain ⟨i, i1, i2, i3⟩ := (Flag.lenC_pos (x := ⟨x0, x1⟩) h1.1 z2).1 hh.1
    exact hd (hw.2 ⟨i, i2, i3, (c1.mem (List.mem_map_of_mem hcm) (i := i) i1.1 i1.2).1⟩)
end Go.Proofs.Ytkkfkdncddbaeaa.Fn
namespace Go.Proofs.Ytkkfkdncddbaeaa.Fn
open Go.RowKit Go.Proofs.YtkkfkdncddbaeaaW.PrintWords Go.Proofs.YtkkfkdncddbaeaaW.PrintLast Go.Proofs.YtkkfkdncddbaeaaW.PrintMore
attribute [local go_sem] max2_int min2_int max_two min_two max_three min_three max_four min_four
set_option linter.unusedVariables false
set_option linter.unusedSimpArgs false
theorem lit_one (W : World) (l : List S24) {A : Option Addr} {c : Nat} (hc : l.length ≤ c) (hr : Kd.C k24 W A l.length l) :
    Kd.C k94 (W.alloc (.cells #[.int .i64 3, .slice A l.length c] 94)) (some ⟨W.heap.size, 0, none⟩) 1 (mapsOne l) := by
  have hb := blk_new W (.cells #[.int .i64 3, .slice A l.length c] 94)
  have hr2 := Kd.C_alloc hr (.cells #[.int .i64 3, .slice A l.length c] 94)
  refine ⟨rfl, by decide, fun _ => ⟨_, rfl, fun j p hp => ?_⟩⟩
  match j, hp with
  | 0, hp =>
    cases hp
    refine ⟨_, rfl, k94_mk _ ⟨3, l⟩ hc hr2, fun i u hu => ?_⟩
    match i, hu with
    | 0, hu => cases hu; exact (blk_cell hb 0).trans rfl
    | 1, hu => cases hu; exact (blk_cell hb 1).trans rfl
    | n + 2, hu => cases hu
  | n + 1, hp => cases hp
theorem lit_two (W : World) (l : List S24) {A : Option Addr} {c : Nat} (hc : l.length ≤ c) (hr : Kd.C k24 W A l.length l) :
    Kd.C k94 (W.alloc (.cells #[.int .i64 3, .slice A l.length c, .int .i64 4, .slice A l.length c] 94)) (some ⟨W.heap.size, 0, none⟩) 2 (mapsTwo l) := by
  have hb := blk_new W (.cells #[.int .i64 3, .slice A l.length c, .int .i64 4, .slice A l.length c] 94)
  have hr2 := Kd.C_alloc hr (.cells #[.int .i64 3, .slice A l.length c, .int .i64 4, .slice A l.length c] 94)
  refine ⟨rfl, by decide, fun _ => ⟨_, rfl, fun j p hp => ?_⟩⟩
  match j, hp with
  | 0, hp =>
    cases hp
    refine ⟨_, rfl, k94_mk _ ⟨3, l⟩ hc hr2, fun i u hu => ?_⟩
    match i, hu with
    | 0, hu => cases hu; exact (blk_cell hb 0).trans rfl
    | 1, hu => cases hu; exact (blk_cell hb 1).trans rfl
    | n + 2, hu => cases hu
  | 1, hp =>
    cases hp
    refine ⟨_, rfl, k94_mk _ ⟨4, l⟩ hc hr2, fun i u hu => ?_⟩
    match i, hu with
    | 0, hu => cases hu; exact (blk_cell hb 2).trans rfl
    | 1, hu => cases hu; exact (blk_cell hb 3).trans rfl
    | n + 2, hu => cases hu
  | n + 2, hp => cases hp
theorem drawn_below {w w' : World} {B : Nat} (h : Drawn0 w w') : Below B w w' := by
  obtain ⟨n, rfl⟩ := h
  exact pw_below_drewN (Below.refl _ _) n
def flagstonelaw09_RefsShared.f (l : List S24) (x0 x1 : Int) : Option Bool := if x0 < 9223372036854775808 ∧ x1 < 9223372036854775808 then some true else none
set_option maxHeartbeats 8000000 in
set_option maxRecDepth 100000 in
theorem flagstonelaw09_RefsShared.calls (A0 : Option Addr) (c0 : Nat) (l0 : List (S24)) (x0 x1 : Int) (r : Bool) (w : World) (hr0 : Kd.C k24 w A0 l0.length l0) (hc0 : l0.length ≤ c0) (h : flagstonelaw09_RefsShared.f l0 x0 x1 = some r) :
    Calls Try.prog 17 #[.slice A0 l0.length c0, .agg #[.int .i64 x0, .int .i64 x1]] w fun e w' => e = .returned (.bool r) ∧ Below w.heap.size w w' := by
  have hu40 := Try.underlying40
  have hu94 := Try.underlying94
  have hu96 := Try.underlying96
  unfold flagstonelaw09_RefsShared.f at h
  split at h
  case isFalse => cases h
  rename_i hxr
  obtain rfl := Option.some.inj h
  obtain ⟨W1, hW1⟩ : ∃ W, W = w.alloc (.cells #[.int .i64 x0, .int .i64 x1] 40) := ⟨_, rfl⟩
  have hb1 : Below w.heap.size w W1 := by rw [hW1]; exact (Below.refl _ _).alloc (Nat.le_refl _) _
  have hx1 : W1.heap[w.heap.size]? = some (.cells #[.int .i64 x0, .int .i64 x1] 40 (0, 0)) := by rw [hW1]; exact blk_new w _
  have hal := flagstonelaw09_alive.calls true W1 alive9
  have HAL := Aside0.mk hal
  have HX1 := Aside0.mk hx1
  have HB1 := Aside0.mk hb1
  have HR0 := Aside0.mk hr0
  have HC0 := Aside0.mk hc0
  have HXR := Aside0.mk hxr
  clear hal hx1 hb1 hr0 hc0 hxr h
  go_enter Try.func17, Try.ntmps17
  go_wp2_with fail
  rw [← hW1]
  clear hW1
  refine HAL.out.mono ?_
  rintro e w2 ⟨rfl, hb⟩
  have HB2 := Aside0.mk (HB1.out.trans (hb.mono HB1.out.size))
  have HX2 := Aside0.mk ((hb.block _ (blk_lt HX1.out)).trans HX1.out)
  clear hb HB1 HX1 HAL
  obtain ⟨W3, hW3⟩ : ∃ W, W = w2.alloc (.cells #[.int .i64 3, .slice A0 l0.length c0] 94) := ⟨_, rfl⟩
  obtain ⟨b3, hb3⟩ : ∃ b, b = w2.heap.size := ⟨_, rfl⟩
  have HL3 := Aside0.mk (show Kd.C k94 W3 (some ⟨b3, 0, none⟩) 1 (mapsOne l0) by rw [hW3, hb3]; exact lit_one w2 l0 HC0.out (Kd.C_below HR0.out HB2.out))
  have HB3 := Aside0.mk (show Below w.heap.size w W3 by rw [hW3]; exact HB2.out.alloc HB2.out.size _)
  have HX3 := Aside0.mk (show W3.heap[w.heap.size]? = some (.cells #[.int .i64 x0, .int .i64 x1] 40 (0, 0)) by rw [hW3]; exact blk_alloc HX2.out _)
  go_wp2_with fail
  rw [← hW3, ← hb3]
  clear hW3 hb3 HB2 HX2
  by_cases hce : Flag.checkE (l0.map toE) = 0
  · have k1 := (check_one l0).2 hce
    have k2 := (check_two l0).2 hce
    obtain ⟨one, hone⟩ : ∃ v, v = countsL (sortRefL (refsG (mapsOne l0))) := ⟨_, rfl⟩
    have hcall : Calls Try.prog 62 #[.slice (some ⟨b3, 0, none⟩) 1 1] W3 _ := refs_Counts.calls (some ⟨b3, 0, none⟩) 1 (mapsOne l0) one 0 W3 HL3.out (Nat.le_refl 1) (by unfold refs_Counts.f; rw [if_pos k1, hone])
    refine Calls.mono hcall ?_
    rintro e w4 ⟨v5, rfl, hR, hb⟩
    obtain ⟨A5, c5, rfl⟩ := Kd.R_slice hR
    have HC5 := Aside0.mk (Kd.R_reads' hR).2.2
    have HB4 := Aside0.mk (HB3.out.trans (hb.mono HB3.out.size))
    have HX4 := Aside0.mk ((hb.block _ (blk_lt HX3.out)).trans HX3.out)
    have HONE := Aside0.mk hone
    clear hR hb hcall HL3 HB3 HX3 hone
    obtain ⟨W5, hW5⟩ : ∃ W, W = w4.alloc (.cells #[.int .i64 3, .slice A0 l0.length c0, .int .i64 4, .slice A0 l0.length c0] 94) := ⟨_, rfl⟩
    obtain ⟨b5, hb5⟩ : ∃ b, b = w4.heap.size := ⟨_, rfl⟩
    have HL5 := Aside0.mk (show Kd.C k94 W5 (some ⟨b5, 0, none⟩) 2 (mapsTwo l0) by rw [hW5, hb5]; exact lit_two w4 l0 HC0.out (Kd.C_below HR0.out HB4.out))
    have HB5 := Aside0.mk (show Below w.heap.size w W5 by rw [hW5]; exact HB4.out.alloc HB4.out.size _)
    have HX5 := Aside0.mk (show W5.heap[w.heap.size]? = some (.cells #[.int .i64 x0, .int .i64 x1] 40 (0, 0)) by rw [hW5]; exact blk_alloc HX4.out _)
    have HC6 := Aside0.mk (show Kd.C k96 W5 A5 one.length one by rw [hW5]; exact Kd.C_alloc HC5.out _)
    go_wp2_with fail
    rw [← hW5, ← hb5]
    clear hW5 hb5 HB4 HX4 HC5
    have hcall : Calls Try.prog 62 #[.slice (some ⟨b5, 0, none⟩) 2 2] W5 _ := refs_Counts.calls (some ⟨b5, 0, none⟩) 2 (mapsTwo l0) (one.map dbl) 0 W5 HL5.out (Nat.le_refl 2) (by unfold refs_Counts.f; rw [if_pos k2, counts_two hce, HONE.out])
    refine Calls.mono hcall ?_
    rintro e w6 ⟨v7, rfl, hR, hb⟩
    obtain ⟨A7, c7, rfl⟩ := Kd.R_slice hR
    have HC7 := Aside0.mk (Kd.R_reads' hR).2.2
    have HC8 := Aside0.mk (Kd.C_below HC6.out hb)
    have HB6 := Aside0.mk (HB5.out.trans (hb.mono HB5.out.size))
    have HX6 := Aside0.mk ((hb.block _ (blk_lt HX5.out)).trans HX5.out)
    clear hR hb hcall HL5 HB5 HX5 HC6
    have hlen : (one.map dbl).length = one.length := List.length_map _
    have hle : ∀ c ∈ one, 0 < c.f2 ∧ c.f2 ≤ 9216 := by rw [HONE.out]; exact counts_le hce
    have hno : one.length ≤ 18432 := by
      have h1 := countsL_len (sortRefL (refsG (mapsOne l0)))
      have h2 := (refs9 k1).2
      rw [HONE.out]; omega
    rw [hlen] at HC7 ⊢
    obtain ⟨n, hn⟩ : ∃ n, n = one.length := ⟨_, rfl⟩
    rw [← hn] at HC7 HC8 hno ⊢
    have HLE := Aside0.mk hle
    have HNO := Aside0.mk hno
    have HN := Aside0.mk hn
    have HCE := Aside0.mk hce
    clear hle hno hn hce k1 k2 hlen HONE
    go_wp2_with fail
    refine (flagstonelaw09_num.calls 0 0 _ rfl).mono ?_
    rintro e w7 ⟨rfl, hd⟩
    have hb := drawn_below (B := w6.heap.size) hd
    have HB7 := Aside0.mk hb
    clear hd hb
    go_wp2_with fail
    refine (flagstonelaw09_num.calls 0 0 _ rfl).mono ?_
    rintro e w8 ⟨rfl, hd⟩
    have HB8 := Aside0.mk (HB7.out.trans (drawn_below (B := w6.heap.size) hd))
    clear hd HB7
    have hnn : ((n : Int) != (n : Int)) = false := by simp
    go_wp2_with fail
    go_loopg [9] n (fun gk v9 W => ∃ i : Int, v9 = .int .i64 i ∧ Aside0 (0 ≤ i ∧ i + gk = n) ∧ Aside0 (Below w6.heap.size w6 W))
    case atStart => exact ⟨0, rfl, ⟨Int.le_refl _, by simp⟩, ⟨HB8.out⟩⟩
    case round =>
      obtain ⟨i, rfl, HI, HS⟩ := hrel
      cases gk with
      | zero =>
        have hi : i = n := by have := HI.out.2; omega
        have hd : decide (i < (n : Int)) = false := decide_eq_false (by omega)
        clear hi
        have HB9 := Aside0.mk (HB6.out.trans (HS.out.mono HB6.out.size))
        have HX9 := Aside0.mk ((HS.out.block _ (blk_lt HX6.out)).trans HX6.out)
        obtain ⟨W3, hW3⟩ : ∃ W, W = wr.alloc (.cells #[.int .i64 3, .slice A0 l0.length c0] 94) := ⟨_, rfl⟩
        obtain ⟨b3, hb3⟩ : ∃ b, b = wr.heap.size := ⟨_, rfl⟩
        have HL3 := Aside0.mk (show Kd.C k94 W3 (some ⟨b3, 0, none⟩) 1 (mapsOne l0) by rw [hW3, hb3]; exact lit_one wr l0 HC0.out (Kd.C_below HR0.out HB9.out))
        have HB3 := Aside0.mk (show Below w.heap.size w W3 by rw [hW3]; exact HB9.out.alloc HB9.out.size _)
        have HX3 := Aside0.mk (show W3.heap[w.heap.size]? = some (.cells #[.int .i64 x0, .int .i64 x1] 40 (0, 0)) by rw [hW3]; exact blk_alloc HX9.out _)
        have u0 : W3.cell? ⟨w.heap.size, 0, none⟩ = some (.int .i64 x0) := (blk_cell HX3.out 0).trans rfl
        have u1 : W3.cell? ⟨w.heap.size, 1, none⟩ = some (.int .i64 x1) := (blk_cell HX3.out 1).trans rfl
        rw [hW3] at u0 u1
        go_wp2_with fail
        rw [← hW3, ← hb3]
        clear hW3 hb3 u0 u1
        obtain ⟨ec, who, hwho, hsh, hec⟩ : ∃ (ec : Int) (who : List S88), refs_Who.f (mapsOne l0) x0 x1 = some (who, ec) ∧ refs_Shared.f (mapsTwo l0) x0 x1 = some (if ec = 0 then decide (0 < (who.length : Int)) else false, ec) ∧ (ec = 0 ∨ ec = 4) := by
          unfold refs_Who.f refs_Shared.f
          have h1 := (check_one l0).2 HCE.out
          have h2 := (check_two l0).2 HCE.out
          rw [if_pos HXR.out, if_pos h1, if_pos h2]
          by_cases hb : x0 < 0 ∨ x1 < 1
          · rw [if_pos hb, if_pos hb]
            exact ⟨4, [], rfl, by rw [if_neg (by decide)], .inr rfl⟩
          · rw [if_neg hb, if_neg hb]
            refine ⟨0, _, rfl, ?_, .inl rfl⟩
            rw [if_pos rfl, shared_who HCE.out ⟨by omega, HXR.out.1⟩ ⟨by omega, HXR.out.2⟩]
        have hcall : Calls Try.prog 58 #[.slice (some ⟨b3, 0, none⟩) 1 1, .agg #[.int .i64 x0, .int .i64 x1]] W3 _ := refs_Who.calls (some ⟨b3, 0, none⟩) 1 (mapsOne l0) x0 x1 who ec W3 HL3.out (Nat.le_refl 1) hwho
        have HSH := Aside0.mk hsh
        refine Calls.mono hcall ?_
        rintro e w10 ⟨v10, rfl, hR, hb⟩
        obtain ⟨A10, c10, rfl⟩ := Kd.R_slice hR
        have HB10 := Aside0.mk (HB3.out.trans (hb.mono HB3.out.size))
        have HX10 := Aside0.mk ((hb.block _ (blk_lt HX3.out)).trans HX3.out)
        clear hR hb hcall HL3 HB3 HX3 hwho hsh
        obtain ⟨W5, hW5⟩ : ∃ W, W = w10.alloc (.cells #[.int .i64 3, .slice A0 l0.length c0, .int .i64 4, .slice A0 l0.length c0] 94) := ⟨_, rfl⟩
        obtain ⟨b5, hb5⟩ : ∃ b, b = w10.heap.size := ⟨_, rfl⟩
        have HL5 := Aside0.mk (show Kd.C k94 W5 (some ⟨b5, 0, none⟩) 2 (mapsTwo l0) by rw [hW5, hb5]; exact lit_two w10 l0 HC0.out (Kd.C_below HR0.out HB10.out))
        have HB5 := Aside0.mk (show Below w.heap.size w W5 by rw [hW5]; exact HB10.out.alloc HB10.out.size _)
        have hx5 : W5.heap[w.heap.size]? = some (.cells #[.int .i64 x0, .int .i64 x1] 40 (0, 0)) := by rw [hW5]; exact blk_alloc HX10.out _
        have u0 : W5.cell? ⟨w.heap.size, 0, none⟩ = some (.int .i64 x0) := (blk_cell hx5 0).trans rfl
        have u1 : W5.cell? ⟨w.heap.size, 1, none⟩ = some (.int .i64 x1) := (blk_cell hx5 1).trans rfl
        rw [hW5] at u0 u1
        clear hx5
        go_wp2_with fail
        rw [← hW5, ← hb5]
        clear hW5 hb5 u0 u1
        have hcall : Calls Try.prog 63 #[.slice (some ⟨b5, 0, none⟩) 2 2, .agg #[.int .i64 x0, .int .i64 x1]] W5 _ := refs_Shared.calls (some ⟨b5, 0, none⟩) 2 (mapsTwo l0) x0 x1 _ ec W5 HL5.out (Nat.le_refl 2) HSH.out
        refine Calls.mono hcall ?_
        rintro e w12 ⟨rfl, hb⟩
        have HB12 := Aside0.mk (HB5.out.trans (hb.mono HB5.out.size))
        obtain ⟨nw, hnw⟩ : ∃ n, n = who.length := ⟨_, rfl⟩
        rw [← hnw]
        clear hb hcall HL5 HB5 hnw HSH
        rcases hec with rfl | rfl
        · by_cases hw0 : 0 < (nw : Int)
          · have hdw : decide (0 < (nw : Int)) = true := decide_eq_true hw0
            have hdwn : decide (0 < nw) = true := decide_eq_true (by omega)
            rw [if_pos rfl, hdw]
            go_wp2_with fail
            refine (flagstonelaw09_num.calls 0 0 _ rfl).mono ?_
            rintro e w13 ⟨rfl, hd⟩
            have HB13 := Aside0.mk (HB12.out.trans (drawn_below hd))
            clear hd
            go_wp2
            go_ret
            exact ⟨rfl, HB13.out⟩
          · have hdw : decide (0 < (nw : Int)) = false := decide_eq_false hw0
            have hdwn : decide (0 < nw) = false := decide_eq_false (by omega)
            rw [if_pos rfl, hdw]
            go_wp2_with fail
            refine (flagstonelaw09_num.calls 0 0 _ rfl).mono ?_
            rintro e w13 ⟨rfl, hd⟩
            have HB13 := Aside0.mk (HB12.out.trans (drawn_below hd))
            clear hd
            go_wp2
            go_ret
            exact ⟨rfl, HB13.out⟩
        · rw [if_neg (by decide)]
          go_wp2_with fail
          refine (flagstonelaw09_num.calls 4 4 _ rfl).mono ?_
          rintro e w13 ⟨rfl, hd⟩
          have HB13 := Aside0.mk (HB12.out.trans (drawn_below hd))
          clear hd
          go_wp2
          go_ret
          exact ⟨rfl, HB13.out⟩
      | succ k1 =>
        have hp0 : 0 ≤ i := HI.out.1
        have hp1 : i < (n : Int) := by have := HI.out.2; omega
        have hd : decide (i < (n : Int)) = true := decide_eq_true hp1
        obtain ⟨ad, e3, g0, g1, g2⟩ := at_T96 (Kd.C_below HC8.out HS.out) i hp0 hp1
        cases e3
        obtain ⟨ad2, e4, s0, s1, s2⟩ := at_T96 (Kd.C_below HC7.out HS.out) i hp0 hp1
        cases e4
        obtain ⟨x, hx⟩ : ∃ x, x = rd_T96 one i := ⟨_, rfl⟩
        have h4 : i.toNat < one.length := by rw [← HN.out]; omega
        have hxg : x = one[i.toNat] := by rw [hx]; unfold rd_T96; rw [List.getD_eq_getElem?_getD, List.getElem?_eq_getElem h4]; rfl
        have hx2 : rd_T96 (one.map dbl) i = dbl x := by
          rw [hxg]; unfold rd_T96; rw [List.getD_eq_getElem?_getD, List.getElem?_map, List.getElem?_eq_getElem h4]; rfl
        rw [← hx] at g0 g1 g2
        rw [hx2] at s0 s1 s2
        obtain ⟨z1, z2⟩ := HLE.out x (by rw [hxg]; exact List.getElem_mem h4)
        have hwm : IntKind.i64.wrap (2 * x.f2) = 2 * x.f2 := IntWalk.i64_in _ (by omega)
        have hwm2 : wrap64 (2 * x.f2) = 2 * x.f2 := w64 (by omega)
        have hwi : IntKind.i64.wrap (i + 1) = i + 1 := IntWalk.i64_in _ (by have := HNO.out; omega)
        have b0 : (x.f0 != x.f0) = false := by simp
        have b1 : (x.f1 != x.f1) = false := by simp
        have b2 : (2 * x.f2 != 2 * x.f2) = false := by simp
        have HP := Aside0.mk (And.intro hp0 hp1)
        unfold dbl at s0 s1 s2
        dsimp only at s0 s1 s2
        clear hx hxg hx2 z1 z2 h4
        go_wp2_with fail
        go_quiet (fail)
        have HB9 := Aside0.mk (show Below w6.heap.size w6 (wr.drewN nq) from pw_below_drewN HS.out nq)
        go_wp2_with fail
        go_roundg k1
        case measure => omega
        case rel =>
          exact ⟨i + 1, by first | rfl | (simp; done) | go_num, ⟨by have := HP.out.1; omega, by have := HI.out.2; omega⟩, ⟨HB9.out⟩⟩
  · have k1 := mt (check_one l0).1 hce
    have k2 := mt (check_two l0).1 hce
    have hcall : Calls Try.prog 62 #[.slice (some ⟨b3, 0, none⟩) 1 1] W3 _ := refs_Counts.calls (some ⟨b3, 0, none⟩) 1 (mapsOne l0) [] 9 W3 HL3.out (Nat.le_refl 1) (by unfold refs_Counts.f; rw [if_neg k1])
    refine Calls.mono hcall ?_
    rintro e w4 ⟨v5, rfl, hR, hb⟩
    obtain ⟨A5, c5, rfl⟩ := Kd.R_slice hR
    have HB4 := Aside0.mk (HB3.out.trans (hb.mono HB3.out.size))
    have HX4 := Aside0.mk ((hb.block _ (blk_lt HX3.out)).trans HX3.out)
    clear hR hb hcall HL3 HB3 HX3
    obtain ⟨W5, hW5⟩ : ∃ W, W = w4.alloc (.cells #[.int .i64 3, .slice A0 l0.length c0, .int .i64 4, .slice A0 l0.length c0] 94) := ⟨_, rfl⟩
    obtain ⟨b5, hb5⟩ : ∃ b, b = w4.heap.size := ⟨_, rfl⟩
    have HL5 := Aside0.mk (show Kd.C k94 W5 (some ⟨b5, 0, none⟩) 2 (mapsTwo l0) by rw [hW5, hb5]; exact lit_two w4 l0 HC0.out (Kd.C_below HR0.out HB4.out))
    have HB5 := Aside0.mk (show Below w.heap.size w W5 by rw [hW5]; exact HB4.out.alloc HB4.out.size _)
    go_wp2_with fail
    rw [← hW5, ← hb5]
    clear hW5 hb5 HB4 HX4
    have hcall : Calls Try.prog 62 #[.slice (some ⟨b5, 0, none⟩) 2 2] W5 _ := refs_Counts.calls (some ⟨b5, 0, none⟩) 2 (mapsTwo l0) [] 9 W5 HL5.out (Nat.le_refl 2) (by unfold refs_Counts.f; rw [if_neg k2])
    refine Calls.mono hcall ?_
    rintro e w6 ⟨v7, rfl, hR, hb⟩
    obtain ⟨A7, c7, rfl⟩ := Kd.R_slice hR
    have HB6 := Aside0.mk (HB5.out.trans (hb.mono HB5.out.size))
    clear hR hb hcall HL5 HB5 k1 k2 hce
    go_wp2_with fail
    refine (flagstonelaw09_num.calls 9 9 _ rfl).mono ?_
    rintro e w7 ⟨rfl, hd⟩
    have HB7 := Aside0.mk (HB6.out.trans (drawn_below hd))
    clear hd
    go_wp2
    go_ret
    exact ⟨rfl, HB7.out⟩
end Go.Proofs.Ytkkfkdncddbaeaa.Fn
namespace Go.Proofs.Ytkkfkdncddbaeaa.Fn
open Go.RowKit Go.Proofs.YtkkfkdncddbaeaaW.PrintWords Go.Proofs.YtkkfkdncddbaeaaW.PrintLast Go.Proofs.YtkkfkdncddbaeaaW.PrintMore
attribute [local go_sem] max2_int min2_int max_two min_two max_three min_three max_four min_four
set_option linter.unusedVariables false
set_option linter.unusedSimpArgs false
theorem wf_lt3 {n : Int} (h : (Lit.int .i64 n).wf = true) : n < 9223372036854775808 := by
  simp only [Lit.wf, Bool.and_eq_true, decide_eq_true_eq] at h
  have h2 : n ≤ 9223372036854775807 := h.2
  omega
theorem shared_row (l : List S24) (x : S40) (_ : l.length * 24 ≤ 140737488351232) (w0 : (Lit.int .i64 x.f0).wf = true) (w1 : (Lit.int .i64 x.f1).wf = true) : flagstonelaw09_RefsShared.f l x.f0 x.f1 = some true := by
  unfold flagstonelaw09_RefsShared.f
  rw [if_pos ⟨wf_lt3 w0, wf_lt3 w1⟩]
end Go.Proofs.Ytkkfkdncddbaeaa.Fn
