/- Part 7 of the walk: printed by programs of this session (by way of the kit's print) or told by hand. -/
import Derived.Test.YtkkfkdncddbaeaaT6
namespace Go.Proofs.Ytkkfkdncddbaeaa.Fn
open Go.RowKit Go.Proofs.YtkkfkdncddbaeaaW.PrintWords Go.Proofs.YtkkfkdncddbaeaaW.PrintLast Go.Proofs.YtkkfkdncddbaeaaW.PrintMore
attribute [local go_sem] max2_int min2_int max_two min_two max_three min_three max_four min_four
set_option linter.unusedVariables false
set_option linter.unusedSimpArgs false
def comLn (p n x0 x1 : Int) : Int := mn (wrap64 (wrap64 (p + n) - mx p x0)) (wrap64 (x1 - wrap64 (mx p x0 - x0)))
def shP (x0 x1 : Int) (c : S96) : Bool := decide (0 < comLn c.f0 c.f1 x0 x1) && decide (1 < c.f2)
set_option maxHeartbeats 1000000 in
set_option maxRecDepth 100000 in
theorem shared_cl (c : S96) (b : Nat) (x0 x1 : Int) (w : World) (hb : w.heap[b]? = some (.cells #[.int .i64 x0, .int .i64 x1] 40 (0, 0))) :
    Calls Try.prog 121 #[.agg #[.int .i64 c.f0, .int .i64 c.f1, .int .i64 c.f2], .pointer (some ⟨b, 0, none⟩)] w fun e w' => e = .returned (.bool (shP x0 x1 c)) ∧ Below w.heap.size w w' := by
  have hu40 := Try.underlying40
  have hu96 := Try.underlying96
  have h2 := blk_lt hb
  obtain ⟨n, hn⟩ : ∃ n, n = comLn c.f0 c.f1 x0 x1 := ⟨_, rfl⟩
  have hsh : shP x0 x1 c = (decide (0 < n) && decide (1 < c.f2)) := by rw [hn]; rfl
  rw [hsh]
  obtain ⟨W1, hW1⟩ : ∃ W, W = w.alloc (.cells #[.int .i64 c.f0, .int .i64 c.f1, .int .i64 c.f2] 96) := ⟨_, rfl⟩
  have hbl : Below w.heap.size w W1 := by rw [hW1]; exact (Below.refl w.heap.size w).alloc (Nat.le_refl _) _
  have hc1 : W1.heap[w.heap.size]? = some (.cells #[.int .i64 c.f0, .int .i64 c.f1, .int .i64 c.f2] 96 (0, 0)) := by rw [hW1]; exact blk_new w _
  have hx1 : W1.heap[b]? = some (.cells #[.int .i64 x0, .int .i64 x1] 40 (0, 0)) := (hbl.block b h2).trans hb
  have u0 : W1.cell? ⟨b, 0, none⟩ = some (.int .i64 x0) := (blk_cell hx1 0).trans rfl
  have u1 : W1.cell? ⟨b, 1, none⟩ = some (.int .i64 x1) := (blk_cell hx1 1).trans rfl
  have q0 : W1.cell? ⟨w.heap.size, 0, none⟩ = some (.int .i64 c.f0) := (blk_cell hc1 0).trans rfl
  have q1 : W1.cell? ⟨w.heap.size, 1, none⟩ = some (.int .i64 c.f1) := (blk_cell hc1 1).trans rfl
  have hcm := refs_common.calls c.f0 c.f1 x0 x1 (mx c.f0 x0) (comLn c.f0 c.f1 x0 x1) W1 rfl
  rw [← hn] at hcm
  clear hn hsh
  have HB := Aside0.mk hbl
  have HCM := Aside0.mk hcm
  have HC1 := Aside0.mk hc1
  rw [hW1] at u0 u1 q0 q1
  clear hbl hb hcm hc1 hx1
  go_enter Try.func121, Try.ntmps121
  go_wp2_with fail
  rw [← hW1]
  clear hW1 u0 u1 q0 q1
  refine HCM.out.mono ?_
  rintro e w1 ⟨rfl, hd⟩
  have hc2 : w1.heap[w.heap.size]? = some (.cells #[.int .i64 c.f0, .int .i64 c.f1, .int .i64 c.f2] 96 (0, 0)) := (hd.block _ (blk_lt HC1.out)).trans HC1.out
  have p2 : w1.cell? ⟨w.heap.size, 2, none⟩ = some (.int .i64 c.f2) := (blk_cell hc2 2).trans rfl
  have HB2 := Aside0.mk (below_step HB.out hd)
  clear hd hc2
  by_cases hp : 0 < n
  · have hdp : decide (0 < n) = true := decide_eq_true hp
    go_wp2
    go_ret
    exact ⟨by rw [hdp]; rfl, HB2.out⟩
  · have hdp : decide (0 < n) = false := decide_eq_false hp
    go_wp2
    go_ret
    exact ⟨by rw [hdp]; rfl, HB2.out⟩
def refs_Shared.f (l0 : List (S94)) (a1_0 : Int) (a1_1 : Int) : Option (Bool × Int) := some (if Flag.checkM (l0.map toM) = 0 then (if a1_0 < 0 ∨ a1_1 < 1 then (false, 4) else ((countsL (sortRefL (refsG l0))).any (shP a1_0 a1_1), 0)) else (false, 9))
set_option maxHeartbeats 8000000 in
set_option maxRecDepth 100000 in
theorem refs_Shared.calls (A0 : Option Addr) (c0 : Nat) (l0 : List (S94)) (x0 x1 : Int) (r1 : Bool) (r2 : Int) (w : World) (hr0 : Kd.C k94 w A0 l0.length l0) (hc0 : l0.length ≤ c0) (h : refs_Shared.f l0 x0 x1 = some (r1, r2)) :
    Calls Try.prog 63 #[.slice A0 l0.length c0, .agg #[.int .i64 x0, .int .i64 x1]] w fun e w' => e = .returned (.tuple #[.bool r1, .int .i64 r2]) ∧ Below w.heap.size w w' := by
  have hu40 := Try.underlying40
  have hu96 := Try.underlying96
  unfold refs_Shared.f at h
  have h := Option.some.inj h
  obtain ⟨W1, hW1⟩ : ∃ W, W = w.alloc (.cells #[.int .i64 x0, .int .i64 x1] 40) := ⟨_, rfl⟩
  have hwz : w.heap.size ≤ W1.heap.size := by rw [hW1]; simp
  have hb1 : Below w.heap.size w W1 := by rw [hW1]; exact (Below.refl _ _).alloc (Nat.le_refl _) _
  have hx1 : W1.heap[w.heap.size]? = some (.cells #[.int .i64 x0, .int .i64 x1] 40 (0, 0)) := by rw [hW1]; exact blk_new w _
  have hlt := blk_lt hx1
  have hr1 : Kd.C k94 W1 A0 l0.length l0 := by rw [hW1]; exact Kd.C_alloc hr0 _
  have q0 : W1.cell? ⟨w.heap.size, 0, none⟩ = some (.int .i64 x0) := (blk_cell hx1 0).trans rfl
  have q1 : W1.cell? ⟨w.heap.size, 1, none⟩ = some (.int .i64 x1) := (blk_cell hx1 1).trans rfl
  have HX1 := Aside0.mk hx1
  have HB1 := Aside0.mk hb1
  have HLT := Aside0.mk hlt
  have HWZ := Aside0.mk hwz
  clear hx1 hb1 hr0 hlt hwz
  by_cases hg : Flag.checkM (l0.map toM) = 0 ∧ ¬ (x0 < 0 ∨ x1 < 1)
  · rw [if_pos hg.1, if_neg hg.2] at h
    obtain ⟨rfl, rfl⟩ := Prod.mk.inj h
    have hcall := askCnt.calls A0 c0 l0 x0 x1 (countsL (sortRefL (refsG l0))) 0 W1 hr1 hc0 (by unfold askCnt.f; rw [if_pos hg.1, if_neg hg.2])
    obtain ⟨r, hr⟩ : ∃ r, r = countsL (sortRefL (refsG l0)) := ⟨_, rfl⟩
    rw [← hr] at hcall ⊢
    have HCALL := Aside0.mk hcall
    clear hcall h hr hg hr1
    go_enter Try.func63, Try.ntmps63
    rw [hW1] at q0 q1
    go_wp2_with fail
    rw [← hW1]
    clear hW1 q0 q1
    refine HCALL.out.mono ?_
    rintro e w1 ⟨v1, rfl, hR1, hb2⟩
    obtain ⟨A1, c1, rfl⟩ := Kd.R_slice hR1
    have hRC : Kd.C k96 w1 A1 r.length r := (Kd.R_reads' hR1).2.2
    have HB3 := Aside0.mk (HB1.out.trans (hb2.mono HWZ.out))
    have hX3 : w1.heap[w.heap.size]? = some (.cells #[.int .i64 x0, .int .i64 x1] 40 (0, 0)) := by rw [hb2.block _ HLT.out]; exact HX1.out
    have hhas := has_cnt 121 #[.pointer (some ⟨w.heap.size, 0, none⟩)] (shP x0 x1) (fun args w => enters_ Try.func121 (by kernel_rfl) rfl args w) A1 c1 r w1 hRC
      (fun W x hB => Calls.mono (shared_cl x w.heap.size x0 x1 W ((hB.block _ (blk_lt hX3)).trans hX3)) fun e w' h => ⟨h.1, below_step hB h.2⟩)
    have HHAS := Aside0.mk hhas
    clear hR1 hb2 hRC HB1 HX1 HCALL hX3 hhas
    go_wp2_with fail
    refine HHAS.out.mono ?_
    rintro e w2 ⟨rfl, hb3⟩
    have HB4 := Aside0.mk (HB3.out.trans (hb3.mono HB3.out.size))
    clear hb3
    go_wp2
    go_ret2
    exact ⟨rfl, HB4.out⟩
  · obtain ⟨ec, hec, hne, hr1', hr2'⟩ : ∃ ec : Int, askCnt.f l0 x0 x1 = some ([], ec) ∧ ec ≠ 0 ∧ r1 = false ∧ r2 = ec := by
      unfold askCnt.f
      by_cases hc : Flag.checkM (l0.map toM) = 0
      · have hb : x0 < 0 ∨ x1 < 1 := Classical.byContradiction fun hb => hg ⟨hc, hb⟩
        rw [if_pos hc, if_pos hb] at h
        obtain ⟨rfl, rfl⟩ := Prod.mk.inj h
        exact ⟨4, by rw [if_pos hc, if_pos hb], by decide, rfl, rfl⟩
      · rw [if_neg hc] at h
        obtain ⟨rfl, rfl⟩ := Prod.mk.inj h
        exact ⟨9, by rw [if_neg hc], by decide, rfl, rfl⟩
    subst hr1' hr2'
    have hcall := askCnt.calls A0 c0 l0 x0 x1 [] r2 W1 hr1 hc0 hec
    have HCALL := Aside0.mk hcall
    have hbn : (r2 != 0) = true := bne_iff_ne.mpr hne
    clear hcall hec h hg hr1 hne
    go_enter Try.func63, Try.ntmps63
    rw [hW1] at q0 q1
    go_wp2_with fail
    rw [← hW1]
    clear hW1 q0 q1
    refine HCALL.out.mono ?_
    rintro e w1 ⟨v1, rfl, hR1, hb2⟩
    have HB3 := Aside0.mk (HB1.out.trans (hb2.mono HWZ.out))
    clear hR1 hb2
    go_wp2
    go_ret2
    exact ⟨rfl, HB3.out⟩
def refs_Used.l0 : Nat → List (S40) → List (S88) → Int → Int → Option ((List (S40)) × Int)
 | 0, _, _, _, _ => none
 | k + 1, x6, x17, x18, x19 => if x19 < x18 then (if 0 ≤ x19 then (if x19 < (x17.length : Int) then (if x6.length < 8796093022208 then (refs_Used.l0 k (x6 ++ [(⟨(rd_T88 x17 x19).f0, (rd_T88 x17 x19).f1⟩ : S40)]) x17 x18 (wrap64 (x19 + 1))) else (none)) else (none)) else (none)) else ((extent_Join.f x6).bind fun t110 => (some (t110, 0)))
def refs_Used.f (k : Nat) (l0 : List (S94)) : Option ((List (S40)) × Int) := (refs_Refs.f l0).bind fun bt101 => (if bt101.2 = 0 then (refs_Used.l0 k ([] : List (S40)) bt101.1 (bt101.1.length : Int) 0) else (some (([] : List (S40)), bt101.2)))
theorem refs_Used.mono_l : ∀ k, (∀ y0 y1 y2 y3, LeO (refs_Used.l0 k y0 y1 y2 y3) (refs_Used.l0 (k + 1) y0 y1 y2 y3))
 | 0 => fun _ _ _ _ r h => by simp [refs_Used.l0] at h
 | k + 1 => by
  have ih0 := refs_Used.mono_l k
  ·intro y0 y1 y2 y3
   unfold refs_Used.l0
   repeat' first
   | (with_reducible exact ih0 _ _ _ _)
   | (with_reducible exact LeO.refl _)
   | (with_reducible exact LeO.none _)
   | (with_reducible refine LeO.ite ?_ ?_)
   | (with_reducible refine LeO.bind ?_ (fun _ => ?_))
   | exact ih0 _ _ _ _
   | exact LeO.none _
   | refine LeO.ite ?_ ?_
   | refine LeO.bind ?_ (fun _ => ?_)
theorem refs_Used.mono : ∀ a0 k, LeO (refs_Used.f k a0) (refs_Used.f (k + 1) a0) := by
 intro a0 k
 have ih0 := refs_Used.mono_l k
 unfold refs_Used.f
 repeat' first
  | (with_reducible exact ih0 _ _ _ _)
  | (with_reducible exact LeO.refl _)
  | (with_reducible exact LeO.none _)
  | (with_reducible refine LeO.ite ?_ ?_)
  | (with_reducible refine LeO.bind ?_ (fun _ => ?_))
  | exact ih0 _ _ _ _
  | exact LeO.none _
  | refine LeO.ite ?_ ?_
  | refine LeO.bind ?_ (fun _ => ?_)
set_option maxHeartbeats 8000000 in
set_option maxRecDepth 100000 in
theorem refs_Used.calls (k : Nat) (A0 : Option Addr) (c0 : Nat) (l0 : List (S94)) (r1 : List (S40)) (r2 : Int) (w : World) (hr0 : Kd.C k94 w A0 l0.length l0) (hc0 : l0.length ≤ c0) (h : refs_Used.f k l0 = some (r1, r2)) :
 Calls Try.prog 64 #[.slice A0 l0.length c0] w fun e w' => ∃ v0_ : Value, e = .returned (.tuple #[v0_, .int .i64 r2]) ∧ Kd.R k40 40 w' w.heap.size (fun _ => True) v0_ r1 ∧ Below w.heap.size w w' := by
 have hu88 := Try.underlying88
 have hu40 := Try.underlying40
 have HR0 := Aside0.mk hr0
 have HC0 := Aside0.mk hc0
 clear hr0 hc0
 have HB := Aside0.mk (Below.refl w.heap.size w)
 have H : ((refs_Refs.f l0).bind fun bt101 => (if bt101.2 = 0 then (refs_Used.l0 k ([] : List (S40)) bt101.1 (bt101.1.length : Int) 0) else (some (([] : List (S40)), bt101.2)))) = some (r1, r2) := h
 clear h
 replace H := Option.bind_eq_some_iff.mp H
 obtain ⟨⟨t101, t102⟩, A20, H⟩ := H
 replace H : (if t102 = 0 then (refs_Used.l0 k ([] : List (S40)) t101 (t101.length : Int) 0) else (some (([] : List (S40)), t102))) = some (r1, r2) := H
 have A2 := Aside0.mk A20
 clear A20
 by_cases c3 : t102 = 0
 ·rw [if_pos c3] at H
  have c3b0 : (t102 == 0) = true := beq_iff_eq.mpr c3
  have c3b1 : (t102 != 0) = false := bne_eq_false_iff_eq.mpr c3
  clear c3
  have H' := Aside0.mk H
  clear H
  go_enter Try.func64, Try.ntmps64
  go_wp2_with (first | ((with_reducible refine gate_callee (f := 65) rfl ?_); refine goesL_ (some 11) rfl rfl Try.func65 (by kernel_rfl) rfl #[.slice A0 l0.length c0] rfl (by (try simp only [List.map_toArray, List.map_cons, List.map_nil]); first | done | rfl | (simp only [List.length_drop, List.length_take]; rfl)) ?_; (with_reducible refine (refs_Refs.calls _ _ l0 t101 t102 _ ?side1 ?side2 A2.out).mono ?_); (case side1 => repeat (first | exact HR0.out | (with_reducible refine Kd.C_alloc ?_ _) | (with_reducible refine Kd.C_drewN ?_ _) | (with_reducible refine Kd.C_drew ?_))); (case side2 => exact HC0.out); rintro e w4 ⟨v103, rfl, ho0, hb⟩; refine ⟨_, rfl, ?_⟩; have n0_ := Aside0.mk (Kd.R_lower ho0 (below_size (by repeat (first | (with_reducible first | exact HB.out | apply below_alloc | apply pw_below_drewN | apply below_drew1) | exact HB.out)))); have n1_ := Aside0.mk (below_step (by repeat (first | (with_reducible first | exact HB.out | apply below_alloc | apply pw_below_drewN | apply below_drew1) | exact HB.out)) hb); clear HB; have HO104 := n0_; have HB := n1_; clear n0_ n1_; (try clear hb); (try clear hb2); (try clear hk); (try clear hi); (try clear ho0); obtain ⟨Ao5, co5, eo5⟩ := Kd.R_slice HO104.out; subst eo5))
  go_loopg [6, 19] k (fun kq v6 v19 w' => ∃ (x6_1 : List (S40)) (x19_1 : Int), v19 = .int .i64 x19_1 ∧ Aside0 (refs_Used.l0 kq x6_1 t101 (t101.length : Int) x19_1 = some (r1, r2)) ∧ Aside0 (kq ≤ k) ∧ Aside0 (Kd.R k40 40 w' w.heap.size (fun _ => True) v6 x6_1) ∧ Aside0 (Kd.R k88 88 w' w.heap.size (fun _ => True) (.slice Ao5 t101.length co5) t101) ∧ Aside0 (Below w.heap.size w w'))
  case atStart => exact ⟨(([] : List (S40))), (0), (by first | rfl | (simp; done) | (simp [*]; done)), H', ⟨Nat.le_refl _⟩, ⟨by first | exact Kd.R_nil _ _ _ _ _ | exact Kd.N_nil _ _ _ _ _ | exact Kd.V_nil _ _ _ _ _ | exact Kd.Q_nil _ _ _ _ _ | exact Kd.S_nil _ _ _ _ _⟩, ⟨by (with_reducible repeat (first | apply Kd.R_alloc | apply Kd.R_drewN | apply Kd.R_drew)); exact HO104.out⟩, ⟨by repeat (first | (with_reducible first | exact HB.out | apply below_alloc | apply pw_below_drewN | apply below_drew1) | exact HB.out)⟩⟩
  case round =>
   clear H'
   try clear p2
   try clear c3
   try clear c3b0
   try clear c3b1
   obtain ⟨x6_1, x19_1, rfl, HA, HK1, HO_6, HO_17, HB⟩ := hrel
   cases gk with
   | zero => exact absurd HA.out (by simp [refs_Used.l0])
   | succ k1 =>
    have H := HA.out
    clear HA
    simp only [refs_Used.l0] at H
    by_cases c6 : x19_1 < (t101.length : Int)
    ·rw [if_pos c6] at H
     have c6b0 : decide (x19_1 < (t101.length : Int)) = true := decide_eq_true c6
     clear c6
     by_cases c7 : 0 ≤ x19_1
     ·rw [if_pos c7] at H
      have c7b0 : decide (0 ≤ x19_1) = true := decide_eq_true c7
      clear c7
      by_cases c8 : x19_1 < (t101.length : Int)
      ·rw [if_pos c8] at H
       have c8b0 : decide (x19_1 < (t101.length : Int)) = true := decide_eq_true c8
       clear c8
       by_cases c9 : x6_1.length < 8796093022208
       ·rw [if_pos c9] at H
        have LMc9 := Aside0.mk c9
        clear c9
        obtain ⟨y107, hy107⟩ : ∃ y_ : List (S40), y_ = (x6_1 ++ [(⟨(rd_T88 t101 x19_1).f0, (rd_T88 t101 x19_1).f1⟩ : S40)]) := ⟨_, rfl⟩
        replace H : (refs_Used.l0 k1 y107 t101 (t101.length : Int) (wrap64 (x19_1 + 1))) = some (r1, r2) := by first | (rw [hy107]; with_reducible exact H) | (have H2_ := (Option.bind_some _ _).symm.trans H; rw [hy107]; with_reducible exact H2_) | (have H2_ := (Option.bind_some _ _).symm.trans H; with_reducible exact H2_) | with_reducible exact H | (rw [hy107]; exact H) | exact H
        have Ny107 := Aside0.mk hy107
        clear hy107
        have H' := Aside0.mk H
        clear H
        have p105 : 0 ≤ (x19_1 : Int) := of_decide_eq_true (by first | (with_reducible assumption) | assumption)
        have q105 : x19_1 < (t101.length : Int) := of_decide_eq_true (by first | (with_reducible assumption) | assumption)
        obtain ⟨ad105, e105, hx105_0, hx105_1, hx105_2, hx105_3⟩ := at_T88 (Kd.R_reads' HO_17.out).2.2 x19_1 p105 q105
        cases e105
        replace p105 := eq_true p105
        replace q105 := eq_true q105
        go_wp2_with (first | ((with_reducible refine gate_dst (N := 8) rfl ?_); refine box_event ?hg (N := 8) ?hd (cs := #[.int .i64 0, .int .i64 0, .int .i64 0, .int .i64 0]) (t := 88) ?hr ?_; (case hd => rfl); (case hg => rfl); (case hr => first | (go_simp; done) | (go_simp; rfl)); intro gb106 hg w10 hbox hb; have n0_ := Aside0.mk (Kd.R_below (by (with_reducible repeat (first | apply Kd.R_alloc | apply Kd.R_drewN | apply Kd.R_drew)); exact HO_6.out) hb); have n1_ := Aside0.mk (Kd.R_below (Kd.R_elderB (by (with_reducible repeat (first | apply Kd.R_alloc | apply Kd.R_drewN | apply Kd.R_drew)); exact HO_17.out) gb106 (Nat.le_of_eq hg.symm)) hb); have n2_ := Aside0.mk (below_step (by repeat (first | (with_reducible first | exact HB.out | apply below_alloc | apply pw_below_drewN | apply below_drew1) | exact HB.out)) hb); have n3_ := Aside0.mk (hbox); have n4_ := Aside0.mk ((by rw [hg]; exact (below_size (by repeat (first | (with_reducible first | exact HB.out | apply below_alloc | apply pw_below_drewN | apply below_drew1) | exact HB.out))) : w.heap.size ≤ gb106)); have n5_ := Aside0.mk ((by rw [hg]; exact (below_size (by repeat (first | (with_reducible first | exact HB.out | apply below_alloc | apply pw_below_drewN | apply below_drew1) | exact HB.out))) : w.heap.size ≤ gb106)); clear HO_6; clear HO_17; clear HB; have HO_6 := n0_; have HO_17 := n1_; have HB := n2_; have BK106 := n3_; have GW106 := n4_; have GE106 := n5_; clear n0_ n1_ n2_ n3_ n4_ n5_; clear hb hbox hg; have hcz11_0 : w10.cell? ⟨gb106, 0, none⟩ = some (.int .i64 0) := (blk_cell BK106.out 0).trans rfl; have hcz11_1 : w10.cell? ⟨gb106, 1, none⟩ = some (.int .i64 0) := (blk_cell BK106.out 1).trans rfl; have hcz11_2 : w10.cell? ⟨gb106, 2, none⟩ = some (.int .i64 0) := (blk_cell BK106.out 2).trans rfl; have hcz11_3 : w10.cell? ⟨gb106, 3, none⟩ = some (.int .i64 0) := (blk_cell BK106.out 3).trans rfl; have hfz11_0 := blk_frozen BK106.out 0; have hfz11_1 := blk_frozen BK106.out 1; have hfz11_2 := blk_frozen BK106.out 2; have hfz11_3 := blk_frozen BK106.out 3) | ((with_reducible refine gate_builtin (b := .append) (xs := #[.tmp 23, .tmp 29]) rfl ?_); at_builtin; refine Kd.R_append k40 (w0 := w) w.heap.size rfl (.tmp 23) (.tmp 29) 54 40 (.agg #[(.int .i64 0), (.int .i64 0)]) 16 rfl Try.underlying54 info40 rfl (by decide) (by omega) u6 x6_1 (⟨(rd_T88 t101 x19_1).f0, (rd_T88 t101 x19_1).f1⟩ : S40) [.int .i64 ((rd_T88 t101 x19_1).f0), .int .i64 ((rd_T88 t101 x19_1).f1)] (fun _ => True) (fun _ => False) rfl (by first | (go_simp; done) | (go_simp; rfl)) ?aP (fun _ hk => hk.elim) ?aF ?aO ?aB ?aS ?aL ?_; (case aP => exact k40_mkM _ _ _ (⟨(rd_T88 t101 x19_1).f0, (rd_T88 t101 x19_1).f1⟩ : S40)); (case aB => exact (by repeat (first | (with_reducible first | exact HB.out | apply below_alloc | apply pw_below_drewN | apply below_drew1 | refine below_set ?_ GE106.out) | exact HB.out))); (case aF => exact (fun _ _ => trivial)); (case aO => exact (by (with_reducible repeat (first | apply Kd.R_alloc | apply Kd.R_drewN | apply Kd.R_drew)); exact Kd.R_mono (Kd.R_far (p := ⟨gb106, 3, none⟩) (Kd.R_far (p := ⟨gb106, 2, none⟩) (Kd.R_far (p := ⟨gb106, 1, none⟩) (Kd.R_far (p := ⟨gb106, 0, none⟩) (Kd.R_types HO_6.out BK106.out (by decide)) (fun _ hk => hk.2) (.int .i64 ((rd_T88 t101 x19_1).f0))) (fun _ hk => hk.2) (.int .i64 ((rd_T88 t101 x19_1).f1))) (fun _ hk => hk.2) (.int .i64 ((rd_T88 t101 x19_1).f2))) (fun _ hk => hk.2) (.int .i64 ((rd_T88 t101 x19_1).f3))) (fun _ hk => trivial))); (case aS => exact (below_size (by repeat (first | (with_reducible first | exact HB.out | apply below_alloc | apply pw_below_drewN | apply below_drew1 | refine below_set ?_ GE106.out) | exact HB.out)))); (case aL => have := LMc9.out; omega); intro v108 w12 ho hb hg hat; rw [← Ny107.out] at ho; have n0_ := Aside0.mk (Kd.R_over' (by (with_reducible repeat (first | apply Kd.R_alloc | apply Kd.R_drewN | apply Kd.R_drew)); exact (Kd.R_mono (Kd.R_far (p := ⟨gb106, 3, none⟩) (Kd.R_far (p := ⟨gb106, 2, none⟩) (Kd.R_far (p := ⟨gb106, 1, none⟩) (Kd.R_far (p := ⟨gb106, 0, none⟩) (Kd.R_mono HO_17.out (fun k_ hk => (⟨hk, hk.2⟩ : _ ∧ k_ ≠ gb106))) (fun _ hk => hk.2) (.int .i64 ((rd_T88 t101 x19_1).f0))) (fun _ hk => hk.2) (.int .i64 ((rd_T88 t101 x19_1).f1))) (fun _ hk => hk.2) (.int .i64 ((rd_T88 t101 x19_1).f2))) (fun _ hk => hk.2) (.int .i64 ((rd_T88 t101 x19_1).f3))) (fun _ h_ => h_.1))) (Kd.R_typed (by (with_reducible repeat (first | apply Kd.R_alloc | apply Kd.R_drewN | apply Kd.R_drew)); exact (Kd.R_mono (Kd.R_far (p := ⟨gb106, 3, none⟩) (Kd.R_far (p := ⟨gb106, 2, none⟩) (Kd.R_far (p := ⟨gb106, 1, none⟩) (Kd.R_far (p := ⟨gb106, 0, none⟩) (Kd.R_types HO_6.out BK106.out (by decide)) (fun _ hk => hk.2) (.int .i64 ((rd_T88 t101 x19_1).f0))) (fun _ hk => hk.2) (.int .i64 ((rd_T88 t101 x19_1).f1))) (fun _ hk => hk.2) (.int .i64 ((rd_T88 t101 x19_1).f2))) (fun _ hk => hk.2) (.int .i64 ((rd_T88 t101 x19_1).f3))) (fun _ h_ => h_.1)))) (by decide) hg); have n1_ := Aside0.mk (blk_grown (g := gb106) (o := .cells #[.int .i64 ((rd_T88 t101 x19_1).f0), .int .i64 ((rd_T88 t101 x19_1).f1), .int .i64 ((rd_T88 t101 x19_1).f2), .int .i64 ((rd_T88 t101 x19_1).f3)] 88 (0, 0)) (by (with_reducible repeat (first | refine blk_drewN ?_ _ | refine blk_drew ?_ | refine blk_alloc ?_ _)); refine blk_put (cs := #[.int .i64 ((rd_T88 t101 x19_1).f0), .int .i64 ((rd_T88 t101 x19_1).f1), .int .i64 ((rd_T88 t101 x19_1).f2), .int .i64 0]) ?_ 3 _ rfl; (with_reducible repeat (first | refine blk_drewN ?_ _ | refine blk_drew ?_ | refine blk_alloc ?_ _)); refine blk_put (cs := #[.int .i64 ((rd_T88 t101 x19_1).f0), .int .i64 ((rd_T88 t101 x19_1).f1), .int .i64 0, .int .i64 0]) ?_ 2 _ rfl; (with_reducible repeat (first | refine blk_drewN ?_ _ | refine blk_drew ?_ | refine blk_alloc ?_ _)); refine blk_put (cs := #[.int .i64 ((rd_T88 t101 x19_1).f0), .int .i64 0, .int .i64 0, .int .i64 0]) ?_ 1 _ rfl; (with_reducible repeat (first | refine blk_drewN ?_ _ | refine blk_drew ?_ | refine blk_alloc ?_ _)); refine blk_put (cs := #[.int .i64 0, .int .i64 0, .int .i64 0, .int .i64 0]) ?_ 0 _ rfl; (with_reducible repeat (first | refine blk_drewN ?_ _ | refine blk_drew ?_ | refine blk_alloc ?_ _)); exact BK106.out) hg (Kd.R_ne HO_6.out BK106.out (by decide))); have n2_ := Aside0.mk (hb); have n3_ := Aside0.mk (ho); clear HO_17; clear BK106; clear HB; clear HO_6; have HO_17 := n0_; have BK106 := n1_; have HB := n2_; have HO109 := n3_; clear n0_ n1_ n2_ n3_; clear ho hb hg hat))
        go_roundg k1
        case measure => have := HK1.out; omega
        case rel => exact ⟨(y107), (wrap64 (x19_1 + 1)), (by first | rfl | (simp; done) | (simp [*]; done)), H', ⟨by have := HK1.out; omega⟩, ⟨by (with_reducible repeat (first | apply Kd.R_alloc | apply Kd.R_drewN | apply Kd.R_drew)); exact HO109.out⟩, ⟨by (with_reducible repeat (first | apply Kd.R_alloc | apply Kd.R_drewN | apply Kd.R_drew)); exact Kd.R_mono HO_17.out (fun _ hk => trivial)⟩, ⟨by repeat (first | (with_reducible first | exact HB.out | apply below_alloc | apply pw_below_drewN | apply below_drew1 | refine below_set ?_ GE106.out) | exact HB.out)⟩⟩
       ·rw [if_neg c9] at H
        exact absurd H (by simp)
      ·rw [if_neg c8] at H
       exact absurd H (by simp)
     ·rw [if_neg c7] at H
      exact absurd H (by simp)
    ·rw [if_neg c6] at H
     have c6b0 : decide (x19_1 < (t101.length : Int)) = false := decide_eq_false c6
     clear c6
     replace H := Option.bind_eq_some_iff.mp H
     obtain ⟨t110, A130, H⟩ := H
     replace H : (some (t110, 0)) = some (r1, r2) := H
     have A13 := Aside0.mk A130
     clear A130
     simp only [Option.some.injEq, Prod.mk.injEq] at H
     obtain ⟨rfl, rfl⟩ := H
     obtain ⟨Ao14, co14, eo14⟩ := Kd.R_slice HO_6.out
     subst eo14
     go_wp2_with (first | ((with_reducible refine gate_callee (f := 111) rfl ?_); refine goesL_ (some 33) rfl rfl Try.func111 (by kernel_rfl) rfl #[.slice Ao14 x6_1.length co14] rfl (by (try simp only [List.map_toArray, List.map_cons, List.map_nil]); first | done | rfl | (simp only [List.length_drop, List.length_take]; rfl)) ?_; (with_reducible refine (extent_Join.calls _ _ x6_1 t110 _ ?side1 ?side2 A13.out).mono ?_); (case side1 => repeat (first | exact (Kd.R_reads' HO_6.out).2.2 | (with_reducible refine Kd.C_alloc ?_ _) | (with_reducible refine Kd.C_drewN ?_ _) | (with_reducible refine Kd.C_drew ?_))); (case side2 => exact (Kd.R_reads' HO_6.out).2.1); rintro e w15 ⟨v111, rfl, ho0, hb⟩; refine ⟨_, rfl, ?_⟩; have n0_ := Aside0.mk (Kd.R_elder' (by (with_reducible repeat (first | apply Kd.R_alloc | apply Kd.R_drewN | apply Kd.R_drew)); exact HO_6.out) (Kd.R_base ho0) hb); have n1_ := Aside0.mk (Kd.R_below (by (with_reducible repeat (first | apply Kd.R_alloc | apply Kd.R_drewN | apply Kd.R_drew)); exact HO_17.out) hb); have n2_ := Aside0.mk (Kd.R_lower (Kd.R_new' ho0 (Kd.R_lt (by (with_reducible repeat (first | apply Kd.R_alloc | apply Kd.R_drewN | apply Kd.R_drew)); exact HO_6.out))) (below_size (by repeat (first | (with_reducible first | exact HB.out | apply below_alloc | apply pw_below_drewN | apply below_drew1) | exact HB.out)))); have n3_ := Aside0.mk (below_step (by repeat (first | (with_reducible first | exact HB.out | apply below_alloc | apply pw_below_drewN | apply below_drew1) | exact HB.out)) hb); clear HO_6; clear HO_17; clear HB; have HO_6 := n0_; have HO_17 := n1_; have HO112 := n2_; have HB := n3_; clear n0_ n1_ n2_ n3_; (try clear hb); (try clear hb2); (try clear hk); (try clear hi); (try clear ho0)))
     go_ret2
     exact ⟨_, by first | rfl | (simp [errW_none, errW_some] <;> rfl) | (simp [*, errW_none, errW_some] <;> rfl), by (with_reducible repeat (first | apply Kd.R_alloc | apply Kd.R_drewN | apply Kd.R_drew)); exact Kd.R_mono HO112.out (fun _ hk => trivial), by repeat (first | (with_reducible first | exact HB.out | apply below_alloc | apply pw_below_drewN | apply below_drew1) | exact HB.out)⟩
 ·rw [if_neg c3] at H
  have c3b0 : (t102 == 0) = false := beq_eq_false_iff_ne.mpr c3
  have c3b1 : (t102 != 0) = true := bne_iff_ne.mpr c3
  simp only [Option.some.injEq, Prod.mk.injEq] at H
  obtain ⟨rfl, rfl⟩ := H
  go_enter Try.func64, Try.ntmps64
  go_wp2_with (first | ((with_reducible refine gate_callee (f := 65) rfl ?_); refine goesL_ (some 11) rfl rfl Try.func65 (by kernel_rfl) rfl #[.slice A0 l0.length c0] rfl (by (try simp only [List.map_toArray, List.map_cons, List.map_nil]); first | done | rfl | (simp only [List.length_drop, List.length_take]; rfl)) ?_; (with_reducible refine (refs_Refs.calls _ _ l0 t101 t102 _ ?side1 ?side2 A2.out).mono ?_); (case side1 => repeat (first | exact HR0.out | (with_reducible refine Kd.C_alloc ?_ _) | (with_reducible refine Kd.C_drewN ?_ _) | (with_reducible refine Kd.C_drew ?_))); (case side2 => exact HC0.out); rintro e w16 ⟨v103, rfl, ho0, hb⟩; refine ⟨_, rfl, ?_⟩; have n0_ := Aside0.mk (Kd.R_lower ho0 (below_size (by repeat (first | (with_reducible first | exact HB.out | apply below_alloc | apply pw_below_drewN | apply below_drew1) | exact HB.out)))); have n1_ := Aside0.mk (below_step (by repeat (first | (with_reducible first | exact HB.out | apply below_alloc | apply pw_below_drewN | apply below_drew1) | exact HB.out)) hb); clear HB; have HO104 := n0_; have HB := n1_; clear n0_ n1_; (try clear hb); (try clear hb2); (try clear hk); (try clear hi); (try clear ho0)))
  go_ret2
  exact ⟨_, by first | rfl | (simp [errW_none, errW_some] <;> rfl) | (simp [*, errW_none, errW_some] <;> rfl), by first | exact Kd.R_nil _ _ _ _ _ | exact Kd.N_nil _ _ _ _ _ | exact Kd.V_nil _ _ _ _ _ | exact Kd.Q_nil _ _ _ _ _ | exact Kd.S_nil _ _ _ _ _, by repeat (first | (with_reducible first | exact HB.out | apply below_alloc | apply pw_below_drewN | apply below_drew1) | exact HB.out)⟩
end Go.Proofs.Ytkkfkdncddbaeaa.Fn
namespace Go.Proofs.Ytkkfkdncddbaeaa.Fn
open Go.RowKit Go.Proofs.YtkkfkdncddbaeaaW.PrintWords Go.Proofs.YtkkfkdncddbaeaaW.PrintLast Go.Proofs.YtkkfkdncddbaeaaW.PrintMore
attribute [local go_sem] max2_int min2_int max_two min_two max_three min_three max_four min_four
set_option linter.unusedVariables false
set_option linter.unusedSimpArgs false
attribute [local go_sem high] eqA114
mutual
def flagstonelaw09_RefsTells.j0 : Nat → List (S86) → List (S94) → List (S96) → List (S114) → Bool → Option (Bool)
 | 0, _, _, _, _, _ => none
 | k + 1, x0, x5, x10, x12, x140 => if x140 = true then (none) else (flagstonelaw09_RefsTells.l0 k x0 x5 x10 x12 0)
def flagstonelaw09_RefsTells.l0 : Nat → List (S86) → List (S94) → List (S96) → List (S114) → Int → Option (Bool)
 | 0, _, _, _, _, _ => none
 | k + 1, x0, x5, x10, x12, x26 => if x26 < (x10.length : Int) then (if 0 ≤ x26 then (if x26 < (x12.length : Int) then (if (!(((rd_T96 x10 x26).f0) == ((rd_T114 x12 x26).f0)) || (!(((rd_T96 x10 x26).f1) == ((rd_T114 x12 x26).f1)) || (!(((rd_T96 x10 x26).f2) == ((rd_T114 x12 x26).f2))))) = true then (none) else (flagstonelaw09_RefsTells.l0 k x0 x5 x10 x12 (wrap64 (x26 + 1)))) else (none)) else (none)) else ((refs_Check.f k x5).bind fun t151 => ((flagstonelaw09_num.f t151).bind fun t152 => ((flagstoneref09_Check.f k x0).bind fun t153 => (if t152 = t153 then ((flagstonelaw09_Alike.f k x5 x0).bind fun t154 => (if t154 = 0 then ((flagstonelaw09_alive.f).bind fun t155 => (some t155)) else (none))) else (none)))))
end
def flagstonelaw09_RefsTells.f (k : Nat) (l0 : List (S86)) (a1_0 : Int) (a1_1 : Int) : Option (Bool) := (flagstonelaw09_Of.f k l0).bind fun t102 => ((refs_Refs.f t102).bind fun bt105 => ((flagstoneref09_Refs.f k l0).bind fun bt109 => ((refs_Counts.f t102).bind fun bt113 => ((flagstoneref09_Counts.f k l0).bind fun bt117 => ((refs_Who.f t102 a1_0 a1_1).bind fun bt121 => ((flagstoneref09_Who.f k l0 a1_0 a1_1).bind fun bt125 => ((refs_Used.f k t102).bind fun bt129 => ((flagstoneref09_Used.f k l0).bind fun bt133 => ((refs_Shared.f t102 a1_0 a1_1).bind fun bt137 => ((flagstoneref09_Shared.f k l0 a1_0 a1_1).bind fun bt139 => ((flagstonelaw09_sameRefs.f k bt105.1 bt109.1).bind fun t141 => (if t141 = true then ((flagstonelaw09_num.f bt105.2).bind fun t142 => (if t142 = bt109.2 then (if (bt113.1.length : Int) = (bt117.1.length : Int) then ((flagstonelaw09_num.f bt113.2).bind fun t143 => (if t143 = bt117.2 then ((flagstonelaw09_sameRefs.f k bt121.1 bt125.1).bind fun t144 => (if t144 = true then ((flagstonelaw09_num.f bt121.2).bind fun t145 => (if t145 = bt125.2 then ((flagstoneplain_SameSpans.f k bt129.1 bt133.1).bind fun t146 => (if t146 = true then ((flagstonelaw09_num.f bt129.2).bind fun t147 => (if t147 = bt133.2 then (if (bt137.1 != bt139.1) = true then (none) else ((flagstonelaw09_num.f bt137.2).bind fun t148 => (flagstonelaw09_RefsTells.j0 k l0 t102 bt113.1 bt117.1 (t148 != bt139.2)))) else (none))) else (none))) else (none))) else (none))) else (none))) else (none)) else (none))) else (none)))))))))))))
theorem flagstonelaw09_RefsTells.mono_l : ∀ k, (∀ y0 y1 y2 y3 y4, LeO (flagstonelaw09_RefsTells.j0 k y0 y1 y2 y3 y4) (flagstonelaw09_RefsTells.j0 (k + 1) y0 y1 y2 y3 y4)) ∧ (∀ y0 y1 y2 y3 y4, LeO (flagstonelaw09_RefsTells.l0 k y0 y1 y2 y3 y4) (flagstonelaw09_RefsTells.l0 (k + 1) y0 y1 y2 y3 y4))
 | 0 => ⟨fun _ _ _ _ _ r h => by simp [flagstonelaw09_RefsTells.j0] at h, fun _ _ _ _ _ r h => by simp [flagstonelaw09_RefsTells.l0] at h⟩
 | k + 1 => by
  obtain ⟨ih0, ih1⟩ := flagstonelaw09_RefsTells.mono_l k
  refine ⟨?_, ?_⟩
  ·intro y0 y1 y2 y3 y4
   unfold flagstonelaw09_RefsTells.j0
   repeat' first
   | (with_reducible exact ih0 _ _ _ _ _)
   | (with_reducible exact ih1 _ _ _ _ _)
   | (with_reducible exact flagstonelaw09_Alike.mono _ _ _)
   | (with_reducible exact flagstonelaw09_Of.mono _ _)
   | (with_reducible exact flagstonelaw09_sameRefs.mono _ _ _)
   | (with_reducible exact flagstoneplain_SameSpans.mono _ _ _)
   | (with_reducible exact flagstoneref09_Check.mono _ _)
   | (with_reducible exact flagstoneref09_Counts.mono _ _)
   | (with_reducible exact flagstoneref09_Refs.mono _ _)
   | (with_reducible exact flagstoneref09_Shared.mono _ _ _ _)
   | (with_reducible exact flagstoneref09_Used.mono _ _)
   | (with_reducible exact flagstoneref09_Who.mono _ _ _ _)
   | (with_reducible exact refs_Check.mono _ _)
   | (with_reducible exact refs_Used.mono _ _)
   | (with_reducible exact LeO.refl _)
   | (with_reducible exact LeO.none _)
   | (with_reducible refine LeO.ite ?_ ?_)
   | (with_reducible refine LeO.bind ?_ (fun _ => ?_))
   | exact ih0 _ _ _ _ _
   | exact ih1 _ _ _ _ _
   | exact flagstonelaw09_Alike.mono _ _ _
   | exact flagstonelaw09_Of.mono _ _
   | exact flagstonelaw09_sameRefs.mono _ _ _
   | exact flagstoneplain_SameSpans.mono _ _ _
   | exact flagstoneref09_Check.mono _ _
   | exact flagstoneref09_Counts.mono _ _
   | exact flagstoneref09_Refs.mono _ _
   | exact flagstoneref09_Shared.mono _ _ _ _
   | exact flagstoneref09_Used.mono _ _
   | exact flagstoneref09_Who.mono _ _ _ _
   | exact refs_Check.mono _ _
   | exact refs_Used.mono _ _
   | exact LeO.none _
   | refine LeO.ite ?_ ?_
   | refine LeO.bind ?_ (fun _ => ?_)
  ·intro y0 y1 y2 y3 y4
   unfold flagstonelaw09_RefsTells.l0
   repeat' first
   | (with_reducible exact ih0 _ _ _ _ _)
   | (with_reducible exact ih1 _ _ _ _ _)
   | (with_reducible exact flagstonelaw09_Alike.mono _ _ _)
   | (with_reducible exact flagstonelaw09_Of.mono _ _)
   | (with_reducible exact flagstonelaw09_sameRefs.mono _ _ _)
   | (with_reducible exact flagstoneplain_SameSpans.mono _ _ _)
   | (with_reducible exact flagstoneref09_Check.mono _ _)
   | (with_reducible exact flagstoneref09_Counts.mono _ _)
   | (with_reducible exact flagstoneref09_Refs.mono _ _)
   | (with_reducible exact flagstoneref09_Shared.mono _ _ _ _)
   | (with_reducible exact flagstoneref09_Used.mono _ _)
   | (with_reducible exact flagstoneref09_Who.mono _ _ _ _)
   | (with_reducible exact refs_Check.mono _ _)
   | (with_reducible exact refs_Used.mono _ _)
   | (with_reducible exact LeO.refl _)
   | (with_reducible exact LeO.none _)
   | (with_reducible refine LeO.ite ?_ ?_)
   | (with_reducible refine LeO.bind ?_ (fun _ => ?_))
   | exact ih0 _ _ _ _ _
   | exact ih1 _ _ _ _ _
   | exact flagstonelaw09_Alike.mono _ _ _
   | exact flagstonelaw09_Of.mono _ _
   | exact flagstonelaw09_sameRefs.mono _ _ _
   | exact flagstoneplain_SameSpans.mono _ _ _
   | exact flagstoneref09_Check.mono _ _
   | exact flagstoneref09_Counts.mono _ _
   | exact flagstoneref09_Refs.mono _ _
   | exact flagstoneref09_Shared.mono _ _ _ _
   | exact flagstoneref09_Used.mono _ _
   | exact flagstoneref09_Who.mono _ _ _ _
   | exact refs_Check.mono _ _
   | exact refs_Used.mono _ _
   | exact LeO.none _
   | refine LeO.ite ?_ ?_
   | refine LeO.bind ?_ (fun _ => ?_)
theorem flagstonelaw09_RefsTells.mono : ∀ a0 a1 a2 k, LeO (flagstonelaw09_RefsTells.f k a0 a1 a2) (flagstonelaw09_RefsTells.f (k + 1) a0 a1 a2) := by
 intro a0 a1 a2 k
 obtain ⟨ih0, ih1⟩ := flagstonelaw09_RefsTells.mono_l k
 unfold flagstonelaw09_RefsTells.f
 repeat' first
  | (with_reducible exact ih0 _ _ _ _ _)
  | (with_reducible exact ih1 _ _ _ _ _)
  | (with_reducible exact flagstonelaw09_Alike.mono _ _ _)
  | (with_reducible exact flagstonelaw09_Of.mono _ _)
  | (with_reducible exact flagstonelaw09_sameRefs.mono _ _ _)
  | (with_reducible exact flagstoneplain_SameSpans.mono _ _ _)
  | (with_reducible exact flagstoneref09_Check.mono _ _)
  | (with_reducible exact flagstoneref09_Counts.mono _ _)
  | (with_reducible exact flagstoneref09_Refs.mono _ _)
  | (with_reducible exact flagstoneref09_Shared.mono _ _ _ _)
  | (with_reducible exact flagstoneref09_Used.mono _ _)
  | (with_reducible exact flagstoneref09_Who.mono _ _ _ _)
  | (with_reducible exact refs_Check.mono _ _)
  | (with_reducible exact refs_Used.mono _ _)
  | (with_reducible exact LeO.refl _)
  | (with_reducible exact LeO.none _)
  | (with_reducible refine LeO.ite ?_ ?_)
  | (with_reducible refine LeO.bind ?_ (fun _ => ?_))
  | exact ih0 _ _ _ _ _
  | exact ih1 _ _ _ _ _
  | exact flagstonelaw09_Alike.mono _ _ _
  | exact flagstonelaw09_Of.mono _ _
  | exact flagstonelaw09_sameRefs.mono _ _ _
  | exact flagstoneplain_SameSpans.mono _ _ _
  | exact flagstoneref09_Check.mono _ _
  | exact flagstoneref09_Counts.mono _ _
  | exact flagstoneref09_Refs.mono _ _
  | exact flagstoneref09_Shared.mono _ _ _ _
  | exact flagstoneref09_Used.mono _ _
  | exact flagstoneref09_Who.mono _ _ _ _
  | exact refs_Check.mono _ _
  | exact refs_Used.mono _ _
  | exact LeO.none _
  | refine LeO.ite ?_ ?_
  | refine LeO.bind ?_ (fun _ => ?_)
set_option maxHeartbeats 8000000 in
set_option maxRecDepth 100000 in
theorem flagstonelaw09_RefsTells.calls (k : Nat) (A0 : Option Addr) (c0 : Nat) (l0 : List (S86)) (a1_0 : Int) (a1_1 : Int) (r : Bool) (w : World) (hr0 : Kd.C k86 w A0 l0.length l0) (hc0 : l0.length ≤ c0) (h : flagstonelaw09_RefsTells.f k l0 a1_0 a1_1 = some r) :
 Calls Try.prog 19 #[.slice A0 l0.length c0, .agg #[.int .i64 a1_0, .int .i64 a1_1]] w fun e w' => e = .returned (.bool r) ∧ Below w.heap.size w w' := by
 have hu40 := Try.underlying40
 have hu96 := Try.underlying96
 have hu114 := Try.underlying114
 have HR0 := Aside0.mk hr0
 have HC0 := Aside0.mk hc0
 clear hr0 hc0
 have HB := Aside0.mk (Below.refl w.heap.size w)
 have H : ((flagstonelaw09_Of.f k l0).bind fun t102 => ((refs_Refs.f t102).bind fun bt105 => ((flagstoneref09_Refs.f k l0).bind fun bt109 => ((refs_Counts.f t102).bind fun bt113 => ((flagstoneref09_Counts.f k l0).bind fun bt117 => ((refs_Who.f t102 a1_0 a1_1).bind fun bt121 => ((flagstoneref09_Who.f k l0 a1_0 a1_1).bind fun bt125 => ((refs_Used.f k t102).bind fun bt129 => ((flagstoneref09_Used.f k l0).bind fun bt133 => ((refs_Shared.f t102 a1_0 a1_1).bind fun bt137 => ((flagstoneref09_Shared.f k l0 a1_0 a1_1).bind fun bt139 => ((flagstonelaw09_sameRefs.f k bt105.1 bt109.1).bind fun t141 => (if t141 = true then ((flagstonelaw09_num.f bt105.2).bind fun t142 => (if t142 = bt109.2 then (if (bt113.1.length : Int) = (bt117.1.length : Int) then ((flagstonelaw09_num.f bt113.2).bind fun t143 => (if t143 = bt117.2 then ((flagstonelaw09_sameRefs.f k bt121.1 bt125.1).bind fun t144 => (if t144 = true then ((flagstonelaw09_num.f bt121.2).bind fun t145 => (if t145 = bt125.2 then ((flagstoneplain_SameSpans.f k bt129.1 bt133.1).bind fun t146 => (if t146 = true then ((flagstonelaw09_num.f bt129.2).bind fun t147 => (if t147 = bt133.2 then (if (bt137.1 != bt139.1) = true then (none) else ((flagstonelaw09_num.f bt137.2).bind fun t148 => (flagstonelaw09_RefsTells.j0 k l0 t102 bt113.1 bt117.1 (t148 != bt139.2)))) else (none))) else (none))) else (none))) else (none))) else (none))) else (none)) else (none))) else (none)))))))))))))) = some r := h
 clear h
 replace H := Option.bind_eq_some_iff.mp H
 obtain ⟨t102, A30, H⟩ := H
 try dsimp only at H
 have A3 := Aside0.mk A30
 clear A30
 replace H := Option.bind_eq_some_iff.mp H
 obtain ⟨⟨t105, t106⟩, A40, H⟩ := H
 try dsimp only at H
 have A4 := Aside0.mk A40
 clear A40
 replace H := Option.bind_eq_some_iff.mp H
 obtain ⟨⟨t109, t110⟩, A50, H⟩ := H
 try dsimp only at H
 have A5 := Aside0.mk A50
 clear A50
 replace H := Option.bind_eq_some_iff.mp H
 obtain ⟨⟨t113, t114⟩, A60, H⟩ := H
 try dsimp only at H
 have A6 := Aside0.mk A60
 clear A60
 replace H := Option.bind_eq_some_iff.mp H
 obtain ⟨⟨t117, t118⟩, A70, H⟩ := H
 try dsimp only at H
 have A7 := Aside0.mk A70
 clear A70
 replace H := Option.bind_eq_some_iff.mp H
 obtain ⟨⟨t121, t124⟩, A80, H⟩ := H
 try dsimp only at H
 have A8 := Aside0.mk A80
 clear A80
 replace H := Option.bind_eq_some_iff.mp H
 obtain ⟨⟨t125, t128⟩, A90, H⟩ := H
 try dsimp only at H
 have A9 := Aside0.mk A90
 clear A90
 replace H := Option.bind_eq_some_iff.mp H
 obtain ⟨⟨t129, t130⟩, A100, H⟩ := H
 try dsimp only at H
 have A10 := Aside0.mk A100
 clear A100
 replace H := Option.bind_eq_some_iff.mp H
 obtain ⟨⟨t133, t134⟩, A110, H⟩ := H
 try dsimp only at H
 have A11 := Aside0.mk A110
 clear A110
 replace H := Option.bind_eq_some_iff.mp H
 obtain ⟨⟨t137, t138⟩, A120, H⟩ := H
 try dsimp only at H
 have A12 := Aside0.mk A120
 clear A120
 replace H := Option.bind_eq_some_iff.mp H
 obtain ⟨⟨t139, t140⟩, A130, H⟩ := H
 try dsimp only at H
 have A13 := Aside0.mk A130
 clear A130
 have HC14 := Aside0.mk H
 clear H
 go_enter Try.func19, Try.ntmps19
 go_upto_region 12 with (first | ((with_reducible refine gate_dst (N := 3) rfl ?_); (try (refine gate_guard (by rfl) ?_; dsimp only)); refine box_event ?hg (N := 3) ?hd (cs := #[.int .i64 a1_0, .int .i64 a1_1]) (t := 40) ?hr ?_; (case hd => rfl); (case hg => rfl); (case hr => first | (go_simp; done) | (go_simp; rfl)); intro gb101 hg w15 hbox hb; have n0_ := Aside0.mk (below_step (by repeat (first | (with_reducible first | exact HB.out | apply below_alloc | apply pw_below_drewN | apply below_drew1) | exact HB.out)) hb); have n1_ := Aside0.mk (hbox); have n2_ := Aside0.mk ((by rw [hg]; exact (below_size (by repeat (first | (with_reducible first | exact HB.out | apply below_alloc | apply pw_below_drewN | apply below_drew1) | exact HB.out))) : w.heap.size ≤ gb101)); have n3_ := Aside0.mk ((by rw [hg]; exact (below_size (by repeat (first | (with_reducible first | exact HB.out | apply below_alloc | apply pw_below_drewN | apply below_drew1) | exact HB.out))) : w.heap.size ≤ gb101)); clear HB; have HB := n0_; have BK101 := n1_; have GW101 := n2_; have GE101 := n3_; clear n0_ n1_ n2_ n3_; clear hb hbox hg) | (go_at_call 59; (with_reducible refine (flagstonelaw09_Of.calls k _ _ l0 t102 _ ?side1 ?side2 A3.out).mono ?_); (case side1 => repeat (first | exact (Kd.C_below HR0.out HB.out) | (with_reducible refine Kd.C_alloc ?_ _) | (with_reducible refine Kd.C_drewN ?_ _) | (with_reducible refine Kd.C_drew ?_))); (case side2 => exact HC0.out); rintro e w16 ⟨v103, rfl, ho0, hb⟩; have n0_ := Aside0.mk (Kd.S_lower ho0 (below_size (by repeat (first | (with_reducible first | exact HB.out | apply below_alloc | apply pw_below_drewN | apply below_drew1 | refine below_set ?_ GE101.out) | exact HB.out)))); have n1_ := Aside0.mk (blk_below (g := gb101) (o := .cells #[.int .i64 a1_0, .int .i64 a1_1] 40 (0, 0)) (by (with_reducible repeat (first | refine blk_drewN ?_ _ | refine blk_drew ?_ | refine blk_alloc ?_ _)); exact BK101.out) hb); have n2_ := Aside0.mk (below_step (by repeat (first | (with_reducible first | exact HB.out | apply below_alloc | apply pw_below_drewN | apply below_drew1 | refine below_set ?_ GE101.out) | exact HB.out)) hb); clear BK101; clear HB; have HO104 := n0_; have BK101 := n1_; have HB := n2_; clear n0_ n1_ n2_; (try clear hb); (try clear hb2); (try clear hk); (try clear hi); (try clear ho0); obtain ⟨Ao17, co17, eo17⟩ := Kd.S_slice HO104.out; subst eo17) | (go_at_call 65; (with_reducible refine (refs_Refs.calls _ _ t102 t105 t106 _ ?side1 ?side2 A4.out).mono ?_); (case side1 => repeat (first | exact (Kd.S_reads' HO104.out).2.2 | (with_reducible refine Kd.C_alloc ?_ _) | (with_reducible refine Kd.C_drewN ?_ _) | (with_reducible refine Kd.C_drew ?_))); (case side2 => exact (Kd.S_reads' HO104.out).2.1); rintro e w18 ⟨v107, rfl, ho0, hb⟩; have n0_ := Aside0.mk (Kd.S_below (by (with_reducible repeat (first | apply Kd.S_alloc | apply Kd.S_drewN | apply Kd.S_drew)); exact HO104.out) hb); have n1_ := Aside0.mk (Kd.R_lower ho0 (below_size (by repeat (first | (with_reducible first | exact HB.out | apply below_alloc | apply pw_below_drewN | apply below_drew1 | refine below_set ?_ GE101.out) | exact HB.out)))); have n2_ := Aside0.mk (blk_below (g := gb101) (o := .cells #[.int .i64 a1_0, .int .i64 a1_1] 40 (0, 0)) (by (with_reducible repeat (first | refine blk_drewN ?_ _ | refine blk_drew ?_ | refine blk_alloc ?_ _)); exact BK101.out) hb); have n3_ := Aside0.mk (below_step (by repeat (first | (with_reducible first | exact HB.out | apply below_alloc | apply pw_below_drewN | apply below_drew1 | refine below_set ?_ GE101.out) | exact HB.out)) hb); clear HO104; clear BK101; clear HB; have HO104 := n0_; have HO108 := n1_; have BK101 := n2_; have HB := n3_; clear n0_ n1_ n2_ n3_; (try clear hb); (try clear hb2); (try clear hk); (try clear hi); (try clear ho0)) | (go_at_call 66; (with_reducible refine (flagstoneref09_Refs.calls k _ _ l0 t109 t110 _ ?side1 ?side2 A5.out).mono ?_); (case side1 => repeat (first | exact (Kd.C_below HR0.out HB.out) | (with_reducible refine Kd.C_alloc ?_ _) | (with_reducible refine Kd.C_drewN ?_ _) | (with_reducible refine Kd.C_drew ?_))); (case side2 => exact HC0.out); rintro e w19 ⟨v111, rfl, ho0, hb⟩; have n0_ := Aside0.mk (Kd.S_below (by (with_reducible repeat (first | apply Kd.S_alloc | apply Kd.S_drewN | apply Kd.S_drew)); exact HO104.out) hb); have n1_ := Aside0.mk (Kd.R_below (by (with_reducible repeat (first | apply Kd.R_alloc | apply Kd.R_drewN | apply Kd.R_drew)); exact HO108.out) hb); have n2_ := Aside0.mk (Kd.R_lower ho0 (below_size (by repeat (first | (with_reducible first | exact HB.out | apply below_alloc | apply pw_below_drewN | apply below_drew1 | refine below_set ?_ GE101.out) | exact HB.out)))); have n3_ := Aside0.mk (blk_below (g := gb101) (o := .cells #[.int .i64 a1_0, .int .i64 a1_1] 40 (0, 0)) (by (with_reducible repeat (first | refine blk_drewN ?_ _ | refine blk_drew ?_ | refine blk_alloc ?_ _)); exact BK101.out) hb); have n4_ := Aside0.mk (below_step (by repeat (first | (with_reducible first | exact HB.out | apply below_alloc | apply pw_below_drewN | apply below_drew1 | refine below_set ?_ GE101.out) | exact HB.out)) hb); clear HO104; clear HO108; clear BK101; clear HB; have HO104 := n0_; have HO108 := n1_; have HO112 := n2_; have BK101 := n3_; have HB := n4_; clear n0_ n1_ n2_ n3_ n4_; (try clear hb); (try clear hb2); (try clear hk); (try clear hi); (try clear ho0)) | (go_at_call 62; (with_reducible refine (refs_Counts.calls _ _ t102 t113 t114 _ ?side1 ?side2 A6.out).mono ?_); (case side1 => repeat (first | exact (Kd.S_reads' HO104.out).2.2 | (with_reducible refine Kd.C_alloc ?_ _) | (with_reducible refine Kd.C_drewN ?_ _) | (with_reducible refine Kd.C_drew ?_))); (case side2 => exact (Kd.S_reads' HO104.out).2.1); rintro e w20 ⟨v115, rfl, ho0, hb⟩; have n0_ := Aside0.mk (Kd.S_below (by (with_reducible repeat (first | apply Kd.S_alloc | apply Kd.S_drewN | apply Kd.S_drew)); exact HO104.out) hb); have n1_ := Aside0.mk (Kd.R_below (by (with_reducible repeat (first | apply Kd.R_alloc | apply Kd.R_drewN | apply Kd.R_drew)); exact HO108.out) hb); have n2_ := Aside0.mk (Kd.R_below (by (with_reducible repeat (first | apply Kd.R_alloc | apply Kd.R_drewN | apply Kd.R_drew)); exact HO112.out) hb); have n3_ := Aside0.mk (Kd.R_lower ho0 (below_size (by repeat (first | (with_reducible first | exact HB.out | apply below_alloc | apply pw_below_drewN | apply below_drew1 | refine below_set ?_ GE101.out) | exact HB.out)))); have n4_ := Aside0.mk (blk_below (g := gb101) (o := .cells #[.int .i64 a1_0, .int .i64 a1_1] 40 (0, 0)) (by (with_reducible repeat (first | refine blk_drewN ?_ _ | refine blk_drew ?_ | refine blk_alloc ?_ _)); exact BK101.out) hb); have n5_ := Aside0.mk (below_step (by repeat (first | (with_reducible first | exact HB.out | apply below_alloc | apply pw_below_drewN | apply below_drew1 | refine below_set ?_ GE101.out) | exact HB.out)) hb); clear HO104; clear HO108; clear HO112; clear BK101; clear HB; have HO104 := n0_; have HO108 := n1_; have HO112 := n2_; have HO116 := n3_; have BK101 := n4_; have HB := n5_; clear n0_ n1_ n2_ n3_ n4_ n5_; (try clear hb); (try clear hb2); (try clear hk); (try clear hi); (try clear ho0)) | (go_at_call 67; (with_reducible refine (flagstoneref09_Counts.calls k _ _ l0 t117 t118 _ ?side1 ?side2 A7.out).mono ?_); (case side1 => repeat (first | exact (Kd.C_below HR0.out HB.out) | (with_reducible refine Kd.C_alloc ?_ _) | (with_reducible refine Kd.C_drewN ?_ _) | (with_reducible refine Kd.C_drew ?_))); (case side2 => exact HC0.out); rintro e w21 ⟨v119, rfl, ho0, hb⟩; have n0_ := Aside0.mk (Kd.S_below (by (with_reducible repeat (first | apply Kd.S_alloc | apply Kd.S_drewN | apply Kd.S_drew)); exact HO104.out) hb); have n1_ := Aside0.mk (Kd.R_below (by (with_reducible repeat (first | apply Kd.R_alloc | apply Kd.R_drewN | apply Kd.R_drew)); exact HO108.out) hb); have n2_ := Aside0.mk (Kd.R_below (by (with_reducible repeat (first | apply Kd.R_alloc | apply Kd.R_drewN | apply Kd.R_drew)); exact HO112.out) hb); have n3_ := Aside0.mk (Kd.R_below (by (with_reducible repeat (first | apply Kd.R_alloc | apply Kd.R_drewN | apply Kd.R_drew)); exact HO116.out) hb); have n4_ := Aside0.mk (Kd.R_lower ho0 (below_size (by repeat (first | (with_reducible first | exact HB.out | apply below_alloc | apply pw_below_drewN | apply below_drew1 | refine below_set ?_ GE101.out) | exact HB.out)))); have n5_ := Aside0.mk (blk_below (g := gb101) (o := .cells #[.int .i64 a1_0, .int .i64 a1_1] 40 (0, 0)) (by (with_reducible repeat (first | refine blk_drewN ?_ _ | refine blk_drew ?_ | refine blk_alloc ?_ _)); exact BK101.out) hb); have n6_ := Aside0.mk (below_step (by repeat (first | (with_reducible first | exact HB.out | apply below_alloc | apply pw_below_drewN | apply below_drew1 | refine below_set ?_ GE101.out) | exact HB.out)) hb); clear HO104; clear HO108; clear HO112; clear HO116; clear BK101; clear HB; have HO104 := n0_; have HO108 := n1_; have HO112 := n2_; have HO116 := n3_; have HO120 := n4_; have BK101 := n5_; have HB := n6_; clear n0_ n1_ n2_ n3_ n4_ n5_ n6_; (try clear hb); (try clear hb2); (try clear hk); (try clear hi); (try clear ho0); have hcz22_0 : w21.cell? ⟨gb101, 0, none⟩ = some (.int .i64 a1_0) := (blk_cell BK101.out 0).trans rfl; have hcz22_1 : w21.cell? ⟨gb101, 1, none⟩ = some (.int .i64 a1_1) := (blk_cell BK101.out 1).trans rfl; have hfz22_0 := blk_frozen BK101.out 0; have hfz22_1 := blk_frozen BK101.out 1) | (go_at_call 58; (with_reducible refine (refs_Who.calls _ _ t102 a1_0 a1_1 t121 t124 _ ?side1 ?side2 A8.out).mono ?_); (case side1 => repeat (first | exact (Kd.S_reads' HO104.out).2.2 | (with_reducible refine Kd.C_alloc ?_ _) | (with_reducible refine Kd.C_drewN ?_ _) | (with_reducible refine Kd.C_drew ?_))); (case side2 => exact (Kd.S_reads' HO104.out).2.1); rintro e w23 ⟨v122, rfl, ho0, hb⟩; have n0_ := Aside0.mk (Kd.S_below (by (with_reducible repeat (first | apply Kd.S_alloc | apply Kd.S_drewN | apply Kd.S_drew)); exact HO104.out) hb); have n1_ := Aside0.mk (Kd.R_elder' (by (with_reducible repeat (first | apply Kd.R_alloc | apply Kd.R_drewN | apply Kd.R_drew)); exact HO108.out) (Kd.R_base ho0) hb); have n2_ := Aside0.mk (Kd.R_below (by (with_reducible repeat (first | apply Kd.R_alloc | apply Kd.R_drewN | apply Kd.R_drew)); exact HO112.out) hb); have n3_ := Aside0.mk (Kd.R_below (by (with_reducible repeat (first | apply Kd.R_alloc | apply Kd.R_drewN | apply Kd.R_drew)); exact HO116.out) hb); have n4_ := Aside0.mk (Kd.R_below (by (with_reducible repeat (first | apply Kd.R_alloc | apply Kd.R_drewN | apply Kd.R_drew)); exact HO120.out) hb); have n5_ := Aside0.mk (Kd.R_lower (Kd.R_new' ho0 (Kd.R_lt (by (with_reducible repeat (first | apply Kd.R_alloc | apply Kd.R_drewN | apply Kd.R_drew)); exact HO108.out))) (below_size (by repeat (first | (with_reducible first | exact HB.out | apply below_alloc | apply pw_below_drewN | apply below_drew1 | refine below_set ?_ GE101.out) | exact HB.out)))); have n6_ := Aside0.mk (blk_below (g := gb101) (o := .cells #[.int .i64 a1_0, .int .i64 a1_1] 40 (0, 0)) (by (with_reducible repeat (first | refine blk_drewN ?_ _ | refine blk_drew ?_ | refine blk_alloc ?_ _)); exact BK101.out) hb); have n7_ := Aside0.mk (below_step (by repeat (first | (with_reducible first | exact HB.out | apply below_alloc | apply pw_below_drewN | apply below_drew1 | refine below_set ?_ GE101.out) | exact HB.out)) hb); clear HO104; clear HO108; clear HO112; clear HO116; clear HO120; clear BK101; clear HB; have HO104 := n0_; have HO108 := n1_; have HO112 := n2_; have HO116 := n3_; have HO120 := n4_; have HO123 := n5_; have BK101 := n6_; have HB := n7_; clear n0_ n1_ n2_ n3_ n4_ n5_ n6_ n7_; (try clear hb); (try clear hb2); (try clear hk); (try clear hi); (try clear ho0); have hcz24_0 : w23.cell? ⟨gb101, 0, none⟩ = some (.int .i64 a1_0) := (blk_cell BK101.out 0).trans rfl; have hcz24_1 : w23.cell? ⟨gb101, 1, none⟩ = some (.int .i64 a1_1) := (blk_cell BK101.out 1).trans rfl; have hfz24_0 := blk_frozen BK101.out 0; have hfz24_1 := blk_frozen BK101.out 1) | (go_at_call 68; (with_reducible refine (flagstoneref09_Who.calls k _ _ l0 a1_0 a1_1 t125 t128 _ ?side1 ?side2 A9.out).mono ?_); (case side1 => repeat (first | exact (Kd.C_below HR0.out HB.out) | (with_reducible refine Kd.C_alloc ?_ _) | (with_reducible refine Kd.C_drewN ?_ _) | (with_reducible refine Kd.C_drew ?_))); (case side2 => exact HC0.out); rintro e w25 ⟨v126, rfl, ho0, hb⟩; have n0_ := Aside0.mk (Kd.S_below (by (with_reducible repeat (first | apply Kd.S_alloc | apply Kd.S_drewN | apply Kd.S_drew)); exact HO104.out) hb); have n1_ := Aside0.mk (Kd.R_below (by (with_reducible repeat (first | apply Kd.R_alloc | apply Kd.R_drewN | apply Kd.R_drew)); exact HO108.out) hb); have n2_ := Aside0.mk (Kd.R_elder' (by (with_reducible repeat (first | apply Kd.R_alloc | apply Kd.R_drewN | apply Kd.R_drew)); exact HO112.out) (Kd.R_base ho0) hb); have n3_ := Aside0.mk (Kd.R_below (by (with_reducible repeat (first | apply Kd.R_alloc | apply Kd.R_drewN | apply Kd.R_drew)); exact HO116.out) hb); have n4_ := Aside0.mk (Kd.R_below (by (with_reducible repeat (first | apply Kd.R_alloc | apply Kd.R_drewN | apply Kd.R_drew)); exact HO120.out) hb); have n5_ := Aside0.mk (Kd.R_below (by (with_reducible repeat (first | apply Kd.R_alloc | apply Kd.R_drewN | apply Kd.R_drew)); exact HO123.out) hb); have n6_ := Aside0.mk (Kd.R_lower (Kd.R_new' ho0 (Kd.R_lt (by (with_reducible repeat (first | apply Kd.R_alloc | apply Kd.R_drewN | apply Kd.R_drew)); exact HO112.out))) (below_size (by repeat (first | (with_reducible first | exact HB.out | apply below_alloc | apply pw_below_drewN | apply below_drew1 | refine below_set ?_ GE101.out) | exact HB.out)))); have n7_ := Aside0.mk (blk_below (g := gb101) (o := .cells #[.int .i64 a1_0, .int .i64 a1_1] 40 (0, 0)) (by (with_reducible repeat (first | refine blk_drewN ?_ _ | refine blk_drew ?_ | refine blk_alloc ?_ _)); exact BK101.out) hb); have n8_ := Aside0.mk (below_step (by repeat (first | (with_reducible first | exact HB.out | apply below_alloc | apply pw_below_drewN | apply below_drew1 | refine below_set ?_ GE101.out) | exact HB.out)) hb); clear HO104; clear HO108; clear HO112; clear HO116; clear HO120; clear HO123; clear BK101; clear HB; have HO104 := n0_; have HO108 := n1_; have HO112 := n2_; have HO116 := n3_; have HO120 := n4_; have HO123 := n5_; have HO127 := n6_; have BK101 := n7_; have HB := n8_; clear n0_ n1_ n2_ n3_ n4_ n5_ n6_ n7_ n8_; (try clear hb); (try clear hb2); (try clear hk); (try clear hi); (try clear ho0)) | (go_at_call 64; (with_reducible refine (refs_Used.calls k _ _ t102 t129 t130 _ ?side1 ?side2 A10.out).mono ?_); (case side1 => repeat (first | exact (Kd.S_reads' HO104.out).2.2 | (with_reducible refine Kd.C_alloc ?_ _) | (with_reducible refine Kd.C_drewN ?_ _) | (with_reducible refine Kd.C_drew ?_))); (case side2 => exact (Kd.S_reads' HO104.out).2.1); rintro e w26 ⟨v131, rfl, ho0, hb⟩; have n0_ := Aside0.mk (Kd.S_below (by (with_reducible repeat (first | apply Kd.S_alloc | apply Kd.S_drewN | apply Kd.S_drew)); exact HO104.out) hb); have n1_ := Aside0.mk (Kd.R_below (by (with_reducible repeat (first | apply Kd.R_alloc | apply Kd.R_drewN | apply Kd.R_drew)); exact HO108.out) hb); have n2_ := Aside0.mk (Kd.R_below (by (with_reducible repeat (first | apply Kd.R_alloc | apply Kd.R_drewN | apply Kd.R_drew)); exact HO112.out) hb); have n3_ := Aside0.mk (Kd.R_below (by (with_reducible repeat (first | apply Kd.R_alloc | apply Kd.R_drewN | apply Kd.R_drew)); exact HO116.out) hb); have n4_ := Aside0.mk (Kd.R_below (by (with_reducible repeat (first | apply Kd.R_alloc | apply Kd.R_drewN | apply Kd.R_drew)); exact HO120.out) hb); have n5_ := Aside0.mk (Kd.R_below (by (with_reducible repeat (first | apply Kd.R_alloc | apply Kd.R_drewN | apply Kd.R_drew)); exact HO123.out) hb); have n6_ := Aside0.mk (Kd.R_below (by (with_reducible repeat (first | apply Kd.R_alloc | apply Kd.R_drewN | apply Kd.R_drew)); exact HO127.out) hb); have n7_ := Aside0.mk (Kd.R_lower (Kd.R_newB ho0 (g := gb101) (o := .cells #[.int .i64 a1_0, .int .i64 a1_1] 40 (0, 0)) (by (with_reducible repeat (first | refine blk_drewN ?_ _ | refine blk_drew ?_ | refine blk_alloc ?_ _)); exact BK101.out)) (below_size (by repeat (first | (with_reducible first | exact HB.out | apply below_alloc | apply pw_below_drewN | apply below_drew1 | refine below_set ?_ GE101.out) | exact HB.out)))); have n8_ := Aside0.mk (blk_below (g := gb101) (o := .cells #[.int .i64 a1_0, .int .i64 a1_1] 40 (0, 0)) (by (with_reducible repeat (first | refine blk_drewN ?_ _ | refine blk_drew ?_ | refine blk_alloc ?_ _)); exact BK101.out) hb); have n9_ := Aside0.mk (below_step (by repeat (first | (with_reducible first | exact HB.out | apply below_alloc | apply pw_below_drewN | apply below_drew1 | refine below_set ?_ GE101.out) | exact HB.out)) hb); clear HO104; clear HO108; clear HO112; clear HO116; clear HO120; clear HO123; clear HO127; clear BK101; clear HB; have HO104 := n0_; have HO108 := n1_; have HO112 := n2_; have HO116 := n3_; have HO120 := n4_; have HO123 := n5_; have HO127 := n6_; have HO132 := n7_; have BK101 := n8_; have HB := n9_; clear n0_ n1_ n2_ n3_ n4_ n5_ n6_ n7_ n8_ n9_; (try clear hb); (try clear hb2); (try clear hk); (try clear hi); (try clear ho0)) | (go_at_call 69; (with_reducible refine (flagstoneref09_Used.calls k _ _ l0 t133 t134 _ ?side1 ?side2 A11.out).mono ?_); (case side1 => repeat (first | exact (Kd.C_below HR0.out HB.out) | (with_reducible refine Kd.C_alloc ?_ _) | (with_reducible refine Kd.C_drewN ?_ _) | (with_reducible refine Kd.C_drew ?_))); (case side2 => exact HC0.out); rintro e w27 ⟨v135, rfl, ho0, hb⟩; have n0_ := Aside0.mk (Kd.S_below (by (with_reducible repeat (first | apply Kd.S_alloc | apply Kd.S_drewN | apply Kd.S_drew)); exact HO104.out) hb); have n1_ := Aside0.mk (Kd.R_below (by (with_reducible repeat (first | apply Kd.R_alloc | apply Kd.R_drewN | apply Kd.R_drew)); exact HO108.out) hb); have n2_ := Aside0.mk (Kd.R_below (by (with_reducible repeat (first | apply Kd.R_alloc | apply Kd.R_drewN | apply Kd.R_drew)); exact HO112.out) hb); have n3_ := Aside0.mk (Kd.R_below (by (with_reducible repeat (first | apply Kd.R_alloc | apply Kd.R_drewN | apply Kd.R_drew)); exact HO116.out) hb); have n4_ := Aside0.mk (Kd.R_below (by (with_reducible repeat (first | apply Kd.R_alloc | apply Kd.R_drewN | apply Kd.R_drew)); exact HO120.out) hb); have n5_ := Aside0.mk (Kd.R_below (by (with_reducible repeat (first | apply Kd.R_alloc | apply Kd.R_drewN | apply Kd.R_drew)); exact HO123.out) hb); have n6_ := Aside0.mk (Kd.R_below (by (with_reducible repeat (first | apply Kd.R_alloc | apply Kd.R_drewN | apply Kd.R_drew)); exact HO127.out) hb); have n7_ := Aside0.mk (Kd.R_elder' (by (with_reducible repeat (first | apply Kd.R_alloc | apply Kd.R_drewN | apply Kd.R_drew)); exact HO132.out) (Kd.R_base ho0) hb); have n8_ := Aside0.mk (Kd.R_lower (Kd.R_newB (Kd.R_new' ho0 (Kd.R_lt (by (with_reducible repeat (first | apply Kd.R_alloc | apply Kd.R_drewN | apply Kd.R_drew)); exact HO132.out))) (g := gb101) (o := .cells #[.int .i64 a1_0, .int .i64 a1_1] 40 (0, 0)) (by (with_reducible repeat (first | refine blk_drewN ?_ _ | refine blk_drew ?_ | refine blk_alloc ?_ _)); exact BK101.out)) (below_size (by repeat (first | (with_reducible first | exact HB.out | apply below_alloc | apply pw_below_drewN | apply below_drew1 | refine below_set ?_ GE101.out) | exact HB.out)))); have n9_ := Aside0.mk (blk_below (g := gb101) (o := .cells #[.int .i64 a1_0, .int .i64 a1_1] 40 (0, 0)) (by (with_reducible repeat (first | refine blk_drewN ?_ _ | refine blk_drew ?_ | refine blk_alloc ?_ _)); exact BK101.out) hb); have n10_ := Aside0.mk (below_step (by repeat (first | (with_reducible first | exact HB.out | apply below_alloc | apply pw_below_drewN | apply below_drew1 | refine below_set ?_ GE101.out) | exact HB.out)) hb); clear HO104; clear HO108; clear HO112; clear HO116; clear HO120; clear HO123; clear HO127; clear HO132; clear BK101; clear HB; have HO104 := n0_; have HO108 := n1_; have HO112 := n2_; have HO116 := n3_; have HO120 := n4_; have HO123 := n5_; have HO127 := n6_; have HO132 := n7_; have HO136 := n8_; have BK101 := n9_; have HB := n10_; clear n0_ n1_ n2_ n3_ n4_ n5_ n6_ n7_ n8_ n9_ n10_; (try clear hb); (try clear hb2); (try clear hk); (try clear hi); (try clear ho0); have hcz28_0 : w27.cell? ⟨gb101, 0, none⟩ = some (.int .i64 a1_0) := (blk_cell BK101.out 0).trans rfl; have hcz28_1 : w27.cell? ⟨gb101, 1, none⟩ = some (.int .i64 a1_1) := (blk_cell BK101.out 1).trans rfl; have hfz28_0 := blk_frozen BK101.out 0; have hfz28_1 := blk_frozen BK101.out 1) | (go_at_call 63; (with_reducible refine (refs_Shared.calls _ _ t102 a1_0 a1_1 t137 t138 _ ?side1 ?side2 A12.out).mono ?_); (case side1 => repeat (first | exact (Kd.S_reads' HO104.out).2.2 | (with_reducible refine Kd.C_alloc ?_ _) | (with_reducible refine Kd.C_drewN ?_ _) | (with_reducible refine Kd.C_drew ?_))); (case side2 => exact (Kd.S_reads' HO104.out).2.1); rintro e w29 ⟨rfl, hb⟩; have n0_ := Aside0.mk (Kd.S_below (by (with_reducible repeat (first | apply Kd.S_alloc | apply Kd.S_drewN | apply Kd.S_drew)); exact HO104.out) hb); have n1_ := Aside0.mk (Kd.R_below (by (with_reducible repeat (first | apply Kd.R_alloc | apply Kd.R_drewN | apply Kd.R_drew)); exact HO108.out) hb); have n2_ := Aside0.mk (Kd.R_below (by (with_reducible repeat (first | apply Kd.R_alloc | apply Kd.R_drewN | apply Kd.R_drew)); exact HO112.out) hb); have n3_ := Aside0.mk (Kd.R_below (by (with_reducible repeat (first | apply Kd.R_alloc | apply Kd.R_drewN | apply Kd.R_drew)); exact HO116.out) hb); have n4_ := Aside0.mk (Kd.R_below (by (with_reducible repeat (first | apply Kd.R_alloc | apply Kd.R_drewN | apply Kd.R_drew)); exact HO120.out) hb); have n5_ := Aside0.mk (Kd.R_below (by (with_reducible repeat (first | apply Kd.R_alloc | apply Kd.R_drewN | apply Kd.R_drew)); exact HO123.out) hb); have n6_ := Aside0.mk (Kd.R_below (by (with_reducible repeat (first | apply Kd.R_alloc | apply Kd.R_drewN | apply Kd.R_drew)); exact HO127.out) hb); have n7_ := Aside0.mk (Kd.R_below (by (with_reducible repeat (first | apply Kd.R_alloc | apply Kd.R_drewN | apply Kd.R_drew)); exact HO132.out) hb); have n8_ := Aside0.mk (Kd.R_below (by (with_reducible repeat (first | apply Kd.R_alloc | apply Kd.R_drewN | apply Kd.R_drew)); exact HO136.out) hb); have n9_ := Aside0.mk (blk_below (g := gb101) (o := .cells #[.int .i64 a1_0, .int .i64 a1_1] 40 (0, 0)) (by (with_reducible repeat (first | refine blk_drewN ?_ _ | refine blk_drew ?_ | refine blk_alloc ?_ _)); exact BK101.out) hb); have n10_ := Aside0.mk (below_step (by repeat (first | (with_reducible first | exact HB.out | apply below_alloc | apply pw_below_drewN | apply below_drew1 | refine below_set ?_ GE101.out) | exact HB.out)) hb); clear HO104; clear HO108; clear HO112; clear HO116; clear HO120; clear HO123; clear HO127; clear HO132; clear HO136; clear BK101; clear HB; have HO104 := n0_; have HO108 := n1_; have HO112 := n2_; have HO116 := n3_; have HO120 := n4_; have HO123 := n5_; have HO127 := n6_; have HO132 := n7_; have HO136 := n8_; have BK101 := n9_; have HB := n10_; clear n0_ n1_ n2_ n3_ n4_ n5_ n6_ n7_ n8_ n9_ n10_; (try clear hb); (try clear hb2); (try clear hk); (try clear hi); have hcz30_0 : w29.cell? ⟨gb101, 0, none⟩ = some (.int .i64 a1_0) := (blk_cell BK101.out 0).trans rfl; have hcz30_1 : w29.cell? ⟨gb101, 1, none⟩ = some (.int .i64 a1_1) := (blk_cell BK101.out 1).trans rfl; have hfz30_0 := blk_frozen BK101.out 0; have hfz30_1 := blk_frozen BK101.out 1) | (go_at_call 70; (with_reducible refine (flagstoneref09_Shared.calls k _ _ l0 a1_0 a1_1 t139 t140 _ ?side1 ?side2 A13.out).mono ?_); (case side1 => repeat (first | exact (Kd.C_below HR0.out HB.out) | (with_reducible refine Kd.C_alloc ?_ _) | (with_reducible refine Kd.C_drewN ?_ _) | (with_reducible refine Kd.C_drew ?_))); (case side2 => exact HC0.out); rintro e w31 ⟨rfl, hb⟩; have n0_ := Aside0.mk (Kd.S_below (by (with_reducible repeat (first | apply Kd.S_alloc | apply Kd.S_drewN | apply Kd.S_drew)); exact HO104.out) hb); have n1_ := Aside0.mk (Kd.R_below (by (with_reducible repeat (first | apply Kd.R_alloc | apply Kd.R_drewN | apply Kd.R_drew)); exact HO108.out) hb); have n2_ := Aside0.mk (Kd.R_below (by (with_reducible repeat (first | apply Kd.R_alloc | apply Kd.R_drewN | apply Kd.R_drew)); exact HO112.out) hb); have n3_ := Aside0.mk (Kd.R_below (by (with_reducible repeat (first | apply Kd.R_alloc | apply Kd.R_drewN | apply Kd.R_drew)); exact HO116.out) hb); have n4_ := Aside0.mk (Kd.R_below (by (with_reducible repeat (first | apply Kd.R_alloc | apply Kd.R_drewN | apply Kd.R_drew)); exact HO120.out) hb); have n5_ := Aside0.mk (Kd.R_below (by (with_reducible repeat (first | apply Kd.R_alloc | apply Kd.R_drewN | apply Kd.R_drew)); exact HO123.out) hb); have n6_ := Aside0.mk (Kd.R_below (by (with_reducible repeat (first | apply Kd.R_alloc | apply Kd.R_drewN | apply Kd.R_drew)); exact HO127.out) hb); have n7_ := Aside0.mk (Kd.R_below (by (with_reducible repeat (first | apply Kd.R_alloc | apply Kd.R_drewN | apply Kd.R_drew)); exact HO132.out) hb); have n8_ := Aside0.mk (Kd.R_below (by (with_reducible repeat (first | apply Kd.R_alloc | apply Kd.R_drewN | apply Kd.R_drew)); exact HO136.out) hb); have n9_ := Aside0.mk (blk_below (g := gb101) (o := .cells #[.int .i64 a1_0, .int .i64 a1_1] 40 (0, 0)) (by (with_reducible repeat (first | refine blk_drewN ?_ _ | refine blk_drew ?_ | refine blk_alloc ?_ _)); exact BK101.out) hb); have n10_ := Aside0.mk (below_step (by repeat (first | (with_reducible first | exact HB.out | apply below_alloc | apply pw_below_drewN | apply below_drew1 | refine below_set ?_ GE101.out) | exact HB.out)) hb); clear HO104; clear HO108; clear HO112; clear HO116; clear HO120; clear HO123; clear HO127; clear HO132; clear HO136; clear BK101; clear HB; have HO104 := n0_; have HO108 := n1_; have HO112 := n2_; have HO116 := n3_; have HO120 := n4_; have HO123 := n5_; have HO127 := n6_; have HO132 := n7_; have HO136 := n8_; have BK101 := n9_; have HB := n10_; clear n0_ n1_ n2_ n3_ n4_ n5_ n6_ n7_ n8_ n9_ n10_; (try clear hb); (try clear hb2); (try clear hk); (try clear hi)))
 (try simp only [Act.put, List.setIfInBounds_toArray, List.set_cons_zero, List.set_cons_succ])
 go_cut [140] (fun v140 wc => ∃ (kq : Nat) (x140_13 : Bool), v140 = .bool x140_13 ∧ Aside0 (flagstonelaw09_RefsTells.j0 kq l0 t102 t113 t117 x140_13 = some r) ∧ Aside0 (kq ≤ k) ∧ Aside0 (Kd.S k94 94 wc w.heap.size (fun _ => True) (.slice Ao17 t102.length co17) t102) ∧ Aside0 (Kd.R k96 96 wc w.heap.size (fun _ => True) v115 t113) ∧ Aside0 (Kd.R k114 114 wc w.heap.size (fun _ => True) v119 t117) ∧ Aside0 (wc.heap[gb101]? = some (.cells #[.int .i64 a1_0, .int .i64 a1_1] 40 (0, 0))) ∧ Aside0 (Below w.heap.size w wc))
 case first =>
  have H := HC14.out
  clear HC14
  replace H := Option.bind_eq_some_iff.mp H
  obtain ⟨t141, A320, H⟩ := H
  try dsimp only at H
  have A32 := Aside0.mk A320
  clear A320
  by_cases c33 : t141 = true
  ·subst c33
   have H1 : ((flagstonelaw09_num.f t106).bind fun t142 => (if t142 = t110 then (if (t113.length : Int) = (t117.length : Int) then ((flagstonelaw09_num.f t114).bind fun t143 => (if t143 = t118 then ((flagstonelaw09_sameRefs.f k t121 t125).bind fun t144 => (if t144 = true then ((flagstonelaw09_num.f t124).bind fun t145 => (if t145 = t128 then ((flagstoneplain_SameSpans.f k t129 t133).bind fun t146 => (if t146 = true then ((flagstonelaw09_num.f t130).bind fun t147 => (if t147 = t134 then (if (t137 != t139) = true then (none) else ((flagstonelaw09_num.f t138).bind fun t148 => (flagstonelaw09_RefsTells.j0 k l0 t102 t113 t117 (t148 != t140)))) else (none))) else (none))) else (none))) else (none))) else (none))) else (none)) else (none))) = some r := by rw [if_pos rfl] at H; exact H
   clear H
   have H := H1
   clear H1
   replace H := Option.bind_eq_some_iff.mp H
   obtain ⟨t142, A340, H⟩ := H
   try dsimp only at H
   have A34 := Aside0.mk A340
   clear A340
   by_cases c35 : t142 = t110
   ·rw [if_pos c35] at H
    have c35b0 : (t142 == t110) = true := beq_iff_eq.mpr c35
    have c35b1 : (t142 != t110) = false := bne_eq_false_iff_eq.mpr c35
    clear c35
    (first | rw [c35b0] | (simp only [i64_w, i32_w]; rw [c35b0]) | skip)
    by_cases c36 : (t113.length : Int) = (t117.length : Int)
    ·rw [if_pos c36] at H
     have c36b0 : ((t113.length : Int) == (t117.length : Int)) = true := beq_iff_eq.mpr c36
     have c36b1 : ((t113.length : Int) != (t117.length : Int)) = false := bne_eq_false_iff_eq.mpr c36
     have c36b2 : (t113.length == t117.length) = true := by first | simpa using c36 | (simp at c36 ⊢; omega)
     clear c36
     replace H := Option.bind_eq_some_iff.mp H
     obtain ⟨t143, A370, H⟩ := H
     try dsimp only at H
     have A37 := Aside0.mk A370
     clear A370
     by_cases c38 : t143 = t118
     ·rw [if_pos c38] at H
      have c38b0 : (t143 == t118) = true := beq_iff_eq.mpr c38
      have c38b1 : (t143 != t118) = false := bne_eq_false_iff_eq.mpr c38
      clear c38
      replace H := Option.bind_eq_some_iff.mp H
      obtain ⟨t144, A390, H⟩ := H
      try dsimp only at H
      have A39 := Aside0.mk A390
      clear A390
      by_cases c40 : t144 = true
      ·subst c40
       have H1 : ((flagstonelaw09_num.f t124).bind fun t145 => (if t145 = t128 then ((flagstoneplain_SameSpans.f k t129 t133).bind fun t146 => (if t146 = true then ((flagstonelaw09_num.f t130).bind fun t147 => (if t147 = t134 then (if (t137 != t139) = true then (none) else ((flagstonelaw09_num.f t138).bind fun t148 => (flagstonelaw09_RefsTells.j0 k l0 t102 t113 t117 (t148 != t140)))) else (none))) else (none))) else (none))) = some r := by rw [if_pos rfl] at H; exact H
       clear H
       have H := H1
       clear H1
       replace H := Option.bind_eq_some_iff.mp H
       obtain ⟨t145, A410, H⟩ := H
       try dsimp only at H
       have A41 := Aside0.mk A410
       clear A410
       by_cases c42 : t145 = t128
       ·rw [if_pos c42] at H
        have c42b0 : (t145 == t128) = true := beq_iff_eq.mpr c42
        have c42b1 : (t145 != t128) = false := bne_eq_false_iff_eq.mpr c42
        clear c42
        replace H := Option.bind_eq_some_iff.mp H
        obtain ⟨t146, A430, H⟩ := H
        try dsimp only at H
        have A43 := Aside0.mk A430
        clear A430
        by_cases c44 : t146 = true
        ·subst c44
         have H1 : ((flagstonelaw09_num.f t130).bind fun t147 => (if t147 = t134 then (if (t137 != t139) = true then (none) else ((flagstonelaw09_num.f t138).bind fun t148 => (flagstonelaw09_RefsTells.j0 k l0 t102 t113 t117 (t148 != t140)))) else (none))) = some r := by rw [if_pos rfl] at H; exact H
         clear H
         have H := H1
         clear H1
         replace H := Option.bind_eq_some_iff.mp H
         obtain ⟨t147, A450, H⟩ := H
         try dsimp only at H
         have A45 := Aside0.mk A450
         clear A450
         by_cases c46 : t147 = t134
         ·rw [if_pos c46] at H
          have c46b0 : (t147 == t134) = true := beq_iff_eq.mpr c46
          have c46b1 : (t147 != t134) = false := bne_eq_false_iff_eq.mpr c46
          clear c46
          by_cases c47 : (t137 != t139) = true
          ·rw [if_pos c47] at H
           cases H
          ·rw [if_neg c47] at H
           have c47b0 : (t137 != t139) = false := by simpa using c47
           (try (have c47b1 : decide (t137 = t139) = true := by simpa using c47))
           (try (have c47b2 : (t137 == t139) = true := by simpa using c47))
           clear c47
           replace H := Option.bind_eq_some_iff.mp H
           obtain ⟨t148, A560, H⟩ := H
           replace H : (flagstonelaw09_RefsTells.j0 k l0 t102 t113 t117 (t148 != t140)) = some r := H
           have A56 := Aside0.mk A560
           clear A560
           have H' := Aside0.mk H
           clear H
           obtain ⟨Ao57, co57, eo57⟩ := Kd.R_slice HO108.out
           subst eo57
           obtain ⟨Ao58, co58, eo58⟩ := Kd.R_slice HO112.out
           subst eo58
           go_wp2_with (first | ((fail_if_success (have q_ := ON_A32.out)); have ON_A32 := Aside0.mk True.intro; go_at_call 71; (with_reducible refine (flagstonelaw09_sameRefs.calls k _ _ t105 _ _ t109 true _ ?side1 ?side2 ?side3 ?side4 A32.out).mono ?_); (case side1 => repeat (first | exact (Kd.R_reads' HO108.out).2.2 | (with_reducible refine Kd.C_alloc ?_ _) | (with_reducible refine Kd.C_drewN ?_ _) | (with_reducible refine Kd.C_drew ?_))); (case side2 => exact (Kd.R_reads' HO108.out).2.1); (case side3 => repeat (first | exact (Kd.R_reads' HO112.out).2.2 | (with_reducible refine Kd.C_alloc ?_ _) | (with_reducible refine Kd.C_drewN ?_ _) | (with_reducible refine Kd.C_drew ?_))); (case side4 => exact (Kd.R_reads' HO112.out).2.1); rintro e w' ⟨rfl, ⟨nd, rfl⟩⟩; (try first | exact ⟨rfl, _, World.drewN_drewN _ _ _⟩ | exact ⟨rfl, _, Eq.trans (World.drewN_drewN _ _ _) (congrArg (World.drewN _) (Nat.add_assoc _ _ _))⟩)) | ((fail_if_success (have q_ := ON_A34.out)); have ON_A34 := Aside0.mk True.intro; go_at_call 60; (with_reducible refine (flagstonelaw09_num.calls t106 t142 _ A34.out).mono ?_); rintro e w' ⟨rfl, ⟨nd, rfl⟩⟩; (try first | exact ⟨rfl, _, World.drewN_drewN _ _ _⟩ | exact ⟨rfl, _, Eq.trans (World.drewN_drewN _ _ _) (congrArg (World.drewN _) (Nat.add_assoc _ _ _))⟩); obtain ⟨Ao59, co59, eo59⟩ := Kd.R_slice HO116.out; subst eo59; obtain ⟨Ao60, co60, eo60⟩ := Kd.R_slice HO120.out; subst eo60) | ((fail_if_success (have q_ := ON_A37.out)); have ON_A37 := Aside0.mk True.intro; go_at_call 60; (with_reducible refine (flagstonelaw09_num.calls t114 t143 _ A37.out).mono ?_); rintro e w' ⟨rfl, ⟨nd, rfl⟩⟩; (try first | exact ⟨rfl, _, World.drewN_drewN _ _ _⟩ | exact ⟨rfl, _, Eq.trans (World.drewN_drewN _ _ _) (congrArg (World.drewN _) (Nat.add_assoc _ _ _))⟩); obtain ⟨Ao61, co61, eo61⟩ := Kd.R_slice HO123.out; subst eo61; obtain ⟨Ao62, co62, eo62⟩ := Kd.R_slice HO127.out; subst eo62) | ((fail_if_success (have q_ := ON_A39.out)); have ON_A39 := Aside0.mk True.intro; go_at_call 71; (with_reducible refine (flagstonelaw09_sameRefs.calls k _ _ t121 _ _ t125 true _ ?side1 ?side2 ?side3 ?side4 A39.out).mono ?_); (case side1 => repeat (first | exact (Kd.R_reads' HO123.out).2.2 | (with_reducible refine Kd.C_alloc ?_ _) | (with_reducible refine Kd.C_drewN ?_ _) | (with_reducible refine Kd.C_drew ?_))); (case side2 => exact (Kd.R_reads' HO123.out).2.1); (case side3 => repeat (first | exact (Kd.R_reads' HO127.out).2.2 | (with_reducible refine Kd.C_alloc ?_ _) | (with_reducible refine Kd.C_drewN ?_ _) | (with_reducible refine Kd.C_drew ?_))); (case side4 => exact (Kd.R_reads' HO127.out).2.1); rintro e w' ⟨rfl, ⟨nd, rfl⟩⟩; (try first | exact ⟨rfl, _, World.drewN_drewN _ _ _⟩ | exact ⟨rfl, _, Eq.trans (World.drewN_drewN _ _ _) (congrArg (World.drewN _) (Nat.add_assoc _ _ _))⟩)) | ((fail_if_success (have q_ := ON_A41.out)); have ON_A41 := Aside0.mk True.intro; go_at_call 60; (with_reducible refine (flagstonelaw09_num.calls t124 t145 _ A41.out).mono ?_); rintro e w' ⟨rfl, ⟨nd, rfl⟩⟩; (try first | exact ⟨rfl, _, World.drewN_drewN _ _ _⟩ | exact ⟨rfl, _, Eq.trans (World.drewN_drewN _ _ _) (congrArg (World.drewN _) (Nat.add_assoc _ _ _))⟩); obtain ⟨Ao63, co63, eo63⟩ := Kd.R_slice HO132.out; subst eo63; obtain ⟨Ao64, co64, eo64⟩ := Kd.R_slice HO136.out; subst eo64) | (go_at_call 49; (with_reducible refine (flagstoneplain_SameSpans.calls k _ _ t129 _ _ t133 true _ ?side1 ?side2 ?side3 ?side4 A43.out).mono ?_); (case side1 => repeat (first | exact (Kd.R_reads' HO132.out).2.2 | (with_reducible refine Kd.C_alloc ?_ _) | (with_reducible refine Kd.C_drewN ?_ _) | (with_reducible refine Kd.C_drew ?_))); (case side2 => exact (Kd.R_reads' HO132.out).2.1); (case side3 => repeat (first | exact (Kd.R_reads' HO136.out).2.2 | (with_reducible refine Kd.C_alloc ?_ _) | (with_reducible refine Kd.C_drewN ?_ _) | (with_reducible refine Kd.C_drew ?_))); (case side4 => exact (Kd.R_reads' HO136.out).2.1); rintro e w' ⟨rfl, ⟨nd, rfl⟩⟩; (try first | exact ⟨rfl, _, World.drewN_drewN _ _ _⟩ | exact ⟨rfl, _, Eq.trans (World.drewN_drewN _ _ _) (congrArg (World.drewN _) (Nat.add_assoc _ _ _))⟩)) | ((fail_if_success (have q_ := ON_A45.out)); have ON_A45 := Aside0.mk True.intro; go_at_call 60; (with_reducible refine (flagstonelaw09_num.calls t130 t147 _ A45.out).mono ?_); rintro e w' ⟨rfl, ⟨nd, rfl⟩⟩; (try first | exact ⟨rfl, _, World.drewN_drewN _ _ _⟩ | exact ⟨rfl, _, Eq.trans (World.drewN_drewN _ _ _) (congrArg (World.drewN _) (Nat.add_assoc _ _ _))⟩)) | ((fail_if_success (have q_ := ON_A56.out)); have ON_A56 := Aside0.mk True.intro; go_at_call 60; (with_reducible refine (flagstonelaw09_num.calls t138 t148 _ A56.out).mono ?_); rintro e w' ⟨rfl, ⟨nd, rfl⟩⟩; (try first | exact ⟨rfl, _, World.drewN_drewN _ _ _⟩ | exact ⟨rfl, _, Eq.trans (World.drewN_drewN _ _ _) (congrArg (World.drewN _) (Nat.add_assoc _ _ _))⟩)))
           go_meet
           case rel => exact ⟨_, ((t148 != t140)), (by first | rfl | (simp; done) | (simp [*]; done)), H', ⟨by first | omega | exact Nat.le_refl _⟩, ⟨by (with_reducible repeat (first | apply Kd.S_alloc | apply Kd.S_drewN | apply Kd.S_drew)); exact HO104.out⟩, ⟨by (with_reducible repeat (first | apply Kd.R_alloc | apply Kd.R_drewN | apply Kd.R_drew)); exact HO116.out⟩, ⟨by (with_reducible repeat (first | apply Kd.R_alloc | apply Kd.R_drewN | apply Kd.R_drew)); exact HO120.out⟩, ⟨by (with_reducible repeat (first | refine blk_drewN ?_ _ | refine blk_drew ?_ | refine blk_alloc ?_ _)); exact BK101.out⟩, ⟨by repeat (first | (with_reducible first | exact HB.out | apply below_alloc | apply pw_below_drewN | apply below_drew1 | refine below_set ?_ GE101.out) | exact HB.out)⟩⟩
         ·rw [if_neg c46] at H
          cases H
        ·replace c44 := Bool.eq_false_iff.mpr c44
         subst c44
         have H1 : (none) = some r := by rw [if_neg (show ¬ (false = true) by decide)] at H; exact H
         clear H
         have H := H1
         clear H1
         cases H
       ·rw [if_neg c42] at H
        cases H
      ·replace c40 := Bool.eq_false_iff.mpr c40
       subst c40
       have H1 : (none) = some r := by rw [if_neg (show ¬ (false = true) by decide)] at H; exact H
       clear H
       have H := H1
       clear H1
       cases H
     ·rw [if_neg c38] at H
      cases H
    ·rw [if_neg c36] at H
     cases H
   ·rw [if_neg c35] at H
    cases H
  ·replace c33 := Bool.eq_false_iff.mpr c33
   subst c33
   have H1 : (none) = some r := by rw [if_neg (show ¬ (false = true) by decide)] at H; exact H
   clear H
   have H := H1
   clear H1
   cases H
 case rest =>
  clear HC14
  try clear c1
  try clear p2
  try clear c3
  try clear c4
  try clear c19
  try clear c33
  try clear c35
  try clear c35b0
  try clear c35b1
  try clear c36
  try clear c36b0
  try clear c36b1
  try clear c36b2
  try clear c38
  try clear c38b0
  try clear c38b1
  try clear c40
  try clear c42
  try clear c42b0
  try clear c42b1
  try clear c44
  try clear c46
  try clear c46b0
  try clear c46b1
  try clear c47
  try clear c47b0
  try clear c47b1
  try clear c47b2
  try clear hcz22_0
  try clear hcz22_1
  try clear hcz24_0
  try clear hcz24_1
  try clear hcz28_0
  try clear hcz28_1
  try clear hcz30_0
  try clear hcz30_1
  try clear hfz22_0
  try clear hfz22_1
  try clear hfz24_0
  try clear hfz24_1
  try clear hfz28_0
  try clear hfz28_1
  try clear hfz30_0
  try clear hfz30_1
  obtain ⟨kq, x140_13, rfl, HA, HJ13, HO_5, HO_10, HO_12, BK101, HB⟩ := hcut
  cases kq with
  | zero => exact absurd HA.out (by simp [flagstonelaw09_RefsTells.j0])
  | succ kj13 =>
   have H := HA.out
   clear HA
   simp only [flagstonelaw09_RefsTells.j0] at H
   by_cases c105 : x140_13 = true
   ·subst c105
    have H1 : (none) = some r := by rw [if_pos rfl] at H; exact H
    clear H
    have H := H1
    clear H1
    cases H
   ·replace c105 := Bool.eq_false_iff.mpr c105
    subst c105
    have H1 : (flagstonelaw09_RefsTells.l0 kj13 l0 t102 t113 t117 0) = some r := by rw [if_neg (show ¬ (false = true) by decide)] at H; exact H
    clear H
    have H := H1
    clear H1
    have H' := Aside0.mk H
    clear H
    go_wp2
    repeat (go_quiet (fail); try go_wp2)
    go_loopg [26] kj13 (fun kq v26 w' => ∃ (x26_2 : Int), v26 = .int .i64 x26_2 ∧ Aside0 (flagstonelaw09_RefsTells.l0 kq l0 t102 t113 t117 x26_2 = some r) ∧ Aside0 (kq ≤ kj13) ∧ Aside0 (Kd.S k94 94 w' w.heap.size (fun _ => True) (.slice Ao17 t102.length co17) t102) ∧ Aside0 (Kd.R k96 96 w' w.heap.size (fun _ => True) v115 t113) ∧ Aside0 (Kd.R k114 114 w' w.heap.size (fun _ => True) v119 t117) ∧ Aside0 (w'.heap[gb101]? = some (.cells #[.int .i64 a1_0, .int .i64 a1_1] 40 (0, 0))) ∧ Aside0 (Below w.heap.size w w'))
    case atStart => exact ⟨(0), (by first | rfl | (simp; done) | (simp [*]; done)), H', ⟨Nat.le_refl _⟩, ⟨by (with_reducible repeat (first | apply Kd.S_alloc | apply Kd.S_drewN | apply Kd.S_drew)); exact HO_5.out⟩, ⟨by (with_reducible repeat (first | apply Kd.R_alloc | apply Kd.R_drewN | apply Kd.R_drew)); exact HO_10.out⟩, ⟨by (with_reducible repeat (first | apply Kd.R_alloc | apply Kd.R_drewN | apply Kd.R_drew)); exact HO_12.out⟩, ⟨by (with_reducible repeat (first | refine blk_drewN ?_ _ | refine blk_drew ?_ | refine blk_alloc ?_ _)); exact BK101.out⟩, ⟨by repeat (first | (with_reducible first | exact HB.out | apply below_alloc | apply pw_below_drewN | apply below_drew1 | refine below_set ?_ GE101.out) | exact HB.out)⟩⟩
    case round =>
     clear H'
     try clear c1
     try clear p2
     try clear c3
     try clear c4
     try clear c10
     try clear c19
     try clear c33
     try clear c35
     try clear c35b0
     try clear c35b1
     try clear c36
     try clear c36b0
     try clear c36b1
     try clear c36b2
     try clear c38
     try clear c38b0
     try clear c38b1
     try clear c40
     try clear c42
     try clear c42b0
     try clear c42b1
     try clear c44
     try clear c46
     try clear c46b0
     try clear c46b1
     try clear c47
     try clear c47b0
     try clear c47b1
     try clear c47b2
     try clear c105
     try clear hcz22_0
     try clear hcz22_1
     try clear hcz24_0
     try clear hcz24_1
     try clear hcz28_0
     try clear hcz28_1
     try clear hcz30_0
     try clear hcz30_1
     try clear hfz22_0
     try clear hfz22_1
     try clear hfz24_0
     try clear hfz24_1
     try clear hfz28_0
     try clear hfz28_1
     try clear hfz30_0
     try clear hfz30_1
     try clear p2
     obtain ⟨x26_2, rfl, HA, HK2, HO_5, HO_10, HO_12, BK101, HB⟩ := hrel
     cases gk with
     | zero => exact absurd HA.out (by simp [flagstonelaw09_RefsTells.l0])
     | succ k2 =>
      have H := HA.out
      clear HA
      simp only [flagstonelaw09_RefsTells.l0] at H
      by_cases c106 : x26_2 < (t113.length : Int)
      ·rw [if_pos c106] at H
       have c106b0 : decide (x26_2 < (t113.length : Int)) = true := decide_eq_true c106
       clear c106
       by_cases c107 : 0 ≤ x26_2
       ·rw [if_pos c107] at H
        have c107b0 : decide (0 ≤ x26_2) = true := decide_eq_true c107
        clear c107
        by_cases c108 : x26_2 < (t117.length : Int)
        ·rw [if_pos c108] at H
         have c108b0 : decide (x26_2 < (t117.length : Int)) = true := decide_eq_true c108
         clear c108
         by_cases c109 : (!(((rd_T96 t113 x26_2).f0) == ((rd_T114 t117 x26_2).f0)) || (!(((rd_T96 t113 x26_2).f1) == ((rd_T114 t117 x26_2).f1)) || (!(((rd_T96 t113 x26_2).f2) == ((rd_T114 t117 x26_2).f2))))) = true
         ·rw [if_pos c109] at H
          have c109b0 : (!(((rd_T96 t113 x26_2).f0) == ((rd_T114 t117 x26_2).f0)) || (!(((rd_T96 t113 x26_2).f1) == ((rd_T114 t117 x26_2).f1)) || (!(((rd_T96 t113 x26_2).f2) == ((rd_T114 t117 x26_2).f2))))) = true := c109
          clear c109
          cases H
         ·rw [if_neg c109] at H
          have c109b0 : (!(((rd_T96 t113 x26_2).f0) == ((rd_T114 t117 x26_2).f0)) || (!(((rd_T96 t113 x26_2).f1) == ((rd_T114 t117 x26_2).f1)) || (!(((rd_T96 t113 x26_2).f2) == ((rd_T114 t117 x26_2).f2))))) = false := by simpa using c109
          clear c109
          have H' := Aside0.mk H
          clear H
          obtain ⟨Ao112, co112, eo112⟩ := Kd.R_slice HO_10.out
          subst eo112
          have p149 : 0 ≤ (x26_2 : Int) := of_decide_eq_true (by first | (with_reducible assumption) | assumption)
          have q149 : x26_2 < (t113.length : Int) := of_decide_eq_true (by first | (with_reducible assumption) | assumption)
          obtain ⟨ad149, e149, hx149_0, hx149_1, hx149_2⟩ := at_T96 (Kd.R_reads' HO_10.out).2.2 x26_2 p149 q149
          cases e149
          replace p149 := eq_true p149
          replace q149 := eq_true q149
          obtain ⟨Ao113, co113, eo113⟩ := Kd.R_slice HO_12.out
          subst eo113
          have p150 : 0 ≤ (x26_2 : Int) := of_decide_eq_true (by first | (with_reducible assumption) | assumption)
          have q150 : x26_2 < (t117.length : Int) := of_decide_eq_true (by first | (with_reducible assumption) | assumption)
          obtain ⟨ad150, e150, hx150_0, hx150_1, hx150_2⟩ := at_T114 (Kd.R_reads' HO_12.out).2.2 x26_2 p150 q150
          cases e150
          replace p150 := eq_true p150
          replace q150 := eq_true q150
          go_wp2
          repeat (go_quiet (fail); try go_wp2)
          go_roundg k2
          case measure => have := HJ13.out; have := HK2.out; omega
          case rel => exact ⟨(wrap64 (x26_2 + 1)), (by first | rfl | (simp; done) | (simp [*]; done)), H', ⟨by have := HJ13.out; have := HK2.out; omega⟩, ⟨by (with_reducible repeat (first | apply Kd.S_alloc | apply Kd.S_drewN | apply Kd.S_drew)); exact HO_5.out⟩, ⟨by (with_reducible repeat (first | apply Kd.R_alloc | apply Kd.R_drewN | apply Kd.R_drew)); exact HO_10.out⟩, ⟨by (with_reducible repeat (first | apply Kd.R_alloc | apply Kd.R_drewN | apply Kd.R_drew)); exact HO_12.out⟩, ⟨by (with_reducible repeat (first | refine blk_drewN ?_ _ | refine blk_drew ?_ | refine blk_alloc ?_ _)); exact BK101.out⟩, ⟨by repeat (first | (with_reducible first | exact HB.out | apply below_alloc | apply pw_below_drewN | apply below_drew1 | refine below_set ?_ GE101.out) | exact HB.out)⟩⟩
        ·rw [if_neg c108] at H
         exact absurd H (by simp)
       ·rw [if_neg c107] at H
        exact absurd H (by simp)
      ·rw [if_neg c106] at H
       have c106b0 : decide (x26_2 < (t113.length : Int)) = false := decide_eq_false c106
       clear c106
       replace H := Option.bind_eq_some_iff.mp H
       obtain ⟨t151, A1140, H⟩ := H
       try dsimp only at H
       have A114 := Aside0.mk A1140
       clear A1140
       replace H := Option.bind_eq_some_iff.mp H
       obtain ⟨t152, A1150, H⟩ := H
       try dsimp only at H
       have A115 := Aside0.mk A1150
       clear A1150
       replace H := Option.bind_eq_some_iff.mp H
       obtain ⟨t153, A1160, H⟩ := H
       try dsimp only at H
       have A116 := Aside0.mk A1160
       clear A1160
       by_cases c117 : t152 = t153
       ·rw [if_pos c117] at H
        have c117b0 : (t152 == t153) = true := beq_iff_eq.mpr c117
        have c117b1 : (t152 != t153) = false := bne_eq_false_iff_eq.mpr c117
        clear c117
        replace H := Option.bind_eq_some_iff.mp H
        obtain ⟨t154, A1180, H⟩ := H
        replace H : (if t154 = 0 then ((flagstonelaw09_alive.f).bind fun t155 => (some t155)) else (none)) = some r := H
        have A118 := Aside0.mk A1180
        clear A1180
        by_cases c119 : t154 = 0
        ·rw [if_pos c119] at H
         have c119b0 : (t154 == 0) = true := beq_iff_eq.mpr c119
         have c119b1 : (t154 != 0) = false := bne_eq_false_iff_eq.mpr c119
         clear c119
         replace H := Option.bind_eq_some_iff.mp H
         obtain ⟨t155, A1200, H⟩ := H
         replace H : (some t155) = some r := H
         have A120 := Aside0.mk A1200
         clear A1200
         obtain rfl := Option.some.inj H
         obtain ⟨Ao121, co121, eo121⟩ := Kd.R_slice HO_10.out
         subst eo121
         go_wp2_with (first | (go_at_call 72; (with_reducible refine (refs_Check.calls k2 _ _ t102 t151 _ ?side1 ?side2 A114.out).mono ?_); (case side1 => repeat (first | exact (Kd.S_reads' HO_5.out).2.2 | (with_reducible refine Kd.C_alloc ?_ _) | (with_reducible refine Kd.C_drewN ?_ _) | (with_reducible refine Kd.C_drew ?_))); (case side2 => exact (Kd.S_reads' HO_5.out).2.1); rintro e w122 ⟨rfl, hb⟩; have n0_ := Aside0.mk (Kd.S_below (by (with_reducible repeat (first | apply Kd.S_alloc | apply Kd.S_drewN | apply Kd.S_drew)); exact HO_5.out) hb); have n1_ := Aside0.mk (Kd.R_below (by (with_reducible repeat (first | apply Kd.R_alloc | apply Kd.R_drewN | apply Kd.R_drew)); exact HO_10.out) hb); have n2_ := Aside0.mk (Kd.R_below (by (with_reducible repeat (first | apply Kd.R_alloc | apply Kd.R_drewN | apply Kd.R_drew)); exact HO_12.out) hb); have n3_ := Aside0.mk (blk_below (g := gb101) (o := .cells #[.int .i64 a1_0, .int .i64 a1_1] 40 (0, 0)) (by (with_reducible repeat (first | refine blk_drewN ?_ _ | refine blk_drew ?_ | refine blk_alloc ?_ _)); exact BK101.out) hb); have n4_ := Aside0.mk (below_step (by repeat (first | (with_reducible first | exact HB.out | apply below_alloc | apply pw_below_drewN | apply below_drew1 | refine below_set ?_ GE101.out) | exact HB.out)) hb); clear HO_5; clear HO_10; clear HO_12; clear BK101; clear HB; have HO_5 := n0_; have HO_10 := n1_; have HO_12 := n2_; have BK101 := n3_; have HB := n4_; clear n0_ n1_ n2_ n3_ n4_; (try clear hb); (try clear hb2); (try clear hk); (try clear hi)) | (go_at_call 60; (with_reducible refine (flagstonelaw09_num.calls t151 t152 _ A115.out).mono ?_); rintro e w' ⟨rfl, ⟨nd, rfl⟩⟩; (try first | exact ⟨rfl, _, World.drewN_drewN _ _ _⟩ | exact ⟨rfl, _, Eq.trans (World.drewN_drewN _ _ _) (congrArg (World.drewN _) (Nat.add_assoc _ _ _))⟩)) | (go_at_call 73; (with_reducible refine (flagstoneref09_Check.calls k2 _ _ l0 t153 _ ?side1 ?side2 A116.out).mono ?_); (case side1 => repeat (first | exact (Kd.C_below HR0.out (by repeat (first | (with_reducible first | exact HB.out | apply below_alloc | apply pw_below_drewN | apply below_drew1 | refine below_set ?_ GE101.out) | exact HB.out))) | (with_reducible refine Kd.C_alloc ?_ _) | (with_reducible refine Kd.C_drewN ?_ _) | (with_reducible refine Kd.C_drew ?_))); (case side2 => exact HC0.out); rintro e w123 ⟨rfl, hb⟩; have n0_ := Aside0.mk (Kd.S_below (by (with_reducible repeat (first | apply Kd.S_alloc | apply Kd.S_drewN | apply Kd.S_drew)); exact HO_5.out) hb); have n1_ := Aside0.mk (Kd.R_below (by (with_reducible repeat (first | apply Kd.R_alloc | apply Kd.R_drewN | apply Kd.R_drew)); exact HO_10.out) hb); have n2_ := Aside0.mk (Kd.R_below (by (with_reducible repeat (first | apply Kd.R_alloc | apply Kd.R_drewN | apply Kd.R_drew)); exact HO_12.out) hb); have n3_ := Aside0.mk (blk_below (g := gb101) (o := .cells #[.int .i64 a1_0, .int .i64 a1_1] 40 (0, 0)) (by (with_reducible repeat (first | refine blk_drewN ?_ _ | refine blk_drew ?_ | refine blk_alloc ?_ _)); exact BK101.out) hb); have n4_ := Aside0.mk (below_step (by repeat (first | (with_reducible first | exact HB.out | apply below_alloc | apply pw_below_drewN | apply below_drew1 | refine below_set ?_ GE101.out) | exact HB.out)) hb); clear HO_5; clear HO_10; clear HO_12; clear BK101; clear HB; have HO_5 := n0_; have HO_10 := n1_; have HO_12 := n2_; have BK101 := n3_; have HB := n4_; clear n0_ n1_ n2_ n3_ n4_; (try clear hb); (try clear hb2); (try clear hk); (try clear hi)) | (go_at_call 74; (with_reducible refine (flagstonelaw09_Alike.calls k2 _ _ t102 _ _ l0 t154 _ ?side1 ?side2 ?side3 ?side4 A118.out).mono ?_); (case side1 => repeat (first | exact (Kd.S_reads' HO_5.out).2.2 | (with_reducible refine Kd.C_alloc ?_ _) | (with_reducible refine Kd.C_drewN ?_ _) | (with_reducible refine Kd.C_drew ?_))); (case side2 => exact (Kd.S_reads' HO_5.out).2.1); (case side3 => repeat (first | exact (Kd.C_below HR0.out HB.out) | (with_reducible refine Kd.C_alloc ?_ _) | (with_reducible refine Kd.C_drewN ?_ _) | (with_reducible refine Kd.C_drew ?_))); (case side4 => exact HC0.out); rintro e w' ⟨rfl, ⟨nd, rfl⟩⟩; (try first | exact ⟨rfl, _, World.drewN_drewN _ _ _⟩ | exact ⟨rfl, _, Eq.trans (World.drewN_drewN _ _ _) (congrArg (World.drewN _) (Nat.add_assoc _ _ _))⟩)) | (go_at_call 57; (with_reducible refine (flagstonelaw09_alive.calls  t155 _ A120.out).mono ?_); rintro e w124 ⟨rfl, hb⟩; have n0_ := Aside0.mk (Kd.S_below (by (with_reducible repeat (first | apply Kd.S_alloc | apply Kd.S_drewN | apply Kd.S_drew)); exact HO_5.out) hb); have n1_ := Aside0.mk (Kd.R_below (by (with_reducible repeat (first | apply Kd.R_alloc | apply Kd.R_drewN | apply Kd.R_drew)); exact HO_10.out) hb); have n2_ := Aside0.mk (Kd.R_below (by (with_reducible repeat (first | apply Kd.R_alloc | apply Kd.R_drewN | apply Kd.R_drew)); exact HO_12.out) hb); have n3_ := Aside0.mk (blk_below (g := gb101) (o := .cells #[.int .i64 a1_0, .int .i64 a1_1] 40 (0, 0)) (by (with_reducible repeat (first | refine blk_drewN ?_ _ | refine blk_drew ?_ | refine blk_alloc ?_ _)); exact BK101.out) hb); have n4_ := Aside0.mk (below_step (by repeat (first | (with_reducible first | exact HB.out | apply below_alloc | apply pw_below_drewN | apply below_drew1 | refine below_set ?_ GE101.out) | exact HB.out)) hb); clear HO_5; clear HO_10; clear HO_12; clear BK101; clear HB; have HO_5 := n0_; have HO_10 := n1_; have HO_12 := n2_; have BK101 := n3_; have HB := n4_; clear n0_ n1_ n2_ n3_ n4_; (try clear hb); (try clear hb2); (try clear hk); (try clear hi)))
         go_ret
         exact ⟨by first | rfl | (simp [errW_none, errW_some] <;> rfl) | (simp [*, errW_none, errW_some] <;> rfl), by repeat (first | (with_reducible first | exact HB.out | apply below_alloc | apply pw_below_drewN | apply below_drew1 | refine below_set ?_ GE101.out) | exact HB.out)⟩
        ·rw [if_neg c119] at H
         cases H
       ·rw [if_neg c117] at H
        cases H
end Go.Proofs.Ytkkfkdncddbaeaa.Fn
namespace Go.Proofs.Ytkkfkdncddbaeaa.Fn
open Go.RowKit Go.Proofs.YtkkfkdncddbaeaaW.PrintWords Go.Proofs.YtkkfkdncddbaeaaW.PrintLast Go.Proofs.YtkkfkdncddbaeaaW.PrintMore
attribute [local go_sem] max2_int min2_int max_two min_two max_three min_three max_four min_four
set_option linter.unusedVariables false
set_option linter.unusedSimpArgs false
theorem refs9 {l : List S94} (h : Flag.checkM (l.map toM) = 0) : Flag.Ok9 ((sortRefL (refsG l)).map toR) ∧ (sortRefL (refsG l)).length ≤ 9216 := by
  have h9 := Flag.checkM_ok.1 h
  have e1 : ((sortRefL (refsG l)).map toR).length = (refsG l).length := by rw [sortRefL_toR, (Flag.sortR_perm _).length_eq, List.length_map]
  rw [List.length_map] at e1
  refine ⟨?_, by rw [e1]; exact refsG_len h9⟩
  rw [sortRefL_toR, refsG_toR]
  exact (Flag.refsM_ok h9).perm (Flag.sortR_perm _)
theorem example9 : refs_Counts.f [(⟨0, [⟨0, 3, 4⟩]⟩ : S94), ⟨1, [⟨9, 3, 4⟩]⟩] = some ([⟨3, 4, 2⟩], 0) := by
  have h1 : Flag.checkM (List.map toM [(⟨0, [⟨0, 3, 4⟩]⟩ : S94), ⟨1, [⟨9, 3, 4⟩]⟩]) = 0 := by kernel_rfl
  have h2 : sortRefL (refsG [(⟨0, [⟨0, 3, 4⟩]⟩ : S94), ⟨1, [⟨9, 3, 4⟩]⟩]) = [⟨3, 4, 0, 0⟩, ⟨3, 4, 1, 9⟩] := by kernel_rfl
  have h3 : countsL [(⟨3, 4, 0, 0⟩ : S88), ⟨3, 4, 1, 9⟩] = [⟨3, 4, 2⟩] := by
    have h4 := (refs9 h1)
    rw [h2] at h4
    have e : edgesS [(⟨3, 4, 0, 0⟩ : S88), ⟨3, 4, 1, 9⟩] = [⟨3, 1⟩, ⟨7, -1⟩, ⟨3, 1⟩, ⟨7, -1⟩] := by kernel_rfl
    have hp : List.Perm [(⟨3, 1⟩ : S40), ⟨3, 1⟩, ⟨7, -1⟩, ⟨7, -1⟩] (edgesS [(⟨3, 4, 0, 0⟩ : S88), ⟨3, 4, 1, 9⟩]) := by
      rw [e]
      exact List.Perm.cons _ (List.Perm.swap _ _ _)
    have hs : List.Pairwise (fun a b : S40 => a.f0 ≤ b.f0) [⟨3, 1⟩, ⟨3, 1⟩, ⟨7, -1⟩, ⟨7, -1⟩] := by simp
    have h5 : (List.foldl stepS (([], 0, 0) : List S96 × Int × Int) [(⟨3, 1⟩ : S40), ⟨3, 1⟩, ⟨7, -1⟩, ⟨7, -1⟩]).1 = [⟨3, 4, 2⟩] := by kernel_rfl
    exact (counts_one h4.1 h4.2 hp hs).symm.trans h5
  unfold refs_Counts.f
  rw [if_pos h1, h2, h3]
theorem alive9 : flagstonelaw09_alive.f = some true := by
  unfold flagstonelaw09_alive.f flagstonelaw09_num.f
  rw [example9]
  kernel_rfl
def toS (x : S86) : S94 := ⟨x.f0, x.f1⟩
theorem rd_m9 (pre : List S86) (x : S86) (t : List S86) {i : Int} (h : i = pre.length) : rd_T86 (pre ++ x :: t) i = x := by
  unfold rd_T86
  rw [h, Int.toNat_natCast, List.getD_eq_getElem?_getD, List.getElem?_append_right (Nat.le_refl _), Nat.sub_self]; rfl
theorem rd_r9 (pre : List S88) (x : S88) (t : List S88) {i : Int} (h : i = pre.length) : rd_T88 (pre ++ x :: t) i = x := by
  unfold rd_T88
  rw [h, Int.toNat_natCast, List.getD_eq_getElem?_getD, List.getElem?_append_right (Nat.le_refl _), Nat.sub_self]; rfl
theorem copy9 {l : List S24} (hl : l.length < 5864062014805) : flagstoneplain_CopyExtents.f l = some l := by
  unfold flagstoneplain_CopyExtents.f
  rw [if_pos (by simp; omega), List.nil_append]
theorem of_loop (l : List S86) (hl : l.length < 4398046511104) (hx : ∀ x ∈ l, x.f1.length < 5864062014805) (t : List S86) : ∀ (pre : List S86) (k : Nat), l = pre ++ t → t.length < k → flagstonelaw09_Of.l0 k l (pre.map toS) (pre.length : Int) = some (l.map toS) := by
  induction t with
  | nil =>
    intro pre k h hk
    obtain ⟨k, rfl⟩ : ∃ k', k = k' + 1 := ⟨k - 1, by simp at hk; omega⟩
    rw [flagstonelaw09_Of.l0, if_neg (by rw [h]; simp), h, List.append_nil]
  | cons x t ih =>
    intro pre k h hk
    obtain ⟨k, rfl⟩ : ∃ k', k = k' + 1 := ⟨k - 1, by simp at hk; omega⟩
    have hlen : l.length = pre.length + t.length + 1 := by rw [h]; simp; omega
    have hr : rd_T86 l (pre.length : Int) = x := by rw [h]; exact rd_m9 pre x t rfl
    have e1 : wrap64 ((pre.length : Int) + 1) = ((pre ++ [x]).length : Int) := by rw [w64 (by omega)]; simp
    have hnext := ih (pre ++ [x]) k (by rw [h]; simp) (by simp at hk; omega)
    rw [flagstonelaw09_Of.l0, if_pos (by omega), if_pos (by omega), hr, copy9 (hx x (by rw [h]; simp)), Option.bind_some, if_pos (by rw [List.length_map]; omega), e1]
    rw [List.map_append] at hnext
    exact hnext
theorem of9 {l : List S86} (hl : l.length < 4398046511104) (hx : ∀ x ∈ l, x.f1.length < 5864062014805) {k : Nat} (hk : l.length < k) : flagstonelaw09_Of.f k l = some (l.map toS) := by
  unfold flagstonelaw09_Of.f
  have := of_loop l hl hx l [] k rfl hk
  exact this
theorem of_toM (l : List S86) : (l.map toS).map toM = l.map fun x => ⟨x.f0, x.f1.map toE⟩ := by
  rw [List.map_map]; rfl
structure Maps86 (m : List S86) : Prop where
  len : m.length ≤ 9
  each : ∀ x ∈ m, x.f1.length ≤ 1024 ∧ ∀ y ∈ x.f1, Flag.okMap (toE y)
theorem maps86 {m : List S86} (h : Flag.checkM ((m.map toS).map toM) = 0) : Maps86 m := by
  have h9 := Flag.checkM_ok.1 h
  refine ⟨by simpa using h9.len, fun x hx => ?_⟩
  obtain ⟨h1, h2, h3⟩ := h9.each ⟨x.f0, x.f1.map toE⟩ (by rw [of_toM]; exact List.mem_map.2 ⟨x, hx, rfl⟩)
  exact ⟨by simpa using h3.len, fun y hy => h3.ok _ (List.mem_map_of_mem hy)⟩
theorem whoS_len {l : List S88} (a b : Int) (hl : l.length ≤ 9216) (h : Flag.Ok9 (l.map toR)) (ha : 0 ≤ a ∧ a < 9223372036854775808) (hb : 0 < b ∧ b < 9223372036854775808) : (whoS l a b).length ≤ 9216 := by
  have e : ((whoS l a b).map toR).length = ((whoG l a b).map toR).length := by rw [whoS_toR, (Flag.sortR_perm _).length_eq, whoG_toR h ha hb]
  rw [List.length_map, List.length_map] at e
  have := whoG_len l a b
  omega
def spR (r : S88) : S40 := ⟨r.f0, r.f1⟩
theorem ok_spR {l : List S88} (h : Flag.Ok9 (l.map toR)) : ∀ x ∈ l.map spR, OkSp x := by
  intro x hx
  obtain ⟨r, hr, rfl⟩ := List.mem_map.1 hx
  have h := h.each (toR r) (List.mem_map_of_mem hr)
  unfold toR at h
  dsimp only at h
  exact ⟨by show 0 ≤ r.f0; omega, by show 0 < r.f1; omega, by show r.f0 + r.f1 ≤ _; omega⟩
theorem used_loop (q : List S88) (hq : q.length ≤ 9216) (hok : Flag.Ok9 (q.map toR)) (t : List S88) : ∀ (pre : List S88) (k : Nat), q = pre ++ t → t.length < k →
    refs_Used.l0 k (pre.map spR) q (q.length : Int) (pre.length : Int) = some (joinL (q.map spR), 0) := by
  induction t with
  | nil =>
    intro pre k h hk
    obtain ⟨k, rfl⟩ : ∃ k', k = k' + 1 := ⟨k - 1, by simp at hk; omega⟩
    rw [List.append_nil] at h
    subst h
    rw [refs_Used.l0, if_neg (by omega)]
    unfold extent_Join.f
    rw [if_pos ⟨by rw [List.length_map]; omega, ok_spR hok⟩]
    rfl
  | cons s t ih =>
    intro pre k h hk
    obtain ⟨k, rfl⟩ : ∃ k', k = k' + 1 := ⟨k - 1, by simp at hk; omega⟩
    have hlen : q.length = pre.length + t.length + 1 := by rw [h]; simp; omega
    have hr : rd_T88 q (pre.length : Int) = s := by rw [h]; exact rd_r9 pre s t rfl
    have e1 : wrap64 ((pre.length : Int) + 1) = ((pre ++ [s]).length : Int) := by rw [w64 (by omega)]; simp
    have hnext := ih (pre ++ [s]) k (by rw [h]; simp) (by simp at hk; omega)
    rw [refs_Used.l0, if_pos (by omega), if_pos (by omega), if_pos (by omega), if_pos (by rw [List.length_map]; omega), hr, e1]
    rw [List.map_append] at hnext
    exact hnext
theorem used9 {l : List S94} {k : Nat} (hk : 9217 < k) : refs_Used.f k l = some (if Flag.checkM (l.map toM) = 0 then (joinL ((sortRefL (refsG l)).map spR), 0) else ([], 9)) := by
  unfold refs_Used.f refs_Refs.f
  rw [Option.bind_some]
  by_cases hc : Flag.checkM (l.map toM) = 0
  · obtain ⟨r1, r2⟩ := refs9 hc
    rw [if_pos hc, if_pos hc]
    dsimp only
    rw [if_pos rfl]
    have := used_loop _ r2 r1 (sortRefL (refsG l)) [] k rfl (by omega)
    exact this
  · rw [if_neg hc, if_neg hc]
    rfl
theorem join_len (l : List S40) : (joinL l).length ≤ l.length := by
  have h := joinFold_length (sortL l) []
  rw [(sortL_perm l).length_eq] at h
  simpa [joinL] using h
theorem join_mem {q : List S88} (hok : Flag.Ok9 (q.map toR)) (i : Int) : (∃ u ∈ joinL (q.map spR), u.f0 ≤ i ∧ i < u.f0 + u.f1) ↔ 0 < Flag.cnt (q.map toR) i := by
  have h1 := joinL_toP (ok_spR hok)
  have e : (q.map spR).map toP = Flag.spansR (q.map toR) := by
    unfold Flag.spansR
    rw [List.map_map, List.map_map]; rfl
  have hpos : ∀ x ∈ (sortL (q.map spR)).map toP, 0 < x.n := by
    intro x hx
    obtain ⟨y, hy, rfl⟩ := List.mem_map.1 hx
    exact (ok_spR hok y ((sortL_perm _).mem_iff.1 hy)).n
  have h2 := (Flag.joinS_spec (rising_toP (sortL_sorted (q.map spR))) hpos).2 i
  rw [← h1, Flag.memS_perm ((sortL_perm (q.map spR)).map toP), e, Flag.memS_spans] at h2
  rw [← h2, Flag.memS_iff]
  constructor
  · rintro ⟨u, hu, h3⟩
    exact ⟨toP u, List.mem_map_of_mem hu, h3⟩
  · rintro ⟨u, hu, h3⟩
    obtain ⟨v, hv, rfl⟩ := List.mem_map.1 hu
    exact ⟨v, hv, h3⟩
theorem join_ok {q : List S88} (hok : Flag.Ok9 (q.map toR)) : ∀ u ∈ joinL (q.map spR), OkSp u :=
  (joinFold_toP (sortL (q.map spR)) [] (fun y hy => by cases hy) (fun x hx => ok_spR hok x ((sortL_perm _).mem_iff.1 hx))).2
theorem countsL_len (q : List S88) : (countsL q).length ≤ 2 * q.length := by
  have h := foldS_length (sortL (edgesS q)) ([], 0, 0)
  rw [(sortL_perm _).length_eq, edgesS_len] at h
  simpa [countsL] using h
theorem rd_c9 (pre : List S96) (x : S96) (t : List S96) {i : Int} (h : i = pre.length) : rd_T96 (pre ++ x :: t) i = x := by
  unfold rd_T96
  rw [h, Int.toNat_natCast, List.getD_eq_getElem?_getD, List.getElem?_append_right (Nat.le_refl _), Nat.sub_self]; rfl
theorem rd_s9 (pre : List S40) (x : S40) (t : List S40) {i : Int} (h : i = pre.length) : rd_T40 (pre ++ x :: t) i = x := by
  unfold rd_T40
  rw [h, Int.toNat_natCast, List.getD_eq_getElem?_getD, List.getElem?_append_right (Nat.le_refl _), Nat.sub_self]; rfl
theorem rd40_at (pre : List S40) (x : S40) (t : List S40) {i : Int} (h : i = pre.length) : rd_T40 (pre ++ x :: t) i = x := by
  subst h; simp [rd_T40]
def insS (s : List S40) (x : S40) : List S40 := s.takeWhile (fun y => decide (y.f0 ≤ x.f0)) ++ [x] ++ s.dropWhile (fun y => decide (y.f0 ≤ x.f0))
theorem insS_perm (s : List S40) (x : S40) : (insS s x).Perm (s ++ [x]) := by
  unfold insS
  have h := List.takeWhile_append_dropWhile (p := fun y : S40 => decide (y.f0 ≤ x.f0)) (l := s)
  conv => rhs; rw [← h]
  rw [List.append_assoc, List.append_assoc]
  exact List.Perm.append_left _ List.perm_append_comm
theorem insS_sorted {s : List S40} (x : S40) (h : s.Pairwise fun a b => a.f0 ≤ b.f0) : (insS s x).Pairwise fun a b => a.f0 ≤ b.f0 := by
  unfold insS
  induction s with
  | nil => simp
  | cons y t ih =>
    have h2 := List.pairwise_cons.1 h
    by_cases c : y.f0 ≤ x.f0
    · rw [List.takeWhile_cons_of_pos (by simpa using c), List.dropWhile_cons_of_pos (by simpa using c)]
      refine List.pairwise_cons.2 ⟨fun z hz => ?_, ih h2.2⟩
      have hz : z ∈ insS t x := hz
      have hz := (insS_perm t x).mem_iff.1 hz
      rcases List.mem_append.1 hz with hz | hz
      · exact h2.1 z hz
      · have : z = x := by simpa using hz
        rw [this]; exact c
    · rw [List.takeWhile_cons_of_neg (by simpa using c), List.dropWhile_cons_of_neg (by simpa using c)]
      refine List.pairwise_cons.2 ⟨fun z hz => ?_, h⟩
      rcases List.mem_cons.1 hz with rfl | hz
      · omega
      · have := h2.1 z hz; omega
theorem insFold (l : List S40) : ∀ s : List S40, (s.Pairwise fun a b => a.f0 ≤ b.f0) → (l.foldl insS s).Perm (s ++ l) ∧ (l.foldl insS s).Pairwise fun a b => a.f0 ≤ b.f0 := by
  induction l with
  | nil => intro s hs; exact ⟨by simp, hs⟩
  | cons x t ih =>
    intro s hs
    obtain ⟨h1, h2⟩ := ih (insS s x) (insS_sorted x hs)
    refine ⟨?_, h2⟩
    rw [List.foldl_cons]
    refine h1.trans ?_
    have := (insS_perm s x).append_right t
    simpa using this
theorem insS_length (s : List S40) (x : S40) : (insS s x).length = s.length + 1 := by
  have := (insS_perm s x).length_eq
  simpa using this
theorem join_l1 (x0 p0 t0 : List S40) (x : S40) (hx0 : x0 = p0 ++ x :: t0) (hb : x0.length < 1099511627776) (s : List S40) (hs : s.length < 1099511627776) (R : List S40) (t : List S40) : ∀ pre : List S40, s = pre ++ t →
    Ev (fun k => flagstoneref05_Join.l0 k x0 (pre ++ t.takeWhile (fun y => decide (y.f0 ≤ x.f0)) ++ [x] ++ t.dropWhile (fun y => decide (y.f0 ≤ x.f0))) ((p0.length : Int) + 1)) R → Ev (fun k => flagstoneref05_Join.l1 k x0 s (p0.length : Int) (pre.length : Int)) R := by
  have hlen0 : x0.length = p0.length + t0.length + 1 := by rw [hx0]; simp; omega
  have hr0 : rd_T40 x0 (p0.length : Int) = x := by rw [hx0]; exact rd40_at p0 x t0 rfl
  have ew : wrap64 ((p0.length : Int) + 1) = (p0.length : Int) + 1 := w64 (by omega)
  induction t with
  | nil =>
    intro pre h he
    have hlen : s.length = pre.length := by rw [h]; simp
    refine Ev.step (fun k => ?_) he
    rw [flagstoneref05_Join.l1, if_neg (by omega), if_pos (by omega), if_pos (by omega), Option.bind_some, if_pos (by simp; omega), Option.bind_some, if_pos (by omega), if_pos (by omega), if_pos (by simp; omega), Option.bind_some, Option.bind_some, if_pos (by simp; omega), hr0, ew]
    have e1 : s.take (pre.length : Int).toNat = pre := by rw [Int.toNat_natCast, h]; simp
    have e2 : s.drop (pre.length : Int).toNat = [] := by rw [Int.toNat_natCast, h]; simp
    rw [e1, e2]
    simp
  | cons y t ih =>
    intro pre h he
    have hlen : s.length = pre.length + t.length + 1 := by rw [h]; simp; omega
    have hr : rd_T40 s (pre.length : Int) = y := by rw [h]; exact rd40_at pre y t rfl
    by_cases c : y.f0 ≤ x.f0
    · have e1 : wrap64 ((pre.length : Int) + 1) = ((pre ++ [y]).length : Int) := by rw [w64 (by omega)]; simp
      rw [List.takeWhile_cons_of_pos (by simpa using c), List.dropWhile_cons_of_pos (by simpa using c)] at he
      have hn := ih (pre ++ [y]) (by rw [h]; simp) (by simpa using he)
      refine Ev.step (fun k => ?_) hn
      rw [flagstoneref05_Join.l1, if_pos (by omega), if_pos (by omega), if_pos (by omega), if_pos (by omega), hr, hr0, if_pos c, e1]
    · rw [List.takeWhile_cons_of_neg (by simpa using c), List.dropWhile_cons_of_neg (by simpa using c)] at he
      refine Ev.step (fun k => ?_) he
      rw [flagstoneref05_Join.l1, if_pos (by omega), if_pos (by omega), if_pos (by omega), if_pos (by omega), hr, hr0, if_neg c, if_pos (by omega), Option.bind_some, if_pos (by simp; omega), Option.bind_some, if_pos (by simp; omega), Option.bind_some, Option.bind_some, if_pos (by simp; omega), ew]
      have e1 : s.take (pre.length : Int).toNat = pre := by rw [Int.toNat_natCast, h]; simp
      have e2 : s.drop (pre.length : Int).toNat = y :: t := by rw [Int.toNat_natCast, h]; simp
      rw [e1, e2]
      simp
theorem join_l0 (x0 : List S40) (hb : x0.length < 1099511627776) (R : List S40) (t0 : List S40) : ∀ p0 s : List S40, x0 = p0 ++ t0 → s.length = p0.length →
    Ev (fun k => flagstoneref05_Join.l2 k (t0.foldl insS s) [] 0) R → Ev (fun k => flagstoneref05_Join.l0 k x0 s (p0.length : Int)) R := by
  induction t0 with
  | nil =>
    intro p0 s h hs he
    refine Ev.step (fun k => ?_) he
    rw [flagstoneref05_Join.l0, if_neg (by rw [h]; simp)]
    rfl
  | cons x t ih =>
    intro p0 s h hs he
    have hlen0 : x0.length = p0.length + t.length + 1 := by rw [h]; simp; omega
    have h1 := ih (p0 ++ [x]) (insS s x) (by rw [h]; simp) (by rw [insS_length]; simp; omega) he
    have e1 : (((p0 ++ [x]).length : Int)) = (p0.length : Int) + 1 := by simp
    rw [e1] at h1
    have h2 := join_l1 x0 p0 t x h hb s (by omega) R s [] rfl (by simpa [insS] using h1)
    refine Ev.step (fun k => ?_) h2
    rw [flagstoneref05_Join.l0, if_pos (by omega)]
    rfl
theorem join_l2 (ys : List S40) (hb : ys.length < 1099511627776) (t : List S40) : ∀ pre o : List S40, ys = pre ++ t → o.length ≤ pre.length →
    Ev (fun k => flagstoneref05_Join.l2 k ys o (pre.length : Int)) (t.foldl joinG o) := by
  induction t with
  | nil =>
    intro pre o h ho
    refine Ev.step (f := fun _ => some o) (fun k => ?_) (Ev.now o)
    rw [flagstoneref05_Join.l2, if_neg (by rw [h]; simp)]
  | cons x t ih =>
    intro pre o h ho
    have hlen : ys.length = pre.length + t.length + 1 := by rw [h]; simp; omega
    have hr : rd_T40 ys (pre.length : Int) = x := by rw [h]; exact rd40_at pre x t rfl
    have e1 : wrap64 ((pre.length : Int) + 1) = ((pre ++ [x]).length : Int) := by rw [w64 (by omega)]; simp
    have hn := ih (pre ++ [x]) (joinG o x) (by rw [h]; simp) (by have := joinG_length o x; simp; omega)
    refine Ev.step (fun k => ?_) hn
    rw [flagstoneref05_Join.l2, if_pos (by omega), hr, e1, w64 (n := (o.length : Int) - 1) (by omega)]
    unfold joinG
    by_cases c1 : (o.length : Int) - 1 ≥ 0
    · rw [if_pos c1, if_pos (by omega), if_pos (by omega), if_pos (by omega)]
      by_cases c2 : x.f0 ≤ wrap64 ((rd_T40 o ((o.length : Int) - 1)).f0 + (rd_T40 o ((o.length : Int) - 1)).f1)
      · rw [if_pos c2, if_pos ⟨by omega, c2⟩]
      · rw [if_neg c2, if_pos (show o.length < 8796093022208 by omega)]
        exact congrArg (fun z => flagstoneref05_Join.l2 k ys z _) (if_neg (fun h => c2 h.2)).symm
    · rw [if_neg c1, if_pos (show (0 : Int) ≤ (pre.length : Int) by omega), if_pos (show o.length < 8796093022208 by omega)]
      exact congrArg (fun z => flagstoneref05_Join.l2 k ys z _) (if_neg (fun h => c1 (by omega))).symm
theorem join_r {l : List S40} (hb : l.length < 1099511627776) (h : ∀ x ∈ l, OkSp x) : Ev (fun k => flagstoneref05_Join.f k l) (joinL l) := by
  obtain ⟨h1, h2⟩ := insFold l [] List.Pairwise.nil
  rw [List.nil_append] at h1
  have h3 := join_l2 (l.foldl insS []) (by rw [h1.length_eq]; exact hb) (l.foldl insS []) [] [] rfl (Nat.le_refl _)
  rw [joinL_of h h1 h2] at h3
  exact join_l0 l hb _ l [] [] rfl rfl h3
def to8 (x : S118) : Flag.Rf := ⟨x.f0, x.f1, x.f2, x.f3⟩
def cv (r : S88) : S118 := ⟨r.f0, r.f1, r.f2, r.f3⟩
def of8 (r : Flag.Rf) : S118 := ⟨r.p, r.n, r.o, r.v⟩
theorem rd_8 (pre : List S118) (x : S118) (t : List S118) {i : Int} (h : i = pre.length) : rd_T118 (pre ++ x :: t) i = x := by
  unfold rd_T118
  rw [h, Int.toNat_natCast, List.getD_eq_getElem?_getD, List.getElem?_append_right (Nat.le_refl _), Nat.sub_self]; rfl
theorem before_8 (x y : S118) : flagstoneref09_before.f x.f0 x.f1 x.f2 x.f3 y.f0 y.f1 y.f2 y.f3 = some (decide (Flag.ltR (to8 x) (to8 y))) := by
  unfold flagstoneref09_before.f
  have e : Flag.ltR (to8 x) (to8 y) ↔ x.f0 < y.f0 ∨ (x.f0 = y.f0 ∧ (x.f2 < y.f2 ∨ (x.f2 = y.f2 ∧ x.f3 < y.f3))) := Iff.rfl
  by_cases c1 : x.f0 = y.f0
  · rw [if_pos c1]
    by_cases c2 : x.f2 = y.f2
    · rw [if_pos c2]; congr 1; exact decide_eq_decide.2 (by rw [e]; omega)
    · rw [if_neg c2]; congr 1; exact decide_eq_decide.2 (by rw [e]; omega)
  · rw [if_neg c1]; congr 1; exact decide_eq_decide.2 (by rw [e]; omega)
def st8 (x y : S118) : Bool := decide (¬ Flag.ltR (to8 x) (to8 y))
def ins8 (s : List S118) (x : S118) : List S118 := s.takeWhile (st8 x) ++ [x] ++ s.dropWhile (st8 x)
theorem ins8_length (s : List S118) (x : S118) : (ins8 s x).length = s.length + 1 := by
  unfold ins8
  have h := congrArg List.length (List.takeWhile_append_dropWhile (p := st8 x) (l := s))
  rw [List.length_append] at h
  rw [List.length_append, List.length_append, List.length_singleton]
  omega
theorem sorted_l1 (x0 p0 t0 : List S118) (x : S118) (hx0 : x0 = p0 ++ x :: t0) (hb : x0.length < 1099511627776) (s : List S118) (hs : s.length < 1099511627776) (R : List S118) (t : List S118) : ∀ pre : List S118, s = pre ++ t →
    Ev (fun k => flagstoneref09_sorted.l0 k x0 (pre ++ t.takeWhile (st8 x) ++ [x] ++ t.dropWhile (st8 x)) ((p0.length : Int) + 1)) R → Ev (fun k => flagstoneref09_sorted.l1 k x0 s (p0.length : Int) (pre.length : Int)) R := by
  have hlen0 : x0.length = p0.length + t0.length + 1 := by rw [hx0]; simp; omega
  have hr0 : rd_T118 x0 (p0.length : Int) = x := by rw [hx0]; exact rd_8 p0 x t0 rfl
  have ew : wrap64 ((p0.length : Int) + 1) = (p0.length : Int) + 1 := w64 (by omega)
  induction t with
  | nil =>
    intro pre h he
    have hlen : s.length = pre.length := by rw [h]; simp
    refine Ev.step (fun k => ?_) he
    rw [flagstoneref09_sorted.l1, if_neg (by omega), if_pos (by omega), if_pos (by omega), Option.bind_some, if_pos (by simp; omega), Option.bind_some, if_pos (by omega), if_pos (by omega), if_pos (by simp; omega), Option.bind_some, Option.bind_some, if_pos (by simp; omega), hr0, ew]
    have e1 : s.take (pre.length : Int).toNat = pre := by rw [Int.toNat_natCast, h]; simp
    have e2 : s.drop (pre.length : Int).toNat = [] := by rw [Int.toNat_natCast, h]; simp
    rw [e1, e2]
    simp
  | cons y t ih =>
    intro pre h he
    have hlen : s.length = pre.length + t.length + 1 := by rw [h]; simp; omega
    have hr : rd_T118 s (pre.length : Int) = y := by rw [h]; exact rd_8 pre y t rfl
    by_cases c : st8 x y = true
    · have e1 : wrap64 ((pre.length : Int) + 1) = ((pre ++ [y]).length : Int) := by rw [w64 (by omega)]; simp
      rw [List.takeWhile_cons_of_pos c, List.dropWhile_cons_of_pos c] at he
      have hn := ih (pre ++ [y]) (by rw [h]; simp) (by simpa using he)
      have hd : decide (Flag.ltR (to8 x) (to8 y)) = false := by
        unfold st8 at c
        exact decide_eq_false (of_decide_eq_true c)
      refine Ev.step (fun k => ?_) hn
      rw [flagstoneref09_sorted.l1, if_pos (by omega), if_pos (by omega), if_pos (by omega), if_pos (by omega), hr, hr0, before_8, Option.bind_some, hd, if_neg (by decide), e1]
    · rw [List.takeWhile_cons_of_neg c, List.dropWhile_cons_of_neg c] at he
      have hd : decide (Flag.ltR (to8 x) (to8 y)) = true := by
        unfold st8 at c
        refine decide_eq_true ?_
        by_cases h : Flag.ltR (to8 x) (to8 y)
        · exact h
        · exact absurd (decide_eq_true h) c
      refine Ev.step (fun k => ?_) he
      rw [flagstoneref09_sorted.l1, if_pos (by omega), if_pos (by omega), if_pos (by omega), if_pos (by omega), hr, hr0, before_8, Option.bind_some, hd, if_pos rfl, if_pos (by omega), Option.bind_some, if_pos (by simp; omega), Option.bind_some, if_pos (by simp; omega), Option.bind_some, Option.bind_some, if_pos (by simp; omega), ew]
      have e1 : s.take (pre.length : Int).toNat = pre := by rw [Int.toNat_natCast, h]; simp
      have e2 : s.drop (pre.length : Int).toNat = y :: t := by rw [Int.toNat_natCast, h]; simp
      rw [e1, e2]
      simp
theorem sorted_l0 (x0 : List S118) (hb : x0.length < 1099511627776) (t0 : List S118) : ∀ p0 s : List S118, x0 = p0 ++ t0 → s.length = p0.length →
    Ev (fun k => flagstoneref09_sorted.l0 k x0 s (p0.length : Int)) (t0.foldl ins8 s) := by
  induction t0 with
  | nil =>
    intro p0 s h hs
    refine Ev.step (f := fun _ => some s) (fun k => ?_) (Ev.now _)
    rw [flagstoneref09_sorted.l0, if_neg (by rw [h]; simp)]
  | cons x t ih =>
    intro p0 s h hs
    have hlen0 : x0.length = p0.length + t.length + 1 := by rw [h]; simp; omega
    have h1 := ih (p0 ++ [x]) (ins8 s x) (by rw [h]; simp) (by rw [ins8_length]; simp; omega)
    have e1 : (((p0 ++ [x]).length : Int)) = (p0.length : Int) + 1 := by simp
    rw [e1] at h1
    have h2 := sorted_l1 x0 p0 t x h hb s (by omega) (t.foldl ins8 (ins8 s x)) s [] rfl h1
    refine Ev.step (fun k => ?_) h2
    rw [flagstoneref09_sorted.l0, if_pos (by omega)]
    rfl
theorem ins8_to8 (s : List S118) (x : S118) : (ins8 s x).map to8 = Flag.insR (s.map to8) (to8 x) := by
  unfold ins8 Flag.insR
  rw [List.map_append, List.map_append]
  have e1 : ∀ s : List S118, (s.takeWhile (st8 x)).map to8 = (s.map to8).takeWhile (fun y => decide (¬ Flag.ltR (to8 x) y)) ∧ (s.dropWhile (st8 x)).map to8 = (s.map to8).dropWhile (fun y => decide (¬ Flag.ltR (to8 x) y)) := by
    intro s
    induction s with
    | nil => exact ⟨rfl, rfl⟩
    | cons y t ih =>
      by_cases c : st8 x y = true
      · have c2 : decide (¬ Flag.ltR (to8 x) (to8 y)) = true := c
        rw [List.takeWhile_cons_of_pos c, List.dropWhile_cons_of_pos c, List.map_cons, List.map_cons, List.takeWhile_cons_of_pos (p := fun y => decide (¬ Flag.ltR (to8 x) y)) c2, List.dropWhile_cons_of_pos (p := fun y => decide (¬ Flag.ltR (to8 x) y)) c2, ih.1, ih.2]
        exact ⟨rfl, rfl⟩
      · have c2 : ¬ decide (¬ Flag.ltR (to8 x) (to8 y)) = true := c
        rw [List.takeWhile_cons_of_neg c, List.dropWhile_cons_of_neg c, List.map_cons, List.takeWhile_cons_of_neg (p := fun y => decide (¬ Flag.ltR (to8 x) y)) c2, List.dropWhile_cons_of_neg (p := fun y => decide (¬ Flag.ltR (to8 x) y)) c2]
        exact ⟨rfl, rfl⟩
  rw [(e1 s).1, (e1 s).2]
  simp
theorem fold8 (t : List S118) : ∀ s : List S118, (t.foldl ins8 s).map to8 = (t.map to8).foldl Flag.insR (s.map to8) := by
  induction t with
  | nil => intro s; rfl
  | cons x t ih => intro s; rw [List.foldl_cons, ih, ins8_to8, List.map_cons, List.foldl_cons]
theorem map8_inj {l m : List S118} (h : l.map to8 = m.map to8) : l = m := by
  have key : ∀ l : List S118, (l.map to8).map of8 = l := by
    intro l
    rw [List.map_map]
    exact List.map_id' _
  rw [← key l, h, key m]
theorem map_cv (q : List S88) : (q.map cv).map to8 = q.map toR := by
  rw [List.map_map]; rfl
theorem sorted_8 {l : List S118} (hb : l.length < 1099511627776) {q : List S88} (h : q.map toR = Flag.sortR (l.map to8)) : Ev (fun k => flagstoneref09_sorted.f k l) (q.map cv) := by
  have h1 := sorted_l0 l hb l [] [] rfl rfl
  have e : l.foldl ins8 [] = q.map cv := by
    apply map8_inj
    rw [fold8, map_cv, h]
    rfl
  rw [e] at h1
  exact Ev.congr (fun k => rfl) h1
theorem spans_loop (x0 : List S118) (hb : x0.length < 1099511627776) (t0 : List S118) : ∀ p0 : List S118, x0 = p0 ++ t0 →
    Ev (fun k => flagstoneref09_spans.l0 k x0 (p0.map fun r => (⟨r.f0, r.f1⟩ : S40)) (p0.length : Int)) (x0.map fun r => ⟨r.f0, r.f1⟩) := by
  induction t0 with
  | nil =>
    intro p0 h
    refine Ev.step (f := fun _ => some _) (fun k => ?_) (Ev.now _)
    rw [flagstoneref09_spans.l0, if_neg (by rw [h]; simp), h, List.append_nil]
  | cons x t ih =>
    intro p0 h
    have hlen0 : x0.length = p0.length + t.length + 1 := by rw [h]; simp; omega
    have hr : rd_T118 x0 (p0.length : Int) = x := by rw [h]; exact rd_8 p0 x t rfl
    have e1 : wrap64 ((p0.length : Int) + 1) = ((p0 ++ [x]).length : Int) := by rw [w64 (by omega)]; simp
    have h1 := ih (p0 ++ [x]) (by rw [h]; simp)
    refine Ev.step (fun k => ?_) h1
    rw [flagstoneref09_spans.l0, if_pos (by omega), if_pos (by omega), if_pos (by simp; omega), hr, e1, List.map_append]
    rfl
theorem spans_8 {q : List S88} (hq : q.length ≤ 9216) : Ev (fun k => flagstoneref09_spans.f k (q.map cv)) (q.map spR) := by
  have h := spans_loop (q.map cv) (by rw [List.length_map]; omega) (q.map cv) [] rfl
  have e : (q.map cv).map (fun r => (⟨r.f0, r.f1⟩ : S40)) = q.map spR := by rw [List.map_map]; rfl
  rw [e] at h
  exact Ev.congr (fun k => rfl) h
theorem check_loop (x0 : List S86) (hb : x0.length ≤ 9) (t0 : List S86) : ∀ (p0 : List S86) (e : Int), x0 = p0 ++ t0 → -1 ≤ e → (∀ y, p0.getLast? = some y → y.f0 = e) → (p0 = [] → e = -1) →
    Ev (fun k => flagstoneref09_Check.l0 k x0 (p0.length : Int)) (if Flag.risM e (t0.map fun x => ⟨x.f0, x.f1.map toE⟩) = true then 0 else 9) := by
  induction t0 with
  | nil =>
    intro p0 e h _ _ _
    refine Ev.step (f := fun _ => some 0) (fun k => ?_) (Ev.now _)
    rw [flagstoneref09_Check.l0, if_neg (by rw [h]; simp)]
  | cons x t ih =>
    intro p0 e h he hl hn
    have hlen0 : x0.length = p0.length + t.length + 1 := by rw [h]; simp; omega
    have hr : rd_T86 x0 (p0.length : Int) = x := by rw [h]; exact rd_m9 p0 x t rfl
    have e1 : wrap64 ((p0.length : Int) + 1) = ((p0 ++ [x]).length : Int) := by rw [w64 (by omega)]; simp
    have em : wrap64 ((p0.length : Int) - 1) = (p0.length : Int) - 1 := w64 (by omega)
    have hck : Ev (fun k => flagstoneref05_Check.f k x.f1) (Flag.checkE (x.f1.map toE)) := ⟨2 * x.f1.length + 1, fun k hk => check_r x.f1 (by omega)⟩
    rw [List.map_cons, Flag.risM]
    dsimp only
    have bad : ∀ (hc : ¬ (e < x.f0 ∧ x.f0 ≤ 255)), (if (decide (e < x.f0) && decide (x.f0 ≤ 255) && decide (Flag.checkE (x.f1.map toE) = 0) && Flag.risM x.f0 (t.map fun x => ⟨x.f0, x.f1.map toE⟩)) = true then (0 : Int) else 9) = 9 := by
      intro hc
      rw [if_neg]
      intro h
      simp only [Bool.and_eq_true, decide_eq_true_eq] at h
      exact hc ⟨h.1.1.1, h.1.1.2⟩
    have hgo : e < x.f0 → x.f0 ≤ 255 → 0 ≤ x.f0 → Ev (fun k => (flagstoneref05_Check.f k x.f1).bind fun t106 => (if t106 = 0 then (flagstoneref09_Check.l0 k x0 (wrap64 ((p0.length : Int) + 1))) else (some 9))) (if (decide (e < x.f0) && decide (x.f0 ≤ 255) && decide (Flag.checkE (x.f1.map toE) = 0) && Flag.risM x.f0 (t.map fun x => ⟨x.f0, x.f1.map toE⟩)) = true then (0 : Int) else 9) := by
      intro c1 c2 c3
      refine Ev.bind hck ?_
      by_cases c4 : Flag.checkE (x.f1.map toE) = 0
      · have h1 := ih (p0 ++ [x]) x.f0 (by rw [h]; simp) (by omega) (by intro y hy; simp at hy; rw [hy]) (by intro hh; simp at hh)
        rw [e1]
        simp only [if_pos c4, decide_eq_true c1, decide_eq_true c2, decide_eq_true c4, Bool.true_and]
        exact h1
      · simp only [if_neg c4, decide_eq_false c4, Bool.and_false, Bool.false_and, if_neg Bool.false_ne_true]
        exact Ev.now _
    by_cases c1 : x.f0 < 0
    · rw [bad (by omega)]
      refine Ev.step (f := fun _ => some 9) (fun k => ?_) (Ev.now _)
      rw [flagstoneref09_Check.l0, if_pos (by omega), if_pos (by omega), hr, if_pos c1]
    · by_cases c2 : x.f0 > 255
      · rw [bad (by omega)]
        refine Ev.step (f := fun _ => some 9) (fun k => ?_) (Ev.now _)
        rw [flagstoneref09_Check.l0, if_pos (by omega), if_pos (by omega), hr, if_neg c1, if_pos c2]
      · rcases List.eq_nil_or_concat p0 with rfl | ⟨p, y, rfl⟩
        · have he0 := hn rfl
          refine Ev.step (fun k => ?_) (hgo (by omega) (by omega) (by omega))
          rw [flagstoneref09_Check.l0, if_pos (by omega), if_pos (by omega), hr, if_neg c1, if_neg c2, if_neg (by simp)]
        · rw [List.concat_eq_append] at *
          have hy : y.f0 = e := hl y (by simp)
          have hr2 : rd_T86 x0 (((p ++ [y]).length : Int) - 1) = y := by
            rw [h, List.append_assoc]
            exact rd_m9 p y _ (by simp)
          have hp : 0 < (p ++ [y]).length := by simp
          by_cases c3 : x.f0 ≤ y.f0
          · rw [bad (by omega)]
            refine Ev.step (f := fun _ => some 9) (fun k => ?_) (Ev.now _)
            rw [flagstoneref09_Check.l0, if_pos (by omega), if_pos (by omega), hr, if_neg c1, if_neg c2, if_pos (by omega), em, if_pos (by omega), if_pos (by omega), hr2, if_pos c3]
          · refine Ev.step (fun k => ?_) (hgo (by omega) (by omega) (by omega))
            rw [flagstoneref09_Check.l0, if_pos (by omega), if_pos (by omega), hr, if_neg c1, if_neg c2, if_pos (by omega), em, if_pos (by omega), if_pos (by omega), hr2, if_neg c3]
theorem check_8 (m : List S86) : Ev (fun k => flagstoneref09_Check.f k m) (Flag.checkM ((m.map toS).map toM)) := by
  unfold flagstoneref09_Check.f Flag.checkM
  rw [of_toM, List.length_map]
  by_cases c : (m.length : Int) > 9
  · rw [if_neg (fun h => by omega)]
    exact Ev.congr (f := fun _ => some 9) (fun k => if_pos c) (Ev.now _)
  · have h := check_loop m (by omega) m [] (-1) rfl (by omega) (by intro y hy; cases hy) (fun _ => rfl)
    refine Ev.congr (f := fun k => flagstoneref09_Check.l0 k m 0) (fun k => if_neg c) ?_
    by_cases c2 : Flag.risM (-1) (m.map fun x => ⟨x.f0, x.f1.map toE⟩) = true
    · rw [if_pos c2] at h
      rw [if_pos ⟨by omega, c2⟩]
      exact h
    · rw [if_neg c2] at h
      rw [if_neg (fun hh => c2 hh.2)]
      exact h
def mk8 (x : S86) (y : S24) : S118 := ⟨y.f1, y.f2, x.f0, y.f0⟩
theorem refs_l1 (x0 p0 t0 : List S86) (x : S86) (hx0 : x0 = p0 ++ x :: t0) (hb : x0.length ≤ 9) (R : List S118 × Int) (te : List S24) : ∀ (pe : List S24) (acc : List S118), x.f1 = pe ++ te → x.f1.length ≤ 1024 → acc.length + te.length < 1099511627776 →
    Ev (fun k => flagstoneref09_Refs.l0 k x0 (acc ++ te.map (mk8 x)) ((p0.length : Int) + 1)) R → Ev (fun k => flagstoneref09_Refs.l1 k x0 acc (p0.length : Int) (pe.length : Int)) R := by
  have hlen0 : x0.length = p0.length + t0.length + 1 := by rw [hx0]; simp; omega
  have hr0 : rd_T86 x0 (p0.length : Int) = x := by rw [hx0]; exact rd_m9 p0 x t0 rfl
  have ew : wrap64 ((p0.length : Int) + 1) = (p0.length : Int) + 1 := w64 (by omega)
  induction te with
  | nil =>
    intro pe acc h _ ha he
    rw [List.map_nil, List.append_nil] at he
    refine Ev.step (fun k => ?_) he
    rw [flagstoneref09_Refs.l1, if_pos (by omega), if_pos (by omega), hr0, if_neg (by rw [h]; simp), ew]
  | cons y t ih =>
    intro pe acc h h10 ha he
    rw [List.length_cons] at ha
    have hlen : x.f1.length = pe.length + t.length + 1 := by rw [h]; simp; omega
    have hr : rd_T24 x.f1 (pe.length : Int) = y := by rw [h]; exact rd_at pe y t rfl
    have e1 : wrap64 ((pe.length : Int) + 1) = ((pe ++ [y]).length : Int) := by rw [w64 (by omega)]; simp
    have h1 := ih (pe ++ [y]) (acc ++ [mk8 x y]) (by rw [h]; simp) h10 (by simp; omega) (by rw [List.append_assoc]; exact he)
    refine Ev.step (fun k => ?_) h1
    rw [flagstoneref09_Refs.l1, if_pos (by omega), if_pos (by omega), hr0, if_pos (by omega), if_pos (by omega), if_pos (by omega), hr, e1]
    rfl
theorem refs_l0 (x0 : List S86) (hb : x0.length ≤ 9) (hx : ∀ x ∈ x0, x.f1.length ≤ 1024) (R : List S118 × Int) (t0 : List S86) : ∀ (p0 : List S86) (acc : List S118), x0 = p0 ++ t0 → acc.length ≤ 1024 * p0.length →
    Ev (fun k => (flagstoneref09_sorted.f k (acc ++ t0.flatMap fun x => x.f1.map (mk8 x))).bind fun t => some (t, 0)) R → Ev (fun k => flagstoneref09_Refs.l0 k x0 acc (p0.length : Int)) R := by
  induction t0 with
  | nil =>
    intro p0 acc h ha he
    rw [List.flatMap_nil, List.append_nil] at he
    refine Ev.step (fun k => ?_) he
    rw [flagstoneref09_Refs.l0, if_neg (by rw [h]; simp)]
  | cons x t ih =>
    intro p0 acc h ha he
    have hlen0 : x0.length = p0.length + t.length + 1 := by rw [h]; simp; omega
    have h10 := hx x (by rw [h]; simp)
    rw [List.flatMap_cons, ← List.append_assoc] at he
    have h1 := ih (p0 ++ [x]) (acc ++ x.f1.map (mk8 x)) (by rw [h]; simp) (by simp; omega) he
    have e1 : (((p0 ++ [x]).length : Int)) = (p0.length : Int) + 1 := by simp
    rw [e1] at h1
    have h2 := refs_l1 x0 p0 t x h hb R x.f1 [] acc rfl h10 (by omega) h1
    refine Ev.step (fun k => ?_) h2
    rw [flagstoneref09_Refs.l0, if_pos (by omega)]
    rfl
theorem flat_cv (m : List S86) : (m.flatMap fun x => x.f1.map (mk8 x)) = (refsG (m.map toS)).map cv := by
  unfold refsG
  induction m with
  | nil => rfl
  | cons x t ih =>
    rw [List.flatMap_cons, ih, List.map_cons, List.flatMap_cons, List.map_append]
    congr 1
    unfold refsOf
    rw [List.map_map]
    rfl
def qOf (m : List S86) : List S88 := sortRefL (refsG (m.map toS))
theorem refs_8 (m : List S86) : Ev (fun k => flagstoneref09_Refs.f k m) (if Flag.checkM ((m.map toS).map toM) = 0 then ((qOf m).map cv, 0) else ([], 9)) := by
  unfold flagstoneref09_Refs.f
  refine Ev.bind (check_8 m) ?_
  by_cases hc : Flag.checkM ((m.map toS).map toM) = 0
  · simp only [if_pos hc]
    have h86 := maps86 hc
    refine refs_l0 m h86.len (fun x hx => (h86.each x hx).1) _ m [] [] rfl (Nat.zero_le _) ?_
    rw [List.nil_append, flat_cv]
    have hl := refsG_len (Flag.checkM_ok.1 hc)
    refine Ev.bind (sorted_8 (by rw [List.length_map]; omega) (q := qOf m) ?_) (Ev.now _)
    rw [map_cv]
    exact sortRefL_toR _
  · simp only [if_neg hc]
    exact Ev.now _
def toC8 (c : S114) : Flag.Ex := ⟨c.f0, c.f2 + c.f0, c.f1⟩
def cvc (c : S96) : S114 := ⟨c.f0, c.f1, c.f2⟩
theorem toC8_inj {x y : S114} (h : toC8 x = toC8 y) : x = y := by
  cases x; cases y
  unfold toC8 at h
  simp only [Flag.Ex.mk.injEq] at h
  simp only [S114.mk.injEq]
  omega
theorem mapC8_inj {l m : List S114} (h : l.map toC8 = m.map toC8) : l = m := by
  induction l generalizing m with
  | nil => cases m with
    | nil => rfl
    | cons => cases h
  | cons x t ih => cases m with
    | nil => cases h
    | cons y u =>
      rw [List.map_cons, List.map_cons] at h
      obtain ⟨h1, h2⟩ := List.cons.inj h
      rw [toC8_inj h1, ih h2]
theorem map_cvc (c : List S96) : (c.map cvc).map toC8 = c.map toC := by rw [List.map_map]; rfl
def push8 (o : List S114) (at_ n next : Int) : List S114 :=
  if 0 < o.length ∧ wrap64 ((rd_T114 o (o.length - 1)).f0 + (rd_T114 o (o.length - 1)).f1) = at_ ∧ (rd_T114 o (o.length - 1)).f2 = n then
    o.set ((o.length : Int) - 1).toNat ⟨(rd_T114 o (o.length - 1)).f0, wrap64 (wrap64 ((rd_T114 o (o.length - 1)).f1 + next) - at_), (rd_T114 o (o.length - 1)).f2⟩
  else o ++ [⟨at_, wrap64 (next - at_), n⟩]
structure OkC8 (c : S114) : Prop where
  a : 0 ≤ c.f0
  n : 0 < c.f1
  e : c.f0 + c.f1 ≤ 65536
  p : 0 < c.f2
theorem push8_length (o : List S114) (a n x : Int) : (push8 o a n x).length ≤ o.length + 1 := by
  unfold push8
  split
  · rw [List.length_set]; omega
  · simp
theorem push8_toC {o : List S114} {a n x : Int} (ho : ∀ c ∈ o, OkC8 c) (ha : 0 ≤ a) (hn : 0 < n) (hx : x ≤ 65536) (hax : a < x) :
    (push8 o a n x).map toC8 = Flag.addE (o.map toC8) ⟨a, n + a, x - a⟩ ∧ ∀ c ∈ push8 o a n x, OkC8 c := by
  unfold push8 Flag.addE
  dsimp only
  rw [if_neg (show ¬ x - a ≤ 0 by omega), w64 (n := x - a) (by omega)]
  rcases List.eq_nil_or_concat o with rfl | ⟨m, y, rfl⟩
  · rw [if_neg (by simp)]
    refine ⟨rfl, fun z hz => ?_⟩
    have : z = ⟨a, x - a, n⟩ := by simpa using hz
    rw [this]; exact ⟨ha, show 0 < x - a by omega, show a + (x - a) ≤ 65536 by omega, hn⟩
  · rw [List.concat_eq_append] at ho ⊢
    have hr : rd_T114 (m ++ [y]) (((m ++ [y]).length : Int) - 1) = y := by simp [rd_T114]
    obtain ⟨y1, y2, y3, y4⟩ := ho y (by simp)
    have hl : (m ++ [y]).map toC8 = m.map toC8 ++ [toC8 y] := by simp
    rw [hr, w64 (n := y.f0 + y.f1) (by omega), w64 (n := y.f1 + x) (by omega), w64 (n := y.f1 + x - a) (by omega), hl, List.getLast?_concat]
    dsimp only
    by_cases hc : y.f0 + y.f1 = a ∧ y.f2 = n
    · rw [if_pos ⟨by simp, hc⟩, if_pos (by
        refine ⟨hc.1, Or.inr ⟨?_, ?_⟩⟩
        · show 0 ≤ y.f2 + y.f0; omega
        · show n + a = y.f2 + y.f0 + y.f1; omega)]
      have e : (((m ++ [y]).length : Int) - 1).toNat = m.length := by simp
      rw [e]
      have e2 : (m ++ [y]).set m.length (⟨y.f0, y.f1 + x - a, y.f2⟩ : S114) = m ++ [⟨y.f0, y.f1 + x - a, y.f2⟩] := by simp
      rw [e2, List.dropLast_concat]
      refine ⟨?_, fun z hz => ?_⟩
      · have e3 : y.f1 + x - a = y.f1 + (x - a) := by omega
        rw [e3]
        simp [toC8]
      rcases List.mem_append.1 hz with hz | hz
      · exact ho z (List.mem_append_left _ hz)
      · have : z = ⟨y.f0, y.f1 + x - a, y.f2⟩ := by simpa using hz
        rw [this]
        exact ⟨y1, show 0 < y.f1 + x - a by omega, show y.f0 + (y.f1 + x - a) ≤ 65536 by omega, y4⟩
    · rw [if_neg (fun h => hc h.2), if_neg (by
        rintro ⟨h1, h2⟩
        have h1 : y.f0 + y.f1 = a := h1
        rcases h2 with ⟨h3, _⟩ | ⟨_, h4⟩
        · have h3 : y.f2 + y.f0 < 0 := h3
          omega
        · have h4 : n + a = y.f2 + y.f0 + y.f1 := h4
          exact hc ⟨h1, by omega⟩)]
      refine ⟨by simp [toC8], fun z hz => ?_⟩
      rcases List.mem_append.1 hz with hz | hz
      · exact ho z hz
      · have : z = ⟨a, x - a, n⟩ := by simpa using hz
        rw [this]; exact ⟨ha, show 0 < x - a by omega, show a + (x - a) ≤ 65536 by omega, hn⟩
def run8 (l : List Flag.Rf) : Nat → Int → Int → List S114 → List S114
  | 0, _, _, out => out
  | k + 1, at_, e, out => if at_ < e then run8 l k (Flag.nextC at_ l e) e (push8 out at_ (Flag.cnt l at_) (Flag.nextC at_ l e)) else out
theorem run8_toC {l : List Flag.Rf} : ∀ (k : Nat) {at_ e : Int} {out : List S114}, 0 ≤ at_ → e ≤ 65536 → (∀ i, at_ ≤ i → i < e → 0 < Flag.cnt l i) → (∀ c ∈ out, OkC8 c) →
    (run8 l k at_ e out).map toC8 = Flag.runC l k at_ e (out.map toC8) ∧ ∀ c ∈ run8 l k at_ e out, OkC8 c := by
  intro k
  induction k with
  | zero => intro at_ e out _ _ _ h; exact ⟨rfl, h⟩
  | succ k ih =>
    intro at_ e out h0 he hc h
    rw [run8, Flag.runC]
    by_cases hlt : at_ < e
    · rw [if_pos hlt, if_pos hlt]
      have n1 := Flag.nextC_gt at_ l e hlt
      have n2 := Flag.nextC_le at_ l e
      obtain ⟨g1, g2⟩ := push8_toC h h0 (hc at_ (Int.le_refl _) hlt) (x := Flag.nextC at_ l e) (by omega) n1
      rw [← g1]
      exact ih (by omega) he (fun i h3 h4 => hc i (by omega) h4) g2
    · rw [if_neg hlt, if_neg hlt]; exact ⟨rfl, h⟩
def runs8 (l : List Flag.Rf) (u : List S40) (out : List S114) : List S114 := u.foldl (fun out x => run8 l x.f1.toNat x.f0 (x.f0 + x.f1) out) out
theorem runs8_toC {l : List Flag.Rf} {u : List S40} : ∀ {out : List S114}, (∀ x ∈ u, 0 ≤ x.f0 ∧ x.f0 + x.f1 ≤ 65536 ∧ ∀ i, x.f0 ≤ i → i < x.f0 + x.f1 → 0 < Flag.cnt l i) → (∀ c ∈ out, OkC8 c) →
    (runs8 l u out).map toC8 = (u.map toP).foldl (fun out x => Flag.runC l x.n.toNat x.a (x.a + x.n) out) (out.map toC8) ∧ ∀ c ∈ runs8 l u out, OkC8 c := by
  unfold runs8
  induction u with
  | nil => intro out _ h; exact ⟨rfl, h⟩
  | cons x t ih =>
    intro out hu h
    obtain ⟨a1, a2, a3⟩ := hu x List.mem_cons_self
    obtain ⟨g1, g2⟩ := run8_toC (l := l) x.f1.toNat a1 a2 a3 h
    obtain ⟨h1, h2⟩ := ih (fun y hy => hu y (List.mem_cons_of_mem _ hy)) g2
    refine ⟨?_, h2⟩
    rw [List.foldl_cons, h1, g1]
    rfl
theorem runs8_counts {q : List S88} (hok : Flag.Ok9 (q.map toR)) (hq : q.length ≤ 9216) : runs8 (q.map toR) (joinL (q.map spR)) [] = (countsL q).map cvc := by
  have hle : ∀ x ∈ joinL (q.map spR), 0 ≤ x.f0 ∧ x.f0 + x.f1 ≤ 65536 ∧ ∀ i, x.f0 ≤ i → i < x.f0 + x.f1 → 0 < Flag.cnt (q.map toR) i := by
    intro x hx
    obtain ⟨o1, o2, o3⟩ := join_ok hok x hx
    refine ⟨o1, ?_, fun i h1 h2 => (join_mem hok i).1 ⟨x, hx, h1, h2⟩⟩
    obtain ⟨r, hr, h1, h2⟩ := Flag.cnt_pos.1 ((join_mem hok (x.f0 + x.f1 - 1)).1 ⟨x, hx, by omega, by omega⟩)
    have := (hok.each r hr).2.2.1
    omega
  apply mapC8_inj
  obtain ⟨h1, _⟩ := runs8_toC (out := []) hle (by intro c hc; cases hc)
  rw [h1, map_cvc, joinL_toP (ok_spR hok)]
  refine Flag.CountsOf.one (l := q.map toR) ?_ (countsL_spec hok hq).1
  refine Flag.counts_page (l := q.map toR) (ss := (sortL (q.map spR)).map toP) (fun r hr => ?_) ?_ ?_
  · have := hok.each r hr
    exact ⟨this.1, this.2.1⟩
  · have e : (q.map spR).map toP = Flag.spansR (q.map toR) := by
      unfold Flag.spansR
      rw [List.map_map, List.map_map]; rfl
    rw [← e]
    exact (sortL_perm _).map toP
  · exact rising_toP (sortL_sorted _)
theorem counts_l2 {q : List S88} (hok : Flag.Ok9 (q.map toR)) (hq : q.length ≤ 9216) (x6 : List S40) (out : List S114) (hout : out.length < 1099511627776) (i at_ e : Int) (R : List S114 × Int) (t : List S88) : ∀ (pre : List S88) (n0 nx0 : Int), q = pre ++ t → 0 ≤ n0 → n0 + t.length ≤ 9216 →
    Ev (fun k => flagstoneref09_Counts.l1 k (q.map cv) x6 (push8 out at_ (n0 + Flag.cnt (t.map toR) at_) (Flag.nextC at_ (t.map toR) nx0)) i (Flag.nextC at_ (t.map toR) nx0) e) R → Ev (fun k => flagstoneref09_Counts.l2 k (q.map cv) x6 out i at_ e n0 nx0 (pre.length : Int)) R := by
  induction t with
  | nil =>
    intro pre n0 nx0 h h0 h1 he
    rw [List.map_nil, Flag.cnt, Flag.nextC, Int.add_zero] at he
    have hlen : (q.map cv).length = pre.length := by rw [h]; simp
    refine Ev.step (fun k => ?_) he
    rw [flagstoneref09_Counts.l2, if_neg (by omega), w64 (n := (out.length : Int) - 1) (by omega)]
    unfold push8
    by_cases c0 : (out.length : Int) - 1 ≥ 0
    · rw [if_pos c0, if_pos (by omega), if_pos (by omega)]
      by_cases c1 : wrap64 ((rd_T114 out ((out.length : Int) - 1)).f0 + (rd_T114 out ((out.length : Int) - 1)).f1) = at_
      · rw [if_pos c1]
        by_cases c2 : (rd_T114 out ((out.length : Int) - 1)).f2 = n0
        · rw [if_pos c2, if_pos ⟨by omega, c1, c2⟩]
        · rw [if_neg c2, if_pos (by omega)]
          exact congrArg (fun z => flagstoneref09_Counts.l1 k (q.map cv) x6 z i nx0 e) (if_neg (fun h => c2 h.2.2)).symm
      · rw [if_neg c1, if_pos (by omega)]
        exact congrArg (fun z => flagstoneref09_Counts.l1 k (q.map cv) x6 z i nx0 e) (if_neg (fun h => c1 h.2.1)).symm
    · rw [if_neg c0, if_pos (by omega)]
      exact congrArg (fun z => flagstoneref09_Counts.l1 k (q.map cv) x6 z i nx0 e) (if_neg (fun h => c0 (by omega))).symm
  | cons r t ih =>
    intro pre n0 nx0 h h0 h1 he
    rw [List.length_cons] at h1
    have hlen : (q.map cv).length = pre.length + t.length + 1 := by rw [h]; simp; omega
    have hlq : q.length = pre.length + t.length + 1 := by rw [← hlen, List.length_map]
    have hr : rd_T118 (q.map cv) (pre.length : Int) = cv r := by
      rw [h, List.map_append, List.map_cons]
      exact rd_8 _ _ _ (by simp)
    have e1 : wrap64 ((pre.length : Int) + 1) = ((pre ++ [r]).length : Int) := by rw [w64 (by omega)]; simp
    have hb := hok.each (toR r) (List.mem_map_of_mem (by rw [h]; simp))
    have hb1 : 0 < r.f1 ∧ 0 ≤ r.f0 ∧ r.f0 + r.f1 ≤ 65536 := ⟨hb.1, hb.2.1, hb.2.2.1⟩
    have es : wrap64 (r.f0 + r.f1) = r.f0 + r.f1 := w64 (by omega)
    rw [List.map_cons, Flag.cnt, Flag.nextC] at he
    have hcv : Flag.cover (toR r) at_ ↔ r.f0 ≤ at_ ∧ at_ < r.f0 + r.f1 := Iff.rfl
    have hp : (toR r).p = r.f0 := rfl
    have hn : (toR r).n = r.f1 := rfl
    rw [hp, hn] at he
    by_cases c1 : r.f0 ≤ at_
    · by_cases c2 : at_ < r.f0 + r.f1
      · rw [if_pos (hcv.2 ⟨c1, c2⟩), if_pos (hcv.2 ⟨c1, c2⟩), ← Int.add_assoc] at he
        have h2 := ih (pre ++ [r]) (n0 + 1) (min nx0 (r.f0 + r.f1)) (by rw [h]; simp) (by omega) (by omega) he
        refine Ev.step (f := fun k => flagstoneref09_Counts.j3 k (q.map cv) x6 out i at_ e n0 nx0 (pre.length : Int) r.f0 (r.f0 + r.f1) true) (fun k => ?_) (Ev.step (fun k => ?_) h2)
        · rw [flagstoneref09_Counts.l2, if_pos (by omega), if_pos (by omega), hr]
          show (if r.f0 ≤ at_ then flagstoneref09_Counts.j3 k (q.map cv) x6 out i at_ e n0 nx0 (pre.length : Int) r.f0 (wrap64 (r.f0 + r.f1)) (decide (at_ < wrap64 (r.f0 + r.f1))) else _) = _
          rw [if_pos c1, es, decide_eq_true c2]
        · rw [flagstoneref09_Counts.j3, if_pos rfl, e1, w64 (n := n0 + 1) (by omega), mn_min]
      · rw [if_neg (fun h => c2 (hcv.1 h).2), if_neg (fun h => c2 (hcv.1 h).2), if_neg (by omega), Int.zero_add] at he
        have h2 := ih (pre ++ [r]) n0 nx0 (by rw [h]; simp) (by omega) (by omega) he
        refine Ev.step (f := fun k => flagstoneref09_Counts.j3 k (q.map cv) x6 out i at_ e n0 nx0 (pre.length : Int) r.f0 (r.f0 + r.f1) false) (fun k => ?_) (Ev.step (fun k => ?_) h2)
        · rw [flagstoneref09_Counts.l2, if_pos (by omega), if_pos (by omega), hr]
          show (if r.f0 ≤ at_ then flagstoneref09_Counts.j3 k (q.map cv) x6 out i at_ e n0 nx0 (pre.length : Int) r.f0 (wrap64 (r.f0 + r.f1)) (decide (at_ < wrap64 (r.f0 + r.f1))) else _) = _
          rw [if_pos c1, es, decide_eq_false c2]
        · rw [flagstoneref09_Counts.j3, if_neg (by decide), if_neg (by omega), e1]
    · rw [if_neg (fun h => c1 (hcv.1 h).1), if_neg (fun h => c1 (hcv.1 h).1), if_pos (by omega), Int.zero_add] at he
      have h2 := ih (pre ++ [r]) n0 (min nx0 r.f0) (by rw [h]; simp) (by omega) (by omega) he
      refine Ev.step (f := fun k => flagstoneref09_Counts.j3 k (q.map cv) x6 out i at_ e n0 nx0 (pre.length : Int) r.f0 (r.f0 + r.f1) false) (fun k => ?_) (Ev.step (fun k => ?_) h2)
      · rw [flagstoneref09_Counts.l2, if_pos (by omega), if_pos (by omega), hr]
        show (if r.f0 ≤ at_ then _ else flagstoneref09_Counts.j3 k (q.map cv) x6 out i at_ e n0 nx0 (pre.length : Int) r.f0 (wrap64 (r.f0 + r.f1)) false) = _
        rw [if_neg c1, es]
      · rw [flagstoneref09_Counts.j3, if_neg (by decide), if_pos (by omega), e1, mn_min]
theorem counts_r1 {q : List S88} (hok : Flag.Ok9 (q.map toR)) (hq : q.length ≤ 9216) (x6 : List S40) (i e : Int) (R : List S114 × Int) : ∀ (K : Nat) (at_ : Int) (out : List S114), out.length + K < 1099511627776 → (e - at_).toNat ≤ K →
    Ev (fun k => flagstoneref09_Counts.l0 k (q.map cv) x6 (run8 (q.map toR) K at_ e out) (wrap64 (i + 1))) R → Ev (fun k => flagstoneref09_Counts.l1 k (q.map cv) x6 out i at_ e) R := by
  intro K
  induction K with
  | zero =>
    intro at_ out ho hk he
    refine Ev.step (fun k => ?_) he
    rw [flagstoneref09_Counts.l1, if_neg (by omega)]
    rfl
  | succ K ih =>
    intro at_ out ho hk he
    rw [run8] at he
    by_cases hlt : at_ < e
    · rw [if_pos hlt] at he
      have n1 := Flag.nextC_gt at_ (q.map toR) e hlt
      have hpl := push8_length out at_ (Flag.cnt (q.map toR) at_) (Flag.nextC at_ (q.map toR) e)
      have h1 := ih (Flag.nextC at_ (q.map toR) e) (push8 out at_ (Flag.cnt (q.map toR) at_) (Flag.nextC at_ (q.map toR) e)) (by omega) (by omega) he
      have h2 := counts_l2 hok hq x6 out (by omega) i at_ e R q [] 0 e rfl (Int.le_refl 0) (by omega) (by rw [Int.zero_add]; exact h1)
      refine Ev.step (fun k => ?_) h2
      rw [flagstoneref09_Counts.l1, if_pos hlt]
      rfl
    · rw [if_neg hlt] at he
      refine Ev.step (fun k => ?_) he
      rw [flagstoneref09_Counts.l1, if_neg hlt]
theorem run8_length {l : List Flag.Rf} : ∀ (k : Nat) {at_ e : Int} {out : List S114}, (run8 l k at_ e out).length ≤ out.length + k := by
  intro k
  induction k with
  | zero => intro at_ e out; exact Nat.le_refl _
  | succ k ih =>
    intro at_ e out
    rw [run8]
    split
    · have h1 := ih (at_ := Flag.nextC at_ l e) (e := e) (out := push8 out at_ (Flag.cnt l at_) (Flag.nextC at_ l e))
      have h2 := push8_length out at_ (Flag.cnt l at_) (Flag.nextC at_ l e)
      omega
    · omega
theorem counts_r0 {q : List S88} (hok : Flag.Ok9 (q.map toR)) (hq : q.length ≤ 9216) (u : List S40) (hu : u.length ≤ 9216) (hx : ∀ x ∈ u, 0 ≤ x.f0 ∧ 0 < x.f1 ∧ x.f0 + x.f1 ≤ 65536) (t : List S40) : ∀ (pre : List S40) (out : List S114), u = pre ++ t → out.length + t.length * 65536 < 1099511627776 →
    Ev (fun k => flagstoneref09_Counts.l0 k (q.map cv) u out (pre.length : Int)) (runs8 (q.map toR) t out, 0) := by
  induction t with
  | nil =>
    intro pre out h _
    refine Ev.step (f := fun _ => some (out, 0)) (fun k => ?_) (Ev.now _)
    rw [flagstoneref09_Counts.l0, if_neg (by rw [h]; simp)]
  | cons x t ih =>
    intro pre out h ho
    rw [List.length_cons, Nat.succ_mul] at ho
    have hlen : u.length = pre.length + t.length + 1 := by rw [h]; simp; omega
    have hr : rd_T40 u (pre.length : Int) = x := by rw [h]; exact rd_s9 pre x t rfl
    have e1 : wrap64 ((pre.length : Int) + 1) = ((pre ++ [x]).length : Int) := by rw [w64 (by omega)]; simp
    obtain ⟨b1, b2, b3⟩ := hx x (by rw [h]; simp)
    have hl := run8_length (l := q.map toR) x.f1.toNat (at_ := x.f0) (e := x.f0 + x.f1) (out := out)
    have h1 := ih (pre ++ [x]) (run8 (q.map toR) x.f1.toNat x.f0 (x.f0 + x.f1) out) (by rw [h]; simp) (by omega)
    rw [← e1] at h1
    have h2 := counts_r1 hok hq u (pre.length : Int) (x.f0 + x.f1) _ x.f1.toNat x.f0 out (by omega) (by omega) h1
    refine Ev.step (fun k => ?_) h2
    rw [flagstoneref09_Counts.l0, if_pos (by omega), if_pos (by omega), hr, w64 (n := x.f0 + x.f1) (by omega)]
theorem qOf9 {m : List S86} (h : Flag.checkM ((m.map toS).map toM) = 0) : Flag.Ok9 ((qOf m).map toR) ∧ (qOf m).length ≤ 9216 := refs9 h
theorem counts_8 (m : List S86) : Ev (fun k => flagstoneref09_Counts.f k m) (if Flag.checkM ((m.map toS).map toM) = 0 then ((countsL (qOf m)).map cvc, 0) else ([], 9)) := by
  unfold flagstoneref09_Counts.f
  refine Ev.bind (refs_8 m) ?_
  by_cases hc : Flag.checkM ((m.map toS).map toM) = 0
  · obtain ⟨r1, r2⟩ := qOf9 hc
    simp only [if_pos hc, if_true]
    refine Ev.bind (spans_8 r2) ?_
    refine Ev.bind (join_r (by rw [List.length_map]; show (qOf m).length < _; have : (qOf m).length ≤ 9216 := r2; omega) (ok_spR r1)) ?_
    have hjl := join_len ((qOf m).map spR)
    rw [List.length_map] at hjl
    have r2' : (qOf m).length ≤ 9216 := r2
    have hx : ∀ x ∈ joinL ((qOf m).map spR), 0 ≤ x.f0 ∧ 0 < x.f1 ∧ x.f0 + x.f1 ≤ 65536 := by
      intro x hx
      obtain ⟨o1, o2, o3⟩ := join_ok r1 x hx
      obtain ⟨r, hr, h1, h2⟩ := Flag.cnt_pos.1 ((join_mem r1 (x.f0 + x.f1 - 1)).1 ⟨x, hx, by omega, by omega⟩)
      have := (r1.each r hr).2.2.1
      exact ⟨o1, o2, by omega⟩
    have h := counts_r0 r1 r2 (joinL ((qOf m).map spR)) (by omega) hx (joinL ((qOf m).map spR)) [] [] rfl (by rw [List.length_nil]; have := Nat.mul_le_mul_right 65536 (show (joinL ((qOf m).map spR)).length ≤ 9216 by omega); omega)
    rw [runs8_counts r1 r2] at h
    exact h
  · simp only [if_neg hc]
    exact Ev.congr (fun k => if_neg (by decide)) (Ev.now _)
theorem whoRG_eq {r : S88} {x0 x1 : Int} (hb : 0 < r.f1 ∧ 0 ≤ r.f0 ∧ r.f0 + r.f1 ≤ 65536) (h0 : 0 ≤ x0 ∧ x0 < 9223372036854775808) (h1 : 0 < x1 ∧ x1 < 9223372036854775808) :
    whoRG x0 x1 r = if 0 < min (r.f0 + r.f1 - max r.f0 x0) (x1 - (max r.f0 x0 - x0)) then [⟨max r.f0 x0, min (r.f0 + r.f1 - max r.f0 x0) (x1 - (max r.f0 x0 - x0)), r.f2, wrap64 (wrap64 (r.f3 + max r.f0 x0) - r.f0)⟩] else [] := by
  obtain ⟨e1, e2⟩ := com_eq hb h0 h1
  unfold whoRG
  rw [e1, e2]
  rfl
theorem who_8l {q : List S88} (hok : Flag.Ok9 (q.map toR)) (hq : q.length ≤ 9216) {x0 x1 : Int} (h0 : 0 ≤ x0 ∧ x0 < 9223372036854775808) (h1 : 0 < x1 ∧ x1 < 9223372036854775808) (t : List S88) : ∀ (pre : List S88), q = pre ++ t →
    Ev (fun k => flagstoneref09_Who.l0 k (q.map cv) ((whoG pre x0 x1).map cv) (pre.length : Int) x0 x1) ((whoS q x0 x1).map cv, 0) := by
  induction t with
  | nil =>
    intro pre h
    rw [List.append_nil] at h
    subst h
    have hs : Ev (fun k => (flagstoneref09_sorted.f k ((whoG q x0 x1).map cv)).bind fun t106 => some (t106, (0 : Int))) ((whoS q x0 x1).map cv, 0) := by
      refine Ev.bind (sorted_8 (by rw [List.length_map]; have := whoG_len q x0 x1; omega) (q := whoS q x0 x1) ?_) (Ev.now _)
      rw [map_cv, whoG_toR hok h0 h1, whoS_toR]
    refine Ev.step (fun k => ?_) hs
    rw [flagstoneref09_Who.l0, if_neg (by rw [List.length_map]; omega)]
  | cons r t ih =>
    intro pre h
    have hlen : (q.map cv).length = pre.length + t.length + 1 := by rw [h]; simp; omega
    have hlq : q.length = pre.length + t.length + 1 := by rw [← hlen, List.length_map]
    have hr : rd_T118 (q.map cv) (pre.length : Int) = cv r := by
      rw [h, List.map_append, List.map_cons]
      exact rd_8 _ _ _ (by simp)
    have e1 : wrap64 ((pre.length : Int) + 1) = ((pre ++ [r]).length : Int) := by rw [w64 (by omega)]; simp
    have hb := hok.each (toR r) (List.mem_map_of_mem (by rw [h]; simp))
    have hb1 : 0 < r.f1 ∧ 0 ≤ r.f0 ∧ r.f0 + r.f1 ≤ 65536 := ⟨hb.1, hb.2.1, hb.2.2.1⟩
    have es : wrap64 (r.f0 + r.f1) = r.f0 + r.f1 := w64 (by omega)
    have eh : wrap64 (r.f0 + r.f1 - x0) = r.f0 + r.f1 - x0 := w64 (by omega)
    have hnext := ih (pre ++ [r]) (by rw [h]; simp)
    have hwl : ((whoG pre x0 x1).map cv).length < 4398046511104 := by rw [List.length_map]; have := whoG_len pre x0 x1; omega
    have eg : whoG (pre ++ [r]) x0 x1 = whoG pre x0 x1 ++ whoRG x0 x1 r := by unfold whoG; rw [List.flatMap_append]; simp
    rw [eg, whoRG_eq hb1 h0 h1] at hnext
    refine Ev.step (fun k => ?_) hnext
    rw [flagstoneref09_Who.l0, if_pos (by omega), if_pos (by omega), hr]
    show (if wrap64 (wrap64 (r.f0 + r.f1) - x0) > x1 then (if mx r.f0 x0 < wrap64 (x0 + x1) then (if ((whoG pre x0 x1).map cv).length < 4398046511104 then flagstoneref09_Who.l0 k (q.map cv) ((whoG pre x0 x1).map cv ++ [(⟨mx r.f0 x0, wrap64 (wrap64 (x0 + x1) - mx r.f0 x0), r.f2, wrap64 (wrap64 (r.f3 + mx r.f0 x0) - r.f0)⟩ : S118)]) (wrap64 ((pre.length : Int) + 1)) x0 x1 else none) else flagstoneref09_Who.l0 k (q.map cv) ((whoG pre x0 x1).map cv) (wrap64 ((pre.length : Int) + 1)) x0 x1) else (if mx r.f0 x0 < wrap64 (r.f0 + r.f1) then (if ((whoG pre x0 x1).map cv).length < 4398046511104 then flagstoneref09_Who.l0 k (q.map cv) ((whoG pre x0 x1).map cv ++ [(⟨mx r.f0 x0, wrap64 (wrap64 (r.f0 + r.f1) - mx r.f0 x0), r.f2, wrap64 (wrap64 (r.f3 + mx r.f0 x0) - r.f0)⟩ : S118)]) (wrap64 ((pre.length : Int) + 1)) x0 x1 else none) else flagstoneref09_Who.l0 k (q.map cv) ((whoG pre x0 x1).map cv) (wrap64 ((pre.length : Int) + 1)) x0 x1)) = _
    rw [es, eh, e1, mx_max, if_pos hwl, if_pos hwl]
    by_cases c1 : r.f0 + r.f1 - x0 > x1
    · have e3 : wrap64 (x0 + x1) = x0 + x1 := w64 (by omega)
      rw [if_pos c1, e3]
      by_cases c2 : max r.f0 x0 < x0 + x1
      · have e5 : min (r.f0 + r.f1 - max r.f0 x0) (x1 - (max r.f0 x0 - x0)) = x0 + x1 - max r.f0 x0 := by omega
        rw [if_pos c2, w64 (n := x0 + x1 - max r.f0 x0) (by omega), e5, if_pos (by omega), List.map_append]
        rfl
      · rw [if_neg c2, if_neg (by omega), List.append_nil]
    · rw [if_neg c1]
      by_cases c2 : max r.f0 x0 < r.f0 + r.f1
      · have e5 : min (r.f0 + r.f1 - max r.f0 x0) (x1 - (max r.f0 x0 - x0)) = r.f0 + r.f1 - max r.f0 x0 := by omega
        rw [if_pos c2, w64 (n := r.f0 + r.f1 - max r.f0 x0) (by omega), e5, if_pos (by omega), List.map_append]
        rfl
      · rw [if_neg c2, if_neg (by omega), List.append_nil]
theorem who_8 (m : List S86) (x0 x1 : Int) (h0 : x0 < 9223372036854775808) (h1 : x1 < 9223372036854775808) : Ev (fun k => flagstoneref09_Who.f k m x0 x1) (if Flag.checkM ((m.map toS).map toM) = 0 then (if x0 < 0 ∨ x1 < 1 then ([], 4) else ((whoS (qOf m) x0 x1).map cv, 0)) else ([], 9)) := by
  unfold flagstoneref09_Who.f
  refine Ev.bind (refs_8 m) ?_
  by_cases hc : Flag.checkM ((m.map toS).map toM) = 0
  · obtain ⟨r1, r2⟩ := qOf9 hc
    simp only [if_pos hc, if_true]
    by_cases c1 : x0 < 0
    · simp only [if_pos c1, if_pos (show x0 < 0 ∨ x1 < 1 from .inl c1)]
      exact Ev.now _
    · by_cases c2 : x1 < 1
      · simp only [if_neg c1, if_pos c2, if_pos (show x0 < 0 ∨ x1 < 1 from .inr c2)]
        exact Ev.now _
      · simp only [if_neg c1, if_neg c2, if_neg (show ¬ (x0 < 0 ∨ x1 < 1) from fun h => h.elim c1 c2)]
        exact who_8l r1 r2 ⟨by omega, h0⟩ ⟨by omega, h1⟩ (qOf m) [] rfl
  · simp only [if_neg hc]
    exact Ev.congr (fun k => if_neg (by decide)) (Ev.now _)
theorem used_8 (m : List S86) : Ev (fun k => flagstoneref09_Used.f k m) (if Flag.checkM ((m.map toS).map toM) = 0 then (joinL ((qOf m).map spR), 0) else ([], 9)) := by
  unfold flagstoneref09_Used.f
  refine Ev.bind (refs_8 m) ?_
  by_cases hc : Flag.checkM ((m.map toS).map toM) = 0
  · obtain ⟨r1, r2⟩ := qOf9 hc
    simp only [if_pos hc, if_true]
    refine Ev.bind (spans_8 r2) ?_
    exact Ev.bind (join_r (by rw [List.length_map]; omega) (ok_spR r1)) (Ev.now _)
  · simp only [if_neg hc]
    exact Ev.congr (fun k => if_neg (by decide)) (Ev.now _)
theorem rd_c8 (pre : List S114) (x : S114) (t : List S114) {i : Int} (h : i = pre.length) : rd_T114 (pre ++ x :: t) i = x := by
  unfold rd_T114
  rw [h, Int.toNat_natCast, List.getD_eq_getElem?_getD, List.getElem?_append_right (Nat.le_refl _), Nat.sub_self]; rfl
theorem shared_8l {c : List S96} (hok : ∀ x ∈ c, OkC x) (hc : c.length ≤ 18432) {x0 x1 : Int} (h0 : 0 ≤ x0 ∧ x0 < 9223372036854775808) (h1 : 0 < x1 ∧ x1 < 9223372036854775808) (t : List S96) : ∀ (pre : List S96), c = pre ++ t →
    Ev (fun k => flagstoneref09_Shared.l0 k (c.map cvc) (pre.length : Int) x0 x1) (t.any (shP x0 x1), 0) := by
  induction t with
  | nil =>
    intro pre h
    refine Ev.step (f := fun _ => some (false, 0)) (fun k => ?_) (Ev.now _)
    rw [flagstoneref09_Shared.l0, if_neg (by rw [h]; simp)]
  | cons x t ih =>
    intro pre h
    have hlen : (c.map cvc).length = pre.length + t.length + 1 := by rw [h]; simp; omega
    have hlc : c.length = pre.length + t.length + 1 := by rw [← hlen, List.length_map]
    have hr : rd_T114 (c.map cvc) (pre.length : Int) = cvc x := by
      rw [h, List.map_append, List.map_cons]
      exact rd_c8 _ _ _ (by simp)
    have e1 : wrap64 ((pre.length : Int) + 1) = ((pre ++ [x]).length : Int) := by rw [w64 (by omega)]; simp
    obtain ⟨o1, o2, o3, o4⟩ := hok x (by rw [h]; simp)
    have hnext := ih (pre ++ [x]) (by rw [h]; simp)
    have hsp : shP x0 x1 x = (decide (0 < min (x.f0 + x.f1 - max x.f0 x0) (x1 - (max x.f0 x0 - x0))) && decide (1 < x.f2)) := by
      unfold shP
      rw [show comLn x.f0 x.f1 x0 x1 = _ from (com_eq (r := ⟨x.f0, x.f1, 0, 0⟩) ⟨o2, o1, o3⟩ h0 h1).2]
      rfl
    have hgo : ∀ b : Bool, shP x0 x1 x = b → (x :: t).any (shP x0 x1) = (b || t.any (shP x0 x1)) := fun b hb => by rw [List.any_cons, hb]
    have hstep : ∀ k, flagstoneref09_Shared.l0 (k + 1) (c.map cvc) (pre.length : Int) x0 x1 = if x.f2 > 1 then (if wrap64 (x.f0 + x.f1) > x0 then (if x.f0 < x0 then some (true, 0) else (if wrap64 (x.f0 - x0) < x1 then some (true, 0) else flagstoneref09_Shared.l0 k (c.map cvc) ((pre ++ [x]).length : Int) x0 x1)) else flagstoneref09_Shared.l0 k (c.map cvc) ((pre ++ [x]).length : Int) x0 x1) else flagstoneref09_Shared.l0 k (c.map cvc) ((pre ++ [x]).length : Int) x0 x1 := by
      intro k
      rw [flagstoneref09_Shared.l0, if_pos (by omega), if_pos (by omega), hr, e1]
      rfl
    have no : shP x0 x1 x = false → Ev (fun k => flagstoneref09_Shared.l0 k (c.map cvc) ((pre ++ [x]).length : Int) x0 x1) ((x :: t).any (shP x0 x1), 0) := fun hb => by
      rw [hgo false hb, Bool.false_or]; exact hnext
    have yes : shP x0 x1 x = true → Ev (fun _ => some (true, (0 : Int))) ((x :: t).any (shP x0 x1), 0) := fun hb => by
      rw [hgo true hb, Bool.true_or]; exact Ev.now _
    by_cases c1 : x.f2 > 1
    · by_cases c2 : x.f0 + x.f1 > x0
      · by_cases c3 : x.f0 < x0
        · refine Ev.step (fun k => ?_) (yes (by rw [hsp, decide_eq_true (by omega), decide_eq_true (by omega)]; rfl))
          rw [hstep, if_pos c1, w64 (n := x.f0 + x.f1) (by omega), if_pos c2, if_pos c3]
        · by_cases c4 : x.f0 - x0 < x1
          · refine Ev.step (fun k => ?_) (yes (by rw [hsp, decide_eq_true (by omega), decide_eq_true (by omega)]; rfl))
            rw [hstep, if_pos c1, w64 (n := x.f0 + x.f1) (by omega), if_pos c2, if_neg c3, w64 (n := x.f0 - x0) (by omega), if_pos c4]
          · refine Ev.step (fun k => ?_) (no (by rw [hsp, decide_eq_false (by omega)]; rfl))
            rw [hstep, if_pos c1, w64 (n := x.f0 + x.f1) (by omega), if_pos c2, if_neg c3, w64 (n := x.f0 - x0) (by omega), if_neg c4]
      · refine Ev.step (fun k => ?_) (no (by rw [hsp, decide_eq_false (by omega)]; rfl))
        rw [hstep, if_pos c1, w64 (n := x.f0 + x.f1) (by omega), if_neg c2]
    · refine Ev.step (fun k => ?_) (no (by rw [hsp, decide_eq_false (p := 1 < x.f2) (by omega), Bool.and_false]))
      rw [hstep, if_neg c1]
theorem shared_8 (m : List S86) (x0 x1 : Int) (h0 : x0 < 9223372036854775808) (h1 : x1 < 9223372036854775808) : Ev (fun k => flagstoneref09_Shared.f k m x0 x1) (if Flag.checkM ((m.map toS).map toM) = 0 then (if x0 < 0 ∨ x1 < 1 then (false, 4) else ((countsL (qOf m)).any (shP x0 x1), 0)) else (false, 9)) := by
  unfold flagstoneref09_Shared.f
  refine Ev.bind (counts_8 m) ?_
  by_cases hc : Flag.checkM ((m.map toS).map toM) = 0
  · obtain ⟨r1, r2⟩ := qOf9 hc
    simp only [if_pos hc, if_true]
    by_cases c1 : x0 < 0
    · simp only [if_pos c1, if_pos (show x0 < 0 ∨ x1 < 1 from .inl c1)]
      exact Ev.now _
    · by_cases c2 : x1 < 1
      · simp only [if_neg c1, if_pos c2, if_pos (show x0 < 0 ∨ x1 < 1 from .inr c2)]
        exact Ev.now _
      · simp only [if_neg c1, if_neg c2, if_neg (show ¬ (x0 < 0 ∨ x1 < 1) from fun h => h.elim c1 c2)]
        exact shared_8l (countsL_spec r1 r2).2 (by have := countsL_len (qOf m); omega) ⟨by omega, h0⟩ ⟨by omega, h1⟩ (countsL (qOf m)) [] rfl
  · simp only [if_neg hc]
    exact Ev.congr (fun k => if_neg (by decide)) (Ev.now _)
theorem same9 (a : List S24) (hl : a.length < 5864062014805) (t : List S24) : ∀ pre : List S24, a = pre ++ t → Ev (fun k => flagstoneplain_SameExtents.l0 k a a (pre.length : Int)) true := by
  induction t with
  | nil =>
    intro pre he
    refine Ev.step (f := fun _ => some true) (fun k => ?_) (Ev.now _)
    rw [flagstoneplain_SameExtents.l0, if_neg (by rw [he]; simp)]
  | cons x t ih =>
    intro pre he
    have hlen : a.length = pre.length + t.length + 1 := by rw [he]; simp; omega
    have e1 : wrap64 ((pre.length : Int) + 1) = ((pre ++ [x]).length : Int) := by rw [w64 (by omega)]; simp
    refine Ev.step (fun k => ?_) (ih (pre ++ [x]) (by rw [he]; simp))
    rw [flagstoneplain_SameExtents.l0, if_pos (by omega), if_pos (by omega), if_pos (by omega), if_neg (by simp), e1]
theorem same9f (a : List S24) (hl : a.length < 5864062014805) : Ev (fun k => flagstoneplain_SameExtents.f k a a) true :=
  Ev.congr (f := fun k => flagstoneplain_SameExtents.l0 k a a 0) (fun k => by unfold flagstoneplain_SameExtents.f; rw [if_pos rfl]) (same9 a hl a [] rfl)
theorem sameS9 (a : List S40) (hl : a.length < 1099511627776) (t : List S40) : ∀ pre : List S40, a = pre ++ t → Ev (fun k => flagstoneplain_SameSpans.l0 k a a (pre.length : Int)) true := by
  induction t with
  | nil =>
    intro pre he
    refine Ev.step (f := fun _ => some true) (fun k => ?_) (Ev.now _)
    rw [flagstoneplain_SameSpans.l0, if_neg (by rw [he]; simp)]
  | cons x t ih =>
    intro pre he
    have hlen : a.length = pre.length + t.length + 1 := by rw [he]; simp; omega
    have e1 : wrap64 ((pre.length : Int) + 1) = ((pre ++ [x]).length : Int) := by rw [w64 (by omega)]; simp
    refine Ev.step (fun k => ?_) (ih (pre ++ [x]) (by rw [he]; simp))
    rw [flagstoneplain_SameSpans.l0, if_pos (by omega), if_pos (by omega), if_pos (by omega), if_neg (by simp), e1]
theorem sameS9f (a : List S40) (hl : a.length < 1099511627776) : Ev (fun k => flagstoneplain_SameSpans.f k a a) true :=
  Ev.congr (f := fun k => flagstoneplain_SameSpans.l0 k a a 0) (fun k => by unfold flagstoneplain_SameSpans.f; rw [if_pos rfl]) (sameS9 a hl a [] rfl)
theorem sameR9 (a : List S88) (hl : a.length < 1099511627776) (t : List S88) : ∀ pre : List S88, a = pre ++ t → Ev (fun k => flagstonelaw09_sameRefs.l0 k a (a.map cv) (pre.length : Int)) true := by
  induction t with
  | nil =>
    intro pre he
    refine Ev.step (f := fun _ => some true) (fun k => ?_) (Ev.now _)
    rw [flagstonelaw09_sameRefs.l0, if_neg (by rw [he]; simp)]
  | cons x t ih =>
    intro pre he
    have hlen : a.length = pre.length + t.length + 1 := by rw [he]; simp; omega
    have e1 : wrap64 ((pre.length : Int) + 1) = ((pre ++ [x]).length : Int) := by rw [w64 (by omega)]; simp
    have h1 : rd_T88 a (pre.length : Int) = x := by rw [he]; exact rd_r9 pre x t rfl
    have h2 : rd_T118 (a.map cv) (pre.length : Int) = cv x := by
      rw [he, List.map_append, List.map_cons]
      exact rd_8 _ _ _ (by simp)
    refine Ev.step (fun k => ?_) (ih (pre ++ [x]) (by rw [he]; simp))
    rw [flagstonelaw09_sameRefs.l0, if_pos (by omega), if_pos (by omega), if_pos (by rw [List.length_map]; omega), h1, h2, e1]
    rw [if_neg (by unfold cv; simp)]
theorem sameR9f (a : List S88) (hl : a.length < 1099511627776) : Ev (fun k => flagstonelaw09_sameRefs.f k a (a.map cv)) true :=
  Ev.congr (f := fun k => flagstonelaw09_sameRefs.l0 k a (a.map cv) 0) (fun k => by unfold flagstonelaw09_sameRefs.f; rw [if_pos (by rw [List.length_map])]) (sameR9 a hl a [] rfl)
theorem rd_94 (pre : List S94) (x : S94) (t : List S94) {i : Int} (h : i = pre.length) : rd_T94 (pre ++ x :: t) i = x := by
  unfold rd_T94
  rw [h, Int.toNat_natCast, List.getD_eq_getElem?_getD, List.getElem?_append_right (Nat.le_refl _), Nat.sub_self]; rfl
theorem alike9 (m : List S86) (hl : m.length < 4398046511104) (hx : ∀ x ∈ m, x.f1.length < 5864062014805) (t : List S86) : ∀ pre : List S86, m = pre ++ t → Ev (fun k => flagstonelaw09_Alike.l0 k (m.map toS) m (pre.length : Int)) 0 := by
  induction t with
  | nil =>
    intro pre he
    refine Ev.step (f := fun _ => some 0) (fun k => ?_) (Ev.now _)
    rw [flagstonelaw09_Alike.l0, if_neg (by rw [he]; simp)]
  | cons x t ih =>
    intro pre he
    have hlen : m.length = pre.length + t.length + 1 := by rw [he]; simp; omega
    have e1 : wrap64 ((pre.length : Int) + 1) = ((pre ++ [x]).length : Int) := by rw [w64 (by omega)]; simp
    have h1 : rd_T86 m (pre.length : Int) = x := by rw [he]; exact rd_m9 pre x t rfl
    have h2 : rd_T94 (m.map toS) (pre.length : Int) = toS x := by
      rw [he, List.map_append, List.map_cons]
      exact rd_94 _ _ _ (by simp)
    have h3 := ih (pre ++ [x]) (by rw [he]; simp)
    have h4 : Ev (fun k => (flagstoneplain_SameExtents.f k x.f1 x.f1).bind fun t105 => (if t105 = true then (flagstonelaw09_Alike.l0 k (m.map toS) m ((pre ++ [x]).length : Int)) else (some 1))) 0 := by
      refine Ev.bind (same9f x.f1 (hx x (by rw [he]; simp))) ?_
      exact Ev.congr (fun k => if_pos rfl) h3
    refine Ev.step (fun k => ?_) h4
    rw [flagstonelaw09_Alike.l0, if_pos (by rw [List.length_map]; omega), if_pos (by omega), if_pos (by omega), h1, h2, e1]
    exact if_pos rfl
theorem alike9f (m : List S86) (hl : m.length < 4398046511104) (hx : ∀ x ∈ m, x.f1.length < 5864062014805) : Ev (fun k => flagstonelaw09_Alike.f k (m.map toS) m) 0 :=
  Ev.congr (f := fun k => flagstonelaw09_Alike.l0 k (m.map toS) m 0) (fun k => by unfold flagstonelaw09_Alike.f; rw [if_pos (by rw [List.length_map])]) (alike9 m hl hx m [] rfl)
theorem tells_tail (m : List S86) (hl : m.length < 4398046511104) (hx : ∀ x ∈ m, x.f1.length < 5864062014805) (c : List S96) (hc : c.length < 1099511627776) (t : List S96) : ∀ pre : List S96, c = pre ++ t → Ev (fun k => flagstonelaw09_RefsTells.l0 k m (m.map toS) c (c.map cvc) (pre.length : Int)) true := by
  induction t with
  | nil =>
    intro pre he
    have hk : Ev (fun k => refs_Check.f k (m.map toS)) (Flag.checkM ((m.map toS).map toM)) := Ev.of (fun k => refs_Check.mono (m.map toS) k) (check9 (m.map toS))
    have h1 : Ev (fun k => (refs_Check.f k (m.map toS)).bind fun t151 => ((flagstonelaw09_num.f t151).bind fun t152 => ((flagstoneref09_Check.f k m).bind fun t153 => (if t152 = t153 then ((flagstonelaw09_Alike.f k (m.map toS) m).bind fun t154 => (if t154 = 0 then ((flagstonelaw09_alive.f).bind fun t155 => (some t155)) else none)) else none)))) true := by
      refine Ev.bind hk ?_
      unfold flagstonelaw09_num.f
      simp only [Option.bind_some]
      refine Ev.bind (check_8 m) ?_
      simp only [if_true]
      refine Ev.bind (alike9f m hl hx) ?_
      simp only [if_true, alive9, Option.bind_some]
      exact Ev.now _
    refine Ev.step (fun k => ?_) h1
    rw [flagstonelaw09_RefsTells.l0, if_neg (by rw [he]; simp)]
  | cons x t ih =>
    intro pre he
    have hlen : c.length = pre.length + t.length + 1 := by rw [he]; simp; omega
    have e1 : wrap64 ((pre.length : Int) + 1) = ((pre ++ [x]).length : Int) := by rw [w64 (by omega)]; simp
    have h1 : rd_T96 c (pre.length : Int) = x := by rw [he]; exact rd_c9 pre x t rfl
    have h2 : rd_T114 (c.map cvc) (pre.length : Int) = cvc x := by
      rw [he, List.map_append, List.map_cons]
      exact rd_c8 _ _ _ (by simp)
    refine Ev.step (fun k => ?_) (ih (pre ++ [x]) (by rw [he]; simp))
    rw [flagstonelaw09_RefsTells.l0, if_pos (by omega), if_pos (by omega), if_pos (by rw [List.length_map]; omega), h1, h2, e1]
    rw [if_neg (by unfold cvc; simp)]
theorem tells_j0 (m : List S86) (hl : m.length < 4398046511104) (hx : ∀ x ∈ m, x.f1.length < 5864062014805) (c : List S96) (hc : c.length < 1099511627776) : Ev (fun k => flagstonelaw09_RefsTells.j0 k m (m.map toS) c (c.map cvc) false) true := by
  refine Ev.step (fun k => ?_) (tells_tail m hl hx c hc c [] rfl)
  rw [flagstonelaw09_RefsTells.j0, if_neg (by decide)]
  rfl
theorem refsTells_pure (m : List S86) (x0 x1 : Int) (hl : m.length < 4398046511104) (hx : ∀ x ∈ m, x.f1.length < 5864062014805) (h0 : x0 < 9223372036854775808) (h1 : x1 < 9223372036854775808) : ∃ k, flagstonelaw09_RefsTells.f k m x0 x1 = some true := by
  refine Ev.rounds (g := fun k => flagstonelaw09_RefsTells.f k m x0 x1) ?_
  have aOf : Ev (fun k => flagstonelaw09_Of.f k m) (m.map toS) := ⟨m.length + 1, fun k hk => of9 hl hx (by omega)⟩
  have aUsed : Ev (fun k => refs_Used.f k (m.map toS)) (if Flag.checkM ((m.map toS).map toM) = 0 then (joinL ((qOf m).map spR), 0) else ([], 9)) := ⟨9218, fun k hk => used9 (by omega)⟩
  have aR := refs_8 m
  have aC := counts_8 m
  have aW := who_8 m x0 x1 h0 h1
  have aU := used_8 m
  have aS := shared_8 m x0 x1 h0 h1
  unfold flagstonelaw09_RefsTells.f
  by_cases hc : Flag.checkM ((m.map toS).map toM) = 0
  · obtain ⟨r1, r2⟩ := qOf9 hc
    rw [if_pos hc] at aUsed aR aC aW aU aS
    have bR : refs_Refs.f (m.map toS) = some (qOf m, 0) := by unfold refs_Refs.f; rw [if_pos hc]; rfl
    have bC : refs_Counts.f (m.map toS) = some (countsL (qOf m), 0) := by unfold refs_Counts.f; rw [if_pos hc]; rfl
    obtain ⟨w, ew, s, hW, hS, hW8, hS8, hwl⟩ : ∃ (w : List S88) (ew : Int) (s : Bool), refs_Who.f (m.map toS) x0 x1 = some (w, ew) ∧ refs_Shared.f (m.map toS) x0 x1 = some (s, ew) ∧ Ev (fun k => flagstoneref09_Who.f k m x0 x1) (w.map cv, ew) ∧ Ev (fun k => flagstoneref09_Shared.f k m x0 x1) (s, ew) ∧ w.length ≤ 9216 := by
      unfold refs_Who.f refs_Shared.f
      rw [if_pos ⟨h0, h1⟩, if_pos hc, if_pos hc]
      by_cases hb : x0 < 0 ∨ x1 < 1
      · rw [if_pos hb] at aW aS ⊢
        rw [if_pos hb]
        exact ⟨[], 4, false, rfl, rfl, aW, aS, Nat.zero_le _⟩
      · rw [if_neg hb] at aW aS ⊢
        rw [if_neg hb]
        exact ⟨whoS (qOf m) x0 x1, 0, _, rfl, rfl, aW, aS, whoS_len x0 x1 r2 r1 ⟨by omega, h0⟩ ⟨by omega, h1⟩⟩
    refine Ev.bind aOf ?_
    simp only [bR, bC, hW, hS, Option.bind_some]
    refine Ev.bind aR ?_
    refine Ev.bind aC ?_
    refine Ev.bind hW8 ?_
    refine Ev.bind aUsed ?_
    refine Ev.bind aU ?_
    refine Ev.bind hS8 ?_
    refine Ev.bind (sameR9f (qOf m) (by omega)) ?_
    unfold flagstonelaw09_num.f
    simp only [if_true, Option.bind_some, List.length_map]
    refine Ev.bind (sameR9f w (by omega)) ?_
    simp only [if_true, Option.bind_some]
    have hjl := join_len ((qOf m).map spR)
    rw [List.length_map] at hjl
    refine Ev.bind (sameS9f (joinL ((qOf m).map spR)) (by omega)) ?_
    simp only [if_true, Option.bind_some, bne_self_eq_false, if_neg Bool.false_ne_true]
    exact tells_j0 m hl hx (countsL (qOf m)) (by have := countsL_len (qOf m); omega)
  · rw [if_neg hc] at aUsed aR aC aW aU aS
    have bR : refs_Refs.f (m.map toS) = some ([], 9) := by unfold refs_Refs.f; rw [if_neg hc]
    have bC : refs_Counts.f (m.map toS) = some ([], 9) := by unfold refs_Counts.f; rw [if_neg hc]
    have bW : refs_Who.f (m.map toS) x0 x1 = some ([], 9) := by unfold refs_Who.f; rw [if_pos ⟨h0, h1⟩, if_neg hc]
    have bS : refs_Shared.f (m.map toS) x0 x1 = some (false, 9) := by unfold refs_Shared.f; rw [if_neg hc]
    refine Ev.bind aOf ?_
    simp only [bR, bC, bW, bS, Option.bind_some]
    refine Ev.bind aR ?_
    refine Ev.bind aC ?_
    refine Ev.bind aW ?_
    refine Ev.bind aUsed ?_
    refine Ev.bind aU ?_
    refine Ev.bind aS ?_
    refine Ev.bind (sameR9f [] (by simp)) ?_
    unfold flagstonelaw09_num.f
    simp only [if_true, Option.bind_some]
    refine Ev.bind (sameR9f [] (by simp)) ?_
    simp only [if_true, Option.bind_some]
    refine Ev.bind (sameS9f [] (by simp)) ?_
    simp only [if_true, Option.bind_some, bne_self_eq_false, if_neg Bool.false_ne_true]
    exact tells_j0 m hl hx [] (by simp)
theorem refsTells_row (l : List S86) (x : S40) (y : l.length * 32 ≤ 140737488351232) (z : ∀ x ∈ l, x.f1.length * 24 ≤ 140737488351232) (w0 : (Lit.int .i64 x.f0).wf = true) (w1 : (Lit.int .i64 x.f1).wf = true) : ∃ k, flagstonelaw09_RefsTells.f k l x.f0 x.f1 = some true := by
  simp only [Lit.wf, Bool.and_eq_true, decide_eq_true_eq] at w0 w1
  have h0 : x.f0 ≤ 9223372036854775807 := w0.2
  have h1 : x.f1 ≤ 9223372036854775807 := w1.2
  exact refsTells_pure l x.f0 x.f1 (by omega) (fun u hu => by have := z u hu; omega) (by omega) (by omega)
end Go.Proofs.Ytkkfkdncddbaeaa.Fn
