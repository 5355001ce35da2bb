/- Part 4 of the walk: printed by programs of this session (by way of the kit's print) or told by hand. -/
import Derived.Test.YtjeeejoelmmfmaaGreatN3
import Derived.Maps.OwnOps
import Derived.Maps.Views
namespace Go.Proofs.YtjeeejoelmmfmaaGreat.Fn
open Go.RowKit Go.Proofs.YtjeeejoelmmfmaaGreatW.PrintWords Go.Proofs.YtjeeejoelmmfmaaGreatW.PrintLast Go.Proofs.YtjeeejoelmmfmaaGreatW.PrintMore
attribute [local go_sem] fw eu fU fZ dY dX fu fe
set_option linter.unusedVariables false
set_option linter.unusedSimpArgs false
mutual
def aH.j0 : Nat → Bool → Int → List (S93) → Option (Int)
 | 0, _, _, _ => none
 | k + 1, x19, x102000, x102001 => if x19 = true then (some 9) else (aH.l0 k (-1) x102001 (x102001.length : Int) 0 x102000 x102001)
def aH.l0 : Nat → Int → List (S93) → Int → Int → Int → List (S93) → Option (Int)
 | 0, _, _, _, _, _, _ => none
 | k + 1, x3, x21, x22, x23, x102000, x102001 => if x23 < x22 then (if 0 ≤ x23 then (if x23 < (x21.length : Int) then ((dB.f ((aU x21 x23).f0) ((aU x21 x23).f1) x102000).bind fun t104 => (if t104 = true then (if ((aU x21 x23).f0) ≤ x3 then (some 9) else (aH.l0 k (wrap64 (((aU x21 x23).f0) + ((aU x21 x23).f1))) x21 x22 (wrap64 (x23 + 1)) x102000 x102001)) else (some 9))) else (none)) else (none)) else (some 0)
end
def aH.f (k : Nat) (a0_0 : Int) (l0_1 : List (S93)) : Option (Int) := if a0_0 < 0 then (aH.j0 k true a0_0 l0_1) else (if a0_0 > 65536 then (aH.j0 k true a0_0 l0_1) else (aH.j0 k (decide ((l0_1.length : Int) > 1024)) a0_0 l0_1))
theorem aH.tK : ∀ k, (∀ y0 y1 y2, LeO (aH.j0 k y0 y1 y2) (aH.j0 (k + 1) y0 y1 y2)) ∧ (∀ y0 y1 y2 y3 y4 y5, LeO (aH.l0 k y0 y1 y2 y3 y4 y5) (aH.l0 (k + 1) y0 y1 y2 y3 y4 y5))
 | 0 => ⟨fun _ _ _ r h => by simp [aH.j0] at h, fun _ _ _ _ _ _ r h => by simp [aH.l0] at h⟩
 | k + 1 => by
  obtain ⟨ih0, ih1⟩ := aH.tK k
  refine ⟨?_, ?_⟩
  ·intro y0 y1 y2
   unfold aH.j0
   repeat' first
   | (with_reducible exact ih0 _ _ _)
   | (with_reducible exact ih1 _ _ _ _ _ _)
   | (with_reducible exact LeO.refl _)
   | (with_reducible exact LeO.none _)
   | (with_reducible refine LeO.ite ?_ ?_)
   | (with_reducible refine LeO.bind ?_ (fun _ => ?_))
   | exact ih0 _ _ _
   | exact ih1 _ _ _ _ _ _
   | exact LeO.none _
   | refine LeO.ite ?_ ?_
   | refine LeO.bind ?_ (fun _ => ?_)
  ·intro y0 y1 y2 y3 y4 y5
   unfold aH.l0
   repeat' first
   | (with_reducible exact ih0 _ _ _)
   | (with_reducible exact ih1 _ _ _ _ _ _)
   | (with_reducible exact LeO.refl _)
   | (with_reducible exact LeO.none _)
   | (with_reducible refine LeO.ite ?_ ?_)
   | (with_reducible refine LeO.bind ?_ (fun _ => ?_))
   | exact ih0 _ _ _
   | exact ih1 _ _ _ _ _ _
   | exact LeO.none _
   | refine LeO.ite ?_ ?_
   | refine LeO.bind ?_ (fun _ => ?_)
set_option maxHeartbeats 8000000 in
set_option maxRecDepth 100000 in
theorem aH.calls (k : Nat) (a0_0 : Int) (A0_1 : Option Addr) (c0_1 : Nat) (l0_1 : List (S93)) (r : Int) (w : World) (hr0_1 : Kd.C k93 w A0_1 l0_1.length l0_1) (hc0_1 : l0_1.length ≤ c0_1) (h : aH.f k a0_0 l0_1 = some r) :
 Calls Tryz.prog 60 #[.agg #[.int .i64 a0_0, .slice A0_1 l0_1.length c0_1]] w fun e w' => e = .returned (.int .i64 r) ∧ Below w.heap.size w w' := by
 have hu28 := Tryz.underlying28
 have hu93 := Tryz.underlying93
 have HR0_1 := aa.mk hr0_1
 have HC0_1 := aa.mk hc0_1
 clear hr0_1 hc0_1
 have HB := aa.mk (Below.refl w.heap.size w)
 have H : (if a0_0 < 0 then (aH.j0 k true a0_0 l0_1) else (if a0_0 > 65536 then (aH.j0 k true a0_0 l0_1) else (aH.j0 k (decide ((l0_1.length : Int) > 1024)) a0_0 l0_1))) = some r := h
 clear h
 have HC2 := aa.mk H
 clear H
 go_enter Tryz.func60, Tryz.ntmps60
 go_upto_region 1 with (first | ((with_reducible refine bf (N := 1) rfl ?_); (try (refine jl (by rfl) ?_; dsimp only)); refine aY ?hg (N := 1) ?hd (cs := #[.int .i64 a0_0, .slice A0_1 l0_1.length c0_1]) (t := 28) ?hr ?_; (case hd => rfl); (case hg => rfl); (case hr => first | (go_simp; done) | (go_simp; rfl)); intro gb101 hg w3 hbox hb; have n0_ := aa.mk (az (by repeat (first | (with_reducible first | exact HB.out | apply ah | apply af | apply ag) | exact HB.out)) hb); have n1_ := aa.mk (hbox); have n2_ := aa.mk ((by rw [hg]; exact (ay (by repeat (first | (with_reducible first | exact HB.out | apply ah | apply af | apply ag) | exact HB.out))) : w.heap.size ≤ gb101)); have n3_ := aa.mk ((by rw [hg]; exact (ay (by repeat (first | (with_reducible first | exact HB.out | apply ah | apply af | apply ag) | exact HB.out))) : w.heap.size ≤ gb101)); clear HB; have HB := n0_; have BK101 := n1_; have GW101 := n2_; have GE101 := n3_; clear n0_ n1_ n2_ n3_; clear hb hbox hg))
 (try simp only [Act.put, List.setIfInBounds_toArray, List.set_cons_zero, List.set_cons_succ])
 go_cut [19] (fun v19 wc => ∃ (kq : Nat) (x19_1 : Bool), v19 = .bool x19_1 ∧ aa (aH.j0 kq x19_1 a0_0 l0_1 = some r) ∧ aa (kq ≤ k) ∧ aa (wc.heap[gb101]? = some (.cells #[.int .i64 a0_0, (.slice A0_1 l0_1.length c0_1)] 28 (0, 0))) ∧ aa (Below w.heap.size w wc))
 case first =>
  have H := HC2.out
  clear HC2
  by_cases c4 : a0_0 < 0
  ·rw [if_pos c4] at H
   have c4b0 : decide (a0_0 < 0) = true := decide_eq_true c4
   clear c4
   (first | rw [c4b0] | (simp only [kE, mf]; rw [c4b0]) | skip)
   have H' := aa.mk H
   clear H
   have hcz5_0 : w3.cell? ⟨gb101, 0, none⟩ = some (.int .i64 a0_0) := (ae BK101.out 0).trans rfl
   have hcz5_1 : w3.cell? ⟨gb101, 1, none⟩ = some (.slice A0_1 l0_1.length c0_1) := (ae BK101.out 1).trans rfl
   have hfz5_0 := ai BK101.out 0
   have hfz5_1 := ai BK101.out 1
   go_wp2
   go_meet
   case rel => exact ⟨_, (true), (by first | rfl | (simp; done) | (simp [*]; done)), H', ⟨by first | omega | exact Nat.le_refl _⟩, ⟨by (with_reducible repeat (first | refine ak ?_ _ | refine au ?_ | refine aj ?_ _)); exact BK101.out⟩, ⟨by repeat (first | (with_reducible first | exact HB.out | apply ah | apply af | apply ag | refine av ?_ GE101.out) | exact HB.out)⟩⟩
  ·rw [if_neg c4] at H
   have c4b0 : decide (a0_0 < 0) = false := decide_eq_false c4
   clear c4
   (first | rw [c4b0] | (simp only [kE, mf]; rw [c4b0]) | skip)
   by_cases c6 : a0_0 > 65536
   ·rw [if_pos c6] at H
    have c6b0 : decide (65536 < a0_0) = true := decide_eq_true c6
    clear c6
    have H' := aa.mk H
    clear H
    have hcz7_0 : w3.cell? ⟨gb101, 0, none⟩ = some (.int .i64 a0_0) := (ae BK101.out 0).trans rfl
    have hcz7_1 : w3.cell? ⟨gb101, 1, none⟩ = some (.slice A0_1 l0_1.length c0_1) := (ae BK101.out 1).trans rfl
    have hfz7_0 := ai BK101.out 0
    have hfz7_1 := ai BK101.out 1
    go_wp2
    go_meet
    case rel => exact ⟨_, (true), (by first | rfl | (simp; done) | (simp [*]; done)), H', ⟨by first | omega | exact Nat.le_refl _⟩, ⟨by (with_reducible repeat (first | refine ak ?_ _ | refine au ?_ | refine aj ?_ _)); exact BK101.out⟩, ⟨by repeat (first | (with_reducible first | exact HB.out | apply ah | apply af | apply ag | refine av ?_ GE101.out) | exact HB.out)⟩⟩
   ·rw [if_neg c6] at H
    have c6b0 : decide (65536 < a0_0) = false := decide_eq_false c6
    clear c6
    have H' := aa.mk H
    clear H
    have hcz8_0 : w3.cell? ⟨gb101, 0, none⟩ = some (.int .i64 a0_0) := (ae BK101.out 0).trans rfl
    have hcz8_1 : w3.cell? ⟨gb101, 1, none⟩ = some (.slice A0_1 l0_1.length c0_1) := (ae BK101.out 1).trans rfl
    have hfz8_0 := ai BK101.out 0
    have hfz8_1 := ai BK101.out 1
    go_wp2
    go_meet
    case rel => exact ⟨_, (decide ((l0_1.length : Int) > 1024)), (by first | rfl | (simp; done) | (simp [*]; done)), H', ⟨by first | omega | exact Nat.le_refl _⟩, ⟨by (with_reducible repeat (first | refine ak ?_ _ | refine au ?_ | refine aj ?_ _)); exact BK101.out⟩, ⟨by repeat (first | (with_reducible first | exact HB.out | apply ah | apply af | apply ag | refine av ?_ GE101.out) | exact HB.out)⟩⟩
 case rest =>
  clear HC2
  try clear p2
  try clear c4
  try clear c4b0
  try clear c6
  try clear c6b0
  try clear hcz5_0
  try clear hcz5_1
  try clear hcz7_0
  try clear hcz7_1
  try clear hcz8_0
  try clear hcz8_1
  try clear hfz5_0
  try clear hfz5_1
  try clear hfz7_0
  try clear hfz7_1
  try clear hfz8_0
  try clear hfz8_1
  obtain ⟨kq, x19_1, rfl, HA, HJ1, BK101, HB⟩ := hcut
  cases kq with
  | zero => exact absurd HA.out (by simp [aH.j0])
  | succ kj1 =>
   have H := HA.out
   clear HA
   simp only [aH.j0] at H
   by_cases c9 : x19_1 = true
   ·subst c9
    have H1 : (some 9) = some r := by rw [if_pos rfl] at H; exact H
    clear H
    have H := H1
    clear H1
    obtain rfl := Option.some.inj H
    go_wp2
    go_ret
    exact ⟨by first | rfl | (simp [aD, aC] <;> rfl) | (simp [*, aD, aC] <;> rfl), by repeat (first | (with_reducible first | exact HB.out | apply ah | apply af | apply ag | refine av ?_ GE101.out) | exact HB.out)⟩
   ·replace c9 := Bool.eq_false_iff.mpr c9
    subst c9
    have H1 : (aH.l0 kj1 (-1) l0_1 (l0_1.length : Int) 0 a0_0 l0_1) = some r := by rw [if_neg (show ¬ (false = true) by decide)] at H; exact H
    clear H
    have H := H1
    clear H1
    have H' := aa.mk H
    clear H
    have hcz10_0 : wc.cell? ⟨gb101, 0, none⟩ = some (.int .i64 a0_0) := (ae BK101.out 0).trans rfl
    have hcz10_1 : wc.cell? ⟨gb101, 1, none⟩ = some (.slice A0_1 l0_1.length c0_1) := (ae BK101.out 1).trans rfl
    have hfz10_0 := ai BK101.out 0
    have hfz10_1 := ai BK101.out 1
    go_wp2
    go_loopg [3, 23] kj1 (fun kq v3 v23 w' => ∃ (x3_2 : Int) (x23_2 : Int), v3 = .int .i64 x3_2 ∧ v23 = .int .i64 x23_2 ∧ aa (aH.l0 kq x3_2 l0_1 (l0_1.length : Int) x23_2 a0_0 l0_1 = some r) ∧ aa (kq ≤ kj1) ∧ aa (w'.heap[gb101]? = some (.cells #[.int .i64 a0_0, (.slice A0_1 l0_1.length c0_1)] 28 (0, 0))) ∧ aa (Below w.heap.size w w'))
    case atStart => exact ⟨((-1)), (0), (by first | rfl | (simp; done) | (simp [*]; done)), (by first | rfl | (simp; done) | (simp [*]; done)), H', ⟨Nat.le_refl _⟩, ⟨by (with_reducible repeat (first | refine ak ?_ _ | refine au ?_ | refine aj ?_ _)); exact BK101.out⟩, ⟨by repeat (first | (with_reducible first | exact HB.out | apply ah | apply af | apply ag | refine av ?_ GE101.out) | exact HB.out)⟩⟩
    case round =>
     clear H'
     try clear p2
     try clear c4
     try clear c4b0
     try clear c6
     try clear c6b0
     try clear c9
     try clear hcz10_0
     try clear hcz10_1
     try clear hcz5_0
     try clear hcz5_1
     try clear hcz7_0
     try clear hcz7_1
     try clear hcz8_0
     try clear hcz8_1
     try clear hfz10_0
     try clear hfz10_1
     try clear hfz5_0
     try clear hfz5_1
     try clear hfz7_0
     try clear hfz7_1
     try clear hfz8_0
     try clear hfz8_1
     try clear p2
     obtain ⟨x3_2, x23_2, rfl, rfl, HA, HK2, BK101, HB⟩ := hrel
     cases gk with
     | zero => exact absurd HA.out (by simp [aH.l0])
     | succ k2 =>
      have H := HA.out
      clear HA
      simp only [aH.l0] at H
      by_cases c11 : x23_2 < (l0_1.length : Int)
      ·rw [if_pos c11] at H
       have c11b0 : decide (x23_2 < (l0_1.length : Int)) = true := decide_eq_true c11
       clear c11
       by_cases c12 : 0 ≤ x23_2
       ·rw [if_pos c12] at H
        have c12b0 : decide (0 ≤ x23_2) = true := decide_eq_true c12
        clear c12
        by_cases c13 : x23_2 < (l0_1.length : Int)
        ·rw [if_pos c13] at H
         have c13b0 : decide (x23_2 < (l0_1.length : Int)) = true := decide_eq_true c13
         clear c13
         replace H := Option.bind_eq_some_iff.mp H
         obtain ⟨t104, A140, H⟩ := H
         replace H : (if t104 = true then (if ((aU l0_1 x23_2).f0) ≤ x3_2 then (some 9) else (aH.l0 k2 (wrap64 (((aU l0_1 x23_2).f0) + ((aU l0_1 x23_2).f1))) l0_1 (l0_1.length : Int) (wrap64 (x23_2 + 1)) a0_0 l0_1)) else (some 9)) = some r := H
         have A14 := aa.mk A140
         clear A140
         by_cases c15 : t104 = true
         ·subst c15
          have H1 : (if ((aU l0_1 x23_2).f0) ≤ x3_2 then (some 9) else (aH.l0 k2 (wrap64 (((aU l0_1 x23_2).f0) + ((aU l0_1 x23_2).f1))) l0_1 (l0_1.length : Int) (wrap64 (x23_2 + 1)) a0_0 l0_1)) = some r := by rw [if_pos rfl] at H; exact H
          clear H
          have H := H1
          clear H1
          by_cases c16 : ((aU l0_1 x23_2).f0) ≤ x3_2
          ·rw [if_pos c16] at H
           have c16b0 : decide (((aU l0_1 x23_2).f0) ≤ x3_2) = true := decide_eq_true c16
           clear c16
           obtain rfl := Option.some.inj H
           have p102 : 0 ≤ (x23_2 : Int) := of_decide_eq_true (by first | (with_reducible assumption) | assumption)
           have q102 : x23_2 < (l0_1.length : Int) := of_decide_eq_true (by first | (with_reducible assumption) | assumption)
           obtain ⟨ad102, e102, hx102_0, hx102_1⟩ := fQ HR0_1.out x23_2 p102 q102
           cases e102
           replace hx102_0 := (HB.out.cell (World.block_lt_of_cell? w _ hx102_0)).trans hx102_0
           replace hx102_1 := (HB.out.cell (World.block_lt_of_cell? w _ hx102_1)).trans hx102_1
           replace p102 := eq_true p102
           replace q102 := eq_true q102
           go_wp2_with (first | ((with_reducible refine bf (N := 5) rfl ?_); (try (refine jl (by rfl) ?_; dsimp only)); refine aY ?hg (N := 5) ?hd (cs := #[.int .i64 0, .int .i64 0]) (t := 93) ?hr ?_; (case hd => rfl); (case hg => rfl); (case hr => first | (go_simp; done) | (go_simp; rfl)); intro gb103 hg w17 hbox hb; have n0_ := aa.mk (aK (g := gb101) (o := .cells #[.int .i64 a0_0, .slice (some ad102) l0_1.length c0_1] 28 (0, 0)) (by (with_reducible repeat (first | refine ak ?_ _ | refine au ?_ | refine aj ?_ _)); exact BK101.out) hb); have n1_ := aa.mk (az (by repeat (first | (with_reducible first | exact HB.out | apply ah | apply af | apply ag | refine av ?_ GE101.out) | exact HB.out)) hb); have n2_ := aa.mk (hbox); have n3_ := aa.mk ((by rw [hg]; exact (ay (by repeat (first | (with_reducible first | exact HB.out | apply ah | apply af | apply ag | refine av ?_ GE101.out) | exact HB.out))) : w.heap.size ≤ gb103)); have n4_ := aa.mk ((by rw [hg]; exact (ay (by repeat (first | (with_reducible first | exact HB.out | apply ah | apply af | apply ag | refine av ?_ GE101.out) | exact HB.out))) : w.heap.size ≤ gb103)); have n5_ := aa.mk ((by rw [hg]; exact Nat.ne_of_lt (aA (g := gb101) (o := .cells #[.int .i64 a0_0, .slice (some ad102) l0_1.length c0_1] 28 (0, 0)) (by (with_reducible repeat (first | refine ak ?_ _ | refine au ?_ | refine aj ?_ _)); exact BK101.out)) : gb101 ≠ gb103)); have n6_ := aa.mk ((by rw [hg]; exact Nat.ne_of_gt (aA (g := gb101) (o := .cells #[.int .i64 a0_0, .slice (some ad102) l0_1.length c0_1] 28 (0, 0)) (by (with_reducible repeat (first | refine ak ?_ _ | refine au ?_ | refine aj ?_ _)); exact BK101.out)) : gb103 ≠ gb101)); clear BK101; clear HB; have BK101 := n0_; have HB := n1_; have BK103 := n2_; have GW103 := n3_; have GE103 := n4_; have NB101_103 := n5_; have NB103_101 := n6_; clear n0_ n1_ n2_ n3_ n4_ n5_ n6_; clear hb hbox hg; have hnb18 := NB103_101.out; have hnc18 := NB101_103.out; have hcz19_0 : w17.cell? ⟨gb103, 0, none⟩ = some (.int .i64 0) := (ae BK103.out 0).trans rfl; have hcz19_1 : w17.cell? ⟨gb103, 1, none⟩ = some (.int .i64 0) := (ae BK103.out 1).trans rfl; have hfz19_0 := ai BK103.out 0; have hfz19_1 := ai BK103.out 1; have hcz20_0 : w17.cell? ⟨gb101, 0, none⟩ = some (.int .i64 a0_0) := (ae BK101.out 0).trans rfl; have hcz20_1 : w17.cell? ⟨gb101, 1, none⟩ = some (.slice (some ad102) l0_1.length c0_1) := (ae BK101.out 1).trans rfl; have hfz20_0 := ai BK101.out 0; have hfz20_1 := ai BK101.out 1) | ((with_reducible refine bB (f := 104) rfl ?_); refine dN (some 30) rfl rfl Tryz.func104 (by kernel_rfl) rfl #[.agg #[.int .i64 ((aU l0_1 x23_2).f0), .int .i64 ((aU l0_1 x23_2).f1)], .int .i64 a0_0] rfl (by (try simp only [List.map_toArray, List.map_cons, List.map_nil]); first | done | rfl | (simp only [List.length_drop, List.length_take]; rfl)) ?_; (with_reducible refine (dB.calls ((aU l0_1 x23_2).f0) ((aU l0_1 x23_2).f1) a0_0 true _ A14.out).mono ?_); rintro e w21 ⟨rfl, hb⟩; refine ⟨_, rfl, ?_⟩; have n0_ := aa.mk (aK (g := gb101) (o := .cells #[.int .i64 a0_0, .slice (some ad102) l0_1.length c0_1] 28 (0, 0)) (by (with_reducible repeat (first | refine ak ?_ _ | refine au ?_ | refine aj ?_ _)); refine bX ?_ NB101_103.out _; (with_reducible repeat (first | refine ak ?_ _ | refine au ?_ | refine aj ?_ _)); refine bX ?_ NB101_103.out _; (with_reducible repeat (first | refine ak ?_ _ | refine au ?_ | refine aj ?_ _)); exact BK101.out) hb); have n1_ := aa.mk (aK (g := gb103) (o := .cells #[.int .i64 ((aU l0_1 x23_2).f0), .int .i64 ((aU l0_1 x23_2).f1)] 93 (0, 0)) (by (with_reducible repeat (first | refine ak ?_ _ | refine au ?_ | refine aj ?_ _)); refine aW (cs := #[.int .i64 ((aU l0_1 x23_2).f0), .int .i64 0]) ?_ 1 _ rfl; (with_reducible repeat (first | refine ak ?_ _ | refine au ?_ | refine aj ?_ _)); refine aW (cs := #[.int .i64 0, .int .i64 0]) ?_ 0 _ rfl; (with_reducible repeat (first | refine ak ?_ _ | refine au ?_ | refine aj ?_ _)); exact BK103.out) hb); have n2_ := aa.mk (az (by repeat (first | (with_reducible first | exact HB.out | apply ah | apply af | apply ag | refine av ?_ GE101.out | refine av ?_ GE103.out) | exact HB.out)) hb); clear BK101; clear BK103; clear HB; have BK101 := n0_; have BK103 := n1_; have HB := n2_; clear n0_ n1_ n2_; (try clear hb); (try clear hb2); (try clear hk); (try clear hi); have hcz22_0 : w21.cell? ⟨gb103, 0, none⟩ = some (.int .i64 ((aU l0_1 x23_2).f0)) := (ae BK103.out 0).trans rfl; have hcz22_1 : w21.cell? ⟨gb103, 1, none⟩ = some (.int .i64 ((aU l0_1 x23_2).f1)) := (ae BK103.out 1).trans rfl; have hfz22_0 := ai BK103.out 0; have hfz22_1 := ai BK103.out 1))
           go_ret
           exact ⟨by first | rfl | (simp [aD, aC] <;> rfl) | (simp [*, aD, aC] <;> rfl), by repeat (first | (with_reducible first | exact HB.out | apply ah | apply af | apply ag | refine av ?_ GE101.out | refine av ?_ GE103.out) | exact HB.out)⟩
          ·rw [if_neg c16] at H
           have c16b0 : decide (((aU l0_1 x23_2).f0) ≤ x3_2) = false := decide_eq_false c16
           clear c16
           have H' := aa.mk H
           clear H
           have p102 : 0 ≤ (x23_2 : Int) := of_decide_eq_true (by first | (with_reducible assumption) | assumption)
           have q102 : x23_2 < (l0_1.length : Int) := of_decide_eq_true (by first | (with_reducible assumption) | assumption)
           obtain ⟨ad102, e102, hx102_0, hx102_1⟩ := fQ HR0_1.out x23_2 p102 q102
           cases e102
           replace hx102_0 := (HB.out.cell (World.block_lt_of_cell? w _ hx102_0)).trans hx102_0
           replace hx102_1 := (HB.out.cell (World.block_lt_of_cell? w _ hx102_1)).trans hx102_1
           replace p102 := eq_true p102
           replace q102 := eq_true q102
           go_wp2_with (first | ((with_reducible refine bf (N := 5) rfl ?_); (try (refine jl (by rfl) ?_; dsimp only)); refine aY ?hg (N := 5) ?hd (cs := #[.int .i64 0, .int .i64 0]) (t := 93) ?hr ?_; (case hd => rfl); (case hg => rfl); (case hr => first | (go_simp; done) | (go_simp; rfl)); intro gb103 hg w23 hbox hb; have n0_ := aa.mk (aK (g := gb101) (o := .cells #[.int .i64 a0_0, .slice (some ad102) l0_1.length c0_1] 28 (0, 0)) (by (with_reducible repeat (first | refine ak ?_ _ | refine au ?_ | refine aj ?_ _)); exact BK101.out) hb); have n1_ := aa.mk (az (by repeat (first | (with_reducible first | exact HB.out | apply ah | apply af | apply ag | refine av ?_ GE101.out) | exact HB.out)) hb); have n2_ := aa.mk (hbox); have n3_ := aa.mk ((by rw [hg]; exact (ay (by repeat (first | (with_reducible first | exact HB.out | apply ah | apply af | apply ag | refine av ?_ GE101.out) | exact HB.out))) : w.heap.size ≤ gb103)); have n4_ := aa.mk ((by rw [hg]; exact (ay (by repeat (first | (with_reducible first | exact HB.out | apply ah | apply af | apply ag | refine av ?_ GE101.out) | exact HB.out))) : w.heap.size ≤ gb103)); have n5_ := aa.mk ((by rw [hg]; exact Nat.ne_of_lt (aA (g := gb101) (o := .cells #[.int .i64 a0_0, .slice (some ad102) l0_1.length c0_1] 28 (0, 0)) (by (with_reducible repeat (first | refine ak ?_ _ | refine au ?_ | refine aj ?_ _)); exact BK101.out)) : gb101 ≠ gb103)); have n6_ := aa.mk ((by rw [hg]; exact Nat.ne_of_gt (aA (g := gb101) (o := .cells #[.int .i64 a0_0, .slice (some ad102) l0_1.length c0_1] 28 (0, 0)) (by (with_reducible repeat (first | refine ak ?_ _ | refine au ?_ | refine aj ?_ _)); exact BK101.out)) : gb103 ≠ gb101)); clear BK101; clear HB; have BK101 := n0_; have HB := n1_; have BK103 := n2_; have GW103 := n3_; have GE103 := n4_; have NB101_103 := n5_; have NB103_101 := n6_; clear n0_ n1_ n2_ n3_ n4_ n5_ n6_; clear hb hbox hg; have hnb24 := NB103_101.out; have hnc24 := NB101_103.out; have hcz25_0 : w23.cell? ⟨gb103, 0, none⟩ = some (.int .i64 0) := (ae BK103.out 0).trans rfl; have hcz25_1 : w23.cell? ⟨gb103, 1, none⟩ = some (.int .i64 0) := (ae BK103.out 1).trans rfl; have hfz25_0 := ai BK103.out 0; have hfz25_1 := ai BK103.out 1; have hcz26_0 : w23.cell? ⟨gb101, 0, none⟩ = some (.int .i64 a0_0) := (ae BK101.out 0).trans rfl; have hcz26_1 : w23.cell? ⟨gb101, 1, none⟩ = some (.slice (some ad102) l0_1.length c0_1) := (ae BK101.out 1).trans rfl; have hfz26_0 := ai BK101.out 0; have hfz26_1 := ai BK101.out 1) | ((with_reducible refine bB (f := 104) rfl ?_); refine dN (some 30) rfl rfl Tryz.func104 (by kernel_rfl) rfl #[.agg #[.int .i64 ((aU l0_1 x23_2).f0), .int .i64 ((aU l0_1 x23_2).f1)], .int .i64 a0_0] rfl (by (try simp only [List.map_toArray, List.map_cons, List.map_nil]); first | done | rfl | (simp only [List.length_drop, List.length_take]; rfl)) ?_; (with_reducible refine (dB.calls ((aU l0_1 x23_2).f0) ((aU l0_1 x23_2).f1) a0_0 true _ A14.out).mono ?_); rintro e w27 ⟨rfl, hb⟩; refine ⟨_, rfl, ?_⟩; have n0_ := aa.mk (aK (g := gb101) (o := .cells #[.int .i64 a0_0, .slice (some ad102) l0_1.length c0_1] 28 (0, 0)) (by (with_reducible repeat (first | refine ak ?_ _ | refine au ?_ | refine aj ?_ _)); refine bX ?_ NB101_103.out _; (with_reducible repeat (first | refine ak ?_ _ | refine au ?_ | refine aj ?_ _)); refine bX ?_ NB101_103.out _; (with_reducible repeat (first | refine ak ?_ _ | refine au ?_ | refine aj ?_ _)); exact BK101.out) hb); have n1_ := aa.mk (aK (g := gb103) (o := .cells #[.int .i64 ((aU l0_1 x23_2).f0), .int .i64 ((aU l0_1 x23_2).f1)] 93 (0, 0)) (by (with_reducible repeat (first | refine ak ?_ _ | refine au ?_ | refine aj ?_ _)); refine aW (cs := #[.int .i64 ((aU l0_1 x23_2).f0), .int .i64 0]) ?_ 1 _ rfl; (with_reducible repeat (first | refine ak ?_ _ | refine au ?_ | refine aj ?_ _)); refine aW (cs := #[.int .i64 0, .int .i64 0]) ?_ 0 _ rfl; (with_reducible repeat (first | refine ak ?_ _ | refine au ?_ | refine aj ?_ _)); exact BK103.out) hb); have n2_ := aa.mk (az (by repeat (first | (with_reducible first | exact HB.out | apply ah | apply af | apply ag | refine av ?_ GE101.out | refine av ?_ GE103.out) | exact HB.out)) hb); clear BK101; clear BK103; clear HB; have BK101 := n0_; have BK103 := n1_; have HB := n2_; clear n0_ n1_ n2_; (try clear hb); (try clear hb2); (try clear hk); (try clear hi); have hcz28_0 : w27.cell? ⟨gb103, 0, none⟩ = some (.int .i64 ((aU l0_1 x23_2).f0)) := (ae BK103.out 0).trans rfl; have hcz28_1 : w27.cell? ⟨gb103, 1, none⟩ = some (.int .i64 ((aU l0_1 x23_2).f1)) := (ae BK103.out 1).trans rfl; have hfz28_0 := ai BK103.out 0; have hfz28_1 := ai BK103.out 1))
           go_roundg k2
           case measure => have := HJ1.out; have := HK2.out; omega
           case rel => exact ⟨(wrap64 (((aU l0_1 x23_2).f0) + ((aU l0_1 x23_2).f1))), (wrap64 (x23_2 + 1)), (by first | rfl | (simp; done) | (simp [*]; done)), (by first | rfl | (simp; done) | (simp [*]; done)), H', ⟨by have := HJ1.out; have := HK2.out; omega⟩, ⟨by (with_reducible repeat (first | refine ak ?_ _ | refine au ?_ | refine aj ?_ _)); exact BK101.out⟩, ⟨by repeat (first | (with_reducible first | exact HB.out | apply ah | apply af | apply ag | refine av ?_ GE101.out | refine av ?_ GE103.out) | exact HB.out)⟩⟩
         ·replace c15 := Bool.eq_false_iff.mpr c15
          subst c15
          have H1 : (some 9) = some r := by rw [if_neg (show ¬ (false = true) by decide)] at H; exact H
          clear H
          have H := H1
          clear H1
          obtain rfl := Option.some.inj H
          have p102 : 0 ≤ (x23_2 : Int) := of_decide_eq_true (by first | (with_reducible assumption) | assumption)
          have q102 : x23_2 < (l0_1.length : Int) := of_decide_eq_true (by first | (with_reducible assumption) | assumption)
          obtain ⟨ad102, e102, hx102_0, hx102_1⟩ := fQ HR0_1.out x23_2 p102 q102
          cases e102
          replace hx102_0 := (HB.out.cell (World.block_lt_of_cell? w _ hx102_0)).trans hx102_0
          replace hx102_1 := (HB.out.cell (World.block_lt_of_cell? w _ hx102_1)).trans hx102_1
          replace p102 := eq_true p102
          replace q102 := eq_true q102
          go_wp2_with (first | ((with_reducible refine bf (N := 5) rfl ?_); (try (refine jl (by rfl) ?_; dsimp only)); refine aY ?hg (N := 5) ?hd (cs := #[.int .i64 0, .int .i64 0]) (t := 93) ?hr ?_; (case hd => rfl); (case hg => rfl); (case hr => first | (go_simp; done) | (go_simp; rfl)); intro gb103 hg w29 hbox hb; have n0_ := aa.mk (aK (g := gb101) (o := .cells #[.int .i64 a0_0, .slice (some ad102) l0_1.length c0_1] 28 (0, 0)) (by (with_reducible repeat (first | refine ak ?_ _ | refine au ?_ | refine aj ?_ _)); exact BK101.out) hb); have n1_ := aa.mk (az (by repeat (first | (with_reducible first | exact HB.out | apply ah | apply af | apply ag | refine av ?_ GE101.out) | exact HB.out)) hb); have n2_ := aa.mk (hbox); have n3_ := aa.mk ((by rw [hg]; exact (ay (by repeat (first | (with_reducible first | exact HB.out | apply ah | apply af | apply ag | refine av ?_ GE101.out) | exact HB.out))) : w.heap.size ≤ gb103)); have n4_ := aa.mk ((by rw [hg]; exact (ay (by repeat (first | (with_reducible first | exact HB.out | apply ah | apply af | apply ag | refine av ?_ GE101.out) | exact HB.out))) : w.heap.size ≤ gb103)); have n5_ := aa.mk ((by rw [hg]; exact Nat.ne_of_lt (aA (g := gb101) (o := .cells #[.int .i64 a0_0, .slice (some ad102) l0_1.length c0_1] 28 (0, 0)) (by (with_reducible repeat (first | refine ak ?_ _ | refine au ?_ | refine aj ?_ _)); exact BK101.out)) : gb101 ≠ gb103)); have n6_ := aa.mk ((by rw [hg]; exact Nat.ne_of_gt (aA (g := gb101) (o := .cells #[.int .i64 a0_0, .slice (some ad102) l0_1.length c0_1] 28 (0, 0)) (by (with_reducible repeat (first | refine ak ?_ _ | refine au ?_ | refine aj ?_ _)); exact BK101.out)) : gb103 ≠ gb101)); clear BK101; clear HB; have BK101 := n0_; have HB := n1_; have BK103 := n2_; have GW103 := n3_; have GE103 := n4_; have NB101_103 := n5_; have NB103_101 := n6_; clear n0_ n1_ n2_ n3_ n4_ n5_ n6_; clear hb hbox hg; have hnb30 := NB103_101.out; have hnc30 := NB101_103.out; have hcz31_0 : w29.cell? ⟨gb103, 0, none⟩ = some (.int .i64 0) := (ae BK103.out 0).trans rfl; have hcz31_1 : w29.cell? ⟨gb103, 1, none⟩ = some (.int .i64 0) := (ae BK103.out 1).trans rfl; have hfz31_0 := ai BK103.out 0; have hfz31_1 := ai BK103.out 1; have hcz32_0 : w29.cell? ⟨gb101, 0, none⟩ = some (.int .i64 a0_0) := (ae BK101.out 0).trans rfl; have hcz32_1 : w29.cell? ⟨gb101, 1, none⟩ = some (.slice (some ad102) l0_1.length c0_1) := (ae BK101.out 1).trans rfl; have hfz32_0 := ai BK101.out 0; have hfz32_1 := ai BK101.out 1) | ((with_reducible refine bB (f := 104) rfl ?_); refine dN (some 30) rfl rfl Tryz.func104 (by kernel_rfl) rfl #[.agg #[.int .i64 ((aU l0_1 x23_2).f0), .int .i64 ((aU l0_1 x23_2).f1)], .int .i64 a0_0] rfl (by (try simp only [List.map_toArray, List.map_cons, List.map_nil]); first | done | rfl | (simp only [List.length_drop, List.length_take]; rfl)) ?_; (with_reducible refine (dB.calls ((aU l0_1 x23_2).f0) ((aU l0_1 x23_2).f1) a0_0 false _ A14.out).mono ?_); rintro e w33 ⟨rfl, hb⟩; refine ⟨_, rfl, ?_⟩; have n0_ := aa.mk (aK (g := gb101) (o := .cells #[.int .i64 a0_0, .slice (some ad102) l0_1.length c0_1] 28 (0, 0)) (by (with_reducible repeat (first | refine ak ?_ _ | refine au ?_ | refine aj ?_ _)); refine bX ?_ NB101_103.out _; (with_reducible repeat (first | refine ak ?_ _ | refine au ?_ | refine aj ?_ _)); refine bX ?_ NB101_103.out _; (with_reducible repeat (first | refine ak ?_ _ | refine au ?_ | refine aj ?_ _)); exact BK101.out) hb); have n1_ := aa.mk (aK (g := gb103) (o := .cells #[.int .i64 ((aU l0_1 x23_2).f0), .int .i64 ((aU l0_1 x23_2).f1)] 93 (0, 0)) (by (with_reducible repeat (first | refine ak ?_ _ | refine au ?_ | refine aj ?_ _)); refine aW (cs := #[.int .i64 ((aU l0_1 x23_2).f0), .int .i64 0]) ?_ 1 _ rfl; (with_reducible repeat (first | refine ak ?_ _ | refine au ?_ | refine aj ?_ _)); refine aW (cs := #[.int .i64 0, .int .i64 0]) ?_ 0 _ rfl; (with_reducible repeat (first | refine ak ?_ _ | refine au ?_ | refine aj ?_ _)); exact BK103.out) hb); have n2_ := aa.mk (az (by repeat (first | (with_reducible first | exact HB.out | apply ah | apply af | apply ag | refine av ?_ GE101.out | refine av ?_ GE103.out) | exact HB.out)) hb); clear BK101; clear BK103; clear HB; have BK101 := n0_; have BK103 := n1_; have HB := n2_; clear n0_ n1_ n2_; (try clear hb); (try clear hb2); (try clear hk); (try clear hi)))
          go_ret
          exact ⟨by first | rfl | (simp [aD, aC] <;> rfl) | (simp [*, aD, aC] <;> rfl), by repeat (first | (with_reducible first | exact HB.out | apply ah | apply af | apply ag | refine av ?_ GE101.out | refine av ?_ GE103.out) | exact HB.out)⟩
        ·rw [if_neg c13] at H
         exact absurd H (by simp)
       ·rw [if_neg c12] at H
        exact absurd H (by simp)
      ·rw [if_neg c11] at H
       have c11b0 : decide (x23_2 < (l0_1.length : Int)) = false := decide_eq_false c11
       clear c11
       obtain rfl := Option.some.inj H
       go_wp2
       go_ret
       exact ⟨by first | rfl | (simp [aD, aC] <;> rfl) | (simp [*, aD, aC] <;> rfl), by repeat (first | (with_reducible first | exact HB.out | apply ah | apply af | apply ag | refine av ?_ GE101.out) | exact HB.out)⟩
def ic.f (a0 : Int) (l1 : List (S93)) : Option (Int × (List (S93)) × Int) := if (l1.length : Int) > 1024 then (some (0, ([] : List (S93)), 51)) else (some (a0, l1, 0))
set_option maxHeartbeats 8000000 in
set_option maxRecDepth 100000 in
theorem ic.calls (a0 : Int) (P1_ : Nat → Prop) (u9000_ : Value) (l1 : List (S93)) (r1 : Int) (r2 : List (S93)) (r3 : Int) (w0 w : World) (hB : Below w0.heap.size w0 w) (ho1 : Kd.R k93 93 w w0.heap.size P1_ u9000_ l1) (h : ic.f a0 l1 = some (r1, r2, r3)) :
 Calls Tryz.prog 133 #[.int .i64 a0, u9000_] w fun e w' => ∃ v1_ : Value, e = .returned (.tuple #[.agg #[.int .i64 r1, v1_], .int .i64 r3]) ∧ Kd.R k93 93 w' w0.heap.size (fun k_ => (P1_ k_ ∨ w.heap.size ≤ k_)) v1_ r2 ∧ Below w0.heap.size w0 w' ∧ Kept w w' (fun k_ => P1_ k_) := by
 have hu28 := Tryz.underlying28
 have HO1 := aa.mk (show Kd.R k93 93 w w0.heap.size (fun k_ => (P1_ k_ ∨ w.heap.size ≤ k_)) u9000_ l1 from Kd.aX ho1 (fun k_ hk => (.inl hk)))
 have HK := aa.mk (Kept.refl w (fun k_ => P1_ k_))
 have HW0 := aa.mk hB.size
 have HB := aa.mk hB
 clear hB
 have H : (if (l1.length : Int) > 1024 then (some (0, ([] : List (S93)), 51)) else (some (a0, l1, 0))) = some (r1, r2, r3) := h
 clear h
 by_cases c3 : (l1.length : Int) > 1024
 ·rw [if_pos c3] at H
  have c3b0 : decide (1024 < (l1.length : Int)) = true := decide_eq_true c3
  have c3b1 : decide (1024 < l1.length) = true := decide_eq_true (by omega)
  clear c3
  simp only [Option.some.injEq, Prod.mk.injEq] at H
  obtain ⟨rfl, rfl, rfl⟩ := H
  go_enter Tryz.func133, Tryz.ntmps133
  go_wp2_with (first | ((with_reducible refine bf (N := 4) rfl ?_); refine aY ?hg (N := 4) ?hd (cs := #[.int .i64 0, .slice none 0 0]) (t := 28) ?hr ?_; (case hd => rfl); (case hg => rfl); (case hr => first | (go_simp; done) | (go_simp; rfl)); intro gb101 hg w4 hbox hb; have n0_ := aa.mk (Kd.bA (by (with_reducible repeat (first | apply Kd.bQ | apply Kd.bT | apply Kd.dC)); exact HO1.out) hb); have n1_ := aa.mk (Kept.below (S := (fun k_ => P1_ k_)) (by repeat (first | (with_reducible first | exact HK.out | apply Kept.alloc | apply Kept.drewN | apply Kept.drew) | exact HK.out)) hb); have n2_ := aa.mk (az (by repeat (first | (with_reducible first | exact HB.out | apply ah | apply af | apply ag) | exact HB.out)) hb); have n3_ := aa.mk (hbox); have n4_ := aa.mk ((by rw [hg]; exact (by first | exact HK.out.1 | exact (show Kept w _ (fun k_ => P1_ k_) from by repeat (first | (with_reducible first | exact HK.out | apply Kept.alloc | apply Kept.drewN | apply Kept.drew) | exact HK.out)).1) : w.heap.size ≤ gb101)); have n5_ := aa.mk ((by rw [hg]; exact (ay (by repeat (first | (with_reducible first | exact HB.out | apply ah | apply af | apply ag) | exact HB.out))) : w0.heap.size ≤ gb101)); clear HO1; clear HK; clear HB; have HO1 := n0_; have HK := n1_; have HB := n2_; have BK101 := n3_; have GW101 := n4_; have GE101 := n5_; clear n0_ n1_ n2_ n3_ n4_ n5_; clear hb hbox hg; obtain ⟨Ao5, co5, eo5⟩ := Kd.aZ HO1.out; subst eo5; have hcz6_0 : w4.cell? ⟨gb101, 0, none⟩ = some (.int .i64 0) := (ae BK101.out 0).trans rfl; have hcz6_1 : w4.cell? ⟨gb101, 1, none⟩ = some (.slice none 0 0) := (ae BK101.out 1).trans rfl; have hfz6_0 := ai BK101.out 0; have hfz6_1 := ai BK101.out 1))
  refine bodyPost_ret (bJ rfl _ _ gb101 28 #[.int .i64 0, .slice none 0 0] (0, 0) _ rfl (by (with_reducible repeat (first | refine ak ?_ _ | refine au ?_ | refine aj ?_ _)); refine aW (cs := #[.int .i64 0, .slice none 0 0]) ?_ 1 _ rfl; (with_reducible repeat (first | refine ak ?_ _ | refine au ?_ | refine aj ?_ _)); refine aW (cs := #[.int .i64 0, .slice none 0 0]) ?_ 0 _ rfl; (with_reducible repeat (first | refine ak ?_ _ | refine au ?_ | refine aj ?_ _)); exact BK101.out) Tryz.underlying28 rfl (by kernel_rfl)) rfl ?_
  exact ⟨_, by first | rfl | (simp [aD, aC] <;> rfl) | (simp [*, aD, aC] <;> rfl), by first | exact Kd.bW _ _ _ _ _ | exact Kd.N_nil _ _ _ _ _ | exact Kd.V_nil _ _ _ _ _ | exact Kd.Q_nil _ _ _ _ _ | exact Kd.jv _ _ _ _ _, by repeat (first | (with_reducible first | exact HB.out | apply ah | apply af | apply ag | refine av ?_ GE101.out) | exact HB.out), by repeat (first | (with_reducible first | exact HK.out | apply Kept.alloc | apply Kept.drewN | apply Kept.drew | refine Kept.setCell ?_ (.inr GW101.out) _) | exact HK.out)⟩
 ·rw [if_neg c3] at H
  have c3b0 : decide (1024 < (l1.length : Int)) = false := decide_eq_false c3
  have c3b1 : decide (1024 < l1.length) = false := decide_eq_false (by omega)
  clear c3
  simp only [Option.some.injEq, Prod.mk.injEq] at H
  obtain ⟨rfl, rfl, rfl⟩ := H
  go_enter Tryz.func133, Tryz.ntmps133
  go_wp2_with (first | ((with_reducible refine bf (N := 4) rfl ?_); refine aY ?hg (N := 4) ?hd (cs := #[.int .i64 0, .slice none 0 0]) (t := 28) ?hr ?_; (case hd => rfl); (case hg => rfl); (case hr => first | (go_simp; done) | (go_simp; rfl)); intro gb101 hg w7 hbox hb; have n0_ := aa.mk (Kd.bA (by (with_reducible repeat (first | apply Kd.bQ | apply Kd.bT | apply Kd.dC)); exact HO1.out) hb); have n1_ := aa.mk (Kept.below (S := (fun k_ => P1_ k_)) (by repeat (first | (with_reducible first | exact HK.out | apply Kept.alloc | apply Kept.drewN | apply Kept.drew) | exact HK.out)) hb); have n2_ := aa.mk (az (by repeat (first | (with_reducible first | exact HB.out | apply ah | apply af | apply ag) | exact HB.out)) hb); have n3_ := aa.mk (hbox); have n4_ := aa.mk ((by rw [hg]; exact (by first | exact HK.out.1 | exact (show Kept w _ (fun k_ => P1_ k_) from by repeat (first | (with_reducible first | exact HK.out | apply Kept.alloc | apply Kept.drewN | apply Kept.drew) | exact HK.out)).1) : w.heap.size ≤ gb101)); have n5_ := aa.mk ((by rw [hg]; exact (ay (by repeat (first | (with_reducible first | exact HB.out | apply ah | apply af | apply ag) | exact HB.out))) : w0.heap.size ≤ gb101)); clear HO1; clear HK; clear HB; have HO1 := n0_; have HK := n1_; have HB := n2_; have BK101 := n3_; have GW101 := n4_; have GE101 := n5_; clear n0_ n1_ n2_ n3_ n4_ n5_; clear hb hbox hg; obtain ⟨Ao8, co8, eo8⟩ := Kd.aZ HO1.out; subst eo8; have hcz9_0 : w7.cell? ⟨gb101, 0, none⟩ = some (.int .i64 0) := (ae BK101.out 0).trans rfl; have hcz9_1 : w7.cell? ⟨gb101, 1, none⟩ = some (.slice none 0 0) := (ae BK101.out 1).trans rfl; have hfz9_0 := ai BK101.out 0; have hfz9_1 := ai BK101.out 1))
  refine bodyPost_ret (bJ rfl _ _ gb101 28 #[.int .i64 a0, .slice Ao8 l1.length co8] (0, 0) _ rfl (by (with_reducible repeat (first | refine ak ?_ _ | refine au ?_ | refine aj ?_ _)); refine aW (cs := #[.int .i64 a0, .slice none 0 0]) ?_ 1 _ rfl; (with_reducible repeat (first | refine ak ?_ _ | refine au ?_ | refine aj ?_ _)); refine aW (cs := #[.int .i64 0, .slice none 0 0]) ?_ 0 _ rfl; (with_reducible repeat (first | refine ak ?_ _ | refine au ?_ | refine aj ?_ _)); exact BK101.out) Tryz.underlying28 rfl (by kernel_rfl)) rfl ?_
  exact ⟨_, by first | rfl | (simp [aD, aC] <;> rfl) | (simp [*, aD, aC] <;> rfl), by (with_reducible repeat (first | apply Kd.bQ | apply Kd.bT | apply Kd.dC)); exact Kd.aX (Kd.dE (p := ⟨gb101, 1, none⟩) (Kd.dE (p := ⟨gb101, 0, none⟩) (Kd.iE HO1.out BK101.out (by decide)) (fun _ hk => hk.2) (.int .i64 a0)) (fun _ hk => hk.2) (.slice Ao8 l1.length co8)) (fun _ hk => hk.1), by repeat (first | (with_reducible first | exact HB.out | apply ah | apply af | apply ag | refine av ?_ GE101.out) | exact HB.out), by repeat (first | (with_reducible first | exact HK.out | apply Kept.alloc | apply Kept.drewN | apply Kept.drew | refine Kept.setCell ?_ (.inr GW101.out) _) | exact HK.out)⟩
theorem eqA93 (d : Nat) (w : World) (x0 y0 : Int) (x1 y1 : Int) :
    (Op.equalIn (d + 2) 93 (.agg #[.int .i64 x0, .int .i64 x1]) (.agg #[.int .i64 y0, .int .i64 y1])).run Tryz.prog w = .ok (x0 == y0 && (x1 == y1)) w := by
  refine y7 Tryz.underlying93 (by kernel_rfl) ?_
  refine nR (by rfl) (by go_simp; rfl) (by go_simp; rfl) (by go_simp) ?_
  exact rz (by rfl) (by go_simp; rfl) (by go_simp; rfl) (by go_simp)
end Go.Proofs.YtjeeejoelmmfmaaGreat.Fn
namespace Go.Proofs.YtjeeejoelmmfmaaGreat.Fn
open Go.RowKit Go.Proofs.YtjeeejoelmmfmaaGreatW.PrintWords Go.Proofs.YtjeeejoelmmfmaaGreatW.PrintLast Go.Proofs.YtjeeejoelmmfmaaGreatW.PrintMore
attribute [local go_sem] fw eu fU fZ dY dX fu fe
set_option linter.unusedVariables false
set_option linter.unusedSimpArgs false
attribute [local go_sem high] eqA93
def dZ.l0 : Nat → List (S93) → List (S93) → Int → Option (Bool)
 | 0, _, _, _ => none
 | k + 1, x0, x1, x5 => if x5 < (x0.length : Int) then (if 0 ≤ x5 then (if x5 < (x1.length : Int) then (if (!(((aU x0 x5).f0) == ((aU x1 x5).f0)) || (!(((aU x0 x5).f1) == ((aU x1 x5).f1)))) = true then (some false) else (dZ.l0 k x0 x1 (wrap64 (x5 + 1)))) else (none)) else (none)) else (some true)
def dZ.f (k : Nat) (l0 : List (S93)) (l1 : List (S93)) : Option (Bool) := if (l0.length : Int) = (l1.length : Int) then (dZ.l0 k l0 l1 0) else (some false)
end Go.Proofs.YtjeeejoelmmfmaaGreat.Fn
namespace Go.Proofs.YtjeeejoelmmfmaaGreat.Fn
open Go.RowKit Go.Proofs.YtjeeejoelmmfmaaGreatW.PrintWords Go.Proofs.YtjeeejoelmmfmaaGreatW.PrintLast Go.Proofs.YtjeeejoelmmfmaaGreatW.PrintMore
attribute [local go_sem] fw eu fU fZ dY dX fu fe
set_option linter.unusedVariables false
set_option linter.unusedSimpArgs false
def bC.l0 : Nat → List (S173) → List (S69) → Int → Int → Option ((List (S173)))
 | 0, _, _, _, _ => none
 | k + 1, x2, x6, x7, x8 => if x8 < x7 then (if 0 ≤ x8 then (if x8 < (x6.length : Int) then (if x2.length < 5864062014805 then (bC.l0 k (x2 ++ [(⟨(a_ x6 x8).f0, (a_ x6 x8).f1⟩ : S173)]) x6 x7 (wrap64 (x8 + 1))) else (none)) else (none)) else (none)) else (some x2)
def bC.f (k : Nat) (a0_0 : Int) (l0_1 : List (S151)) (l0_2 : List (S69)) (a0_3 : Int) (a0_4 : Int) (l0_5 : List (S93)) (l0_6 : List (List Int)) : Option ((List (S173))) := bC.l0 k ([] : List (S173)) l0_2 (l0_2.length : Int) 0
set_option maxHeartbeats 8000000 in
set_option maxRecDepth 100000 in
theorem bC.calls (k : Nat) (a0_0 : Int) (A0_1 : Option Addr) (c0_1 : Nat) (l0_1 : List (S151)) (A0_2 : Option Addr) (c0_2 : Nat) (l0_2 : List (S69)) (a0_3 : Int) (a0_4 : Int) (A0_5 : Option Addr) (c0_5 : Nat) (l0_5 : List (S93)) (A0_6 : Option Addr) (c0_6 : Nat) (l0_6 : List (List Int)) (r : List (S173)) (w : World) (hr0_1 : Kd.C k151 w A0_1 l0_1.length l0_1) (hc0_1 : l0_1.length ≤ c0_1) (hr0_2 : Kd.C k69 w A0_2 l0_2.length l0_2) (hc0_2 : l0_2.length ≤ c0_2) (hr0_5 : Kd.C k93 w A0_5 l0_5.length l0_5) (hc0_5 : l0_5.length ≤ c0_5) (hr0_6 : Kd.C (Kd.slice 5 (Kd.int .u8)) w A0_6 l0_6.length l0_6) (hc0_6 : l0_6.length ≤ c0_6) (h : bC.f k a0_0 l0_1 l0_2 a0_3 a0_4 l0_5 l0_6 = some r) :
 Calls Tryz.prog 67 #[.agg #[.int .i64 a0_0, .slice A0_1 l0_1.length c0_1, .slice A0_2 l0_2.length c0_2, .int .i64 a0_3, .int .i64 a0_4, .slice A0_5 l0_5.length c0_5, .slice A0_6 l0_6.length c0_6]] w fun e w' => ∃ v0_ : Value, e = .returned (v0_) ∧ Kd.R k173 173 w' w.heap.size (fun _ => True) v0_ r ∧ Below w.heap.size w w' := by
 have hu31 := Tryz.underlying31
 have hu69 := Tryz.underlying69
 have hu173 := Tryz.underlying173
 have HR0_1 := aa.mk hr0_1
 have HC0_1 := aa.mk hc0_1
 clear hr0_1 hc0_1
 have HR0_2 := aa.mk hr0_2
 have HC0_2 := aa.mk hc0_2
 clear hr0_2 hc0_2
 have HR0_5 := aa.mk hr0_5
 have HC0_5 := aa.mk hc0_5
 clear hr0_5 hc0_5
 have HR0_6 := aa.mk hr0_6
 have HC0_6 := aa.mk hc0_6
 clear hr0_6 hc0_6
 have HB := aa.mk (Below.refl w.heap.size w)
 have H : (bC.l0 k ([] : List (S173)) l0_2 (l0_2.length : Int) 0) = some r := h
 clear h
 have H' := aa.mk H
 clear H
 go_enter Tryz.func67, Tryz.ntmps67
 go_wp2_with (first | ((with_reducible refine bf (N := 1) rfl ?_); refine aY ?hg (N := 1) ?hd (cs := #[.int .i64 a0_0, .slice A0_1 l0_1.length c0_1, .slice A0_2 l0_2.length c0_2, .int .i64 a0_3, .int .i64 a0_4, .slice A0_5 l0_5.length c0_5, .slice A0_6 l0_6.length c0_6]) (t := 31) ?hr ?_; (case hd => rfl); (case hg => rfl); (case hr => first | (go_simp; done) | (go_simp; rfl)); intro gb101 hg w2 hbox hb; have n0_ := aa.mk (az (by repeat (first | (with_reducible first | exact HB.out | apply ah | apply af | apply ag) | exact HB.out)) hb); have n1_ := aa.mk (hbox); have n2_ := aa.mk ((by rw [hg]; exact (ay (by repeat (first | (with_reducible first | exact HB.out | apply ah | apply af | apply ag) | exact HB.out))) : w.heap.size ≤ gb101)); have n3_ := aa.mk ((by rw [hg]; exact (ay (by repeat (first | (with_reducible first | exact HB.out | apply ah | apply af | apply ag) | exact HB.out))) : w.heap.size ≤ gb101)); clear HB; have HB := n0_; have BK101 := n1_; have GW101 := n2_; have GE101 := n3_; clear n0_ n1_ n2_ n3_; clear hb hbox hg; have hcz3_0 : w2.cell? ⟨gb101, 0, none⟩ = some (.int .i64 a0_0) := (ae BK101.out 0).trans rfl; have hcz3_1 : w2.cell? ⟨gb101, 1, none⟩ = some (.slice A0_1 l0_1.length c0_1) := (ae BK101.out 1).trans rfl; have hcz3_2 : w2.cell? ⟨gb101, 2, none⟩ = some (.slice A0_2 l0_2.length c0_2) := (ae BK101.out 2).trans rfl; have hcz3_3 : w2.cell? ⟨gb101, 3, none⟩ = some (.int .i64 a0_3) := (ae BK101.out 3).trans rfl; have hcz3_4 : w2.cell? ⟨gb101, 4, none⟩ = some (.int .i64 a0_4) := (ae BK101.out 4).trans rfl; have hcz3_5 : w2.cell? ⟨gb101, 5, none⟩ = some (.slice A0_5 l0_5.length c0_5) := (ae BK101.out 5).trans rfl; have hcz3_6 : w2.cell? ⟨gb101, 6, none⟩ = some (.slice A0_6 l0_6.length c0_6) := (ae BK101.out 6).trans rfl; have hfz3_0 := ai BK101.out 0; have hfz3_1 := ai BK101.out 1; have hfz3_2 := ai BK101.out 2; have hfz3_3 := ai BK101.out 3; have hfz3_4 := ai BK101.out 4; have hfz3_5 := ai BK101.out 5; have hfz3_6 := ai BK101.out 6))
 go_loopg [2, 8] k (fun kq v2 v8 w' => ∃ (x2_1 : List (S173)) (x8_1 : Int), v8 = .int .i64 x8_1 ∧ aa (bC.l0 kq x2_1 l0_2 (l0_2.length : Int) x8_1 = some r) ∧ aa (kq ≤ k) ∧ aa (Kd.R k173 173 w' w.heap.size (fun _ => True) v2 x2_1) ∧ aa (w'.heap[gb101]? = some (.cells #[.int .i64 a0_0, (.slice A0_1 l0_1.length c0_1), (.slice A0_2 l0_2.length c0_2), .int .i64 a0_3, .int .i64 a0_4, (.slice A0_5 l0_5.length c0_5), (.slice A0_6 l0_6.length c0_6)] 31 (0, 0))) ∧ aa (Below w.heap.size w w'))
 case atStart => exact ⟨(([] : List (S173))), (0), (by first | rfl | (simp; done) | (simp [*]; done)), H', ⟨Nat.le_refl _⟩, ⟨by first | exact Kd.bW _ _ _ _ _ | exact Kd.N_nil _ _ _ _ _ | exact Kd.V_nil _ _ _ _ _ | exact Kd.Q_nil _ _ _ _ _ | exact Kd.jv _ _ _ _ _⟩, ⟨by (with_reducible repeat (first | refine ak ?_ _ | refine au ?_ | refine aj ?_ _)); exact BK101.out⟩, ⟨by repeat (first | (with_reducible first | exact HB.out | apply ah | apply af | apply ag | refine av ?_ GE101.out) | exact HB.out)⟩⟩
 case round =>
  clear H'
  try clear p2
  try clear hcz3_0
  try clear hcz3_1
  try clear hcz3_2
  try clear hcz3_3
  try clear hcz3_4
  try clear hcz3_5
  try clear hcz3_6
  try clear hfz3_0
  try clear hfz3_1
  try clear hfz3_2
  try clear hfz3_3
  try clear hfz3_4
  try clear hfz3_5
  try clear hfz3_6
  obtain ⟨x2_1, x8_1, rfl, HA, HK1, HO_2, BK101, HB⟩ := hrel
  cases gk with
  | zero => exact absurd HA.out (by simp [bC.l0])
  | succ k1 =>
   have H := HA.out
   clear HA
   simp only [bC.l0] at H
   by_cases c4 : x8_1 < (l0_2.length : Int)
   ·rw [if_pos c4] at H
    have c4b0 : decide (x8_1 < (l0_2.length : Int)) = true := decide_eq_true c4
    clear c4
    by_cases c5 : 0 ≤ x8_1
    ·rw [if_pos c5] at H
     have c5b0 : decide (0 ≤ x8_1) = true := decide_eq_true c5
     clear c5
     by_cases c6 : x8_1 < (l0_2.length : Int)
     ·rw [if_pos c6] at H
      have c6b0 : decide (x8_1 < (l0_2.length : Int)) = true := decide_eq_true c6
      clear c6
      by_cases c7 : x2_1.length < 5864062014805
      ·rw [if_pos c7] at H
       have LMc7 := aa.mk c7
       clear c7
       obtain ⟨y104, hy104⟩ : ∃ y_ : List (S173), y_ = (x2_1 ++ [(⟨(a_ l0_2 x8_1).f0, (a_ l0_2 x8_1).f1⟩ : S173)]) := ⟨_, rfl⟩
       replace H : (bC.l0 k1 y104 l0_2 (l0_2.length : Int) (wrap64 (x8_1 + 1))) = some r := by first | (rw [hy104]; with_reducible exact H) | (have H2_ := (Option.bind_some _ _).symm.trans H; rw [hy104]; with_reducible exact H2_) | (have H2_ := (Option.bind_some _ _).symm.trans H; with_reducible exact H2_) | with_reducible exact H | (rw [hy104]; exact H) | exact H
       have Ny104 := aa.mk hy104
       clear hy104
       have H' := aa.mk H
       clear H
       have p102 : 0 ≤ (x8_1 : Int) := of_decide_eq_true (by first | (with_reducible assumption) | assumption)
       have q102 : x8_1 < (l0_2.length : Int) := of_decide_eq_true (by first | (with_reducible assumption) | assumption)
       obtain ⟨ad102, A102_3, c102_3, e102, hx102_0, hx102_1, hx102_2, hx102_3, hl102_3, hi102_3⟩ := oG HR0_2.out x8_1 p102 q102
       cases e102
       replace hx102_0 := (HB.out.cell (World.block_lt_of_cell? w _ hx102_0)).trans hx102_0
       replace hx102_1 := (HB.out.cell (World.block_lt_of_cell? w _ hx102_1)).trans hx102_1
       replace hx102_2 := (HB.out.cell (World.block_lt_of_cell? w _ hx102_2)).trans hx102_2
       replace hx102_3 := (HB.out.cell (World.block_lt_of_cell? w _ hx102_3)).trans hx102_3
       have HR102_3 := aa.mk hi102_3
       have HC102_3 := aa.mk hl102_3
       clear hi102_3 hl102_3
       replace p102 := eq_true p102
       replace q102 := eq_true q102
       go_wp2_with (first | ((with_reducible refine bf (N := 4) rfl ?_); refine aY ?hg (N := 4) ?hd (cs := #[.int .i64 0, .string (⟨#[]⟩ : ByteArray), .int .i64 0, .slice none 0 0]) (t := 69) ?hr ?_; (case hd => rfl); (case hg => rfl); (case hr => first | (go_simp; done) | (go_simp; rfl)); intro gb103 hg w8 hbox hb; have n0_ := aa.mk (Kd.bA (by (with_reducible repeat (first | apply Kd.bQ | apply Kd.bT | apply Kd.dC)); exact HO_2.out) hb); have n1_ := aa.mk (aK (g := gb101) (o := .cells #[.int .i64 a0_0, .slice A0_1 l0_1.length c0_1, .slice (some ad102) l0_2.length c0_2, .int .i64 a0_3, .int .i64 a0_4, .slice A0_5 l0_5.length c0_5, .slice A0_6 l0_6.length c0_6] 31 (0, 0)) (by (with_reducible repeat (first | refine ak ?_ _ | refine au ?_ | refine aj ?_ _)); exact BK101.out) hb); have n2_ := aa.mk (az (by repeat (first | (with_reducible first | exact HB.out | apply ah | apply af | apply ag | refine av ?_ GE101.out) | exact HB.out)) hb); have n3_ := aa.mk (hbox); have n4_ := aa.mk ((by rw [hg]; exact (ay (by repeat (first | (with_reducible first | exact HB.out | apply ah | apply af | apply ag | refine av ?_ GE101.out) | exact HB.out))) : w.heap.size ≤ gb103)); have n5_ := aa.mk ((by rw [hg]; exact (ay (by repeat (first | (with_reducible first | exact HB.out | apply ah | apply af | apply ag | refine av ?_ GE101.out) | exact HB.out))) : w.heap.size ≤ gb103)); have n6_ := aa.mk ((by rw [hg]; exact Nat.ne_of_lt (aA (g := gb101) (o := .cells #[.int .i64 a0_0, .slice A0_1 l0_1.length c0_1, .slice (some ad102) l0_2.length c0_2, .int .i64 a0_3, .int .i64 a0_4, .slice A0_5 l0_5.length c0_5, .slice A0_6 l0_6.length c0_6] 31 (0, 0)) (by (with_reducible repeat (first | refine ak ?_ _ | refine au ?_ | refine aj ?_ _)); exact BK101.out)) : gb101 ≠ gb103)); have n7_ := aa.mk ((by rw [hg]; exact Nat.ne_of_gt (aA (g := gb101) (o := .cells #[.int .i64 a0_0, .slice A0_1 l0_1.length c0_1, .slice (some ad102) l0_2.length c0_2, .int .i64 a0_3, .int .i64 a0_4, .slice A0_5 l0_5.length c0_5, .slice A0_6 l0_6.length c0_6] 31 (0, 0)) (by (with_reducible repeat (first | refine ak ?_ _ | refine au ?_ | refine aj ?_ _)); exact BK101.out)) : gb103 ≠ gb101)); clear HO_2; clear BK101; clear HB; have HO_2 := n0_; have BK101 := n1_; have HB := n2_; have BK103 := n3_; have GW103 := n4_; have GE103 := n5_; have NB101_103 := n6_; have NB103_101 := n7_; clear n0_ n1_ n2_ n3_ n4_ n5_ n6_ n7_; clear hb hbox hg; have hnb9 := NB103_101.out; have hnc9 := NB101_103.out; have hcz10_0 : w8.cell? ⟨gb103, 0, none⟩ = some (.int .i64 0) := (ae BK103.out 0).trans rfl; have hcz10_1 : w8.cell? ⟨gb103, 1, none⟩ = some (.string (⟨#[]⟩ : ByteArray)) := (ae BK103.out 1).trans rfl; have hcz10_2 : w8.cell? ⟨gb103, 2, none⟩ = some (.int .i64 0) := (ae BK103.out 2).trans rfl; have hcz10_3 : w8.cell? ⟨gb103, 3, none⟩ = some (.slice none 0 0) := (ae BK103.out 3).trans rfl; have hfz10_0 := ai BK103.out 0; have hfz10_1 := ai BK103.out 1; have hfz10_2 := ai BK103.out 2; have hfz10_3 := ai BK103.out 3) | ((with_reducible refine bK (b := .append) (xs := #[.tmp 12, .tmp 18]) rfl ?_); at_builtin; refine Kd.fJ k173 (w0 := w) w.heap.size rfl (.tmp 12) (.tmp 18) 56 173 (.agg #[(.int .i64 0), (.string ⟨#[]⟩)]) 24 rfl Tryz.underlying56 zX rfl (by decide) (by omega) u2 x2_1 (⟨(a_ l0_2 x8_1).f0, (a_ l0_2 x8_1).f1⟩ : S173) [.int .i64 ((a_ l0_2 x8_1).f0), .string ((a_ l0_2 x8_1).f1)] (fun _ => True) (fun _ => False) rfl (by first | (go_simp; done) | (go_simp; rfl)) ?aP (fun _ hk => hk.elim) ?aF ?aO ?aB ?aS ?aL ?_; (case aP => exact xc _ _ _ (⟨(a_ l0_2 x8_1).f0, (a_ l0_2 x8_1).f1⟩ : S173)); (case aB => exact (by repeat (first | (with_reducible first | exact HB.out | apply ah | apply af | apply ag | refine av ?_ GE101.out | refine av ?_ GE103.out) | exact HB.out))); (case aF => exact (fun _ _ => trivial)); (case aO => exact (by (with_reducible repeat (first | apply Kd.bQ | apply Kd.bT | apply Kd.dC)); exact Kd.aX (Kd.dE (p := ⟨gb103, 3, none⟩) (Kd.dE (p := ⟨gb103, 2, none⟩) (Kd.dE (p := ⟨gb103, 1, none⟩) (Kd.dE (p := ⟨gb103, 0, none⟩) (Kd.iE HO_2.out BK103.out (by decide)) (fun _ hk => hk.2) (.int .i64 ((a_ l0_2 x8_1).f0))) (fun _ hk => hk.2) (.string ((a_ l0_2 x8_1).f1))) (fun _ hk => hk.2) (.int .i64 ((a_ l0_2 x8_1).f2))) (fun _ hk => hk.2) (.slice A102_3 ((a_ l0_2 x8_1).f3).length c102_3)) (fun _ hk => trivial))); (case aS => exact (ay (by repeat (first | (with_reducible first | exact HB.out | apply ah | apply af | apply ag | refine av ?_ GE101.out | refine av ?_ GE103.out) | exact HB.out)))); (case aL => have := LMc7.out; omega); intro v105 w11 ho hb hg hat; rw [← Ny104.out] at ho; have n0_ := aa.mk (gz (g := gb101) (o := .cells #[.int .i64 a0_0, .slice A0_1 l0_1.length c0_1, .slice (some ad102) l0_2.length c0_2, .int .i64 a0_3, .int .i64 a0_4, .slice A0_5 l0_5.length c0_5, .slice A0_6 l0_6.length c0_6] 31 (0, 0)) (by (with_reducible repeat (first | refine ak ?_ _ | refine au ?_ | refine aj ?_ _)); refine bX ?_ NB101_103.out _; (with_reducible repeat (first | refine ak ?_ _ | refine au ?_ | refine aj ?_ _)); refine bX ?_ NB101_103.out _; (with_reducible repeat (first | refine ak ?_ _ | refine au ?_ | refine aj ?_ _)); refine bX ?_ NB101_103.out _; (with_reducible repeat (first | refine ak ?_ _ | refine au ?_ | refine aj ?_ _)); refine bX ?_ NB101_103.out _; (with_reducible repeat (first | refine ak ?_ _ | refine au ?_ | refine aj ?_ _)); exact BK101.out) hg (Kd.R_ne HO_2.out BK101.out (by decide))); have n1_ := aa.mk (gz (g := gb103) (o := .cells #[.int .i64 ((a_ l0_2 x8_1).f0), .string ((a_ l0_2 x8_1).f1), .int .i64 ((a_ l0_2 x8_1).f2), .slice A102_3 ((a_ l0_2 x8_1).f3).length c102_3] 69 (0, 0)) (by (with_reducible repeat (first | refine ak ?_ _ | refine au ?_ | refine aj ?_ _)); refine aW (cs := #[.int .i64 ((a_ l0_2 x8_1).f0), .string ((a_ l0_2 x8_1).f1), .int .i64 ((a_ l0_2 x8_1).f2), .slice none 0 0]) ?_ 3 _ rfl; (with_reducible repeat (first | refine ak ?_ _ | refine au ?_ | refine aj ?_ _)); refine aW (cs := #[.int .i64 ((a_ l0_2 x8_1).f0), .string ((a_ l0_2 x8_1).f1), .int .i64 0, .slice none 0 0]) ?_ 2 _ rfl; (with_reducible repeat (first | refine ak ?_ _ | refine au ?_ | refine aj ?_ _)); refine aW (cs := #[.int .i64 ((a_ l0_2 x8_1).f0), .string (⟨#[]⟩ : ByteArray), .int .i64 0, .slice none 0 0]) ?_ 1 _ rfl; (with_reducible repeat (first | refine ak ?_ _ | refine au ?_ | refine aj ?_ _)); refine aW (cs := #[.int .i64 0, .string (⟨#[]⟩ : ByteArray), .int .i64 0, .slice none 0 0]) ?_ 0 _ rfl; (with_reducible repeat (first | refine ak ?_ _ | refine au ?_ | refine aj ?_ _)); exact BK103.out) hg (Kd.R_ne HO_2.out BK103.out (by decide))); have n2_ := aa.mk (hb); have n3_ := aa.mk (ho); clear BK101; clear BK103; clear HB; clear HO_2; have BK101 := n0_; have BK103 := n1_; have HB := n2_; have HO106 := n3_; clear n0_ n1_ n2_ n3_; clear ho hb hg hat))
       go_roundg k1
       case measure => have := HK1.out; omega
       case rel => exact ⟨(y104), (wrap64 (x8_1 + 1)), (by first | rfl | (simp; done) | (simp [*]; done)), H', ⟨by have := HK1.out; omega⟩, ⟨by (with_reducible repeat (first | apply Kd.bQ | apply Kd.bT | apply Kd.dC)); exact HO106.out⟩, ⟨by (with_reducible repeat (first | refine ak ?_ _ | refine au ?_ | refine aj ?_ _)); exact BK101.out⟩, ⟨by repeat (first | (with_reducible first | exact HB.out | apply ah | apply af | apply ag | refine av ?_ GE101.out | refine av ?_ GE103.out) | exact HB.out)⟩⟩
      ·rw [if_neg c7] at H
       exact absurd H (by simp)
     ·rw [if_neg c6] at H
      exact absurd H (by simp)
    ·rw [if_neg c5] at H
     exact absurd H (by simp)
   ·rw [if_neg c4] at H
    have c4b0 : decide (x8_1 < (l0_2.length : Int)) = false := decide_eq_false c4
    clear c4
    obtain rfl := Option.some.inj H
    go_wp2
    go_ret
    exact ⟨_, by first | rfl | (simp [aD, aC] <;> rfl) | (simp [*, aD, aC] <;> rfl), by (with_reducible repeat (first | apply Kd.bQ | apply Kd.bT | apply Kd.dC)); exact HO_2.out, by repeat (first | (with_reducible first | exact HB.out | apply ah | apply af | apply ag | refine av ?_ GE101.out) | exact HB.out)⟩
def bD.l0 : Nat → List (S75) → List (S69) → Int → Int → Option ((List (S75)))
 | 0, _, _, _, _ => none
 | k + 1, x3, x11, x12, x13 => if x13 < x12 then (if 0 ≤ x13 then (if x13 < (x11.length : Int) then (if x3.length < 4398046511104 then (bD.l0 k (x3 ++ [(⟨(a_ x11 x13).f0, (a_ x11 x13).f3⟩ : S75)]) x11 x12 (wrap64 (x13 + 1))) else (none)) else (none)) else (none)) else (some x3)
def bD.f (k : Nat) (a0_0 : Int) (l0_1 : List (S151)) (l0_2 : List (S69)) (a0_3 : Int) (a0_4 : Int) (l0_5 : List (S93)) (l0_6 : List (List Int)) : Option ((List (S75))) := bD.l0 k (([(⟨0, l0_1⟩ : S75)] : List (S75))) l0_2 (l0_2.length : Int) 0
set_option maxHeartbeats 8000000 in
set_option maxRecDepth 100000 in
theorem bD.calls (k : Nat) (a0_0 : Int) (P0_1_ : Nat → Prop) (A0_1 : Option Addr) (c0_1 : Nat) (l0_1 : List (S151)) (P0_2_ : Nat → Prop) (A0_2 : Option Addr) (c0_2 : Nat) (l0_2 : List (S69)) (a0_3 : Int) (a0_4 : Int) (A0_5 : Option Addr) (c0_5 : Nat) (l0_5 : List (S93)) (A0_6 : Option Addr) (c0_6 : Nat) (l0_6 : List (List Int)) (r : List (S75)) (w : World) (hs0_1 : Kd.V k151 151 w w.heap.size (fun k_ => P0_1_ k_) (.slice A0_1 l0_1.length c0_1) l0_1) (hs0_2 : Kd.V k69 69 w w.heap.size (fun k_ => P0_2_ k_) (.slice A0_2 l0_2.length c0_2) l0_2) (hr0_5 : Kd.C k93 w A0_5 l0_5.length l0_5) (hc0_5 : l0_5.length ≤ c0_5) (hr0_6 : Kd.C (Kd.slice 5 (Kd.int .u8)) w A0_6 l0_6.length l0_6) (hc0_6 : l0_6.length ≤ c0_6) (h : bD.f k a0_0 l0_1 l0_2 a0_3 a0_4 l0_5 l0_6 = some r) :
 Calls Tryz.prog 72 #[.agg #[.int .i64 a0_0, .slice A0_1 l0_1.length c0_1, .slice A0_2 l0_2.length c0_2, .int .i64 a0_3, .int .i64 a0_4, .slice A0_5 l0_5.length c0_5, .slice A0_6 l0_6.length c0_6]] w fun e w' => ∃ v0_ : Value, e = .returned (v0_) ∧ Kd.N k75 75 w' w.heap.size (fun k_ => ((P0_1_ k_ ∨ P0_2_ k_) ∨ w.heap.size ≤ k_)) v0_ r ∧ Below w.heap.size w w' := by
 have hu31 := Tryz.underlying31
 have hu75 := Tryz.underlying75
 have hu69 := Tryz.underlying69
 have HO0_1 := aa.mk (show Kd.V k151 151 w w.heap.size (fun k_ => ((P0_1_ k_ ∨ P0_2_ k_) ∨ w.heap.size ≤ k_)) (.slice A0_1 l0_1.length c0_1) l0_1 from Kd.eG hs0_1 (fun k_ hk => .inl (.inl hk)))
 have HO0_2 := aa.mk (show Kd.V k69 69 w w.heap.size (fun k_ => ((P0_1_ k_ ∨ P0_2_ k_) ∨ w.heap.size ≤ k_)) (.slice A0_2 l0_2.length c0_2) l0_2 from Kd.eG hs0_2 (fun k_ hk => .inl (.inr hk)))
 have HR0_5 := aa.mk hr0_5
 have HC0_5 := aa.mk hc0_5
 clear hr0_5 hc0_5
 have HR0_6 := aa.mk hr0_6
 have HC0_6 := aa.mk hc0_6
 clear hr0_6 hc0_6
 have HB := aa.mk (Below.refl w.heap.size w)
 have H : (bD.l0 k (([(⟨0, l0_1⟩ : S75)] : List (S75))) l0_2 (l0_2.length : Int) 0) = some r := h
 clear h
 obtain ⟨y102, hy102⟩ : ∃ y_ : List (S75), y_ = (([(⟨0, l0_1⟩ : S75)] : List (S75))) := ⟨_, rfl⟩
 replace H : (bD.l0 k y102 l0_2 (l0_2.length : Int) 0) = some r := by first | (rw [hy102]; with_reducible exact H) | (have H2_ := (Option.bind_some _ _).symm.trans H; rw [hy102]; with_reducible exact H2_) | (have H2_ := (Option.bind_some _ _).symm.trans H; with_reducible exact H2_) | with_reducible exact H | (rw [hy102]; exact H) | exact H
 have Ny102 := aa.mk hy102
 clear hy102
 have H' := aa.mk H
 clear H
 go_enter Tryz.func72, Tryz.ntmps72
 go_wp2_with (first | ((with_reducible refine bf (N := 1) rfl ?_); refine aY ?hg (N := 1) ?hd (cs := #[.int .i64 a0_0, .slice A0_1 l0_1.length c0_1, .slice A0_2 l0_2.length c0_2, .int .i64 a0_3, .int .i64 a0_4, .slice A0_5 l0_5.length c0_5, .slice A0_6 l0_6.length c0_6]) (t := 31) ?hr ?_; (case hd => rfl); (case hg => rfl); (case hr => first | (go_simp; done) | (go_simp; rfl)); intro gb101 hg w2 hbox hb; have n0_ := aa.mk (Kd.kG (Kd.jm (by (with_reducible repeat (first | apply Kd.V_alloc | apply Kd.V_drewN | apply Kd.V_drew)); exact HO0_1.out) gb101 (Nat.le_of_eq hg.symm)) hb); have n1_ := aa.mk (Kd.kG (Kd.jm (by (with_reducible repeat (first | apply Kd.V_alloc | apply Kd.V_drewN | apply Kd.V_drew)); exact HO0_2.out) gb101 (Nat.le_of_eq hg.symm)) hb); have n2_ := aa.mk (az (by repeat (first | (with_reducible first | exact HB.out | apply ah | apply af | apply ag) | exact HB.out)) hb); have n3_ := aa.mk (hbox); have n4_ := aa.mk ((by rw [hg]; exact (ay (by repeat (first | (with_reducible first | exact HB.out | apply ah | apply af | apply ag) | exact HB.out))) : w.heap.size ≤ gb101)); have n5_ := aa.mk ((by rw [hg]; exact (ay (by repeat (first | (with_reducible first | exact HB.out | apply ah | apply af | apply ag) | exact HB.out))) : w.heap.size ≤ gb101)); clear HO0_1; clear HO0_2; clear HB; have HO0_1 := n0_; have HO0_2 := n1_; have HB := n2_; have BK101 := n3_; have GW101 := n4_; have GE101 := n5_; clear n0_ n1_ n2_ n3_ n4_ n5_; clear hb hbox hg; have hcz3_0 : w2.cell? ⟨gb101, 0, none⟩ = some (.int .i64 a0_0) := (ae BK101.out 0).trans rfl; have hcz3_1 : w2.cell? ⟨gb101, 1, none⟩ = some (.slice A0_1 l0_1.length c0_1) := (ae BK101.out 1).trans rfl; have hcz3_2 : w2.cell? ⟨gb101, 2, none⟩ = some (.slice A0_2 l0_2.length c0_2) := (ae BK101.out 2).trans rfl; have hcz3_3 : w2.cell? ⟨gb101, 3, none⟩ = some (.int .i64 a0_3) := (ae BK101.out 3).trans rfl; have hcz3_4 : w2.cell? ⟨gb101, 4, none⟩ = some (.int .i64 a0_4) := (ae BK101.out 4).trans rfl; have hcz3_5 : w2.cell? ⟨gb101, 5, none⟩ = some (.slice A0_5 l0_5.length c0_5) := (ae BK101.out 5).trans rfl; have hcz3_6 : w2.cell? ⟨gb101, 6, none⟩ = some (.slice A0_6 l0_6.length c0_6) := (ae BK101.out 6).trans rfl; have hfz3_0 := ai BK101.out 0; have hfz3_1 := ai BK101.out 1; have hfz3_2 := ai BK101.out 2; have hfz3_3 := ai BK101.out 3; have hfz3_4 := ai BK101.out 4; have hfz3_5 := ai BK101.out 5; have hfz3_6 := ai BK101.out 6) | ((with_reducible refine bf (N := 9) rfl ?_); refine Kd.N_lit k75 _ 75 ?hg (N' := 9) ?hd (xs := ([(⟨0, l0_1⟩ : S75)] : List (S75))) (inner := [.int .i64 0, .slice A0_1 l0_1.length c0_1]) (ok := (fun k_ => ((P0_1_ k_ ∨ P0_2_ k_) ∨ w.heap.size ≤ k_) ∧ k_ ≠ gb101)) (okp := (fun k_ => ((P0_1_ k_ ∨ P0_2_ k_) ∨ w.heap.size ≤ k_) ∧ k_ ≠ gb101)) ?hr ?hp (fun _ hk => hk) ((show ∀ k_, w2.heap.size ≤ k_ → (fun k_ => ((P0_1_ k_ ∨ P0_2_ k_) ∨ w.heap.size ≤ k_) ∧ k_ ≠ gb101) k_ from fun k_ hk => ⟨(.inr (Nat.le_trans (ay (by repeat (first | (with_reducible first | exact HB.out | apply ah | apply af | apply ag | refine av ?_ GE101.out) | exact HB.out))) hk)), Kd.rF (g := gb101) (o := .cells #[.int .i64 a0_0, .slice A0_1 l0_1.length c0_1, .slice A0_2 l0_2.length c0_2, .int .i64 a0_3, .int .i64 a0_4, .slice A0_5 l0_5.length c0_5, .slice A0_6 l0_6.length c0_6] 31 (0, 0)) (by (with_reducible repeat (first | refine ak ?_ _ | refine au ?_ | refine aj ?_ _)); exact BK101.out) k_ hk⟩) _ (Nat.le_refl _)) (Below.refl _ _) (Nat.le_refl _) (by simp) ?_; (case hd => rfl); (case hg => rfl); (case hr => first | (go_simp; done) | (go_simp; rfl)); (case hp => exact (Reps.c2 (show Kd.FK k75 _ _ (⟨0, l0_1⟩ : S75) [.int .i64 0, .slice A0_1 l0_1.length c0_1] from (uN _ _ (⟨0, l0_1⟩ : S75) (Kd.ll (Kd.eG (ok' := (fun k_ => ((P0_1_ k_ ∨ P0_2_ k_) ∨ w.heap.size ≤ k_) ∧ k_ ≠ gb101)) (HO0_1.out) (fun k_ hk => ⟨hk.1, hk.2⟩))).2.1 (Kd.V_F (Kd.eG (ok' := (fun k_ => ((P0_1_ k_ ∨ P0_2_ k_) ∨ w.heap.size ≤ k_) ∧ k_ ≠ gb101)) (HO0_1.out) (fun k_ hk => ⟨hk.1, hk.2⟩))))) (Reps.none _ _))); intro v103 w4 ho5 hb hg_ hnew_; clear hg_ hnew_; (first | rw [← Ny102.out] at ho5 | (simp only [Int.reduceToNat] at ho5; rw [← Ny102.out] at ho5)); have n0_ := aa.mk (Kd.rG (by (with_reducible repeat (first | apply Kd.V_alloc | apply Kd.V_drewN | apply Kd.V_drew)); exact HO0_1.out) (Kd.ze ho5) hb); have n1_ := aa.mk (Kd.rG (by (with_reducible repeat (first | apply Kd.V_alloc | apply Kd.V_drewN | apply Kd.V_drew)); exact HO0_2.out) (Kd.ze ho5) hb); have n2_ := aa.mk (Kd.zO ho5 (ay (by repeat (first | (with_reducible first | exact HB.out | apply ah | apply af | apply ag | refine av ?_ GE101.out) | exact HB.out)))); have n3_ := aa.mk (aK (g := gb101) (o := .cells #[.int .i64 a0_0, .slice A0_1 l0_1.length c0_1, .slice A0_2 l0_2.length c0_2, .int .i64 a0_3, .int .i64 a0_4, .slice A0_5 l0_5.length c0_5, .slice A0_6 l0_6.length c0_6] 31 (0, 0)) (by (with_reducible repeat (first | refine ak ?_ _ | refine au ?_ | refine aj ?_ _)); exact BK101.out) hb); have n4_ := aa.mk (az (by repeat (first | (with_reducible first | exact HB.out | apply ah | apply af | apply ag | refine av ?_ GE101.out) | exact HB.out)) hb); clear HO0_1; clear HO0_2; clear BK101; clear HB; have HO0_1 := n0_; have HO0_2 := n1_; have HO104 := n2_; have BK101 := n3_; have HB := n4_; clear n0_ n1_ n2_ n3_ n4_; clear hb ho5; have hcz6_0 : w4.cell? ⟨gb101, 0, none⟩ = some (.int .i64 a0_0) := (ae BK101.out 0).trans rfl; have hcz6_1 : w4.cell? ⟨gb101, 1, none⟩ = some (.slice A0_1 l0_1.length c0_1) := (ae BK101.out 1).trans rfl; have hcz6_2 : w4.cell? ⟨gb101, 2, none⟩ = some (.slice A0_2 l0_2.length c0_2) := (ae BK101.out 2).trans rfl; have hcz6_3 : w4.cell? ⟨gb101, 3, none⟩ = some (.int .i64 a0_3) := (ae BK101.out 3).trans rfl; have hcz6_4 : w4.cell? ⟨gb101, 4, none⟩ = some (.int .i64 a0_4) := (ae BK101.out 4).trans rfl; have hcz6_5 : w4.cell? ⟨gb101, 5, none⟩ = some (.slice A0_5 l0_5.length c0_5) := (ae BK101.out 5).trans rfl; have hcz6_6 : w4.cell? ⟨gb101, 6, none⟩ = some (.slice A0_6 l0_6.length c0_6) := (ae BK101.out 6).trans rfl; have hfz6_0 := ai BK101.out 0; have hfz6_1 := ai BK101.out 1; have hfz6_2 := ai BK101.out 2; have hfz6_3 := ai BK101.out 3; have hfz6_4 := ai BK101.out 4; have hfz6_5 := ai BK101.out 5; have hfz6_6 := ai BK101.out 6))
 go_loopg [3, 13] k (fun kq v3 v13 w' => ∃ (x3_1 : List (S75)) (x13_1 : Int), v13 = .int .i64 x13_1 ∧ aa (bD.l0 kq x3_1 l0_2 (l0_2.length : Int) x13_1 = some r) ∧ aa (kq ≤ k) ∧ aa (Kd.N k75 75 w' w.heap.size (fun k_ => ((P0_1_ k_ ∨ P0_2_ k_) ∨ w.heap.size ≤ k_) ∧ k_ ≠ gb101) v3 x3_1) ∧ aa (Kd.V k69 69 w' w.heap.size (fun k_ => ((P0_1_ k_ ∨ P0_2_ k_) ∨ w.heap.size ≤ k_) ∧ some k_ ≠ (v3 : Value).ownBlock ∧ k_ ≠ gb101) (.slice A0_2 l0_2.length c0_2) l0_2) ∧ aa (Kd.V k151 151 w' w.heap.size (fun k_ => ((P0_1_ k_ ∨ P0_2_ k_) ∨ w.heap.size ≤ k_) ∧ some k_ ≠ (v3 : Value).ownBlock ∧ k_ ≠ gb101) (.slice A0_1 l0_1.length c0_1) l0_1) ∧ aa (Kd.V k69 69 w' w.heap.size (fun k_ => ((P0_1_ k_ ∨ P0_2_ k_) ∨ w.heap.size ≤ k_) ∧ some k_ ≠ (v3 : Value).ownBlock ∧ k_ ≠ gb101) (.slice A0_2 l0_2.length c0_2) l0_2) ∧ aa (w'.heap[gb101]? = some (.cells #[.int .i64 a0_0, (.slice A0_1 l0_1.length c0_1), (.slice A0_2 l0_2.length c0_2), .int .i64 a0_3, .int .i64 a0_4, (.slice A0_5 l0_5.length c0_5), (.slice A0_6 l0_6.length c0_6)] 31 (0, 0))) ∧ aa (Below w.heap.size w w'))
 case atStart => exact ⟨(y102), (0), (by first | rfl | (simp; done) | (simp [*]; done)), H', ⟨Nat.le_refl _⟩, ⟨by (with_reducible repeat (first | apply Kd.N_alloc | apply Kd.N_drewN | apply Kd.N_drew)); exact HO104.out⟩, ⟨by (with_reducible repeat (first | apply Kd.V_alloc | apply Kd.V_drewN | apply Kd.V_drew)); exact Kd.eG HO0_2.out (fun _ hk => ⟨hk.1.1, ⟨hk.2, hk.1.2⟩⟩)⟩, ⟨by (with_reducible repeat (first | apply Kd.V_alloc | apply Kd.V_drewN | apply Kd.V_drew)); exact Kd.eG HO0_1.out (fun _ hk => ⟨hk.1.1, ⟨hk.2, hk.1.2⟩⟩)⟩, ⟨by (with_reducible repeat (first | apply Kd.V_alloc | apply Kd.V_drewN | apply Kd.V_drew)); exact Kd.eG HO0_2.out (fun _ hk => ⟨hk.1.1, ⟨hk.2, hk.1.2⟩⟩)⟩, ⟨by (with_reducible repeat (first | refine ak ?_ _ | refine au ?_ | refine aj ?_ _)); exact BK101.out⟩, ⟨by repeat (first | (with_reducible first | exact HB.out | apply ah | apply af | apply ag | refine av ?_ GE101.out) | exact HB.out)⟩⟩
 case round =>
  clear H'
  try clear c2
  try clear p2
  try clear hcz3_0
  try clear hcz3_1
  try clear hcz3_2
  try clear hcz3_3
  try clear hcz3_4
  try clear hcz3_5
  try clear hcz3_6
  try clear hcz6_0
  try clear hcz6_1
  try clear hcz6_2
  try clear hcz6_3
  try clear hcz6_4
  try clear hcz6_5
  try clear hcz6_6
  try clear hfz3_0
  try clear hfz3_1
  try clear hfz3_2
  try clear hfz3_3
  try clear hfz3_4
  try clear hfz3_5
  try clear hfz3_6
  try clear hfz6_0
  try clear hfz6_1
  try clear hfz6_2
  try clear hfz6_3
  try clear hfz6_4
  try clear hfz6_5
  try clear hfz6_6
  obtain ⟨x3_1, x13_1, rfl, HA, HK1, HO_3, HO_11, HO_102001, HO_102002, BK101, HB⟩ := hrel
  cases gk with
  | zero => exact absurd HA.out (by simp [bD.l0])
  | succ k1 =>
   have H := HA.out
   clear HA
   simp only [bD.l0] at H
   by_cases c7 : x13_1 < (l0_2.length : Int)
   ·rw [if_pos c7] at H
    have c7b0 : decide (x13_1 < (l0_2.length : Int)) = true := decide_eq_true c7
    clear c7
    by_cases c8 : 0 ≤ x13_1
    ·rw [if_pos c8] at H
     have c8b0 : decide (0 ≤ x13_1) = true := decide_eq_true c8
     clear c8
     by_cases c9 : x13_1 < (l0_2.length : Int)
     ·rw [if_pos c9] at H
      have c9b0 : decide (x13_1 < (l0_2.length : Int)) = true := decide_eq_true c9
      clear c9
      by_cases c10 : x3_1.length < 4398046511104
      ·rw [if_pos c10] at H
       have LMc10 := aa.mk c10
       clear c10
       obtain ⟨y107, hy107⟩ : ∃ y_ : List (S75), y_ = (x3_1 ++ [(⟨(a_ l0_2 x13_1).f0, (a_ l0_2 x13_1).f3⟩ : S75)]) := ⟨_, rfl⟩
       replace H : (bD.l0 k1 y107 l0_2 (l0_2.length : Int) (wrap64 (x13_1 + 1))) = some r := by first | (rw [hy107]; with_reducible exact H) | (have H2_ := (Option.bind_some _ _).symm.trans H; rw [hy107]; with_reducible exact H2_) | (have H2_ := (Option.bind_some _ _).symm.trans H; with_reducible exact H2_) | with_reducible exact H | (rw [hy107]; exact H) | exact H
       have Ny107 := aa.mk hy107
       clear hy107
       have H' := aa.mk H
       clear H
       have p105 : 0 ≤ (x13_1 : Int) := of_decide_eq_true (by first | (with_reducible assumption) | assumption)
       have q105 : x13_1 < (l0_2.length : Int) := of_decide_eq_true (by first | (with_reducible assumption) | assumption)
       obtain ⟨ad105, A105_3, c105_3, e105, hx105_0, hx105_1, hx105_2, hx105_3, hl105_3, hi105_3⟩ := oG (Kd.ll HO_11.out).2.2 x13_1 p105 q105
       cases e105
       obtain ⟨ce105, hce105, hMe105, hcc105⟩ := Kd.V_get HO_11.out z69 x13_1 p105 (by first | exact q105 | exact of_decide_eq_true (by first | (with_reducible assumption) | assumption) | (have e_ := (Kd.ll HO_11.out).1; omega))
       obtain ⟨ua105_3, uc105_3, rfl, ul105_3, ge105_3⟩ := vZ hMe105
       have hv105_3 := hcc105 3 _ rfl
       rw [dJ _ _ 3 (by omega)] at hv105_3
       replace hv105_3 := Option.some.inj (hv105_3.symm.trans hx105_3)
       injection hv105_3 with hva_ hvn_ hvc_
       rw [hva_] at ge105_3
       rw [hvc_] at ul105_3
       have HL105_3 := aa.mk (show Kd.V k151 151 _ w.heap.size _ _ ((a_ l0_2 x13_1).f3) from Kd.V_mk ul105_3 ge105_3)
       clear hva_ hvn_ hvc_ ge105_3 ul105_3
       clear hcc105 hce105
       have HR105_3 := aa.mk hi105_3
       have HC105_3 := aa.mk hl105_3
       clear hi105_3 hl105_3
       replace p105 := eq_true p105
       replace q105 := eq_true q105
       go_wp2_with (first | ((with_reducible refine bf (N := 5) rfl ?_); refine aY ?hg (N := 5) ?hd (cs := #[.int .i64 0, .string (⟨#[]⟩ : ByteArray), .int .i64 0, .slice none 0 0]) (t := 69) ?hr ?_; (case hd => rfl); (case hg => rfl); (case hr => first | (go_simp; done) | (go_simp; rfl)); intro gb106 hg w11 hbox hb; have n0_ := aa.mk (Kd.Be (Kd.xg (by (with_reducible repeat (first | apply Kd.N_alloc | apply Kd.N_drewN | apply Kd.N_drew)); exact HO_3.out) gb106 (Nat.le_of_eq hg.symm)) hb); have n1_ := aa.mk (Kd.kG (Kd.jm (by (with_reducible repeat (first | apply Kd.V_alloc | apply Kd.V_drewN | apply Kd.V_drew)); exact HO_11.out) gb106 (Nat.le_of_eq hg.symm)) hb); have n2_ := aa.mk (Kd.kG (Kd.jm (by (with_reducible repeat (first | apply Kd.V_alloc | apply Kd.V_drewN | apply Kd.V_drew)); exact HO_102001.out) gb106 (Nat.le_of_eq hg.symm)) hb); have n3_ := aa.mk (Kd.kG (Kd.jm (by (with_reducible repeat (first | apply Kd.V_alloc | apply Kd.V_drewN | apply Kd.V_drew)); exact HO_102002.out) gb106 (Nat.le_of_eq hg.symm)) hb); have n4_ := aa.mk (Kd.kG (Kd.jm (by (with_reducible repeat (first | apply Kd.V_alloc | apply Kd.V_drewN | apply Kd.V_drew)); exact HL105_3.out) gb106 (Nat.le_of_eq hg.symm)) hb); have n5_ := aa.mk (aK (g := gb101) (o := .cells #[.int .i64 a0_0, .slice A0_1 l0_1.length c0_1, .slice (some ad105) l0_2.length c0_2, .int .i64 a0_3, .int .i64 a0_4, .slice A0_5 l0_5.length c0_5, .slice A0_6 l0_6.length c0_6] 31 (0, 0)) (by (with_reducible repeat (first | refine ak ?_ _ | refine au ?_ | refine aj ?_ _)); exact BK101.out) hb); have n6_ := aa.mk (Kd.aN (by repeat (first | (with_reducible exact HR105_3.out) | (with_reducible refine Kd.dA ?_ _) | (with_reducible refine Kd.C_drewN ?_ _) | (with_reducible refine Kd.C_drew ?_) | exact HR105_3.out)) hb); have n7_ := aa.mk (az (by repeat (first | (with_reducible first | exact HB.out | apply ah | apply af | apply ag | refine av ?_ GE101.out) | exact HB.out)) hb); have n8_ := aa.mk (hbox); have n9_ := aa.mk ((by rw [hg]; exact (ay (by repeat (first | (with_reducible first | exact HB.out | apply ah | apply af | apply ag | refine av ?_ GE101.out) | exact HB.out))) : w.heap.size ≤ gb106)); have n10_ := aa.mk ((by rw [hg]; exact (ay (by repeat (first | (with_reducible first | exact HB.out | apply ah | apply af | apply ag | refine av ?_ GE101.out) | exact HB.out))) : w.heap.size ≤ gb106)); have n11_ := aa.mk ((by rw [hg]; exact Nat.ne_of_lt (aA (g := gb101) (o := .cells #[.int .i64 a0_0, .slice A0_1 l0_1.length c0_1, .slice (some ad105) l0_2.length c0_2, .int .i64 a0_3, .int .i64 a0_4, .slice A0_5 l0_5.length c0_5, .slice A0_6 l0_6.length c0_6] 31 (0, 0)) (by (with_reducible repeat (first | refine ak ?_ _ | refine au ?_ | refine aj ?_ _)); exact BK101.out)) : gb101 ≠ gb106)); have n12_ := aa.mk ((by rw [hg]; exact Nat.ne_of_gt (aA (g := gb101) (o := .cells #[.int .i64 a0_0, .slice A0_1 l0_1.length c0_1, .slice (some ad105) l0_2.length c0_2, .int .i64 a0_3, .int .i64 a0_4, .slice A0_5 l0_5.length c0_5, .slice A0_6 l0_6.length c0_6] 31 (0, 0)) (by (with_reducible repeat (first | refine ak ?_ _ | refine au ?_ | refine aj ?_ _)); exact BK101.out)) : gb106 ≠ gb101)); clear HO_3; clear HO_11; clear HO_102001; clear HO_102002; clear HL105_3; clear BK101; clear HR105_3; clear HB; have HO_3 := n0_; have HO_11 := n1_; have HO_102001 := n2_; have HO_102002 := n3_; have HL105_3 := n4_; have BK101 := n5_; have HR105_3 := n6_; have HB := n7_; have BK106 := n8_; have GW106 := n9_; have GE106 := n10_; have NB101_106 := n11_; have NB106_101 := n12_; clear n0_ n1_ n2_ n3_ n4_ n5_ n6_ n7_ n8_ n9_ n10_ n11_ n12_; clear hb hbox hg; have hnb12 := NB106_101.out; have hnc12 := NB101_106.out; have hcz13_0 : w11.cell? ⟨gb106, 0, none⟩ = some (.int .i64 0) := (ae BK106.out 0).trans rfl; have hcz13_1 : w11.cell? ⟨gb106, 1, none⟩ = some (.string (⟨#[]⟩ : ByteArray)) := (ae BK106.out 1).trans rfl; have hcz13_2 : w11.cell? ⟨gb106, 2, none⟩ = some (.int .i64 0) := (ae BK106.out 2).trans rfl; have hcz13_3 : w11.cell? ⟨gb106, 3, none⟩ = some (.slice none 0 0) := (ae BK106.out 3).trans rfl; have hfz13_0 := ai BK106.out 0; have hfz13_1 := ai BK106.out 1; have hfz13_2 := ai BK106.out 2; have hfz13_3 := ai BK106.out 3) | ((with_reducible refine mR (t := 69) (p := 5) rfl ?_); refine l_ (t := 69) (p := 5) (v := ?vo_w14) (w1 := ((((w11.setCell ⟨gb106, 0, none⟩ (.int .i64 ((a_ l0_2 x13_1).f0))).setCell ⟨gb106, 1, none⟩ (.string ((a_ l0_2 x13_1).f1))).setCell ⟨gb106, 2, none⟩ (.int .i64 ((a_ l0_2 x13_1).f2))).setCell ⟨gb106, 3, none⟩ (.slice A105_3 ((a_ l0_2 x13_1).f3).length c105_3))) ?hg ?ho ?hn ?hr ?_; (case ho => rfl); (case hg => rfl); (case hn => rfl); (case hr => first | (go_simp; done) | (go_simp; rfl)); intro w14 hw; have n0_ : aa (Kd.N k75 75 w14 w.heap.size (fun k_ => ((P0_1_ k_ ∨ P0_2_ k_) ∨ w.heap.size ≤ k_) ∧ k_ ≠ gb101 ∧ k_ ≠ gb106) u3 x3_1) := ⟨(by rw [hw]; exact (by (with_reducible repeat (first | apply Kd.N_alloc | apply Kd.N_drewN | apply Kd.N_drew)); exact Kd.oN (Kd.xk (p := ⟨gb106, 3, none⟩) (Kd.xk (p := ⟨gb106, 2, none⟩) (Kd.xk (p := ⟨gb106, 1, none⟩) (Kd.xk (p := ⟨gb106, 0, none⟩) (Kd.oN HO_3.out (fun k_ hk => (⟨hk, hk.2⟩ : _ ∧ k_ ≠ gb106))) (fun _ hk => hk.2) (.int .i64 ((a_ l0_2 x13_1).f0))) (fun _ hk => hk.2) (.string ((a_ l0_2 x13_1).f1))) (fun _ hk => hk.2) (.int .i64 ((a_ l0_2 x13_1).f2))) (fun _ hk => hk.2) (.slice A105_3 ((a_ l0_2 x13_1).f3).length c105_3)) (fun _ hk => ⟨hk.1.1.1, ⟨hk.1.1.2, hk.1.2⟩⟩)))⟩; have n1_ : aa (Kd.V k69 69 w14 w.heap.size (fun k_ => ((P0_1_ k_ ∨ P0_2_ k_) ∨ w.heap.size ≤ k_) ∧ some k_ ≠ (u3 : Value).ownBlock ∧ k_ ≠ gb101 ∧ k_ ≠ gb106) (.slice (some ad105) l0_2.length c0_2) l0_2) := ⟨(by rw [hw]; exact (by (with_reducible repeat (first | apply Kd.V_alloc | apply Kd.V_drewN | apply Kd.V_drew)); exact Kd.eG (Kd.jA (p := ⟨gb106, 3, none⟩) (Kd.jA (p := ⟨gb106, 2, none⟩) (Kd.jA (p := ⟨gb106, 1, none⟩) (Kd.jA (p := ⟨gb106, 0, none⟩) (Kd.eG HO_11.out (fun k_ hk => (⟨hk, hk.2⟩ : _ ∧ k_ ≠ gb106))) (fun _ hk => hk.2) (.int .i64 ((a_ l0_2 x13_1).f0))) (fun _ hk => hk.2) (.string ((a_ l0_2 x13_1).f1))) (fun _ hk => hk.2) (.int .i64 ((a_ l0_2 x13_1).f2))) (fun _ hk => hk.2) (.slice A105_3 ((a_ l0_2 x13_1).f3).length c105_3)) (fun _ hk => ⟨hk.1.1.1, ⟨hk.1.1.2.1, ⟨hk.1.1.2.2, hk.1.2⟩⟩⟩)))⟩; have n2_ : aa (Kd.V k151 151 w14 w.heap.size (fun k_ => ((P0_1_ k_ ∨ P0_2_ k_) ∨ w.heap.size ≤ k_) ∧ some k_ ≠ (u3 : Value).ownBlock ∧ k_ ≠ gb101 ∧ k_ ≠ gb106) (.slice A0_1 l0_1.length c0_1) l0_1) := ⟨(by rw [hw]; exact (by (with_reducible repeat (first | apply Kd.V_alloc | apply Kd.V_drewN | apply Kd.V_drew)); exact Kd.eG (Kd.jA (p := ⟨gb106, 3, none⟩) (Kd.jA (p := ⟨gb106, 2, none⟩) (Kd.jA (p := ⟨gb106, 1, none⟩) (Kd.jA (p := ⟨gb106, 0, none⟩) (Kd.eG HO_102001.out (fun k_ hk => (⟨hk, hk.2⟩ : _ ∧ k_ ≠ gb106))) (fun _ hk => hk.2) (.int .i64 ((a_ l0_2 x13_1).f0))) (fun _ hk => hk.2) (.string ((a_ l0_2 x13_1).f1))) (fun _ hk => hk.2) (.int .i64 ((a_ l0_2 x13_1).f2))) (fun _ hk => hk.2) (.slice A105_3 ((a_ l0_2 x13_1).f3).length c105_3)) (fun _ hk => ⟨hk.1.1.1, ⟨hk.1.1.2.1, ⟨hk.1.1.2.2, hk.1.2⟩⟩⟩)))⟩; have n3_ : aa (Kd.V k69 69 w14 w.heap.size (fun k_ => ((P0_1_ k_ ∨ P0_2_ k_) ∨ w.heap.size ≤ k_) ∧ some k_ ≠ (u3 : Value).ownBlock ∧ k_ ≠ gb101 ∧ k_ ≠ gb106) (.slice (some ad105) l0_2.length c0_2) l0_2) := ⟨(by rw [hw]; exact (by (with_reducible repeat (first | apply Kd.V_alloc | apply Kd.V_drewN | apply Kd.V_drew)); exact Kd.eG (Kd.jA (p := ⟨gb106, 3, none⟩) (Kd.jA (p := ⟨gb106, 2, none⟩) (Kd.jA (p := ⟨gb106, 1, none⟩) (Kd.jA (p := ⟨gb106, 0, none⟩) (Kd.eG HO_102002.out (fun k_ hk => (⟨hk, hk.2⟩ : _ ∧ k_ ≠ gb106))) (fun _ hk => hk.2) (.int .i64 ((a_ l0_2 x13_1).f0))) (fun _ hk => hk.2) (.string ((a_ l0_2 x13_1).f1))) (fun _ hk => hk.2) (.int .i64 ((a_ l0_2 x13_1).f2))) (fun _ hk => hk.2) (.slice A105_3 ((a_ l0_2 x13_1).f3).length c105_3)) (fun _ hk => ⟨hk.1.1.1, ⟨hk.1.1.2.1, ⟨hk.1.1.2.2, hk.1.2⟩⟩⟩)))⟩; have n4_ : aa (Kd.V k151 151 w14 w.heap.size (fun k_ => ((P0_1_ k_ ∨ P0_2_ k_) ∨ w.heap.size ≤ k_) ∧ some k_ ≠ (u3 : Value).ownBlock ∧ k_ ≠ gb101 ∧ k_ ≠ gb106) (.slice A105_3 ((a_ l0_2 x13_1).f3).length c105_3) ((a_ l0_2 x13_1).f3)) := ⟨(by rw [hw]; exact (by (with_reducible repeat (first | apply Kd.V_alloc | apply Kd.V_drewN | apply Kd.V_drew)); exact Kd.eG (Kd.jA (p := ⟨gb106, 3, none⟩) (Kd.jA (p := ⟨gb106, 2, none⟩) (Kd.jA (p := ⟨gb106, 1, none⟩) (Kd.jA (p := ⟨gb106, 0, none⟩) (Kd.eG HL105_3.out (fun k_ hk => (⟨hk, hk.2⟩ : _ ∧ k_ ≠ gb106))) (fun _ hk => hk.2) (.int .i64 ((a_ l0_2 x13_1).f0))) (fun _ hk => hk.2) (.string ((a_ l0_2 x13_1).f1))) (fun _ hk => hk.2) (.int .i64 ((a_ l0_2 x13_1).f2))) (fun _ hk => hk.2) (.slice A105_3 ((a_ l0_2 x13_1).f3).length c105_3)) (fun _ hk => ⟨hk.1.1.1, ⟨hk.1.1.2.1, ⟨hk.1.1.2.2, hk.1.2⟩⟩⟩)))⟩; have n5_ : aa (w14.heap[gb101]? = some (.cells #[.int .i64 a0_0, .slice A0_1 l0_1.length c0_1, .slice (some ad105) l0_2.length c0_2, .int .i64 a0_3, .int .i64 a0_4, .slice A0_5 l0_5.length c0_5, .slice A0_6 l0_6.length c0_6] 31 (0, 0))) := ⟨(by rw [hw]; exact (by (with_reducible repeat (first | refine ak ?_ _ | refine au ?_ | refine aj ?_ _)); refine bX ?_ NB101_106.out _; (with_reducible repeat (first | refine ak ?_ _ | refine au ?_ | refine aj ?_ _)); refine bX ?_ NB101_106.out _; (with_reducible repeat (first | refine ak ?_ _ | refine au ?_ | refine aj ?_ _)); refine bX ?_ NB101_106.out _; (with_reducible repeat (first | refine ak ?_ _ | refine au ?_ | refine aj ?_ _)); refine bX ?_ NB101_106.out _; (with_reducible repeat (first | refine ak ?_ _ | refine au ?_ | refine aj ?_ _)); exact BK101.out))⟩; have n6_ : aa (w14.heap[gb106]? = some (.cells #[.int .i64 ((a_ l0_2 x13_1).f0), .string ((a_ l0_2 x13_1).f1), .int .i64 ((a_ l0_2 x13_1).f2), .slice A105_3 ((a_ l0_2 x13_1).f3).length c105_3] 69 (0, 0))) := ⟨(by rw [hw]; exact (by (with_reducible repeat (first | refine ak ?_ _ | refine au ?_ | refine aj ?_ _)); refine aW (cs := #[.int .i64 ((a_ l0_2 x13_1).f0), .string ((a_ l0_2 x13_1).f1), .int .i64 ((a_ l0_2 x13_1).f2), .slice none 0 0]) ?_ 3 _ rfl; (with_reducible repeat (first | refine ak ?_ _ | refine au ?_ | refine aj ?_ _)); refine aW (cs := #[.int .i64 ((a_ l0_2 x13_1).f0), .string ((a_ l0_2 x13_1).f1), .int .i64 0, .slice none 0 0]) ?_ 2 _ rfl; (with_reducible repeat (first | refine ak ?_ _ | refine au ?_ | refine aj ?_ _)); refine aW (cs := #[.int .i64 ((a_ l0_2 x13_1).f0), .string (⟨#[]⟩ : ByteArray), .int .i64 0, .slice none 0 0]) ?_ 1 _ rfl; (with_reducible repeat (first | refine ak ?_ _ | refine au ?_ | refine aj ?_ _)); refine aW (cs := #[.int .i64 0, .string (⟨#[]⟩ : ByteArray), .int .i64 0, .slice none 0 0]) ?_ 0 _ rfl; (with_reducible repeat (first | refine ak ?_ _ | refine au ?_ | refine aj ?_ _)); exact BK106.out))⟩; have n7_ : aa (Below w.heap.size w w14) := ⟨(by rw [hw]; exact (by repeat (first | (with_reducible first | exact HB.out | apply ah | apply af | apply ag | refine av ?_ GE101.out | refine av ?_ GE106.out) | exact HB.out)))⟩; clear hw; clear HO_3; clear HO_11; clear HO_102001; clear HO_102002; clear HL105_3; clear BK101; clear BK106; clear HB; have HO_3 := n0_; have HO_11 := n1_; have HO_102001 := n2_; have HO_102002 := n3_; have HL105_3 := n4_; have BK101 := n5_; have BK106 := n6_; have HB := n7_; clear n0_ n1_ n2_ n3_ n4_ n5_ n6_ n7_; have hcz15_0 : w14.cell? ⟨gb106, 0, none⟩ = some (.int .i64 ((a_ l0_2 x13_1).f0)) := (ae BK106.out 0).trans rfl; have hcz15_1 : w14.cell? ⟨gb106, 1, none⟩ = some (.string ((a_ l0_2 x13_1).f1)) := (ae BK106.out 1).trans rfl; have hcz15_2 : w14.cell? ⟨gb106, 2, none⟩ = some (.int .i64 ((a_ l0_2 x13_1).f2)) := (ae BK106.out 2).trans rfl; have hcz15_3 : w14.cell? ⟨gb106, 3, none⟩ = some (.slice A105_3 ((a_ l0_2 x13_1).f3).length c105_3) := (ae BK106.out 3).trans rfl; have hfz15_0 := ai BK106.out 0; have hfz15_1 := ai BK106.out 1; have hfz15_2 := ai BK106.out 2; have hfz15_3 := ai BK106.out 3) | ((with_reducible refine bK (b := .append) (xs := #[.tmp 17, .tmp 23]) rfl ?_); at_builtin; refine Kd.xD k75 (w0 := w) w.heap.size rfl (.tmp 17) (.tmp 23) 71 75 (.agg #[(.int .i64 0), (.slice none 0 0)]) 32 rfl Tryz.underlying71 info75 rfl (by decide) (by omega) u3 x3_1 (⟨(a_ l0_2 x13_1).f0, (a_ l0_2 x13_1).f3⟩ : S75) [.int .i64 ((a_ l0_2 x13_1).f0), .slice A105_3 ((a_ l0_2 x13_1).f3).length c105_3] (fun k_ => ((P0_1_ k_ ∨ P0_2_ k_) ∨ w.heap.size ≤ k_) ∧ k_ ≠ gb101 ∧ k_ ≠ gb106) (fun k_ => ((fun k_ => ((P0_1_ k_ ∨ P0_2_ k_) ∨ w.heap.size ≤ k_) ∧ k_ ≠ gb101 ∧ k_ ≠ gb106)) k_ ∧ some k_ ≠ (u3 : Value).ownBlock) rfl rfl ?aP (fun _ hk => hk) ?aF ?aO ?aB ?aS ?aL ?_; (case aP => exact (uN _ _ (⟨(a_ l0_2 x13_1).f0, (a_ l0_2 x13_1).f3⟩ : S75) (Kd.ll (Kd.eG (ok' := (fun k_ => ((fun k_ => ((P0_1_ k_ ∨ P0_2_ k_) ∨ w.heap.size ≤ k_) ∧ k_ ≠ gb101 ∧ k_ ≠ gb106)) k_ ∧ some k_ ≠ (u3 : Value).ownBlock)) (HL105_3.out) (fun k_ hk => ⟨⟨hk.1, ⟨hk.2.2.1, hk.2.2.2⟩⟩, hk.2.1⟩))).2.1 (Kd.V_F (Kd.eG (ok' := (fun k_ => ((fun k_ => ((P0_1_ k_ ∨ P0_2_ k_) ∨ w.heap.size ≤ k_) ∧ k_ ≠ gb101 ∧ k_ ≠ gb106)) k_ ∧ some k_ ≠ (u3 : Value).ownBlock)) (HL105_3.out) (fun k_ hk => ⟨⟨hk.1, ⟨hk.2.2.1, hk.2.2.2⟩⟩, hk.2.1⟩))))); (case aB => exact (by repeat (first | (with_reducible first | exact HB.out | apply ah | apply af | apply ag | refine av ?_ GE101.out | refine av ?_ GE106.out) | exact HB.out))); (case aF => exact (fun k_ hk => ⟨(.inr (Nat.le_trans (ay (by repeat (first | (with_reducible first | exact HB.out | apply ah | apply af | apply ag | refine av ?_ GE101.out | refine av ?_ GE106.out) | exact HB.out))) hk)), Kd.rF (g := gb101) (o := .cells #[.int .i64 a0_0, .slice A0_1 l0_1.length c0_1, .slice (some ad105) l0_2.length c0_2, .int .i64 a0_3, .int .i64 a0_4, .slice A0_5 l0_5.length c0_5, .slice A0_6 l0_6.length c0_6] 31 (0, 0)) (by (with_reducible repeat (first | refine ak ?_ _ | refine au ?_ | refine aj ?_ _)); exact BK101.out) k_ hk, Kd.rF (g := gb106) (o := .cells #[.int .i64 ((a_ l0_2 x13_1).f0), .string ((a_ l0_2 x13_1).f1), .int .i64 ((a_ l0_2 x13_1).f2), .slice A105_3 ((a_ l0_2 x13_1).f3).length c105_3] 69 (0, 0)) (by (with_reducible repeat (first | refine ak ?_ _ | refine au ?_ | refine aj ?_ _)); exact BK106.out) k_ hk⟩)); (case aO => exact (by (with_reducible repeat (first | apply Kd.N_alloc | apply Kd.N_drewN | apply Kd.N_drew)); exact HO_3.out)); (case aS => exact (ay (by repeat (first | (with_reducible first | exact HB.out | apply ah | apply af | apply ag | refine av ?_ GE101.out | refine av ?_ GE106.out) | exact HB.out)))); (case aL => have := LMc10.out; omega); intro v108 w16 ho hb hg hat; rw [← Ny107.out] at ho; have n0_ := aa.mk (Kd.lq (ok := (fun k_ => ((P0_1_ k_ ∨ P0_2_ k_) ∨ w.heap.size ≤ k_) ∧ k_ ≠ gb101 ∧ k_ ≠ gb106)) (by (with_reducible repeat (first | apply Kd.V_alloc | apply Kd.V_drewN | apply Kd.V_drew)); exact Kd.eG HO_11.out (fun _ hk => ⟨⟨hk.1, ⟨hk.2.2.1, hk.2.2.2⟩⟩, hk.2.1⟩)) hg hat); have n1_ := aa.mk (Kd.lq (ok := (fun k_ => ((P0_1_ k_ ∨ P0_2_ k_) ∨ w.heap.size ≤ k_) ∧ k_ ≠ gb101 ∧ k_ ≠ gb106)) (by (with_reducible repeat (first | apply Kd.V_alloc | apply Kd.V_drewN | apply Kd.V_drew)); exact Kd.eG HO_102001.out (fun _ hk => ⟨⟨hk.1, ⟨hk.2.2.1, hk.2.2.2⟩⟩, hk.2.1⟩)) hg hat); have n2_ := aa.mk (Kd.lq (ok := (fun k_ => ((P0_1_ k_ ∨ P0_2_ k_) ∨ w.heap.size ≤ k_) ∧ k_ ≠ gb101 ∧ k_ ≠ gb106)) (by (with_reducible repeat (first | apply Kd.V_alloc | apply Kd.V_drewN | apply Kd.V_drew)); exact Kd.eG HO_102002.out (fun _ hk => ⟨⟨hk.1, ⟨hk.2.2.1, hk.2.2.2⟩⟩, hk.2.1⟩)) hg hat); have n3_ := aa.mk (gz (g := gb101) (o := .cells #[.int .i64 a0_0, .slice A0_1 l0_1.length c0_1, .slice (some ad105) l0_2.length c0_2, .int .i64 a0_3, .int .i64 a0_4, .slice A0_5 l0_5.length c0_5, .slice A0_6 l0_6.length c0_6] 31 (0, 0)) (by (with_reducible repeat (first | refine ak ?_ _ | refine au ?_ | refine aj ?_ _)); exact BK101.out) hg (Kd.N_ne HO_3.out BK101.out (by decide))); have n4_ := aa.mk (Kd.lq (ok := (fun k_ => ((P0_1_ k_ ∨ P0_2_ k_) ∨ w.heap.size ≤ k_) ∧ k_ ≠ gb101 ∧ k_ ≠ gb106)) (by (with_reducible repeat (first | apply Kd.V_alloc | apply Kd.V_drewN | apply Kd.V_drew)); exact Kd.eG HL105_3.out (fun _ hk => ⟨⟨hk.1, ⟨hk.2.2.1, hk.2.2.2⟩⟩, hk.2.1⟩)) hg hat); have n5_ := aa.mk (gz (g := gb106) (o := .cells #[.int .i64 ((a_ l0_2 x13_1).f0), .string ((a_ l0_2 x13_1).f1), .int .i64 ((a_ l0_2 x13_1).f2), .slice A105_3 ((a_ l0_2 x13_1).f3).length c105_3] 69 (0, 0)) (by (with_reducible repeat (first | refine ak ?_ _ | refine au ?_ | refine aj ?_ _)); exact BK106.out) hg (Kd.N_ne HO_3.out BK106.out (by decide))); have n6_ := aa.mk (hb); have n7_ := aa.mk (ho); clear HO_11; clear HO_102001; clear HO_102002; clear BK101; clear HL105_3; clear BK106; clear HB; clear HO_3; have HO_11 := n0_; have HO_102001 := n1_; have HO_102002 := n2_; have BK101 := n3_; have HL105_3 := n4_; have BK106 := n5_; have HB := n6_; have HO109 := n7_; clear n0_ n1_ n2_ n3_ n4_ n5_ n6_ n7_; clear ho hb hg hat))
       go_roundg k1
       case measure => have := HK1.out; omega
       case rel => exact ⟨(y107), (wrap64 (x13_1 + 1)), (by first | rfl | (simp; done) | (simp [*]; done)), H', ⟨by have := HK1.out; omega⟩, ⟨by (with_reducible repeat (first | apply Kd.N_alloc | apply Kd.N_drewN | apply Kd.N_drew)); exact Kd.oN HO109.out (fun _ hk => ⟨hk.1, hk.2.1⟩)⟩, ⟨by (with_reducible repeat (first | apply Kd.V_alloc | apply Kd.V_drewN | apply Kd.V_drew)); exact Kd.eG HO_11.out (fun _ hk => ⟨hk.1.1, ⟨hk.2, hk.1.2.1⟩⟩)⟩, ⟨by (with_reducible repeat (first | apply Kd.V_alloc | apply Kd.V_drewN | apply Kd.V_drew)); exact Kd.eG HO_102001.out (fun _ hk => ⟨hk.1.1, ⟨hk.2, hk.1.2.1⟩⟩)⟩, ⟨by (with_reducible repeat (first | apply Kd.V_alloc | apply Kd.V_drewN | apply Kd.V_drew)); exact Kd.eG HO_102002.out (fun _ hk => ⟨hk.1.1, ⟨hk.2, hk.1.2.1⟩⟩)⟩, ⟨by (with_reducible repeat (first | refine ak ?_ _ | refine au ?_ | refine aj ?_ _)); exact BK101.out⟩, ⟨by repeat (first | (with_reducible first | exact HB.out | apply ah | apply af | apply ag | refine av ?_ GE101.out | refine av ?_ GE106.out) | exact HB.out)⟩⟩
      ·rw [if_neg c10] at H
       exact absurd H (by simp)
     ·rw [if_neg c9] at H
      exact absurd H (by simp)
    ·rw [if_neg c8] at H
     exact absurd H (by simp)
   ·rw [if_neg c7] at H
    have c7b0 : decide (x13_1 < (l0_2.length : Int)) = false := decide_eq_false c7
    clear c7
    obtain rfl := Option.some.inj H
    go_wp2
    go_ret
    exact ⟨_, by first | rfl | (simp [aD, aC] <;> rfl) | (simp [*, aD, aC] <;> rfl), by (with_reducible repeat (first | apply Kd.N_alloc | apply Kd.N_drewN | apply Kd.N_drew)); exact Kd.oN HO_3.out (fun _ hk => hk.1), by repeat (first | (with_reducible first | exact HB.out | apply ah | apply af | apply ag | refine av ?_ GE101.out) | exact HB.out)⟩
def dL.f (l0 : List (S151)) (a1 : Int) : Option (Bool) := if a1 ≥ 0 then (if a1 ≤ 65536 then (if (l0.length : Int) = 0 then (some true) else (if 0 ≤ (wrap64 ((l0.length : Int) - 1)) then (if (wrap64 ((l0.length : Int) - 1)) < (l0.length : Int) then (some (decide ((wrap64 (((ax l0 (wrap64 ((l0.length : Int) - 1))).f0) + ((ax l0 (wrap64 ((l0.length : Int) - 1))).f2))) ≤ a1))) else (none)) else (none))) else (some false)) else (some false)
set_option maxHeartbeats 8000000 in
set_option maxRecDepth 100000 in
theorem dL.calls (A0 : Option Addr) (c0 : Nat) (l0 : List (S151)) (a1 : Int) (r : Bool) (w : World) (hr0 : Kd.C k151 w A0 l0.length l0) (hc0 : l0.length ≤ c0) (h : dL.f l0 a1 = some r) :
 Calls Tryz.prog 83 #[.slice A0 l0.length c0, .int .i64 a1] w fun e w' => e = .returned (.bool r) ∧ bI w w' := by
 have HR0 := aa.mk hr0
 have HC0 := aa.mk hc0
 clear hr0 hc0
 have H : (if a1 ≥ 0 then (if a1 ≤ 65536 then (if (l0.length : Int) = 0 then (some true) else (if 0 ≤ (wrap64 ((l0.length : Int) - 1)) then (if (wrap64 ((l0.length : Int) - 1)) < (l0.length : Int) then (some (decide ((wrap64 (((ax l0 (wrap64 ((l0.length : Int) - 1))).f0) + ((ax l0 (wrap64 ((l0.length : Int) - 1))).f2))) ≤ a1))) else (none)) else (none))) else (some false)) else (some false)) = some r := h
 clear h
 by_cases c3 : a1 ≥ 0
 ·rw [if_pos c3] at H
  have c3b0 : decide (0 ≤ a1) = true := decide_eq_true c3
  clear c3
  by_cases c4 : a1 ≤ 65536
  ·rw [if_pos c4] at H
   have c4b0 : decide (a1 ≤ 65536) = true := decide_eq_true c4
   clear c4
   by_cases c5 : (l0.length : Int) = 0
   ·rw [if_pos c5] at H
    have c5b0 : ((l0.length : Int) == 0) = true := beq_iff_eq.mpr c5
    have c5b1 : ((l0.length : Int) != 0) = false := bne_eq_false_iff_eq.mpr c5
    clear c5
    obtain rfl := Option.some.inj H
    go_enter Tryz.func83, Tryz.ntmps83
    go_wp2
    repeat (go_quiet (fail); try go_wp2)
    go_ret
    exact ⟨by first | rfl | (simp; done) | (simp [*]; done), by repeat (first | exact bI.refl _ | apply bI.step)⟩
   ·rw [if_neg c5] at H
    have c5b0 : ((l0.length : Int) == 0) = false := beq_eq_false_iff_ne.mpr c5
    have c5b1 : ((l0.length : Int) != 0) = true := bne_iff_ne.mpr c5
    have c5b2 : ¬ (l0 = []) := fun h_ => c5 (by rw [h_]; rfl)
    obtain ⟨ji6, hji6⟩ : ∃ j_ : Int, (wrap64 ((l0.length : Int) - 1)) = j_ := ⟨_, rfl⟩
    replace H : (if 0 ≤ (ji6) then (if (ji6) < (l0.length : Int) then (some (decide ((wrap64 (((ax l0 (ji6)).f0) + ((ax l0 (ji6)).f2))) ≤ a1))) else (none)) else (none)) = some r := by first | (rw [hji6] at H; exact H) | (simp only [hji6] at H ⊢; exact H)
    have hji6w : (IntKind.i64.wrap ((l0.length : Int) - 1)) = ji6 := (kE _).trans hji6
    by_cases c7 : 0 ≤ (ji6)
    ·rw [if_pos c7] at H
     have c7b0 : decide (0 ≤ (ji6)) = true := decide_eq_true c7
     clear c7
     by_cases c8 : (ji6) < (l0.length : Int)
     ·rw [if_pos c8] at H
      have c8b0 : decide ((ji6) < (l0.length : Int)) = true := decide_eq_true c8
      clear c8
      obtain rfl := Option.some.inj H
      have p101 : 0 ≤ ((ji6) : Int) := of_decide_eq_true (by first | (with_reducible assumption) | assumption)
      have q101 : (ji6) < (l0.length : Int) := of_decide_eq_true (by first | (with_reducible assumption) | assumption)
      obtain ⟨ad101, e101, hx101_0, hx101_1, hx101_2⟩ := dS HR0.out (ji6) p101 q101
      cases e101
      replace p101 := eq_true p101
      replace q101 := eq_true q101
      have p102 : 0 ≤ ((ji6) : Int) := of_decide_eq_true (by first | (with_reducible assumption) | assumption)
      have q102 : (ji6) < (l0.length : Int) := of_decide_eq_true (by first | (with_reducible assumption) | assumption)
      obtain ⟨ad102, e102, hx102_0, hx102_1, hx102_2⟩ := dS HR0.out (ji6) p102 q102
      obtain rfl : ad101 = ad102 := (by injection e102)
      replace p102 := eq_true p102
      replace q102 := eq_true q102
      go_enter Tryz.func83, Tryz.ntmps83
      go_wp2
      repeat (go_quiet (fail); try go_wp2)
      go_ret
      exact ⟨by first | rfl | (simp; done) | (simp only [← hji6] <;> (first | rfl | simp)) | (simp [*]; done), by repeat (first | exact bI.refl _ | apply bI.step)⟩
     ·rw [if_neg c8] at H
      exact absurd H (by simp)
    ·rw [if_neg c7] at H
     exact absurd H (by simp)
  ·rw [if_neg c4] at H
   have c4b0 : decide (a1 ≤ 65536) = false := decide_eq_false c4
   clear c4
   obtain rfl := Option.some.inj H
   go_enter Tryz.func83, Tryz.ntmps83
   go_wp2
   repeat (go_quiet (fail); try go_wp2)
   go_ret
   exact ⟨by first | rfl | (simp; done) | (simp [*]; done), by repeat (first | exact bI.refl _ | apply bI.step)⟩
 ·rw [if_neg c3] at H
  have c3b0 : decide (0 ≤ a1) = false := decide_eq_false c3
  clear c3
  obtain rfl := Option.some.inj H
  go_enter Tryz.func83, Tryz.ntmps83
  go_wp2
  repeat (go_quiet (fail); try go_wp2)
  go_ret
  exact ⟨by first | rfl | (simp; done) | (simp [*]; done), by repeat (first | exact bI.refl _ | apply bI.step)⟩
open Go.Maps in
def sZ : List ByteArray → DataW Unit
  | [] => .map []
  | s :: t => (sZ t).put (.string s.data.toList) (.lit (.bool true))
open Go.Maps in
theorem pK : ∀ ns, IsMap (sZ ns)
  | [] => isMap_empty
  | _ :: t => (pK t).put _ _
theorem key_inj {a b : ByteArray} (h : (Lit.string a.data.toList) = Lit.string b.data.toList) : a = b := by
  injection h with h
  cases a
  cases b
  simp only [ByteArray.mk.injEq]
  exact Array.toList_inj.1 h
def isIn (s : ByteArray) (ns : List ByteArray) : Bool := ns.any fun t => decide (s = t)
open Go.Maps in
theorem qW (s : ByteArray) : ∀ ns, (sZ ns).atKey (.string s.data.toList) (.lit (.bool false)) = .lit (.bool (isIn s ns))
  | [] => rfl
  | x :: t => by
    by_cases h : s = x
    · subst h
      have h2 : isIn s (s :: t) = true := by simp [isIn]
      rw [sZ, atKey_put_same (pK t) (by exact trivial), h2]
    · have h2 : isIn s (x :: t) = isIn s t := by simp [isIn, h]
      rw [sZ, atKey_put_other (fun e => h (key_inj e)), qW s t, h2]
abbrev wK (w : World) (b n : Nat) (ns : List ByteArray) : Prop := w.ownsMap Tryz.prog 9 (plainElem Tryz.prog 4) b n (sZ ns)
theorem yK (s : ByteArray) (h : s.size ≤ 16) : keyOf Tryz.prog 9 (.string s) = some (.string s.data.toList) := by
  have hu := Tryz.underlying9
  have h2 : s.size ≤ maxLen := Nat.le_trans h (by decide)
  simp [keyOf, mapKey, hu, h2]
theorem yg {P : Program} (hu : P.underlying 4 = some .bool) {v : Value} {z : DataW Unit × List MemPlace} (h : plainElem P 4 v = some z) : ∃ b, v = .bool b ∧ z.1 = .lit (.bool b) := by
  unfold plainElem at h
  rw [hu] at h
  cases v <;> simp at h
  exact ⟨_, rfl, by rw [← h]⟩
set_option maxRecDepth 100000 in
set_option maxHeartbeats 1000000 in
theorem tZ {w : World} {b n : Nat} {ns : List ByteArray} (h : wK w b n ns) (s : ByteArray) (hs : s.size ≤ 16) : (Instr.lookup 193 (.map (some b)) (.string s) false).run Tryz.prog w = .ok (.bool (isIn s ns)) w := by
  obtain ⟨v, ps, h1, h2⟩ := World.ownsMap.lookup h (Go.Maps.string_keyed Tryz.underlying9) Tryz.underlying193 (Tryz.zeroValue4 w) (plainElem_bool Tryz.underlying4 false) (yK s hs)
  obtain ⟨c, rfl, h3⟩ := yg Tryz.underlying4 h2
  dsimp only at h3
  rw [qW] at h3
  injection h3 with h3
  injection h3 with h3
  rw [h3]
  exact h1
def lX (next : Int) : List S173 → Int → List ByteArray → Bool
  | [], _, _ => true
  | x :: t, last, ns => if x.f0 ≤ last ∨ next ≤ x.f0 ∨ x.f1.toList.isEmpty = true ∨ 16 < x.f1.size ∨ isIn x.f1 ns = true then false else lX next t x.f0 (x.f1 :: ns)
def gq.f (l0 : List (S173)) (a1 : Int) : Option Bool := some (if 8 < l0.length ∨ a1 < 1 ∨ 255 < a1 then false else lX a1 l0 0 [])
set_option maxHeartbeats 8000000 in
set_option maxRecDepth 100000 in
theorem gq.calls (A0 : Option Addr) (c0 : Nat) (l0 : List (S173)) (a1 : Int) (r : Bool) (w : World) (hr0 : Kd.C k173 w A0 l0.length l0) (hc0 : l0.length ≤ c0) (h : gq.f l0 a1 = some r) :
    Calls Tryz.prog 81 #[.slice A0 l0.length c0, .int .i64 a1] w fun e w' => e = .returned (.bool r) ∧ Below w.heap.size w w' := by
  have hu := Tryz.underlying173
  unfold gq.f at h
  replace h := Option.some.inj h
  have HR0 := aa.mk hr0
  clear hr0 hc0
  by_cases hb : 8 < l0.length ∨ a1 < 1 ∨ 255 < a1
  · rw [if_pos hb] at h
    subst h
    by_cases h1 : 8 < l0.length
    · have hd1 : decide ((8 : Int) < (l0.length : Int)) = true := decide_eq_true (by omega)
      have hd2 : decide (8 < l0.length) = true := decide_eq_true h1
      go_enter Tryz.func81, Tryz.ntmps81
      go_wp2
      go_ret
      exact ⟨rfl, Below.refl _ _⟩
    · have hd1 : decide ((8 : Int) < (l0.length : Int)) = false := decide_eq_false (by omega)
      have hd2 : decide (8 < l0.length) = false := decide_eq_false h1
      by_cases h2 : a1 < 1
      · have hd3 : decide (a1 < 1) = true := decide_eq_true h2
        go_enter Tryz.func81, Tryz.ntmps81
        go_wp2
        go_ret
        exact ⟨rfl, Below.refl _ _⟩
      · have hd3 : decide (a1 < 1) = false := decide_eq_false h2
        have hd4 : decide (255 < a1) = true := decide_eq_true (by omega)
        go_enter Tryz.func81, Tryz.ntmps81
        go_wp2
        go_ret
        exact ⟨rfl, Below.refl _ _⟩
  rw [if_neg hb] at h
  have hd1 : decide ((8 : Int) < (l0.length : Int)) = false := decide_eq_false (by omega)
  have hd2 : decide (8 < l0.length) = false := decide_eq_false (by omega)
  have hd3 : decide (a1 < 1) = false := decide_eq_false (by omega)
  have hd4 : decide (255 < a1) = false := decide_eq_false (by omega)
  have HG0 := aa.mk h
  have HLN := aa.mk (show l0.length ≤ 8 by omega)
  clear h hb
  obtain ⟨bm, hbm⟩ : ∃ b, b = w.heap.size := ⟨_, rfl⟩
  obtain ⟨W1, hW1⟩ : ∃ W, W = w.alloc (.map #[] 0) := ⟨_, rfl⟩
  have HB1 := aa.mk (show Below w.heap.size w W1 by rw [hW1]; exact (Below.refl _ _).alloc (Nat.le_refl _) _)
  have HM1 := aa.mk (show wK W1 bm 0 [] by rw [hW1, hbm]; exact World.ownsMap_made w _ _ _)
  have HBM := aa.mk hbm
  go_enter Tryz.func81, Tryz.ntmps81
  have hmm := @run_makeMap Tryz.prog
  go_wp2_with fail
  rw [← hW1, ← hbm]
  clear hmm hW1 hbm
  go_loopg [6, 23] l0.length (fun gk v6 v23 W => ∃ (i last : Int) (ns : List ByteArray), v6 = .int .i64 last ∧ v23 = .int .i64 i ∧ aa (0 ≤ i ∧ i + gk = l0.length) ∧ aa (lX a1 (l0.drop i.toNat) last ns = r) ∧ aa (wK W bm i.toNat ns) ∧ aa (Below w.heap.size w W))
  case atStart => exact ⟨0, 0, [], rfl, rfl, ⟨Int.le_refl _, by simp⟩, HG0, HM1, HB1⟩
  case round =>
    obtain ⟨i, last, ns, rfl, rfl, HI, HG, HM, HB⟩ := hrel
    cases gk with
    | zero =>
      have hi : i = l0.length := by have := HI.out.2; omega
      have hd : decide (i < (l0.length : Int)) = false := decide_eq_false (by omega)
      have hg := HG.out
      rw [hi, Int.toNat_natCast, List.drop_length] at hg
      have hr : true = r := hg
      subst hr
      clear hi hg
      go_wp2
      go_ret
      exact ⟨rfl, HB.out⟩
    | succ k1 =>
      have hp0 : 0 ≤ i := HI.out.1
      have hp1 : i < (l0.length : Int) := by have := HI.out.2; omega
      have hd : decide (i < (l0.length : Int)) = true := decide_eq_true hp1
      obtain ⟨ad, e3, g0, g1⟩ := uO (Kd.aN HR0.out HB.out) i hp0 hp1
      cases e3
      obtain ⟨x, hx⟩ : ∃ x, x = kD l0 i := ⟨_, rfl⟩
      rw [← hx] at g0 g1
      have hst : l0.drop i.toNat = x :: l0.drop (i + 1).toNat := by
        have h3 : (i + 1).toNat = i.toNat + 1 := by omega
        have h4 : i.toNat < l0.length := by omega
        have h5 : x = l0[i.toNat] := by rw [hx]; unfold kD; rw [List.getD_eq_getElem?_getD, List.getElem?_eq_getElem h4]; rfl
        rw [h3, h5, List.getElem_cons_drop]
      have hg := HG.out
      rw [hst, lX] at hg
      have HP := aa.mk (And.intro hp0 hp1)
      obtain ⟨bx, hbx⟩ : ∃ b, b = wr.heap.size := ⟨_, rfl⟩
      obtain ⟨W2, hW2⟩ : ∃ W, W = wr.alloc (.cells #[.int .i64 x.f0, .string x.f1] 173) := ⟨_, rfl⟩
      have hx1 : W2.heap[bx]? = some (.cells #[.int .i64 x.f0, .string x.f1] 173 (0, 0)) := by rw [hW2, hbx]; exact bg wr _
      have HB2 := aa.mk (show Below w.heap.size w W2 by rw [hW2]; exact HB.out.alloc HB.out.size _)
      have HM2 := aa.mk (show wK W2 bm i.toNat ns by rw [hW2]; exact World.ownsMap.alloc HM.out _)
      have HX := aa.mk hx1
      have q0 : W2.cell? ⟨bx, 0, none⟩ = some (.int .i64 x.f0) := (ae hx1 0).trans rfl
      have q1 : W2.cell? ⟨bx, 1, none⟩ = some (.string x.f1) := (ae hx1 1).trans rfl
      rw [hW2, hbx] at q0 q1
      clear hx hx1 hst HG HM HB
      by_cases h1 : x.f0 ≤ last
      · have hr : false = r := by rw [if_pos (.inl h1)] at hg; exact hg
        subst hr
        have hd1 : decide (x.f0 ≤ last) = true := decide_eq_true h1
        clear hg h1
        go_wp2_with fail
        rw [← hW2]
        go_ret
        exact ⟨rfl, HB2.out⟩
      have hd1 : decide (x.f0 ≤ last) = false := decide_eq_false h1
      by_cases h2 : a1 ≤ x.f0
      · have hr : false = r := by rw [if_pos (.inr (.inl h2))] at hg; exact hg
        subst hr
        have hd2 : decide (a1 ≤ x.f0) = true := decide_eq_true h2
        clear hg h1 h2
        go_wp2_with fail
        rw [← hW2]
        go_ret
        exact ⟨rfl, HB2.out⟩
      have hd2 : decide (a1 ≤ x.f0) = false := decide_eq_false h2
      by_cases h3 : x.f1.toList.isEmpty = true
      · have hr : false = r := by rw [if_pos (.inr (.inr (.inl h3)))] at hg; exact hg
        subst hr
        have hl := List.isEmpty_iff.1 h3
        clear hg h1 h2
        go_wp2_with fail
        rw [← hW2]
        go_ret
        exact ⟨rfl, HB2.out⟩
      have h3f : x.f1.toList.isEmpty = false := Bool.eq_false_iff.2 h3
      have hl : ¬ x.f1.toList = [] := fun h => h3 (List.isEmpty_iff.2 h)
      by_cases h4 : 16 < x.f1.size
      · have hr : false = r := by rw [if_pos (.inr (.inr (.inr (.inl h4))))] at hg; exact hg
        subst hr
        have hd4 : decide ((16 : Int) < (x.f1.size : Int)) = true := decide_eq_true (by omega)
        have hd5 : decide (16 < x.f1.size) = true := decide_eq_true h4
        clear hg h1 h2 h3
        go_wp2_with fail
        rw [← hW2]
        go_ret
        exact ⟨rfl, HB2.out⟩
      have hd4 : decide ((16 : Int) < (x.f1.size : Int)) = false := decide_eq_false (by omega)
      have hd5 : decide (16 < x.f1.size) = false := decide_eq_false h4
      have hlk := tZ HM2.out x.f1 (by omega)
      rw [hW2] at hlk
      by_cases h5 : isIn x.f1 ns = true
      · have hr : false = r := by rw [if_pos (.inr (.inr (.inr (.inr h5))))] at hg; exact hg
        subst hr
        rw [h5] at hlk
        clear hg h1 h2 h3
        go_wp2_with fail
        rw [← hW2]
        go_ret
        exact ⟨rfl, HB2.out⟩
      rw [Bool.eq_false_iff.2 h5] at hlk
      rw [if_neg (by rintro (h | h | h | h | h); exact h1 h; exact h2 h; exact h3 h; exact h4 h; exact h5 h)] at hg
      have HG2 := aa.mk hg
      have HSZ := aa.mk (show x.f1.size ≤ 16 by omega)
      clear hg h1 h2 h3 h4 h5
      go_wp2_with fail
      rw [← hW2, ← hbx]
      rw [← hW2, ← hbx] at q0 q1
      clear hW2 hbx hlk
      go_still_tail 6, (by kernel_rfl)
      change wpList _ _ _ _ _ W2.drew
      go_wp2_with (first | (at_mapUpdate; refine wpList_mapUpdate_own _ rfl _ _ _ 193 rfl 9 4 (Go.Maps.string_keyed Tryz.underlying9) Tryz.underlying193 _ bm i.toNat _ rfl (World.ownsMap.drew HM2.out) (by have := HLN.out; have := HP.out.2; unfold maxLen; omega) _ _ _ rfl rfl (yK x.f1 HSZ.out) _ [] (plainElem_bool Tryz.underlying4 true) ?_; intro w5 hown5 hg5; have HM5 := aa.mk hown5; have HG5 := aa.mk hg5; clear hown5 hg5))
      go_roundg k1
      case measure => omega
      case rel =>
        have hwi : wrap64 (i + 1) = i + 1 := w64 (by have := HP.out; have := HLN.out; omega)
        refine ⟨i + 1, x.f0, x.f1 :: ns, rfl, by first | rw [hwi] | rfl | go_num, ⟨by have := HP.out.1; omega, by have := HI.out.2; omega⟩, ⟨HG2.out⟩, ⟨?_⟩, ⟨?_⟩⟩
        · have e : (i + 1).toNat = i.toNat + 1 := by have := HP.out.1; omega
          rw [e]
          exact HM5.out
        · exact (aQ HB2.out).grown HG5.out (aQ HB2.out).size (fun k hk => by have h := Option.some.inj hk; have := HBM.out; omega)
theorem lF {w : World} {A : Option Addr} {n e : Nat} {d : Kd Int} {xs : List (List Int)} (h : Kd.C (Kd.slice e d) w A n xs) (i : Int) (h0 : 0 ≤ i) (h1 : i < n) : ∃ ad A0 c0, A = some ad ∧ w.cell? (ad.add i.toNat) = some (.slice A0 (xs.getD i.toNat []).length c0) ∧ (xs.getD i.toNat []).length ≤ c0 ∧ d.C w A0 (xs.getD i.toNat []).length (xs.getD i.toNat []) := by
  obtain ⟨hl, _, hc⟩ := h
  obtain ⟨ad, rfl, hcell⟩ := hc (by omega)
  have hi : i.toNat < xs.length := by omega
  obtain ⟨cs, h2, h3, h4⟩ := hcell i.toNat xs[i.toNat] (List.getElem?_eq_getElem hi)
  obtain ⟨A0, c0, rfl, h5, h6⟩ := h3
  have e1 : xs.getD i.toNat [] = xs[i.toNat] := by rw [List.getD_eq_getElem?_getD, List.getElem?_eq_getElem hi]; rfl
  rw [e1]
  have h7 := h4 0 _ rfl
  have e2 : i.toNat * (Kd.slice e d).sz + 0 = i.toNat := by show i.toNat * 1 + 0 = i.toNat; omega
  rw [e2] at h7
  exact ⟨ad, A0, c0, rfl, h7, h5, h6⟩
def dw.j0 : Nat → Int → Bool → Option (Int × (List (S93)) × Int)
 | 0, _, _ => none
 | k + 1, x0, x10 => if x10 = true then (some (0, ([] : List (S93)), 4)) else (if x0 > 0 then (some (x0, (([(⟨0, x0⟩ : S93)] : List (S93))), 0)) else (some (x0, ([] : List (S93)), 0)))
def dw.f (k : Nat) (a0 : Int) : Option (Int × (List (S93)) × Int) := if a0 < 0 then (dw.j0 k a0 true) else (dw.j0 k a0 (decide (a0 > 65536)))
set_option maxHeartbeats 8000000 in
set_option maxRecDepth 100000 in
theorem dw.calls (k : Nat) (a0 : Int) (r1 : Int) (r2 : List (S93)) (r3 : Int) (w : World) (h : dw.f k a0 = some (r1, r2, r3)) :
 Calls Tryz.prog 79 #[.int .i64 a0] w fun e w' => ∃ v1_ : Value, e = .returned (.tuple #[.agg #[.int .i64 r1, v1_], .int .i64 r3]) ∧ Kd.R k93 93 w' w.heap.size (fun _ => True) v1_ r2 ∧ Below w.heap.size w w' := by
 have hu28 := Tryz.underlying28
 have hu93 := Tryz.underlying93
 have HB := aa.mk (Below.refl w.heap.size w)
 have H : (if a0 < 0 then (dw.j0 k a0 true) else (dw.j0 k a0 (decide (a0 > 65536)))) = some (r1, r2, r3) := h
 clear h
 have HC2 := aa.mk H
 clear H
 go_enter Tryz.func79, Tryz.ntmps79
 go_upto_region 1 with (first | ((with_reducible refine bf (N := 2) rfl ?_); refine aY ?hg (N := 2) ?hd (cs := #[.int .i64 0, .slice none 0 0]) (t := 28) ?hr ?_; (case hd => rfl); (case hg => rfl); (case hr => first | (go_simp; done) | (go_simp; rfl)); intro gb101 hg w3 hbox hb; have n0_ := aa.mk (az (by repeat (first | (with_reducible first | exact HB.out | apply ah | apply af | apply ag) | exact HB.out)) hb); have n1_ := aa.mk (hbox); have n2_ := aa.mk ((by rw [hg]; exact (ay (by repeat (first | (with_reducible first | exact HB.out | apply ah | apply af | apply ag) | exact HB.out))) : w.heap.size ≤ gb101)); have n3_ := aa.mk ((by rw [hg]; exact (ay (by repeat (first | (with_reducible first | exact HB.out | apply ah | apply af | apply ag) | exact HB.out))) : w.heap.size ≤ gb101)); clear HB; have HB := n0_; have BK101 := n1_; have GW101 := n2_; have GE101 := n3_; clear n0_ n1_ n2_ n3_; clear hb hbox hg))
 (try simp only [Act.put, List.setIfInBounds_toArray, List.set_cons_zero, List.set_cons_succ])
 go_cut [10] (fun v10 wc => ∃ (kq : Nat) (x10_1 : Bool), v10 = .bool x10_1 ∧ aa (dw.j0 kq a0 x10_1 = some (r1, r2, r3)) ∧ aa (kq ≤ k) ∧ aa (wc.heap[gb101]? = some (.cells #[.int .i64 0, (.slice none 0 0)] 28 (0, 0))) ∧ aa (Below w.heap.size w wc))
 case first =>
  have H := HC2.out
  clear HC2
  by_cases c4 : a0 < 0
  ·rw [if_pos c4] at H
   have c4b0 : decide (a0 < 0) = true := decide_eq_true c4
   clear c4
   (first | rw [c4b0] | (simp only [kE, mf]; rw [c4b0]) | skip)
   have H' := aa.mk H
   clear H
   go_wp2
   go_meet
   case rel => exact ⟨_, (true), (by first | rfl | (simp; done) | (simp [*]; done)), H', ⟨by first | omega | exact Nat.le_refl _⟩, ⟨by (with_reducible repeat (first | refine ak ?_ _ | refine au ?_ | refine aj ?_ _)); exact BK101.out⟩, ⟨by repeat (first | (with_reducible first | exact HB.out | apply ah | apply af | apply ag | refine av ?_ GE101.out) | exact HB.out)⟩⟩
  ·rw [if_neg c4] at H
   have c4b0 : decide (a0 < 0) = false := decide_eq_false c4
   clear c4
   (first | rw [c4b0] | (simp only [kE, mf]; rw [c4b0]) | skip)
   have H' := aa.mk H
   clear H
   go_wp2
   go_meet
   case rel => exact ⟨_, (decide (a0 > 65536)), (by first | rfl | (simp; done) | (simp [*]; done)), H', ⟨by first | omega | exact Nat.le_refl _⟩, ⟨by (with_reducible repeat (first | refine ak ?_ _ | refine au ?_ | refine aj ?_ _)); exact BK101.out⟩, ⟨by repeat (first | (with_reducible first | exact HB.out | apply ah | apply af | apply ag | refine av ?_ GE101.out) | exact HB.out)⟩⟩
 case rest =>
  clear HC2
  try clear p2
  try clear c4
  try clear c4b0
  obtain ⟨kq, x10_1, rfl, HA, HJ1, BK101, HB⟩ := hcut
  cases kq with
  | zero => exact absurd HA.out (by simp [dw.j0])
  | succ kj1 =>
   have H := HA.out
   clear HA
   simp only [dw.j0] at H
   by_cases c5 : x10_1 = true
   ·subst c5
    have H1 : (some (0, ([] : List (S93)), 4)) = some (r1, r2, r3) := by rw [if_pos rfl] at H; exact H
    clear H
    have H := H1
    clear H1
    simp only [Option.some.injEq, Prod.mk.injEq] at H
    obtain ⟨rfl, rfl, rfl⟩ := H
    have hcz6_0 : wc.cell? ⟨gb101, 0, none⟩ = some (.int .i64 0) := (ae BK101.out 0).trans rfl
    have hcz6_1 : wc.cell? ⟨gb101, 1, none⟩ = some (.slice none 0 0) := (ae BK101.out 1).trans rfl
    have hfz6_0 := ai BK101.out 0
    have hfz6_1 := ai BK101.out 1
    go_wp2
    refine bodyPost_ret (bJ rfl _ _ gb101 28 #[.int .i64 0, .slice none 0 0] (0, 0) _ rfl (by (with_reducible repeat (first | refine ak ?_ _ | refine au ?_ | refine aj ?_ _)); refine aW (cs := #[.int .i64 0, .slice none 0 0]) ?_ 1 _ rfl; (with_reducible repeat (first | refine ak ?_ _ | refine au ?_ | refine aj ?_ _)); refine aW (cs := #[.int .i64 0, .slice none 0 0]) ?_ 0 _ rfl; (with_reducible repeat (first | refine ak ?_ _ | refine au ?_ | refine aj ?_ _)); exact BK101.out) Tryz.underlying28 rfl (by kernel_rfl)) rfl ?_
    exact ⟨_, by first | rfl | (simp [aD, aC] <;> rfl) | (simp [*, aD, aC] <;> rfl), by first | exact Kd.bW _ _ _ _ _ | exact Kd.N_nil _ _ _ _ _ | exact Kd.V_nil _ _ _ _ _ | exact Kd.Q_nil _ _ _ _ _ | exact Kd.jv _ _ _ _ _, by repeat (first | (with_reducible first | exact HB.out | apply ah | apply af | apply ag | refine av ?_ GE101.out) | exact HB.out)⟩
   ·replace c5 := Bool.eq_false_iff.mpr c5
    subst c5
    have H1 : (if a0 > 0 then (some (a0, (([(⟨0, a0⟩ : S93)] : List (S93))), 0)) else (some (a0, ([] : List (S93)), 0))) = some (r1, r2, r3) := by rw [if_neg (show ¬ (false = true) by decide)] at H; exact H
    clear H
    have H := H1
    clear H1
    by_cases c7 : a0 > 0
    ·rw [if_pos c7] at H
     have c7b0 : decide (0 < a0) = true := decide_eq_true c7
     clear c7
     obtain ⟨y103, hy103⟩ : ∃ y_ : List (S93), y_ = (([(⟨0, a0⟩ : S93)] : List (S93))) := ⟨_, rfl⟩
     replace H : (some (a0, y103, 0)) = some (r1, r2, r3) := by first | (rw [hy103]; with_reducible exact H) | (have H2_ := (Option.bind_some _ _).symm.trans H; rw [hy103]; with_reducible exact H2_) | (have H2_ := (Option.bind_some _ _).symm.trans H; with_reducible exact H2_) | with_reducible exact H | (rw [hy103]; exact H) | exact H
     have Ny103 := aa.mk hy103
     clear hy103
     simp only [Option.some.injEq, Prod.mk.injEq] at H
     obtain ⟨rfl, rfl, rfl⟩ := H
     go_wp2_with (first | ((with_reducible refine bf (N := 4) rfl ?_); refine aY ?hg (N := 4) ?hd (cs := #[.int .i64 0, .slice none 0 0]) (t := 28) ?hr ?_; (case hd => rfl); (case hg => rfl); (case hr => first | (go_simp; done) | (go_simp; rfl)); intro gb102 hg w8 hbox hb; have n0_ := aa.mk (aK (g := gb101) (o := .cells #[.int .i64 0, .slice none 0 0] 28 (0, 0)) (by (with_reducible repeat (first | refine ak ?_ _ | refine au ?_ | refine aj ?_ _)); exact BK101.out) hb); have n1_ := aa.mk (az (by repeat (first | (with_reducible first | exact HB.out | apply ah | apply af | apply ag | refine av ?_ GE101.out) | exact HB.out)) hb); have n2_ := aa.mk (hbox); have n3_ := aa.mk ((by rw [hg]; exact (ay (by repeat (first | (with_reducible first | exact HB.out | apply ah | apply af | apply ag | refine av ?_ GE101.out) | exact HB.out))) : w.heap.size ≤ gb102)); have n4_ := aa.mk ((by rw [hg]; exact (ay (by repeat (first | (with_reducible first | exact HB.out | apply ah | apply af | apply ag | refine av ?_ GE101.out) | exact HB.out))) : w.heap.size ≤ gb102)); have n5_ := aa.mk ((by rw [hg]; exact Nat.ne_of_lt (aA (g := gb101) (o := .cells #[.int .i64 0, .slice none 0 0] 28 (0, 0)) (by (with_reducible repeat (first | refine ak ?_ _ | refine au ?_ | refine aj ?_ _)); exact BK101.out)) : gb101 ≠ gb102)); have n6_ := aa.mk ((by rw [hg]; exact Nat.ne_of_gt (aA (g := gb101) (o := .cells #[.int .i64 0, .slice none 0 0] 28 (0, 0)) (by (with_reducible repeat (first | refine ak ?_ _ | refine au ?_ | refine aj ?_ _)); exact BK101.out)) : gb102 ≠ gb101)); clear BK101; clear HB; have BK101 := n0_; have HB := n1_; have BK102 := n2_; have GW102 := n3_; have GE102 := n4_; have NB101_102 := n5_; have NB102_101 := n6_; clear n0_ n1_ n2_ n3_ n4_ n5_ n6_; clear hb hbox hg; have hnb9 := NB102_101.out; have hnc9 := NB101_102.out; have hcz10_0 : w8.cell? ⟨gb102, 0, none⟩ = some (.int .i64 0) := (ae BK102.out 0).trans rfl; have hcz10_1 : w8.cell? ⟨gb102, 1, none⟩ = some (.slice none 0 0) := (ae BK102.out 1).trans rfl; have hfz10_0 := ai BK102.out 0; have hfz10_1 := ai BK102.out 1) | ((with_reducible refine bf (N := 18) rfl ?_); refine Kd.xu k93 _ 93 ?hg (N := 18) ?hd (xs := ([(⟨0, a0⟩ : S93)] : List (S93))) (inner := [.int .i64 0, .int .i64 a0]) (ok := fun _ => True) (okp := fun _ => True) ?hr ?hp (fun _ hk => hk) trivial (Below.refl _ _) (Nat.le_refl _) (by simp) ?_; (case hd => rfl); (case hg => rfl); (case hr => first | (go_simp; done) | (go_simp; rfl)); (case hp => exact (Reps.c2 (show Kd.M k93 _ _ _ (⟨0, a0⟩ : S93) [.int .i64 0, .int .i64 a0] from (ik _ _ _ (⟨0, a0⟩ : S93) )) (Reps.none _ _))); intro v104 w11 ho12 hb hg_ hnew_; clear hg_ hnew_; (first | rw [← Ny103.out] at ho12 | (simp only [Int.reduceToNat] at ho12; rw [← Ny103.out] at ho12)); have n0_ := aa.mk (Kd.bH ho12 (ay (by repeat (first | (with_reducible first | exact HB.out | apply ah | apply af | apply ag | refine av ?_ GE101.out | refine av ?_ GE102.out) | exact HB.out)))); have n1_ := aa.mk (aK (g := gb101) (o := .cells #[.int .i64 0, .slice none 0 0] 28 (0, 0)) (by (with_reducible repeat (first | refine ak ?_ _ | refine au ?_ | refine aj ?_ _)); refine bX ?_ NB101_102.out _; (with_reducible repeat (first | refine ak ?_ _ | refine au ?_ | refine aj ?_ _)); refine bX ?_ NB101_102.out _; (with_reducible repeat (first | refine ak ?_ _ | refine au ?_ | refine aj ?_ _)); exact BK101.out) hb); have n2_ := aa.mk (aK (g := gb102) (o := .cells #[.int .i64 a0, .slice none 0 0] 28 (0, 0)) (by (with_reducible repeat (first | refine ak ?_ _ | refine au ?_ | refine aj ?_ _)); refine aW (cs := #[.int .i64 a0, .slice none 0 0]) ?_ 1 _ rfl; (with_reducible repeat (first | refine ak ?_ _ | refine au ?_ | refine aj ?_ _)); refine aW (cs := #[.int .i64 0, .slice none 0 0]) ?_ 0 _ rfl; (with_reducible repeat (first | refine ak ?_ _ | refine au ?_ | refine aj ?_ _)); exact BK102.out) hb); have n3_ := aa.mk (az (by repeat (first | (with_reducible first | exact HB.out | apply ah | apply af | apply ag | refine av ?_ GE101.out | refine av ?_ GE102.out) | exact HB.out)) hb); clear BK101; clear BK102; clear HB; have HO105 := n0_; have BK101 := n1_; have BK102 := n2_; have HB := n3_; clear n0_ n1_ n2_ n3_; clear hb ho12; obtain ⟨Ao13, co13, eo13⟩ := Kd.aZ HO105.out; subst eo13; have hcz14_0 : w11.cell? ⟨gb102, 0, none⟩ = some (.int .i64 a0) := (ae BK102.out 0).trans rfl; have hcz14_1 : w11.cell? ⟨gb102, 1, none⟩ = some (.slice none 0 0) := (ae BK102.out 1).trans rfl; have hfz14_0 := ai BK102.out 0; have hfz14_1 := ai BK102.out 1; have hcz15_0 : w11.cell? ⟨gb101, 0, none⟩ = some (.int .i64 0) := (ae BK101.out 0).trans rfl; have hcz15_1 : w11.cell? ⟨gb101, 1, none⟩ = some (.slice none 0 0) := (ae BK101.out 1).trans rfl; have hfz15_0 := ai BK101.out 0; have hfz15_1 := ai BK101.out 1))
     refine bodyPost_ret (bJ rfl _ _ gb101 28 #[.int .i64 a0, .slice Ao13 y103.length co13] (0, 0) _ rfl (by (with_reducible repeat (first | refine ak ?_ _ | refine au ?_ | refine aj ?_ _)); refine aW (cs := #[.int .i64 a0, .slice none 0 0]) ?_ 1 _ rfl; (with_reducible repeat (first | refine ak ?_ _ | refine au ?_ | refine aj ?_ _)); refine aW (cs := #[.int .i64 0, .slice none 0 0]) ?_ 0 _ rfl; (with_reducible repeat (first | refine ak ?_ _ | refine au ?_ | refine aj ?_ _)); refine bX ?_ NB101_102.out _; (with_reducible repeat (first | refine ak ?_ _ | refine au ?_ | refine aj ?_ _)); exact BK101.out) Tryz.underlying28 rfl (by kernel_rfl)) rfl ?_
     exact ⟨_, by first | rfl | (simp [aD, aC] <;> rfl) | (simp [*, aD, aC] <;> rfl), by (with_reducible repeat (first | apply Kd.bQ | apply Kd.bT | apply Kd.dC)); exact Kd.aX (Kd.dE (p := ⟨gb101, 1, none⟩) (Kd.dE (p := ⟨gb101, 0, none⟩) (Kd.dE (p := ⟨gb102, 1, none⟩) (Kd.iE (Kd.iE HO105.out BK102.out (by decide)) BK101.out (by decide)) (fun _ hk => hk.1.2) (.slice Ao13 y103.length co13)) (fun _ hk => hk.2) (.int .i64 a0)) (fun _ hk => hk.2) (.slice Ao13 y103.length co13)) (fun _ hk => trivial), by repeat (first | (with_reducible first | exact HB.out | apply ah | apply af | apply ag | refine av ?_ GE101.out | refine av ?_ GE102.out) | exact HB.out)⟩
    ·rw [if_neg c7] at H
     have c7b0 : decide (0 < a0) = false := decide_eq_false c7
     clear c7
     simp only [Option.some.injEq, Prod.mk.injEq] at H
     obtain ⟨rfl, rfl, rfl⟩ := H
     go_wp2_with (first | ((with_reducible refine bf (N := 4) rfl ?_); refine aY ?hg (N := 4) ?hd (cs := #[.int .i64 0, .slice none 0 0]) (t := 28) ?hr ?_; (case hd => rfl); (case hg => rfl); (case hr => first | (go_simp; done) | (go_simp; rfl)); intro gb102 hg w16 hbox hb; have n0_ := aa.mk (aK (g := gb101) (o := .cells #[.int .i64 0, .slice none 0 0] 28 (0, 0)) (by (with_reducible repeat (first | refine ak ?_ _ | refine au ?_ | refine aj ?_ _)); exact BK101.out) hb); have n1_ := aa.mk (az (by repeat (first | (with_reducible first | exact HB.out | apply ah | apply af | apply ag | refine av ?_ GE101.out) | exact HB.out)) hb); have n2_ := aa.mk (hbox); have n3_ := aa.mk ((by rw [hg]; exact (ay (by repeat (first | (with_reducible first | exact HB.out | apply ah | apply af | apply ag | refine av ?_ GE101.out) | exact HB.out))) : w.heap.size ≤ gb102)); have n4_ := aa.mk ((by rw [hg]; exact (ay (by repeat (first | (with_reducible first | exact HB.out | apply ah | apply af | apply ag | refine av ?_ GE101.out) | exact HB.out))) : w.heap.size ≤ gb102)); have n5_ := aa.mk ((by rw [hg]; exact Nat.ne_of_lt (aA (g := gb101) (o := .cells #[.int .i64 0, .slice none 0 0] 28 (0, 0)) (by (with_reducible repeat (first | refine ak ?_ _ | refine au ?_ | refine aj ?_ _)); exact BK101.out)) : gb101 ≠ gb102)); have n6_ := aa.mk ((by rw [hg]; exact Nat.ne_of_gt (aA (g := gb101) (o := .cells #[.int .i64 0, .slice none 0 0] 28 (0, 0)) (by (with_reducible repeat (first | refine ak ?_ _ | refine au ?_ | refine aj ?_ _)); exact BK101.out)) : gb102 ≠ gb101)); clear BK101; clear HB; have BK101 := n0_; have HB := n1_; have BK102 := n2_; have GW102 := n3_; have GE102 := n4_; have NB101_102 := n5_; have NB102_101 := n6_; clear n0_ n1_ n2_ n3_ n4_ n5_ n6_; clear hb hbox hg; have hnb17 := NB102_101.out; have hnc17 := NB101_102.out; have hcz18_0 : w16.cell? ⟨gb102, 0, none⟩ = some (.int .i64 0) := (ae BK102.out 0).trans rfl; have hcz18_1 : w16.cell? ⟨gb102, 1, none⟩ = some (.slice none 0 0) := (ae BK102.out 1).trans rfl; have hfz18_0 := ai BK102.out 0; have hfz18_1 := ai BK102.out 1; have hcz19_0 : w16.cell? ⟨gb101, 0, none⟩ = some (.int .i64 0) := (ae BK101.out 0).trans rfl; have hcz19_1 : w16.cell? ⟨gb101, 1, none⟩ = some (.slice none 0 0) := (ae BK101.out 1).trans rfl; have hfz19_0 := ai BK101.out 0; have hfz19_1 := ai BK101.out 1))
     refine bodyPost_ret (bJ rfl _ _ gb101 28 #[.int .i64 a0, .slice none 0 0] (0, 0) _ rfl (by (with_reducible repeat (first | refine ak ?_ _ | refine au ?_ | refine aj ?_ _)); refine aW (cs := #[.int .i64 a0, .slice none 0 0]) ?_ 1 _ rfl; (with_reducible repeat (first | refine ak ?_ _ | refine au ?_ | refine aj ?_ _)); refine aW (cs := #[.int .i64 0, .slice none 0 0]) ?_ 0 _ rfl; (with_reducible repeat (first | refine ak ?_ _ | refine au ?_ | refine aj ?_ _)); refine bX ?_ NB101_102.out _; (with_reducible repeat (first | refine ak ?_ _ | refine au ?_ | refine aj ?_ _)); refine bX ?_ NB101_102.out _; (with_reducible repeat (first | refine ak ?_ _ | refine au ?_ | refine aj ?_ _)); exact BK101.out) Tryz.underlying28 rfl (by kernel_rfl)) rfl ?_
     exact ⟨_, by first | rfl | (simp [aD, aC] <;> rfl) | (simp [*, aD, aC] <;> rfl), by first | exact Kd.bW _ _ _ _ _ | exact Kd.N_nil _ _ _ _ _ | exact Kd.V_nil _ _ _ _ _ | exact Kd.Q_nil _ _ _ _ _ | exact Kd.jv _ _ _ _ _, by repeat (first | (with_reducible first | exact HB.out | apply ah | apply af | apply ag | refine av ?_ GE101.out | refine av ?_ GE102.out) | exact HB.out)⟩
end Go.Proofs.YtjeeejoelmmfmaaGreat.Fn
namespace Go.Proofs.YtjeeejoelmmfmaaGreat.Fn
open Go.RowKit Go.Proofs.YtjeeejoelmmfmaaGreatW.PrintWords Go.Proofs.YtjeeejoelmmfmaaGreatW.PrintLast Go.Proofs.YtjeeejoelmmfmaaGreatW.PrintMore
attribute [local go_sem] fw eu fU fZ dY dX fu fe
set_option linter.unusedVariables false
set_option linter.unusedSimpArgs false
attribute [local go_sem high] eqA93
def cZ.l0 : Nat → List (S93) → List (S93) → Int → Int → Option (Bool)
 | 0, _, _, _, _ => none
 | k + 1, x0, x1, x12, x13 => if x13 < x12 then (if 0 ≤ x13 then (if x13 < (x0.length : Int) then (if x13 < (x1.length : Int) then (if (!(((aU x0 x13).f0) == ((aU x1 x13).f0)) || (!(((aU x0 x13).f1) == ((aU x1 x13).f1)))) = true then (some false) else (cZ.l0 k x0 x1 x12 (wrap64 (x13 + 1)))) else (none)) else (none)) else (none)) else (some true)
def cZ.f (k : Nat) (l0 : List (S93)) (l1 : List (S93)) : Option (Bool) := if (l0.length : Int) = (l1.length : Int) then (cZ.l0 k l0 l1 (l0.length : Int) 0) else (some false)
set_option maxHeartbeats 8000000 in
set_option maxRecDepth 100000 in
theorem cZ.calls (k : Nat) (A0 : Option Addr) (c0 : Nat) (l0 : List (S93)) (A1 : Option Addr) (c1 : Nat) (l1 : List (S93)) (r : Bool) (w : World) (hr0 : Kd.C k93 w A0 l0.length l0) (hc0 : l0.length ≤ c0) (hr1 : Kd.C k93 w A1 l1.length l1) (hc1 : l1.length ≤ c1) (h : cZ.f k l0 l1 = some r) :
 Calls Tryz.prog 90 #[.slice A0 l0.length c0, .slice A1 l1.length c1] w fun e w' => e = .returned (.bool r) ∧ bI w w' := by
 have hu93 := Tryz.underlying93
 have HR0 := aa.mk hr0
 have HC0 := aa.mk hc0
 clear hr0 hc0
 have HR1 := aa.mk hr1
 have HC1 := aa.mk hc1
 clear hr1 hc1
 have H : (if (l0.length : Int) = (l1.length : Int) then (cZ.l0 k l0 l1 (l0.length : Int) 0) else (some false)) = some r := h
 clear h
 by_cases c3 : (l0.length : Int) = (l1.length : Int)
 ·rw [if_pos c3] at H
  have c3b0 : ((l0.length : Int) == (l1.length : Int)) = true := beq_iff_eq.mpr c3
  have c3b1 : ((l0.length : Int) != (l1.length : Int)) = false := bne_eq_false_iff_eq.mpr c3
  have c3b2 : (l0.length == l1.length) = true := by first | simpa using c3 | (simp at c3 ⊢; omega)
  clear c3
  have H' := aa.mk H
  clear H
  go_enter Tryz.func90, Tryz.ntmps90
  go_wp2
  repeat (go_quiet (fail); try go_wp2)
  go_loopg [13] k (fun kq v13 w' => ∃ (x13_1 : Int), v13 = .int .i64 x13_1 ∧ aa (cZ.l0 kq l0 l1 (l0.length : Int) x13_1 = some r) ∧ aa (kq ≤ k) ∧ bI w w')
  case atStart => exact ⟨(0), (by first | rfl | (simp; done) | (simp [*]; done)), H', ⟨Nat.le_refl _⟩, by repeat (first | exact bI.refl _ | apply bI.step)⟩
  case round =>
   clear H'
   try clear c1
   try clear p2
   try clear c3
   try clear c3b0
   try clear c3b1
   try clear c3b2
   obtain ⟨x13_1, rfl, HA, HK1, ⟨m1, rfl⟩⟩ := hrel
   cases gk with
   | zero => exact absurd HA.out (by simp [cZ.l0])
   | succ k1 =>
    have H := HA.out
    clear HA
    simp only [cZ.l0] at H
    by_cases c4 : x13_1 < (l0.length : Int)
    ·rw [if_pos c4] at H
     have c4b0 : decide (x13_1 < (l0.length : Int)) = true := decide_eq_true c4
     clear c4
     by_cases c5 : 0 ≤ x13_1
     ·rw [if_pos c5] at H
      have c5b0 : decide (0 ≤ x13_1) = true := decide_eq_true c5
      clear c5
      by_cases c6 : x13_1 < (l0.length : Int)
      ·rw [if_pos c6] at H
       have c6b0 : decide (x13_1 < (l0.length : Int)) = true := decide_eq_true c6
       clear c6
       by_cases c7 : x13_1 < (l1.length : Int)
       ·rw [if_pos c7] at H
        have c7b0 : decide (x13_1 < (l1.length : Int)) = true := decide_eq_true c7
        clear c7
        by_cases c8 : (!(((aU l0 x13_1).f0) == ((aU l1 x13_1).f0)) || (!(((aU l0 x13_1).f1) == ((aU l1 x13_1).f1)))) = true
        ·rw [if_pos c8] at H
         have c8b0 : (!(((aU l0 x13_1).f0) == ((aU l1 x13_1).f0)) || (!(((aU l0 x13_1).f1) == ((aU l1 x13_1).f1)))) = true := c8
         clear c8
         obtain rfl := Option.some.inj H
         have p101 : 0 ≤ (x13_1 : Int) := of_decide_eq_true (by first | (with_reducible assumption) | assumption)
         have q101 : x13_1 < (l0.length : Int) := of_decide_eq_true (by first | (with_reducible assumption) | assumption)
         obtain ⟨ad101, e101, hx101_0, hx101_1⟩ := fQ HR0.out x13_1 p101 q101
         cases e101
         replace p101 := eq_true p101
         replace q101 := eq_true q101
         have p102 : 0 ≤ (x13_1 : Int) := of_decide_eq_true (by first | (with_reducible assumption) | assumption)
         have q102 : x13_1 < (l1.length : Int) := of_decide_eq_true (by first | (with_reducible assumption) | assumption)
         obtain ⟨ad102, e102, hx102_0, hx102_1⟩ := fQ HR1.out x13_1 p102 q102
         cases e102
         replace p102 := eq_true p102
         replace q102 := eq_true q102
         go_wp2
         repeat (go_quiet (fail); try go_wp2)
         go_ret
         exact ⟨by first | rfl | (simp; done) | (simp [*]; done), by repeat (first | exact bI.refl _ | apply bI.step)⟩
        ·rw [if_neg c8] at H
         have c8b0 : (!(((aU l0 x13_1).f0) == ((aU l1 x13_1).f0)) || (!(((aU l0 x13_1).f1) == ((aU l1 x13_1).f1)))) = false := by simpa using c8
         clear c8
         have H' := aa.mk H
         clear H
         have p101 : 0 ≤ (x13_1 : Int) := of_decide_eq_true (by first | (with_reducible assumption) | assumption)
         have q101 : x13_1 < (l0.length : Int) := of_decide_eq_true (by first | (with_reducible assumption) | assumption)
         obtain ⟨ad101, e101, hx101_0, hx101_1⟩ := fQ HR0.out x13_1 p101 q101
         cases e101
         replace p101 := eq_true p101
         replace q101 := eq_true q101
         have p102 : 0 ≤ (x13_1 : Int) := of_decide_eq_true (by first | (with_reducible assumption) | assumption)
         have q102 : x13_1 < (l1.length : Int) := of_decide_eq_true (by first | (with_reducible assumption) | assumption)
         obtain ⟨ad102, e102, hx102_0, hx102_1⟩ := fQ HR1.out x13_1 p102 q102
         cases e102
         replace p102 := eq_true p102
         replace q102 := eq_true q102
         go_wp2
         repeat (go_quiet (fail); try go_wp2)
         go_roundg k1
         case measure => have := HK1.out; omega
         case rel => exact ⟨(wrap64 (x13_1 + 1)), (by first | rfl | (simp; done) | (simp [*]; done)), H', ⟨by have := HK1.out; omega⟩, by repeat (first | exact bI.refl _ | apply bI.step)⟩
       ·rw [if_neg c7] at H
        exact absurd H (by simp)
      ·rw [if_neg c6] at H
       exact absurd H (by simp)
     ·rw [if_neg c5] at H
      exact absurd H (by simp)
    ·rw [if_neg c4] at H
     have c4b0 : decide (x13_1 < (l0.length : Int)) = false := decide_eq_false c4
     clear c4
     obtain rfl := Option.some.inj H
     go_wp2
     repeat (go_quiet (fail); try go_wp2)
     go_ret
     exact ⟨by first | rfl | (simp; done) | (simp [*]; done), by repeat (first | exact bI.refl _ | apply bI.step)⟩
 ·rw [if_neg c3] at H
  have c3b0 : ((l0.length : Int) == (l1.length : Int)) = false := beq_eq_false_iff_ne.mpr c3
  have c3b1 : ((l0.length : Int) != (l1.length : Int)) = true := bne_iff_ne.mpr c3
  have c3b2 : (l0.length == l1.length) = false := by first | simpa using c3 | (simp at c3 ⊢; omega)
  obtain rfl := Option.some.inj H
  go_enter Tryz.func90, Tryz.ntmps90
  go_wp2
  repeat (go_quiet (fail); try go_wp2)
  go_ret
  exact ⟨by first | rfl | (simp; done) | (simp [*]; done), by repeat (first | exact bI.refl _ | apply bI.step)⟩
end Go.Proofs.YtjeeejoelmmfmaaGreat.Fn
namespace Go.Proofs.YtjeeejoelmmfmaaGreat.Fn
open Go.RowKit Go.Proofs.YtjeeejoelmmfmaaGreatW.PrintWords Go.Proofs.YtjeeejoelmmfmaaGreatW.PrintLast Go.Proofs.YtjeeejoelmmfmaaGreatW.PrintMore
attribute [local go_sem] fw eu fU fZ dY dX fu fe
set_option linter.unusedVariables false
set_option linter.unusedSimpArgs false
namespace Flag
def rC (l : List Ex) (i : Int) : Prop := ∃ v, fP l v = some i
theorem mQ {l : List Ex} (h : NF l) (hp : ∀ y ∈ l, 0 ≤ y.p) {i : Int} : rC l i ↔ ∃ y ∈ l, y.p ≤ i ∧ i < y.p + y.n := by
  constructor
  · rintro ⟨v, hv⟩
    obtain ⟨y, hy, h1, h2, h3⟩ := gu hv
    have := hp y hy
    unfold kX at h3
    rw [if_neg (by omega)] at h3
    exact ⟨y, hy, by omega, by omega⟩
  · rintro ⟨y, hy, h1, h2⟩
    refine ⟨y.v + (i - y.p), ?_⟩
    rw [o_ h hy (by omega) (by omega)]
    have := hp y hy
    unfold kX
    rw [if_neg (by omega)]
    congr 1; omega
theorem uK {m : List Mp} (h : tF m) {i : Int} : 0 < cnt (qo m) i ↔ ∃ x ∈ m, rC x.l i := by
  rw [tX]
  constructor
  · rintro ⟨r, hr, hc⟩
    obtain ⟨x, hx, y, hy, rfl⟩ := jb.1 hr
    have hm := (h.each x hx).2.2
    exact ⟨x, hx, (mQ hm.nf fun y hy => (hm.ok y hy).2.2.2.1).2 ⟨y, hy, hc.1, hc.2⟩⟩
  · rintro ⟨x, hx, hu⟩
    have hm := (h.each x hx).2.2
    obtain ⟨y, hy, h1, h2⟩ := (mQ hm.nf fun y hy => (hm.ok y hy).2.2.2.1).1 hu
    exact ⟨_, jb.2 ⟨x, hx, y, hy, rfl⟩, h1, h2⟩
theorem zt {x : Ex} {p : List Ex} (h : NF (p ++ [x])) : ∀ y ∈ p ++ [x], y.v + y.n ≤ x.v + x.n := by
  induction p with
  | nil =>
    intro y hy
    have : y = x := by simpa using hy
    rw [this]; exact Int.le_refl _
  | cons z p ih =>
    intro y hy
    rcases List.mem_cons.1 hy with rfl | hy
    · have h1 := h.after x (by simp)
      have h2 : 0 < x.n := h.all x (by simp)
      omega
    · exact ih h.tail y hy
end Flag
namespace Flag
end Flag
def bY.l0 : Nat → Int → Int → List (S93) → Int → Int → Option (Int × Int × Int)
 | 0, _, _, _, _, _ => none
 | k + 1, x2, x3, x14, x15, x16 => if x16 < x15 then (if 0 ≤ x16 then (if x16 < (x14.length : Int) then (bY.l0 k (wrap64 (x2 + ((aU x14 x16).f1))) (mx x3 ((aU x14 x16).f1)) x14 x15 (wrap64 (x16 + 1))) else (none)) else (none)) else (some (x2, x3, 0))
def bY.f (k : Nat) (a0_0 : Int) (l0_1 : List (S93)) : Option (Int × Int × Int) := (aH.f k a0_0 l0_1).bind fun t102 => (if t102 = 0 then (bY.l0 k 0 0 l0_1 (l0_1.length : Int) 0) else (some (0, 0, t102)))
set_option maxHeartbeats 8000000 in
set_option maxRecDepth 100000 in
theorem bY.calls (k : Nat) (a0_0 : Int) (A0_1 : Option Addr) (c0_1 : Nat) (l0_1 : List (S93)) (r1 : Int) (r2 : Int) (r3 : Int) (w : World) (hr0_1 : Kd.C k93 w A0_1 l0_1.length l0_1) (hc0_1 : l0_1.length ≤ c0_1) (h : bY.f k a0_0 l0_1 = some (r1, r2, r3)) :
 Calls Tryz.prog 25 #[.agg #[.int .i64 a0_0, .slice A0_1 l0_1.length c0_1]] w fun e w' => e = .returned (.tuple #[.int .i64 r1, .int .i64 r2, .int .i64 r3]) ∧ Below w.heap.size w w' := by
 have hu28 := Tryz.underlying28
 have hu93 := Tryz.underlying93
 have HR0_1 := aa.mk hr0_1
 have HC0_1 := aa.mk hc0_1
 clear hr0_1 hc0_1
 have HB := aa.mk (Below.refl w.heap.size w)
 have H : ((aH.f k a0_0 l0_1).bind fun t102 => (if t102 = 0 then (bY.l0 k 0 0 l0_1 (l0_1.length : Int) 0) else (some (0, 0, t102)))) = some (r1, r2, r3) := h
 clear h
 replace H := Option.bind_eq_some_iff.mp H
 obtain ⟨t102, A20, H⟩ := H
 replace H : (if t102 = 0 then (bY.l0 k 0 0 l0_1 (l0_1.length : Int) 0) else (some (0, 0, t102))) = some (r1, r2, r3) := H
 have A2 := aa.mk A20
 clear A20
 by_cases c3 : t102 = 0
 ·rw [if_pos c3] at H
  have c3b0 : (t102 == 0) = true := beq_iff_eq.mpr c3
  have c3b1 : (t102 != 0) = false := bne_eq_false_iff_eq.mpr c3
  clear c3
  have H' := aa.mk H
  clear H
  go_enter Tryz.func25, Tryz.ntmps25
  go_wp2_with (first | ((with_reducible refine bf (N := 1) rfl ?_); refine aY ?hg (N := 1) ?hd (cs := #[.int .i64 a0_0, .slice A0_1 l0_1.length c0_1]) (t := 28) ?hr ?_; (case hd => rfl); (case hg => rfl); (case hr => first | (go_simp; done) | (go_simp; rfl)); intro gb101 hg w4 hbox hb; have n0_ := aa.mk (az (by repeat (first | (with_reducible first | exact HB.out | apply ah | apply af | apply ag) | exact HB.out)) hb); have n1_ := aa.mk (hbox); have n2_ := aa.mk ((by rw [hg]; exact (ay (by repeat (first | (with_reducible first | exact HB.out | apply ah | apply af | apply ag) | exact HB.out))) : w.heap.size ≤ gb101)); have n3_ := aa.mk ((by rw [hg]; exact (ay (by repeat (first | (with_reducible first | exact HB.out | apply ah | apply af | apply ag) | exact HB.out))) : w.heap.size ≤ gb101)); clear HB; have HB := n0_; have BK101 := n1_; have GW101 := n2_; have GE101 := n3_; clear n0_ n1_ n2_ n3_; clear hb hbox hg; have hcz5_0 : w4.cell? ⟨gb101, 0, none⟩ = some (.int .i64 a0_0) := (ae BK101.out 0).trans rfl; have hcz5_1 : w4.cell? ⟨gb101, 1, none⟩ = some (.slice A0_1 l0_1.length c0_1) := (ae BK101.out 1).trans rfl; have hfz5_0 := ai BK101.out 0; have hfz5_1 := ai BK101.out 1) | (go_at_call 60; (with_reducible refine (aH.calls k a0_0 _ _ l0_1 t102 _ ?side1 ?side2 A2.out).mono ?_); (case side1 => repeat (first | exact (Kd.aN HR0_1.out HB.out) | (with_reducible refine Kd.dA ?_ _) | (with_reducible refine Kd.C_drewN ?_ _) | (with_reducible refine Kd.C_drew ?_))); (case side2 => exact HC0_1.out); rintro e w6 ⟨rfl, hb⟩; have n0_ := aa.mk (aK (g := gb101) (o := .cells #[.int .i64 a0_0, .slice A0_1 l0_1.length c0_1] 28 (0, 0)) (by (with_reducible repeat (first | refine ak ?_ _ | refine au ?_ | refine aj ?_ _)); exact BK101.out) hb); have n1_ := aa.mk (az (by repeat (first | (with_reducible first | exact HB.out | apply ah | apply af | apply ag | refine av ?_ GE101.out) | exact HB.out)) hb); clear BK101; clear HB; have BK101 := n0_; have HB := n1_; clear n0_ n1_; (try clear hb); (try clear hb2); (try clear hk); (try clear hi); have hcz7_0 : w6.cell? ⟨gb101, 0, none⟩ = some (.int .i64 a0_0) := (ae BK101.out 0).trans rfl; have hcz7_1 : w6.cell? ⟨gb101, 1, none⟩ = some (.slice A0_1 l0_1.length c0_1) := (ae BK101.out 1).trans rfl; have hfz7_0 := ai BK101.out 0; have hfz7_1 := ai BK101.out 1))
  repeat (go_quiet (first | ((with_reducible refine bf (N := 1) rfl ?_); refine aY ?hg (N := 1) ?hd (cs := #[.int .i64 a0_0, .slice A0_1 l0_1.length c0_1]) (t := 28) ?hr ?_; (case hd => rfl); (case hg => rfl); (case hr => first | (go_simp; done) | (go_simp; rfl)); intro gb101 hg w4 hbox hb; have n0_ := aa.mk (az (by repeat (first | (with_reducible first | exact HB.out | apply ah | apply af | apply ag) | exact HB.out)) hb); have n1_ := aa.mk (hbox); have n2_ := aa.mk ((by rw [hg]; exact (ay (by repeat (first | (with_reducible first | exact HB.out | apply ah | apply af | apply ag) | exact HB.out))) : w.heap.size ≤ gb101)); have n3_ := aa.mk ((by rw [hg]; exact (ay (by repeat (first | (with_reducible first | exact HB.out | apply ah | apply af | apply ag) | exact HB.out))) : w.heap.size ≤ gb101)); clear HB; have HB := n0_; have BK101 := n1_; have GW101 := n2_; have GE101 := n3_; clear n0_ n1_ n2_ n3_; clear hb hbox hg; have hcz5_0 : w4.cell? ⟨gb101, 0, none⟩ = some (.int .i64 a0_0) := (ae BK101.out 0).trans rfl; have hcz5_1 : w4.cell? ⟨gb101, 1, none⟩ = some (.slice A0_1 l0_1.length c0_1) := (ae BK101.out 1).trans rfl; have hfz5_0 := ai BK101.out 0; have hfz5_1 := ai BK101.out 1) | (go_at_call 60; (with_reducible refine (aH.calls k a0_0 _ _ l0_1 t102 _ ?side1 ?side2 A2.out).mono ?_); (case side1 => repeat (first | exact (Kd.aN HR0_1.out HB.out) | (with_reducible refine Kd.dA ?_ _) | (with_reducible refine Kd.C_drewN ?_ _) | (with_reducible refine Kd.C_drew ?_))); (case side2 => exact HC0_1.out); rintro e w6 ⟨rfl, hb⟩; have n0_ := aa.mk (aK (g := gb101) (o := .cells #[.int .i64 a0_0, .slice A0_1 l0_1.length c0_1] 28 (0, 0)) (by (with_reducible repeat (first | refine ak ?_ _ | refine au ?_ | refine aj ?_ _)); exact BK101.out) hb); have n1_ := aa.mk (az (by repeat (first | (with_reducible first | exact HB.out | apply ah | apply af | apply ag | refine av ?_ GE101.out) | exact HB.out)) hb); clear BK101; clear HB; have BK101 := n0_; have HB := n1_; clear n0_ n1_; (try clear hb); (try clear hb2); (try clear hk); (try clear hi); have hcz7_0 : w6.cell? ⟨gb101, 0, none⟩ = some (.int .i64 a0_0) := (ae BK101.out 0).trans rfl; have hcz7_1 : w6.cell? ⟨gb101, 1, none⟩ = some (.slice A0_1 l0_1.length c0_1) := (ae BK101.out 1).trans rfl; have hfz7_0 := ai BK101.out 0; have hfz7_1 := ai BK101.out 1)); try go_wp2_with (first | ((with_reducible refine bf (N := 1) rfl ?_); refine aY ?hg (N := 1) ?hd (cs := #[.int .i64 a0_0, .slice A0_1 l0_1.length c0_1]) (t := 28) ?hr ?_; (case hd => rfl); (case hg => rfl); (case hr => first | (go_simp; done) | (go_simp; rfl)); intro gb101 hg w4 hbox hb; have n0_ := aa.mk (az (by repeat (first | (with_reducible first | exact HB.out | apply ah | apply af | apply ag) | exact HB.out)) hb); have n1_ := aa.mk (hbox); have n2_ := aa.mk ((by rw [hg]; exact (ay (by repeat (first | (with_reducible first | exact HB.out | apply ah | apply af | apply ag) | exact HB.out))) : w.heap.size ≤ gb101)); have n3_ := aa.mk ((by rw [hg]; exact (ay (by repeat (first | (with_reducible first | exact HB.out | apply ah | apply af | apply ag) | exact HB.out))) : w.heap.size ≤ gb101)); clear HB; have HB := n0_; have BK101 := n1_; have GW101 := n2_; have GE101 := n3_; clear n0_ n1_ n2_ n3_; clear hb hbox hg; have hcz5_0 : w4.cell? ⟨gb101, 0, none⟩ = some (.int .i64 a0_0) := (ae BK101.out 0).trans rfl; have hcz5_1 : w4.cell? ⟨gb101, 1, none⟩ = some (.slice A0_1 l0_1.length c0_1) := (ae BK101.out 1).trans rfl; have hfz5_0 := ai BK101.out 0; have hfz5_1 := ai BK101.out 1) | (go_at_call 60; (with_reducible refine (aH.calls k a0_0 _ _ l0_1 t102 _ ?side1 ?side2 A2.out).mono ?_); (case side1 => repeat (first | exact (Kd.aN HR0_1.out HB.out) | (with_reducible refine Kd.dA ?_ _) | (with_reducible refine Kd.C_drewN ?_ _) | (with_reducible refine Kd.C_drew ?_))); (case side2 => exact HC0_1.out); rintro e w6 ⟨rfl, hb⟩; have n0_ := aa.mk (aK (g := gb101) (o := .cells #[.int .i64 a0_0, .slice A0_1 l0_1.length c0_1] 28 (0, 0)) (by (with_reducible repeat (first | refine ak ?_ _ | refine au ?_ | refine aj ?_ _)); exact BK101.out) hb); have n1_ := aa.mk (az (by repeat (first | (with_reducible first | exact HB.out | apply ah | apply af | apply ag | refine av ?_ GE101.out) | exact HB.out)) hb); clear BK101; clear HB; have BK101 := n0_; have HB := n1_; clear n0_ n1_; (try clear hb); (try clear hb2); (try clear hk); (try clear hi); have hcz7_0 : w6.cell? ⟨gb101, 0, none⟩ = some (.int .i64 a0_0) := (ae BK101.out 0).trans rfl; have hcz7_1 : w6.cell? ⟨gb101, 1, none⟩ = some (.slice A0_1 l0_1.length c0_1) := (ae BK101.out 1).trans rfl; have hfz7_0 := ai BK101.out 0; have hfz7_1 := ai BK101.out 1)))
  go_loopg [2, 3, 16] k (fun kq v2 v3 v16 w' => ∃ (x2_1 : Int) (x3_1 : Int) (x16_1 : Int), v2 = .int .i64 x2_1 ∧ v3 = .int .i64 x3_1 ∧ v16 = .int .i64 x16_1 ∧ aa (bY.l0 kq x2_1 x3_1 l0_1 (l0_1.length : Int) x16_1 = some (r1, r2, r3)) ∧ aa (kq ≤ k) ∧ aa (w'.heap[gb101]? = some (.cells #[.int .i64 a0_0, (.slice A0_1 l0_1.length c0_1)] 28 (0, 0))) ∧ aa (Below w.heap.size w w'))
  case atStart => exact ⟨(0), (0), (0), (by first | rfl | (simp; done) | (simp [*]; done)), (by first | rfl | (simp; done) | (simp [*]; done)), (by first | rfl | (simp; done) | (simp [*]; done)), H', ⟨Nat.le_refl _⟩, ⟨by (with_reducible repeat (first | refine ak ?_ _ | refine au ?_ | refine aj ?_ _)); exact BK101.out⟩, ⟨by repeat (first | (with_reducible first | exact HB.out | apply ah | apply af | apply ag | refine av ?_ GE101.out) | exact HB.out)⟩⟩
  case round =>
   clear H'
   try clear c2
   try clear p2
   try clear c3
   try clear c3b0
   try clear c3b1
   try clear hcz5_0
   try clear hcz5_1
   try clear hcz7_0
   try clear hcz7_1
   try clear hfz5_0
   try clear hfz5_1
   try clear hfz7_0
   try clear hfz7_1
   obtain ⟨x2_1, x3_1, x16_1, rfl, rfl, rfl, HA, HK1, BK101, HB⟩ := hrel
   cases gk with
   | zero => exact absurd HA.out (by simp [bY.l0])
   | succ k1 =>
    have H := HA.out
    clear HA
    simp only [bY.l0] at H
    by_cases c8 : x16_1 < (l0_1.length : Int)
    ·rw [if_pos c8] at H
     have c8b0 : decide (x16_1 < (l0_1.length : Int)) = true := decide_eq_true c8
     clear c8
     by_cases c9 : 0 ≤ x16_1
     ·rw [if_pos c9] at H
      have c9b0 : decide (0 ≤ x16_1) = true := decide_eq_true c9
      clear c9
      by_cases c10 : x16_1 < (l0_1.length : Int)
      ·rw [if_pos c10] at H
       have c10b0 : decide (x16_1 < (l0_1.length : Int)) = true := decide_eq_true c10
       clear c10
       obtain ⟨ji11, hji11⟩ : ∃ j_ : Int, (mx x3_1 ((aU l0_1 x16_1).f1)) = j_ := ⟨_, rfl⟩
       replace H : (bY.l0 k1 (wrap64 (x2_1 + ((aU l0_1 x16_1).f1))) ji11 l0_1 (l0_1.length : Int) (wrap64 (x16_1 + 1))) = some (r1, r2, r3) := by first | (rw [hji11] at H; exact H) | (simp only [hji11] at H ⊢; exact H)
       have hji11_ : (if x3_1 < ((aU l0_1 x16_1).f1) then ((aU l0_1 x16_1).f1) else x3_1) = ji11 := hji11
       have H' := aa.mk H
       clear H
       have p103 : 0 ≤ (x16_1 : Int) := of_decide_eq_true (by first | (with_reducible assumption) | assumption)
       have q103 : x16_1 < (l0_1.length : Int) := of_decide_eq_true (by first | (with_reducible assumption) | assumption)
       obtain ⟨ad103, e103, hx103_0, hx103_1⟩ := fQ HR0_1.out x16_1 p103 q103
       cases e103
       replace hx103_0 := (HB.out.cell (World.block_lt_of_cell? w _ hx103_0)).trans hx103_0
       replace hx103_1 := (HB.out.cell (World.block_lt_of_cell? w _ hx103_1)).trans hx103_1
       replace p103 := eq_true p103
       replace q103 := eq_true q103
       go_wp2_with (first | ((with_reducible refine bf (N := 7) rfl ?_); refine aY ?hg (N := 7) ?hd (cs := #[.int .i64 0, .int .i64 0]) (t := 93) ?hr ?_; (case hd => rfl); (case hg => rfl); (case hr => first | (go_simp; done) | (go_simp; rfl)); intro gb104 hg w12 hbox hb; have n0_ := aa.mk (aK (g := gb101) (o := .cells #[.int .i64 a0_0, .slice (some ad103) l0_1.length c0_1] 28 (0, 0)) (by (with_reducible repeat (first | refine ak ?_ _ | refine au ?_ | refine aj ?_ _)); exact BK101.out) hb); have n1_ := aa.mk (az (by repeat (first | (with_reducible first | exact HB.out | apply ah | apply af | apply ag | refine av ?_ GE101.out) | exact HB.out)) hb); have n2_ := aa.mk (hbox); have n3_ := aa.mk ((by rw [hg]; exact (ay (by repeat (first | (with_reducible first | exact HB.out | apply ah | apply af | apply ag | refine av ?_ GE101.out) | exact HB.out))) : w.heap.size ≤ gb104)); have n4_ := aa.mk ((by rw [hg]; exact (ay (by repeat (first | (with_reducible first | exact HB.out | apply ah | apply af | apply ag | refine av ?_ GE101.out) | exact HB.out))) : w.heap.size ≤ gb104)); have n5_ := aa.mk ((by rw [hg]; exact Nat.ne_of_lt (aA (g := gb101) (o := .cells #[.int .i64 a0_0, .slice (some ad103) l0_1.length c0_1] 28 (0, 0)) (by (with_reducible repeat (first | refine ak ?_ _ | refine au ?_ | refine aj ?_ _)); exact BK101.out)) : gb101 ≠ gb104)); have n6_ := aa.mk ((by rw [hg]; exact Nat.ne_of_gt (aA (g := gb101) (o := .cells #[.int .i64 a0_0, .slice (some ad103) l0_1.length c0_1] 28 (0, 0)) (by (with_reducible repeat (first | refine ak ?_ _ | refine au ?_ | refine aj ?_ _)); exact BK101.out)) : gb104 ≠ gb101)); clear BK101; clear HB; have BK101 := n0_; have HB := n1_; have BK104 := n2_; have GW104 := n3_; have GE104 := n4_; have NB101_104 := n5_; have NB104_101 := n6_; clear n0_ n1_ n2_ n3_ n4_ n5_ n6_; clear hb hbox hg; have hnb13 := NB104_101.out; have hnc13 := NB101_104.out; have hcz14_0 : w12.cell? ⟨gb104, 0, none⟩ = some (.int .i64 0) := (ae BK104.out 0).trans rfl; have hcz14_1 : w12.cell? ⟨gb104, 1, none⟩ = some (.int .i64 0) := (ae BK104.out 1).trans rfl; have hfz14_0 := ai BK104.out 0; have hfz14_1 := ai BK104.out 1))
       repeat (go_quiet (first | ((with_reducible refine bf (N := 7) rfl ?_); refine aY ?hg (N := 7) ?hd (cs := #[.int .i64 0, .int .i64 0]) (t := 93) ?hr ?_; (case hd => rfl); (case hg => rfl); (case hr => first | (go_simp; done) | (go_simp; rfl)); intro gb104 hg w12 hbox hb; have n0_ := aa.mk (aK (g := gb101) (o := .cells #[.int .i64 a0_0, .slice (some ad103) l0_1.length c0_1] 28 (0, 0)) (by (with_reducible repeat (first | refine ak ?_ _ | refine au ?_ | refine aj ?_ _)); exact BK101.out) hb); have n1_ := aa.mk (az (by repeat (first | (with_reducible first | exact HB.out | apply ah | apply af | apply ag | refine av ?_ GE101.out) | exact HB.out)) hb); have n2_ := aa.mk (hbox); have n3_ := aa.mk ((by rw [hg]; exact (ay (by repeat (first | (with_reducible first | exact HB.out | apply ah | apply af | apply ag | refine av ?_ GE101.out) | exact HB.out))) : w.heap.size ≤ gb104)); have n4_ := aa.mk ((by rw [hg]; exact (ay (by repeat (first | (with_reducible first | exact HB.out | apply ah | apply af | apply ag | refine av ?_ GE101.out) | exact HB.out))) : w.heap.size ≤ gb104)); have n5_ := aa.mk ((by rw [hg]; exact Nat.ne_of_lt (aA (g := gb101) (o := .cells #[.int .i64 a0_0, .slice (some ad103) l0_1.length c0_1] 28 (0, 0)) (by (with_reducible repeat (first | refine ak ?_ _ | refine au ?_ | refine aj ?_ _)); exact BK101.out)) : gb101 ≠ gb104)); have n6_ := aa.mk ((by rw [hg]; exact Nat.ne_of_gt (aA (g := gb101) (o := .cells #[.int .i64 a0_0, .slice (some ad103) l0_1.length c0_1] 28 (0, 0)) (by (with_reducible repeat (first | refine ak ?_ _ | refine au ?_ | refine aj ?_ _)); exact BK101.out)) : gb104 ≠ gb101)); clear BK101; clear HB; have BK101 := n0_; have HB := n1_; have BK104 := n2_; have GW104 := n3_; have GE104 := n4_; have NB101_104 := n5_; have NB104_101 := n6_; clear n0_ n1_ n2_ n3_ n4_ n5_ n6_; clear hb hbox hg; have hnb13 := NB104_101.out; have hnc13 := NB101_104.out; have hcz14_0 : w12.cell? ⟨gb104, 0, none⟩ = some (.int .i64 0) := (ae BK104.out 0).trans rfl; have hcz14_1 : w12.cell? ⟨gb104, 1, none⟩ = some (.int .i64 0) := (ae BK104.out 1).trans rfl; have hfz14_0 := ai BK104.out 0; have hfz14_1 := ai BK104.out 1)); try go_wp2_with (first | ((with_reducible refine bf (N := 7) rfl ?_); refine aY ?hg (N := 7) ?hd (cs := #[.int .i64 0, .int .i64 0]) (t := 93) ?hr ?_; (case hd => rfl); (case hg => rfl); (case hr => first | (go_simp; done) | (go_simp; rfl)); intro gb104 hg w12 hbox hb; have n0_ := aa.mk (aK (g := gb101) (o := .cells #[.int .i64 a0_0, .slice (some ad103) l0_1.length c0_1] 28 (0, 0)) (by (with_reducible repeat (first | refine ak ?_ _ | refine au ?_ | refine aj ?_ _)); exact BK101.out) hb); have n1_ := aa.mk (az (by repeat (first | (with_reducible first | exact HB.out | apply ah | apply af | apply ag | refine av ?_ GE101.out) | exact HB.out)) hb); have n2_ := aa.mk (hbox); have n3_ := aa.mk ((by rw [hg]; exact (ay (by repeat (first | (with_reducible first | exact HB.out | apply ah | apply af | apply ag | refine av ?_ GE101.out) | exact HB.out))) : w.heap.size ≤ gb104)); have n4_ := aa.mk ((by rw [hg]; exact (ay (by repeat (first | (with_reducible first | exact HB.out | apply ah | apply af | apply ag | refine av ?_ GE101.out) | exact HB.out))) : w.heap.size ≤ gb104)); have n5_ := aa.mk ((by rw [hg]; exact Nat.ne_of_lt (aA (g := gb101) (o := .cells #[.int .i64 a0_0, .slice (some ad103) l0_1.length c0_1] 28 (0, 0)) (by (with_reducible repeat (first | refine ak ?_ _ | refine au ?_ | refine aj ?_ _)); exact BK101.out)) : gb101 ≠ gb104)); have n6_ := aa.mk ((by rw [hg]; exact Nat.ne_of_gt (aA (g := gb101) (o := .cells #[.int .i64 a0_0, .slice (some ad103) l0_1.length c0_1] 28 (0, 0)) (by (with_reducible repeat (first | refine ak ?_ _ | refine au ?_ | refine aj ?_ _)); exact BK101.out)) : gb104 ≠ gb101)); clear BK101; clear HB; have BK101 := n0_; have HB := n1_; have BK104 := n2_; have GW104 := n3_; have GE104 := n4_; have NB101_104 := n5_; have NB104_101 := n6_; clear n0_ n1_ n2_ n3_ n4_ n5_ n6_; clear hb hbox hg; have hnb13 := NB104_101.out; have hnc13 := NB101_104.out; have hcz14_0 : w12.cell? ⟨gb104, 0, none⟩ = some (.int .i64 0) := (ae BK104.out 0).trans rfl; have hcz14_1 : w12.cell? ⟨gb104, 1, none⟩ = some (.int .i64 0) := (ae BK104.out 1).trans rfl; have hfz14_0 := ai BK104.out 0; have hfz14_1 := ai BK104.out 1)))
       go_roundg k1
       case measure => have := HK1.out; omega
       case rel => exact ⟨(wrap64 (x2_1 + ((aU l0_1 x16_1).f1))), (ji11), (wrap64 (x16_1 + 1)), (by first | rfl | (simp; done) | (simp [*]; done)), (by first | rfl | (simp; done) | (simp only [← hji11] <;> (first | rfl | simp)) | (simp [*]; done)), (by first | rfl | (simp; done) | (simp [*]; done)), H', ⟨by have := HK1.out; omega⟩, ⟨by (with_reducible repeat (first | refine ak ?_ _ | refine au ?_ | refine aj ?_ _)); refine bX ?_ NB101_104.out _; (with_reducible repeat (first | refine ak ?_ _ | refine au ?_ | refine aj ?_ _)); refine bX ?_ NB101_104.out _; (with_reducible repeat (first | refine ak ?_ _ | refine au ?_ | refine aj ?_ _)); exact BK101.out⟩, ⟨by repeat (first | (with_reducible first | exact HB.out | apply ah | apply af | apply ag | refine av ?_ GE101.out | refine av ?_ GE104.out) | exact HB.out)⟩⟩
      ·rw [if_neg c10] at H
       exact absurd H (by simp)
     ·rw [if_neg c9] at H
      exact absurd H (by simp)
    ·rw [if_neg c8] at H
     have c8b0 : decide (x16_1 < (l0_1.length : Int)) = false := decide_eq_false c8
     clear c8
     simp only [Option.some.injEq, Prod.mk.injEq] at H
     obtain ⟨rfl, rfl, rfl⟩ := H
     go_wp2
     repeat (go_quiet (fail); try go_wp2)
     go_ret3
     exact ⟨by first | rfl | (simp [aD, aC] <;> rfl) | (simp [*, aD, aC] <;> rfl), by repeat (first | (with_reducible first | exact HB.out | apply ah | apply af | apply ag | refine av ?_ GE101.out) | exact HB.out)⟩
 ·rw [if_neg c3] at H
  have c3b0 : (t102 == 0) = false := beq_eq_false_iff_ne.mpr c3
  have c3b1 : (t102 != 0) = true := bne_iff_ne.mpr c3
  simp only [Option.some.injEq, Prod.mk.injEq] at H
  obtain ⟨rfl, rfl, rfl⟩ := H
  go_enter Tryz.func25, Tryz.ntmps25
  go_wp2_with (first | ((with_reducible refine bf (N := 1) rfl ?_); refine aY ?hg (N := 1) ?hd (cs := #[.int .i64 a0_0, .slice A0_1 l0_1.length c0_1]) (t := 28) ?hr ?_; (case hd => rfl); (case hg => rfl); (case hr => first | (go_simp; done) | (go_simp; rfl)); intro gb101 hg w15 hbox hb; have n0_ := aa.mk (az (by repeat (first | (with_reducible first | exact HB.out | apply ah | apply af | apply ag) | exact HB.out)) hb); have n1_ := aa.mk (hbox); have n2_ := aa.mk ((by rw [hg]; exact (ay (by repeat (first | (with_reducible first | exact HB.out | apply ah | apply af | apply ag) | exact HB.out))) : w.heap.size ≤ gb101)); have n3_ := aa.mk ((by rw [hg]; exact (ay (by repeat (first | (with_reducible first | exact HB.out | apply ah | apply af | apply ag) | exact HB.out))) : w.heap.size ≤ gb101)); clear HB; have HB := n0_; have BK101 := n1_; have GW101 := n2_; have GE101 := n3_; clear n0_ n1_ n2_ n3_; clear hb hbox hg; have hcz16_0 : w15.cell? ⟨gb101, 0, none⟩ = some (.int .i64 a0_0) := (ae BK101.out 0).trans rfl; have hcz16_1 : w15.cell? ⟨gb101, 1, none⟩ = some (.slice A0_1 l0_1.length c0_1) := (ae BK101.out 1).trans rfl; have hfz16_0 := ai BK101.out 0; have hfz16_1 := ai BK101.out 1) | (go_at_call 60; (with_reducible refine (aH.calls k a0_0 _ _ l0_1 t102 _ ?side1 ?side2 A2.out).mono ?_); (case side1 => repeat (first | exact (Kd.aN HR0_1.out HB.out) | (with_reducible refine Kd.dA ?_ _) | (with_reducible refine Kd.C_drewN ?_ _) | (with_reducible refine Kd.C_drew ?_))); (case side2 => exact HC0_1.out); rintro e w17 ⟨rfl, hb⟩; have n0_ := aa.mk (aK (g := gb101) (o := .cells #[.int .i64 a0_0, .slice A0_1 l0_1.length c0_1] 28 (0, 0)) (by (with_reducible repeat (first | refine ak ?_ _ | refine au ?_ | refine aj ?_ _)); exact BK101.out) hb); have n1_ := aa.mk (az (by repeat (first | (with_reducible first | exact HB.out | apply ah | apply af | apply ag | refine av ?_ GE101.out) | exact HB.out)) hb); clear BK101; clear HB; have BK101 := n0_; have HB := n1_; clear n0_ n1_; (try clear hb); (try clear hb2); (try clear hk); (try clear hi)))
  repeat (go_quiet (first | ((with_reducible refine bf (N := 1) rfl ?_); refine aY ?hg (N := 1) ?hd (cs := #[.int .i64 a0_0, .slice A0_1 l0_1.length c0_1]) (t := 28) ?hr ?_; (case hd => rfl); (case hg => rfl); (case hr => first | (go_simp; done) | (go_simp; rfl)); intro gb101 hg w15 hbox hb; have n0_ := aa.mk (az (by repeat (first | (with_reducible first | exact HB.out | apply ah | apply af | apply ag) | exact HB.out)) hb); have n1_ := aa.mk (hbox); have n2_ := aa.mk ((by rw [hg]; exact (ay (by repeat (first | (with_reducible first | exact HB.out | apply ah | apply af | apply ag) | exact HB.out))) : w.heap.size ≤ gb101)); have n3_ := aa.mk ((by rw [hg]; exact (ay (by repeat (first | (with_reducible first | exact HB.out | apply ah | apply af | apply ag) | exact HB.out))) : w.heap.size ≤ gb101)); clear HB; have HB := n0_; have BK101 := n1_; have GW101 := n2_; have GE101 := n3_; clear n0_ n1_ n2_ n3_; clear hb hbox hg; have hcz16_0 : w15.cell? ⟨gb101, 0, none⟩ = some (.int .i64 a0_0) := (ae BK101.out 0).trans rfl; have hcz16_1 : w15.cell? ⟨gb101, 1, none⟩ = some (.slice A0_1 l0_1.length c0_1) := (ae BK101.out 1).trans rfl; have hfz16_0 := ai BK101.out 0; have hfz16_1 := ai BK101.out 1) | (go_at_call 60; (with_reducible refine (aH.calls k a0_0 _ _ l0_1 t102 _ ?side1 ?side2 A2.out).mono ?_); (case side1 => repeat (first | exact (Kd.aN HR0_1.out HB.out) | (with_reducible refine Kd.dA ?_ _) | (with_reducible refine Kd.C_drewN ?_ _) | (with_reducible refine Kd.C_drew ?_))); (case side2 => exact HC0_1.out); rintro e w17 ⟨rfl, hb⟩; have n0_ := aa.mk (aK (g := gb101) (o := .cells #[.int .i64 a0_0, .slice A0_1 l0_1.length c0_1] 28 (0, 0)) (by (with_reducible repeat (first | refine ak ?_ _ | refine au ?_ | refine aj ?_ _)); exact BK101.out) hb); have n1_ := aa.mk (az (by repeat (first | (with_reducible first | exact HB.out | apply ah | apply af | apply ag | refine av ?_ GE101.out) | exact HB.out)) hb); clear BK101; clear HB; have BK101 := n0_; have HB := n1_; clear n0_ n1_; (try clear hb); (try clear hb2); (try clear hk); (try clear hi))); try go_wp2_with (first | ((with_reducible refine bf (N := 1) rfl ?_); refine aY ?hg (N := 1) ?hd (cs := #[.int .i64 a0_0, .slice A0_1 l0_1.length c0_1]) (t := 28) ?hr ?_; (case hd => rfl); (case hg => rfl); (case hr => first | (go_simp; done) | (go_simp; rfl)); intro gb101 hg w15 hbox hb; have n0_ := aa.mk (az (by repeat (first | (with_reducible first | exact HB.out | apply ah | apply af | apply ag) | exact HB.out)) hb); have n1_ := aa.mk (hbox); have n2_ := aa.mk ((by rw [hg]; exact (ay (by repeat (first | (with_reducible first | exact HB.out | apply ah | apply af | apply ag) | exact HB.out))) : w.heap.size ≤ gb101)); have n3_ := aa.mk ((by rw [hg]; exact (ay (by repeat (first | (with_reducible first | exact HB.out | apply ah | apply af | apply ag) | exact HB.out))) : w.heap.size ≤ gb101)); clear HB; have HB := n0_; have BK101 := n1_; have GW101 := n2_; have GE101 := n3_; clear n0_ n1_ n2_ n3_; clear hb hbox hg; have hcz16_0 : w15.cell? ⟨gb101, 0, none⟩ = some (.int .i64 a0_0) := (ae BK101.out 0).trans rfl; have hcz16_1 : w15.cell? ⟨gb101, 1, none⟩ = some (.slice A0_1 l0_1.length c0_1) := (ae BK101.out 1).trans rfl; have hfz16_0 := ai BK101.out 0; have hfz16_1 := ai BK101.out 1) | (go_at_call 60; (with_reducible refine (aH.calls k a0_0 _ _ l0_1 t102 _ ?side1 ?side2 A2.out).mono ?_); (case side1 => repeat (first | exact (Kd.aN HR0_1.out HB.out) | (with_reducible refine Kd.dA ?_ _) | (with_reducible refine Kd.C_drewN ?_ _) | (with_reducible refine Kd.C_drew ?_))); (case side2 => exact HC0_1.out); rintro e w17 ⟨rfl, hb⟩; have n0_ := aa.mk (aK (g := gb101) (o := .cells #[.int .i64 a0_0, .slice A0_1 l0_1.length c0_1] 28 (0, 0)) (by (with_reducible repeat (first | refine ak ?_ _ | refine au ?_ | refine aj ?_ _)); exact BK101.out) hb); have n1_ := aa.mk (az (by repeat (first | (with_reducible first | exact HB.out | apply ah | apply af | apply ag | refine av ?_ GE101.out) | exact HB.out)) hb); clear BK101; clear HB; have BK101 := n0_; have HB := n1_; clear n0_ n1_; (try clear hb); (try clear hb2); (try clear hk); (try clear hi))))
  go_ret3
  exact ⟨by first | rfl | (simp [aD, aC] <;> rfl) | (simp [*, aD, aC] <;> rfl), by repeat (first | (with_reducible first | exact HB.out | apply ah | apply af | apply ag | refine av ?_ GE101.out) | exact HB.out)⟩
def jo.f (k : Nat) (l0 : List (S151)) (a1_0 : Int) (a1_1 : Int) (a1_2 : Int) : Option ((List (S151)) × Int) := (aG.f k l0).bind fun t102 => (if t102 = 0 then ((dz.f a1_0 a1_1 a1_2).bind fun t103 => (if t103 = true then ((cK.f l0 a1_0 a1_2 (([(⟨a1_0, a1_1, a1_2⟩ : S151)] : List (S151)))).bind fun t107 => ((dR.f t107).bind fun bt110 => (some (bt110.1, bt110.2)))) else (some (([] : List (S151)), 4)))) else (some (([] : List (S151)), t102)))
set_option maxHeartbeats 8000000 in
set_option maxRecDepth 100000 in
theorem jo.calls (k : Nat) (A0 : Option Addr) (c0 : Nat) (l0 : List (S151)) (a1_0 : Int) (a1_1 : Int) (a1_2 : Int) (r1 : List (S151)) (r2 : Int) (w : World) (hr0 : Kd.C k151 w A0 l0.length l0) (hc0 : l0.length ≤ c0) (h : jo.f k l0 a1_0 a1_1 a1_2 = some (r1, r2)) :
 Calls Tryz.prog 146 #[.slice A0 l0.length c0, .agg #[.int .i64 a1_0, .int .i64 a1_1, .int .i64 a1_2]] w fun e w' => ∃ v0_ : Value, e = .returned (.tuple #[v0_, .int .i64 r2]) ∧ Kd.R k151 151 w' w.heap.size (fun _ => True) v0_ r1 ∧ Below w.heap.size w w' := by
 have hu151 := Tryz.underlying151
 have HR0 := aa.mk hr0
 have HC0 := aa.mk hc0
 clear hr0 hc0
 have HB := aa.mk (Below.refl w.heap.size w)
 have H : ((aG.f k l0).bind fun t102 => (if t102 = 0 then ((dz.f a1_0 a1_1 a1_2).bind fun t103 => (if t103 = true then ((cK.f l0 a1_0 a1_2 (([(⟨a1_0, a1_1, a1_2⟩ : S151)] : List (S151)))).bind fun t107 => ((dR.f t107).bind fun bt110 => (some (bt110.1, bt110.2)))) else (some (([] : List (S151)), 4)))) else (some (([] : List (S151)), t102)))) = some (r1, r2) := h
 clear h
 replace H := Option.bind_eq_some_iff.mp H
 obtain ⟨t102, A30, H⟩ := H
 replace H : (if t102 = 0 then ((dz.f a1_0 a1_1 a1_2).bind fun t103 => (if t103 = true then ((cK.f l0 a1_0 a1_2 (([(⟨a1_0, a1_1, a1_2⟩ : S151)] : List (S151)))).bind fun t107 => ((dR.f t107).bind fun bt110 => (some (bt110.1, bt110.2)))) else (some (([] : List (S151)), 4)))) else (some (([] : List (S151)), t102))) = some (r1, r2) := H
 have A3 := aa.mk A30
 clear A30
 by_cases c4 : t102 = 0
 ·rw [if_pos c4] at H
  have c4b0 : (t102 == 0) = true := beq_iff_eq.mpr c4
  have c4b1 : (t102 != 0) = false := bne_eq_false_iff_eq.mpr c4
  clear c4
  replace H := Option.bind_eq_some_iff.mp H
  obtain ⟨t103, A50, H⟩ := H
  replace H : (if t103 = true then ((cK.f l0 a1_0 a1_2 (([(⟨a1_0, a1_1, a1_2⟩ : S151)] : List (S151)))).bind fun t107 => ((dR.f t107).bind fun bt110 => (some (bt110.1, bt110.2)))) else (some (([] : List (S151)), 4))) = some (r1, r2) := H
  have A5 := aa.mk A50
  clear A50
  by_cases c6 : t103 = true
  ·subst c6
   have H1 : ((cK.f l0 a1_0 a1_2 (([(⟨a1_0, a1_1, a1_2⟩ : S151)] : List (S151)))).bind fun t107 => ((dR.f t107).bind fun bt110 => (some (bt110.1, bt110.2)))) = some (r1, r2) := by rw [if_pos rfl] at H; exact H
   clear H
   have H := H1
   clear H1
   obtain ⟨y104, hy104⟩ : ∃ y_ : List (S151), y_ = (([(⟨a1_0, a1_1, a1_2⟩ : S151)] : List (S151))) := ⟨_, rfl⟩
   replace H : ((cK.f l0 a1_0 a1_2 y104).bind fun t107 => ((dR.f t107).bind fun bt110 => (some (bt110.1, bt110.2)))) = some (r1, r2) := by first | (rw [hy104]; with_reducible exact H) | (have H2_ := (Option.bind_some _ _).symm.trans H; rw [hy104]; with_reducible exact H2_) | (have H2_ := (Option.bind_some _ _).symm.trans H; with_reducible exact H2_) | with_reducible exact H | (rw [hy104]; exact H) | exact H
   have Ny104 := aa.mk hy104
   clear hy104
   replace H := Option.bind_eq_some_iff.mp H
   obtain ⟨t107, A70, H⟩ := H
   replace H : ((dR.f t107).bind fun bt110 => (some (bt110.1, bt110.2))) = some (r1, r2) := H
   have A7 := aa.mk A70
   clear A70
   replace H := Option.bind_eq_some_iff.mp H
   obtain ⟨⟨t110, t113⟩, A80, H⟩ := H
   replace H : (some (t110, t113)) = some (r1, r2) := H
   have A8 := aa.mk A80
   clear A80
   simp only [Option.some.injEq, Prod.mk.injEq] at H
   obtain ⟨rfl, rfl⟩ := H
   go_enter Tryz.func146, Tryz.ntmps146
   go_wp2_with (first | ((with_reducible refine bf (N := 3) rfl ?_); refine aY ?hg (N := 3) ?hd (cs := #[.int .i64 a1_0, .int .i64 a1_1, .int .i64 a1_2]) (t := 151) ?hr ?_; (case hd => rfl); (case hg => rfl); (case hr => first | (go_simp; done) | (go_simp; rfl)); intro gb101 hg w9 hbox hb; have n0_ := aa.mk (az (by repeat (first | (with_reducible first | exact HB.out | apply ah | apply af | apply ag) | exact HB.out)) hb); have n1_ := aa.mk (hbox); have n2_ := aa.mk ((by rw [hg]; exact (ay (by repeat (first | (with_reducible first | exact HB.out | apply ah | apply af | apply ag) | exact HB.out))) : w.heap.size ≤ gb101)); have n3_ := aa.mk ((by rw [hg]; exact (ay (by repeat (first | (with_reducible first | exact HB.out | apply ah | apply af | apply ag) | exact HB.out))) : w.heap.size ≤ gb101)); clear HB; have HB := n0_; have BK101 := n1_; have GW101 := n2_; have GE101 := n3_; clear n0_ n1_ n2_ n3_; clear hb hbox hg) | ((with_reducible refine bB (f := 124) rfl ?_); refine dN (some 8) rfl rfl Tryz.func124 (by kernel_rfl) rfl #[.slice A0 l0.length c0] rfl (by (try simp only [List.map_toArray, List.map_cons, List.map_nil]); first | done | rfl | (simp only [List.length_drop, List.length_take]; rfl)) ?_; (with_reducible refine (aG.calls k _ _ l0 t102 _ ?side1 ?side2 A3.out).mono ?_); (case side1 => repeat (first | exact (Kd.aN HR0.out HB.out) | (with_reducible refine Kd.dA ?_ _) | (with_reducible refine Kd.C_drewN ?_ _) | (with_reducible refine Kd.C_drew ?_))); (case side2 => exact HC0.out); rintro e w10 ⟨rfl, hb⟩; refine ⟨_, rfl, ?_⟩; have n0_ := aa.mk (aK (g := gb101) (o := .cells #[.int .i64 a1_0, .int .i64 a1_1, .int .i64 a1_2] 151 (0, 0)) (by (with_reducible repeat (first | refine ak ?_ _ | refine au ?_ | refine aj ?_ _)); exact BK101.out) hb); have n1_ := aa.mk (az (by repeat (first | (with_reducible first | exact HB.out | apply ah | apply af | apply ag | refine av ?_ GE101.out) | exact HB.out)) hb); clear BK101; clear HB; have BK101 := n0_; have HB := n1_; clear n0_ n1_; (try clear hb); (try clear hb2); (try clear hk); (try clear hi); have hcz11_0 : w10.cell? ⟨gb101, 0, none⟩ = some (.int .i64 a1_0) := (ae BK101.out 0).trans rfl; have hcz11_1 : w10.cell? ⟨gb101, 1, none⟩ = some (.int .i64 a1_1) := (ae BK101.out 1).trans rfl; have hcz11_2 : w10.cell? ⟨gb101, 2, none⟩ = some (.int .i64 a1_2) := (ae BK101.out 2).trans rfl; have hfz11_0 := ai BK101.out 0; have hfz11_1 := ai BK101.out 1; have hfz11_2 := ai BK101.out 2) | ((with_reducible refine bB (f := 150) rfl ?_); refine dN (some 13) rfl rfl Tryz.func150 (by kernel_rfl) rfl #[.agg #[.int .i64 a1_0, .int .i64 a1_1, .int .i64 a1_2]] rfl (by (try simp only [List.map_toArray, List.map_cons, List.map_nil]); first | done | rfl | (simp only [List.length_drop, List.length_take]; rfl)) ?_; (with_reducible refine (dz.calls a1_0 a1_1 a1_2 true _ A5.out).mono ?_); rintro e w12 ⟨rfl, hb⟩; refine ⟨_, rfl, ?_⟩; have n0_ := aa.mk (aK (g := gb101) (o := .cells #[.int .i64 a1_0, .int .i64 a1_1, .int .i64 a1_2] 151 (0, 0)) (by (with_reducible repeat (first | refine ak ?_ _ | refine au ?_ | refine aj ?_ _)); exact BK101.out) hb); have n1_ := aa.mk (az (by repeat (first | (with_reducible first | exact HB.out | apply ah | apply af | apply ag | refine av ?_ GE101.out) | exact HB.out)) hb); clear BK101; clear HB; have BK101 := n0_; have HB := n1_; clear n0_ n1_; (try clear hb); (try clear hb2); (try clear hk); (try clear hi); have hcz13_0 : w12.cell? ⟨gb101, 0, none⟩ = some (.int .i64 a1_0) := (ae BK101.out 0).trans rfl; have hcz13_1 : w12.cell? ⟨gb101, 1, none⟩ = some (.int .i64 a1_1) := (ae BK101.out 1).trans rfl; have hcz13_2 : w12.cell? ⟨gb101, 2, none⟩ = some (.int .i64 a1_2) := (ae BK101.out 2).trans rfl; have hfz13_0 := ai BK101.out 0; have hfz13_1 := ai BK101.out 1; have hfz13_2 := ai BK101.out 2) | ((with_reducible refine bf (N := 21) rfl ?_); refine Kd.xu k151 _ 151 ?hg (N := 21) ?hd (xs := ([(⟨a1_0, a1_1, a1_2⟩ : S151)] : List (S151))) (inner := [.int .i64 a1_0, .int .i64 a1_1, .int .i64 a1_2]) (ok := fun _ => True) (okp := fun _ => True) ?hr ?hp (fun _ hk => hk) trivial (Below.refl _ _) (Nat.le_refl _) (by simp) ?_; (case hd => rfl); (case hg => rfl); (case hr => first | (go_simp; done) | (go_simp; rfl)); (case hp => exact (Reps.c3 (show Kd.M k151 _ _ _ (⟨a1_0, a1_1, a1_2⟩ : S151) [.int .i64 a1_0, .int .i64 a1_1, .int .i64 a1_2] from (kZ _ _ _ (⟨a1_0, a1_1, a1_2⟩ : S151) )) (Reps.none _ _))); intro v105 w14 ho15 hb hg_ hnew_; clear hg_ hnew_; (first | rw [← Ny104.out] at ho15 | (simp only [Int.reduceToNat] at ho15; rw [← Ny104.out] at ho15)); have n0_ := aa.mk (Kd.bH (Kd.yJ ho15 (g := gb101) (o := .cells #[.int .i64 a1_0, .int .i64 a1_1, .int .i64 a1_2] 151 (0, 0)) (by (with_reducible repeat (first | refine ak ?_ _ | refine au ?_ | refine aj ?_ _)); exact BK101.out)) (ay (by repeat (first | (with_reducible first | exact HB.out | apply ah | apply af | apply ag | refine av ?_ GE101.out) | exact HB.out)))); have n1_ := aa.mk (aK (g := gb101) (o := .cells #[.int .i64 a1_0, .int .i64 a1_1, .int .i64 a1_2] 151 (0, 0)) (by (with_reducible repeat (first | refine ak ?_ _ | refine au ?_ | refine aj ?_ _)); exact BK101.out) hb); have n2_ := aa.mk (az (by repeat (first | (with_reducible first | exact HB.out | apply ah | apply af | apply ag | refine av ?_ GE101.out) | exact HB.out)) hb); clear BK101; clear HB; have HO106 := n0_; have BK101 := n1_; have HB := n2_; clear n0_ n1_ n2_; clear hb ho15; obtain ⟨Ao16, co16, eo16⟩ := Kd.aZ HO106.out; subst eo16) | ((with_reducible refine bB (f := 167) rfl ?_); refine dN (some 22) rfl rfl Tryz.func167 (by kernel_rfl) rfl #[.slice A0 l0.length c0, .int .i64 a1_0, .int .i64 a1_2, .slice Ao16 y104.length co16] rfl (by (try simp only [List.map_toArray, List.map_cons, List.map_nil]); first | done | rfl | (simp only [List.length_drop, List.length_take]; rfl)) ?_; (with_reducible refine (cK.calls _ _ l0 a1_0 a1_2 _ _ y104 t107 _ ?side1 ?side2 ?side3 ?side4 A7.out).mono ?_); (case side1 => repeat (first | exact (Kd.aN HR0.out HB.out) | (with_reducible refine Kd.dA ?_ _) | (with_reducible refine Kd.C_drewN ?_ _) | (with_reducible refine Kd.C_drew ?_))); (case side2 => exact HC0.out); (case side3 => repeat (first | exact (Kd.bu HO106.out).2.2 | (with_reducible refine Kd.dA ?_ _) | (with_reducible refine Kd.C_drewN ?_ _) | (with_reducible refine Kd.C_drew ?_))); (case side4 => exact (Kd.bu HO106.out).2.1); rintro e w17 ⟨v108, rfl, ho0, hb⟩; refine ⟨_, rfl, ?_⟩; have n0_ := aa.mk (Kd.qZ (by (with_reducible repeat (first | apply Kd.bQ | apply Kd.bT | apply Kd.dC)); exact HO106.out) (Kd.o8 ho0) hb); have n1_ := aa.mk (Kd.bH (Kd.yJ (Kd.yS ho0 (Kd.R_lt (by (with_reducible repeat (first | apply Kd.bQ | apply Kd.bT | apply Kd.dC)); exact HO106.out))) (g := gb101) (o := .cells #[.int .i64 a1_0, .int .i64 a1_1, .int .i64 a1_2] 151 (0, 0)) (by (with_reducible repeat (first | refine ak ?_ _ | refine au ?_ | refine aj ?_ _)); exact BK101.out)) (ay (by repeat (first | (with_reducible first | exact HB.out | apply ah | apply af | apply ag | refine av ?_ GE101.out) | exact HB.out)))); have n2_ := aa.mk (aK (g := gb101) (o := .cells #[.int .i64 a1_0, .int .i64 a1_1, .int .i64 a1_2] 151 (0, 0)) (by (with_reducible repeat (first | refine ak ?_ _ | refine au ?_ | refine aj ?_ _)); exact BK101.out) hb); have n3_ := aa.mk (az (by repeat (first | (with_reducible first | exact HB.out | apply ah | apply af | apply ag | refine av ?_ GE101.out) | exact HB.out)) hb); clear HO106; clear BK101; clear HB; have HO106 := n0_; have HO109 := n1_; have BK101 := n2_; have HB := n3_; clear n0_ n1_ n2_ n3_; (try clear hb); (try clear hb2); (try clear hk); (try clear hi); (try clear ho0); obtain ⟨Ao18, co18, eo18⟩ := Kd.aZ HO109.out; subst eo18) | ((with_reducible refine bB (f := 165) rfl ?_); refine dN (some 23) rfl rfl Tryz.func165 (by kernel_rfl) rfl #[.slice Ao18 t107.length co18] rfl (by (try simp only [List.map_toArray, List.map_cons, List.map_nil]); first | done | rfl | (simp only [List.length_drop, List.length_take]; rfl)) ?_; (with_reducible refine (dR.calls (fun k_ => some k_ = (.slice Ao18 t107.length co18 : Value).ownBlock) (.slice Ao18 t107.length co18) t107 t110 t113 w _ ?side1 ?side2 A8.out).mono ?_); (case side1 => repeat (first | (with_reducible first | exact HB.out | apply ah | apply af | apply ag | refine av ?_ GE101.out) | exact HB.out)); (case side2 => exact Kd.u_ rfl HO109.out); rintro e w19 ⟨v111, rfl, ho0, hb, hkp⟩; refine ⟨_, rfl, ?_⟩; have n0_ := aa.mk (rR (by (with_reducible repeat (first | refine ak ?_ _ | refine au ?_ | refine aj ?_ _)); exact BK101.out) hkp (fun hs_ => (fun e_ => (Kd.qP HO109.out (fun _ hk => hk.2)) e_) hs_)); have n1_ := aa.mk (Kd.aX (ok' := fun k_ => k_ ≠ gb101 ∧ some k_ ≠ (v111 : Value).ownBlock) (Kd.zf (HO106.out) hkp (fun k_ hk_ hs_ => (hk_.2) hs_)) (fun k_ hk_ => ⟨hk_.1.1.2, fun e_ => Or.elim (ho0.1 k_ e_.symm) (fun hs_ => hk_.2.1 hs_) (fun hn_ => Nat.not_le.2 hk_.2.2 hn_)⟩)); have n2_ := aa.mk (Kd.aX (ok' := fun k_ => some k_ ≠ (.slice Ao16 y104.length co16 : Value).ownBlock ∧ k_ ≠ gb101) ho0 (fun k_ hk_ => ⟨Or.elim hk_ (fun hs_ => fun e_ => (((HO106.out).1 k_ e_.symm).2) hs_) (fun hn_ => (Kd.fresh' (Kd.R_lt (by (with_reducible repeat (first | apply Kd.bQ | apply Kd.bT | apply Kd.dC)); exact HO106.out)) k_ hn_)), Or.elim hk_ (fun hs_ => fun e_ => (Kd.qP HO109.out (fun _ hk => hk.2)) (by rw [← e_]; exact hs_)) (fun hn_ => (Kd.rF (g := gb101) (o := .cells #[.int .i64 a1_0, .int .i64 a1_1, .int .i64 a1_2] 151 (0, 0)) (by (with_reducible repeat (first | refine ak ?_ _ | refine au ?_ | refine aj ?_ _)); exact BK101.out) k_ hn_))⟩)); have n3_ := aa.mk (hb); clear BK101; clear HO106; clear HB; clear HO109; have BK101 := n0_; have HO106 := n1_; have HO112 := n2_; have HB := n3_; clear n0_ n1_ n2_ n3_; (try clear hb); (try clear hkp); (try clear ho0)))
   go_ret2
   exact ⟨_, by first | rfl | (simp [aD, aC] <;> rfl) | (simp [*, aD, aC] <;> rfl), by (with_reducible repeat (first | apply Kd.bQ | apply Kd.bT | apply Kd.dC)); exact Kd.aX HO112.out (fun _ hk => trivial), by repeat (first | (with_reducible first | exact HB.out | apply ah | apply af | apply ag | refine av ?_ GE101.out) | exact HB.out)⟩
  ·replace c6 := Bool.eq_false_iff.mpr c6
   subst c6
   have H1 : (some (([] : List (S151)), 4)) = some (r1, r2) := by rw [if_neg (show ¬ (false = true) by decide)] at H; exact H
   clear H
   have H := H1
   clear H1
   simp only [Option.some.injEq, Prod.mk.injEq] at H
   obtain ⟨rfl, rfl⟩ := H
   go_enter Tryz.func146, Tryz.ntmps146
   go_wp2_with (first | ((with_reducible refine bf (N := 3) rfl ?_); refine aY ?hg (N := 3) ?hd (cs := #[.int .i64 a1_0, .int .i64 a1_1, .int .i64 a1_2]) (t := 151) ?hr ?_; (case hd => rfl); (case hg => rfl); (case hr => first | (go_simp; done) | (go_simp; rfl)); intro gb101 hg w20 hbox hb; have n0_ := aa.mk (az (by repeat (first | (with_reducible first | exact HB.out | apply ah | apply af | apply ag) | exact HB.out)) hb); have n1_ := aa.mk (hbox); have n2_ := aa.mk ((by rw [hg]; exact (ay (by repeat (first | (with_reducible first | exact HB.out | apply ah | apply af | apply ag) | exact HB.out))) : w.heap.size ≤ gb101)); have n3_ := aa.mk ((by rw [hg]; exact (ay (by repeat (first | (with_reducible first | exact HB.out | apply ah | apply af | apply ag) | exact HB.out))) : w.heap.size ≤ gb101)); clear HB; have HB := n0_; have BK101 := n1_; have GW101 := n2_; have GE101 := n3_; clear n0_ n1_ n2_ n3_; clear hb hbox hg) | ((with_reducible refine bB (f := 124) rfl ?_); refine dN (some 8) rfl rfl Tryz.func124 (by kernel_rfl) rfl #[.slice A0 l0.length c0] rfl (by (try simp only [List.map_toArray, List.map_cons, List.map_nil]); first | done | rfl | (simp only [List.length_drop, List.length_take]; rfl)) ?_; (with_reducible refine (aG.calls k _ _ l0 t102 _ ?side1 ?side2 A3.out).mono ?_); (case side1 => repeat (first | exact (Kd.aN HR0.out HB.out) | (with_reducible refine Kd.dA ?_ _) | (with_reducible refine Kd.C_drewN ?_ _) | (with_reducible refine Kd.C_drew ?_))); (case side2 => exact HC0.out); rintro e w21 ⟨rfl, hb⟩; refine ⟨_, rfl, ?_⟩; have n0_ := aa.mk (aK (g := gb101) (o := .cells #[.int .i64 a1_0, .int .i64 a1_1, .int .i64 a1_2] 151 (0, 0)) (by (with_reducible repeat (first | refine ak ?_ _ | refine au ?_ | refine aj ?_ _)); exact BK101.out) hb); have n1_ := aa.mk (az (by repeat (first | (with_reducible first | exact HB.out | apply ah | apply af | apply ag | refine av ?_ GE101.out) | exact HB.out)) hb); clear BK101; clear HB; have BK101 := n0_; have HB := n1_; clear n0_ n1_; (try clear hb); (try clear hb2); (try clear hk); (try clear hi); have hcz22_0 : w21.cell? ⟨gb101, 0, none⟩ = some (.int .i64 a1_0) := (ae BK101.out 0).trans rfl; have hcz22_1 : w21.cell? ⟨gb101, 1, none⟩ = some (.int .i64 a1_1) := (ae BK101.out 1).trans rfl; have hcz22_2 : w21.cell? ⟨gb101, 2, none⟩ = some (.int .i64 a1_2) := (ae BK101.out 2).trans rfl; have hfz22_0 := ai BK101.out 0; have hfz22_1 := ai BK101.out 1; have hfz22_2 := ai BK101.out 2) | ((with_reducible refine bB (f := 150) rfl ?_); refine dN (some 13) rfl rfl Tryz.func150 (by kernel_rfl) rfl #[.agg #[.int .i64 a1_0, .int .i64 a1_1, .int .i64 a1_2]] rfl (by (try simp only [List.map_toArray, List.map_cons, List.map_nil]); first | done | rfl | (simp only [List.length_drop, List.length_take]; rfl)) ?_; (with_reducible refine (dz.calls a1_0 a1_1 a1_2 false _ A5.out).mono ?_); rintro e w23 ⟨rfl, hb⟩; refine ⟨_, rfl, ?_⟩; have n0_ := aa.mk (aK (g := gb101) (o := .cells #[.int .i64 a1_0, .int .i64 a1_1, .int .i64 a1_2] 151 (0, 0)) (by (with_reducible repeat (first | refine ak ?_ _ | refine au ?_ | refine aj ?_ _)); exact BK101.out) hb); have n1_ := aa.mk (az (by repeat (first | (with_reducible first | exact HB.out | apply ah | apply af | apply ag | refine av ?_ GE101.out) | exact HB.out)) hb); clear BK101; clear HB; have BK101 := n0_; have HB := n1_; clear n0_ n1_; (try clear hb); (try clear hb2); (try clear hk); (try clear hi)))
   go_ret2
   exact ⟨_, by first | rfl | (simp [aD, aC] <;> rfl) | (simp [*, aD, aC] <;> rfl), by first | exact Kd.bW _ _ _ _ _ | exact Kd.N_nil _ _ _ _ _ | exact Kd.V_nil _ _ _ _ _ | exact Kd.Q_nil _ _ _ _ _ | exact Kd.jv _ _ _ _ _, by repeat (first | (with_reducible first | exact HB.out | apply ah | apply af | apply ag | refine av ?_ GE101.out) | exact HB.out)⟩
 ·rw [if_neg c4] at H
  have c4b0 : (t102 == 0) = false := beq_eq_false_iff_ne.mpr c4
  have c4b1 : (t102 != 0) = true := bne_iff_ne.mpr c4
  simp only [Option.some.injEq, Prod.mk.injEq] at H
  obtain ⟨rfl, rfl⟩ := H
  go_enter Tryz.func146, Tryz.ntmps146
  go_wp2_with (first | ((with_reducible refine bf (N := 3) rfl ?_); refine aY ?hg (N := 3) ?hd (cs := #[.int .i64 a1_0, .int .i64 a1_1, .int .i64 a1_2]) (t := 151) ?hr ?_; (case hd => rfl); (case hg => rfl); (case hr => first | (go_simp; done) | (go_simp; rfl)); intro gb101 hg w24 hbox hb; have n0_ := aa.mk (az (by repeat (first | (with_reducible first | exact HB.out | apply ah | apply af | apply ag) | exact HB.out)) hb); have n1_ := aa.mk (hbox); have n2_ := aa.mk ((by rw [hg]; exact (ay (by repeat (first | (with_reducible first | exact HB.out | apply ah | apply af | apply ag) | exact HB.out))) : w.heap.size ≤ gb101)); have n3_ := aa.mk ((by rw [hg]; exact (ay (by repeat (first | (with_reducible first | exact HB.out | apply ah | apply af | apply ag) | exact HB.out))) : w.heap.size ≤ gb101)); clear HB; have HB := n0_; have BK101 := n1_; have GW101 := n2_; have GE101 := n3_; clear n0_ n1_ n2_ n3_; clear hb hbox hg) | ((with_reducible refine bB (f := 124) rfl ?_); refine dN (some 8) rfl rfl Tryz.func124 (by kernel_rfl) rfl #[.slice A0 l0.length c0] rfl (by (try simp only [List.map_toArray, List.map_cons, List.map_nil]); first | done | rfl | (simp only [List.length_drop, List.length_take]; rfl)) ?_; (with_reducible refine (aG.calls k _ _ l0 t102 _ ?side1 ?side2 A3.out).mono ?_); (case side1 => repeat (first | exact (Kd.aN HR0.out HB.out) | (with_reducible refine Kd.dA ?_ _) | (with_reducible refine Kd.C_drewN ?_ _) | (with_reducible refine Kd.C_drew ?_))); (case side2 => exact HC0.out); rintro e w25 ⟨rfl, hb⟩; refine ⟨_, rfl, ?_⟩; have n0_ := aa.mk (aK (g := gb101) (o := .cells #[.int .i64 a1_0, .int .i64 a1_1, .int .i64 a1_2] 151 (0, 0)) (by (with_reducible repeat (first | refine ak ?_ _ | refine au ?_ | refine aj ?_ _)); exact BK101.out) hb); have n1_ := aa.mk (az (by repeat (first | (with_reducible first | exact HB.out | apply ah | apply af | apply ag | refine av ?_ GE101.out) | exact HB.out)) hb); clear BK101; clear HB; have BK101 := n0_; have HB := n1_; clear n0_ n1_; (try clear hb); (try clear hb2); (try clear hk); (try clear hi)))
  go_ret2
  exact ⟨_, by first | rfl | (simp [aD, aC] <;> rfl) | (simp [*, aD, aC] <;> rfl), by first | exact Kd.bW _ _ _ _ _ | exact Kd.N_nil _ _ _ _ _ | exact Kd.V_nil _ _ _ _ _ | exact Kd.Q_nil _ _ _ _ _ | exact Kd.jv _ _ _ _ _, by repeat (first | (with_reducible first | exact HB.out | apply ah | apply af | apply ag | refine av ?_ GE101.out) | exact HB.out)⟩
theorem eqA151 (d : Nat) (w : World) (x0 y0 : Int) (x1 y1 : Int) (x2 y2 : Int) :
    (Op.equalIn (d + 2) 151 (.agg #[.int .i64 x0, .int .i64 x1, .int .i64 x2]) (.agg #[.int .i64 y0, .int .i64 y1, .int .i64 y2])).run Tryz.prog w = .ok (x0 == y0 && (x1 == y1 && (x2 == y2))) w := by
  refine y7 Tryz.underlying151 (by kernel_rfl) ?_
  refine nR (by rfl) (by go_simp; rfl) (by go_simp; rfl) (by go_simp) ?_
  refine nR (by rfl) (by go_simp; rfl) (by go_simp; rfl) (by go_simp) ?_
  exact rz (by rfl) (by go_simp; rfl) (by go_simp; rfl) (by go_simp)
end Go.Proofs.YtjeeejoelmmfmaaGreat.Fn
namespace Go.Proofs.YtjeeejoelmmfmaaGreat.Fn
open Go.RowKit Go.Proofs.YtjeeejoelmmfmaaGreatW.PrintWords Go.Proofs.YtjeeejoelmmfmaaGreatW.PrintLast Go.Proofs.YtjeeejoelmmfmaaGreatW.PrintMore
attribute [local go_sem] fw eu fU fZ dY dX fu fe
set_option linter.unusedVariables false
set_option linter.unusedSimpArgs false
attribute [local go_sem high] eqA151
def dW (e : Int) (s : List S151 × Int) (x : S151) : List S151 × Int :=
  if (fD x s.2 e).f2 ≤ 0 then s else (addG (addG s.1 ⟨s.2, -1, wrap64 ((fD x s.2 e).f0 - s.2)⟩) (fD x s.2 e), wrap64 ((fD x s.2 e).f0 + (fD x s.2 e).f2))
theorem lC (e : Int) (s : List S151 × Int) (x : S151) : (dW e s x).1.length ≤ s.1.length + 2 := by
  unfold dW
  split
  · omega
  · exact Nat.le_trans (eX _ _) (by have := eX s.1 ⟨s.2, -1, wrap64 ((fD x s.2 e).f0 - s.2)⟩; omega)
theorem mq (e : Int) (l : List S151) : ∀ s : List S151 × Int, (l.foldl (dW e) s).1.length ≤ s.1.length + 2 * l.length := by
  induction l with
  | nil => intro s; simp
  | cons x u ih =>
    intro s
    have h1 := ih (dW e s x)
    have h2 := lC e s x
    simp only [List.foldl_cons, List.length_cons]
    omega
def lookL (l : List S151) (v n : Int) : List S151 :=
  addG (l.foldl (dW (wrap64 (v + n))) ([], v)).1 ⟨(l.foldl (dW (wrap64 (v + n))) ([], v)).2, -1, wrap64 (wrap64 (v + n) - (l.foldl (dW (wrap64 (v + n))) ([], v)).2)⟩
def pO (l : List S151) (v n : Int) : List S151 × Int :=
  if Flag.gX (l.map toE) = 0 then (if Ah v n = true then (lookL l v n, 0) else ([], 4)) else ([], 9)
def iN.f (l0 : List (S151)) (a1 : Int) (a2 : Int) : Option ((List (S151)) × Int) := some (pO l0 a1 a2)
set_option maxHeartbeats 4000000 in
set_option maxRecDepth 100000 in
theorem iN.calls (A0 : Option Addr) (c0 : Nat) (l0 : List (S151)) (a1 : Int) (a2 : Int) (r1 : List (S151)) (r2 : Int) (w : World) (hr0 : Kd.C k151 w A0 l0.length l0) (hc0 : l0.length ≤ c0) (h : iN.f l0 a1 a2 = some (r1, r2)) :
    Calls Tryz.prog 103 #[.slice A0 l0.length c0, .int .i64 a1, .int .i64 a2] w fun e w' => ∃ v0_ : Value, e = .returned (.tuple #[v0_, .int .i64 r2]) ∧ Kd.R k151 151 w' w.heap.size (fun _ => True) v0_ r1 ∧ Below w.heap.size w w' := by
  have hu151 := Tryz.underlying151
  have hcx : aG.f (l0.length + 1) l0 = some (Flag.gX (l0.map toE)) := ui l0 (by omega)
  unfold iN.f at h
  have h := Option.some.inj h
  unfold pO at h
  have HR0 := aa.mk hr0
  have HC0 := aa.mk hc0
  clear hr0 hc0
  go_enter Tryz.func103, Tryz.ntmps103
  go_wp2_with fail
  refine (aG.calls (l0.length + 1) A0 c0 l0 _ w HR0.out HC0.out hcx).mono ?_
  rintro e w1 ⟨rfl, hb1⟩
  have HBEL := aa.mk (az (Below.refl w.heap.size w) hb1)
  clear hb1
  rcases Flag.uy (l0.map toE) with h0 | h0
  · rw [if_pos h0] at h
    have hl0 : l0.length ≤ 1024 := by have := (Flag.jW.1 h0).len; simpa using this
    rw [h0]
    clear h0 hcx
    go_wp2_with fail
    refine (cO.calls a1 a2 _ w1 zN).mono ?_
    rintro e w3 ⟨rfl, hb2⟩
    have HBEL3 := aa.mk (az HBEL.out hb2)
    clear hb2
    by_cases hf1 : Ah a1 a2 = true
    · rw [if_pos hf1] at h
      rw [hf1]
      have HH := aa.mk h
      clear h hf1
      go_wp2_with fail
      obtain ⟨W4, hW4⟩ : ∃ W, W = w3.alloc (.cells #[.slice none 0 0] 209) := ⟨_, rfl⟩
      rw [← hW4]
      obtain ⟨b9, hb9⟩ : ∃ b, b = w3.heap.size := ⟨_, rfl⟩
      rw [← hb9]
      have hp9 : W4.heap[b9]? = some (.cells #[.slice none 0 0] 209 (0, 0)) := by rw [hW4, hb9]; exact bg w3 _
      have hge : w.heap.size ≤ w3.heap.size := HBEL3.out.size
      have hbel4 : Below w.heap.size w W4 := by rw [hW4]; exact HBEL3.out.alloc hge _
      have hsz4 : W4.heap.size = w3.heap.size + 1 := by rw [hW4]; simp
      have hrs : RS w w.heap.size [b9] b9 [] W4 := RS.of_nil hp9 hbel4 (by omega) (by simp) (by intro k hk; simp at hk; rcases hk with rfl; omega)
      have HRS := aa.mk hrs
      clear hW4 hp9 hge hbel4 hsz4 hrs hb9
      obtain ⟨e_, he_⟩ : ∃ e, e = wrap64 (a1 + a2) := ⟨_, rfl⟩
      rw [← he_]
      have HE := aa.mk he_
      clear he_
      go_loopg [10, 30] l0.length (fun gk v10 v30 W => ∃ i at_ : Int, v10 = .int .i64 at_ ∧ v30 = .int .i64 i ∧ aa (0 ≤ i ∧ i + gk = l0.length) ∧ aa (at_ = ((l0.take i.toNat).foldl (dW e_) ([], a1)).2) ∧ aa (RS w w.heap.size [b9] b9 ((l0.take i.toNat).foldl (dW e_) ([], a1)).1 W))
      case atStart => exact ⟨0, a1, rfl, rfl, ⟨Int.le_refl _, by simp⟩, ⟨by simp⟩, ⟨by simpa using HRS.out⟩⟩
      case round =>
        obtain ⟨i, at_, rfl, rfl, HI, HAT, HS⟩ := hrel
        obtain ⟨o, ho⟩ : ∃ o, o = ((l0.take i.toNat).foldl (dW e_) ([], a1)).1 := ⟨_, rfl⟩
        have hol : o.length ≤ 4096 := by
          have h1 := mq e_ (l0.take i.toNat) ([], a1)
          rw [← ho] at h1
          have h2 : (l0.take i.toNat).length ≤ 1024 := by rw [List.length_take]; omega
          simp only [List.length_nil] at h1
          omega
        rw [← ho] at HS
        have HOL := aa.mk hol
        have HO := aa.mk ho
        clear ho hol
        cases gk with
        | zero =>
          have hi : i = l0.length := by have := HI.out.2; omega
          have hd : decide (i < (l0.length : Int)) = false := decide_eq_false (by omega)
          have hres : addG o ⟨at_, -1, wrap64 (e_ - at_)⟩ = r1 ∧ 0 = r2 := by
            have h1 := HH.out
            have h2 := HO.out
            have h3 := HAT.out
            rw [hi, Int.toNat_natCast, List.take_length] at h2 h3
            rw [h2, h3]
            simp only [Prod.mk.injEq] at h1
            rw [HE.out]
            exact h1
          have HRES := aa.mk hres
          clear hi hres
          go_wp2_with fail
          refine (HS.out.add ⟨at_, -1, wrap64 (e_ - at_)⟩ (by have := HOL.out; omega)).mono ?_
          rintro e w5 ⟨rfl, h5, _, _⟩
          obtain ⟨A, c, hcc9, hR⟩ := h5.cell
          have H5 := aa.mk h5
          have HRR := aa.mk hR
          clear h5 hR
          go_wp2
          go_ret2
          refine ⟨_, by rw [← HRES.out.2]; rfl, ?_, H5.out.old⟩
          rw [← HRES.out.1]
          exact Kd.aX HRR.out (fun _ _ => trivial)
        | succ k1 =>
          have hp0 : 0 ≤ i := HI.out.1
          have hp1 : i < (l0.length : Int) := by have := HI.out.2; omega
          have hd : decide (i < (l0.length : Int)) = true := decide_eq_true hp1
          have hC : Kd.C k151 wr A0 l0.length l0 := Kd.aN HR0.out HS.out.old
          obtain ⟨ad, e3, g0, g1, g2⟩ := dS hC i hp0 hp1
          cases e3
          obtain ⟨x, hx⟩ : ∃ x, x = ax l0 i := ⟨_, rfl⟩
          rw [← hx] at g0 g1 g2
          have hst : (l0.take (i + 1).toNat).foldl (dW e_) ([], a1) = dW e_ (o, at_) x := by
            have h3 : (i + 1).toNat = i.toNat + 1 := by omega
            have h4 : i.toNat < l0.length := by omega
            have h5 : x = l0[i.toNat] := by rw [hx]; unfold ax; rw [List.getD_eq_getElem?_getD, List.getElem?_eq_getElem h4]; rfl
            rw [h3, List.take_succ_eq_append_getElem h4, List.foldl_append, ← h5, HO.out, HAT.out]
            rfl
          have HST := aa.mk hst
          have HP := aa.mk (And.intro hp0 hp1)
          clear hx hC hst
          go_wp2_with fail
          refine (gW x at_ e_ _).mono ?_
          rintro e w2' ⟨rfl, hb2⟩
          have hb1 : Below wr.heap.size wr (wr.alloc (.cells #[.int .i64 x.f0, .int .i64 x.f1, .int .i64 x.f2] 151)) := (Below.refl _ _).alloc (Nat.le_refl _) _
          have H2 := aa.mk ((HS.out.below hb1).below hb2)
          clear hb1 hb2 g0 g1 g2
          obtain ⟨p, hp⟩ : ∃ p, p = fD x at_ e_ := ⟨_, rfl⟩
          rw [← hp]
          have HPP := aa.mk hp
          clear hp
          by_cases hpp : p.f2 ≤ 0
          · have hdp : decide (p.f2 ≤ 0) = true := decide_eq_true hpp
            have hstp : dW e_ (o, at_) x = (o, at_) := by unfold dW; rw [← HPP.out, if_pos hpp]
            have HSTP := aa.mk hstp
            clear hstp
            go_wp2_with fail
            go_roundg k1
            case measure => omega
            case rel =>
              refine ⟨i + 1, at_, by first | rfl | (simp; done), by first | rfl | (simp; done), ⟨by have := HP.out.1; omega, by have := HI.out.2; omega⟩, ⟨?_⟩, ⟨?_⟩⟩
              · rw [HST.out, HSTP.out]
              · rw [HST.out, HSTP.out]
                exact H2.out.below ((Below.refl _ _).alloc (Nat.le_refl _) _)
          · have hdp : decide (p.f2 ≤ 0) = false := decide_eq_false hpp
            have hstp : dW e_ (o, at_) x = (addG (addG o ⟨at_, -1, wrap64 (p.f0 - at_)⟩) p, wrap64 (p.f0 + p.f2)) := by unfold dW; rw [← HPP.out, if_neg hpp]
            have HSTP := aa.mk hstp
            clear hstp hpp
            go_wp2_with fail
            obtain ⟨W5, hW5⟩ : ∃ W, W = w2'.alloc (.cells #[.int .i64 p.f0, .int .i64 p.f1, .int .i64 p.f2] 151) := ⟨_, rfl⟩
            obtain ⟨bp, hbp⟩ : ∃ b, b = w2'.heap.size := ⟨_, rfl⟩
            have hb5 : Below w2'.heap.size w2' W5 := by rw [hW5]; exact (Below.refl _ _).alloc (Nat.le_refl _) _
            have hx5 : W5.heap[bp]? = some (.cells #[.int .i64 p.f0, .int .i64 p.f1, .int .i64 p.f2] 151 (0, 0)) := by rw [hW5, hbp]; exact bg w2' _
            rw [← hW5, ← hbp]
            have H5 := aa.mk (H2.out.push hb5 (Nat.le_of_eq hbp.symm) (aA hx5))
            have nb : bp ≠ b9 := by
              have h9 := H2.out
              obtain ⟨_, _, _, _, _, _, h6⟩ := h9
              have q1 := h6 b9 (by simp)
              omega
            have NB := aa.mk nb
            have HX5 := aa.mk hx5
            clear hW5 hbp hb5 hx5 nb
            refine (H5.out.add ⟨at_, -1, wrap64 (p.f0 - at_)⟩ (by have := HOL.out; omega)).mono ?_
            rintro e w6 ⟨rfl, h6, hs6, hk6⟩
            have HX6 := aa.mk ((hk6 bp (by simp) NB.out).trans HX5.out)
            have H6 := aa.mk h6
            have HL6 := aa.mk (eX o ⟨at_, -1, wrap64 (p.f0 - at_)⟩)
            clear h6 hs6 hk6
            have y0 : w6.cell? ⟨bp, 0, none⟩ = some (.int .i64 p.f0) := (ae HX6.out 0).trans rfl
            have y1 : w6.cell? ⟨bp, 1, none⟩ = some (.int .i64 p.f1) := (ae HX6.out 1).trans rfl
            have y2 : w6.cell? ⟨bp, 2, none⟩ = some (.int .i64 p.f2) := (ae HX6.out 2).trans rfl
            go_wp2_with fail
            clear y0 y1 y2
            refine (H6.out.add p (by have := HOL.out; have := HL6.out; omega)).mono ?_
            rintro e w7 ⟨rfl, h7, hs7, hk7⟩
            have HX7 := aa.mk ((hk7 bp (by simp) NB.out).trans HX6.out)
            have H7 := aa.mk h7
            clear h7 hs7 hk7
            have y0 : w7.cell? ⟨bp, 0, none⟩ = some (.int .i64 p.f0) := (ae HX7.out 0).trans rfl
            have y2 : w7.cell? ⟨bp, 2, none⟩ = some (.int .i64 p.f2) := (ae HX7.out 2).trans rfl
            go_wp2
            go_roundg k1
            case measure => omega
            case rel =>
              refine ⟨i + 1, wrap64 (p.f0 + p.f2), by first | rfl | (simp; done), by first | rfl | (simp; done), ⟨by have := HP.out.1; omega, by have := HI.out.2; omega⟩, ⟨?_⟩, ⟨?_⟩⟩
              · rw [HST.out, HSTP.out]
              · rw [HST.out, HSTP.out]
                exact H7.out.drop (by simp)
    · rw [if_neg hf1] at h
      simp only [Bool.not_eq_true] at hf1
      rw [hf1]
      simp only [Prod.mk.injEq] at h
      obtain ⟨rfl, rfl⟩ := h
      go_wp2
      go_ret2
      exact ⟨_, rfl, Kd.bW _ _ _ _ _, HBEL3.out⟩
  · rw [h0] at h ⊢
    rw [if_neg (by omega)] at h
    simp only [Prod.mk.injEq] at h
    obtain ⟨rfl, rfl⟩ := h
    go_wp2
    go_ret2
    exact ⟨_, rfl, Kd.bW _ _ _ _ _, HBEL.out⟩
end Go.Proofs.YtjeeejoelmmfmaaGreat.Fn
namespace Go.Proofs.YtjeeejoelmmfmaaGreat.Fn
open Go.RowKit Go.Proofs.YtjeeejoelmmfmaaGreatW.PrintWords Go.Proofs.YtjeeejoelmmfmaaGreatW.PrintLast Go.Proofs.YtjeeejoelmmfmaaGreatW.PrintMore
attribute [local go_sem] fw eu fU fZ dY dX fu fe
set_option linter.unusedVariables false
set_option linter.unusedSimpArgs false
structure OpV where
  what : Int
  at0 : Int
  n : Int
  id : Int
  name : ByteArray
  data : List Int
def fV.f (a0 : Int) (a1 : Int) (a2 : Int) : Option (Bool) := if (mn a1 a2) ≥ 0 then (if a1 ≤ a0 then (some (decide (a2 ≤ (wrap64 (a0 - a1))))) else (some false)) else (some false)
set_option maxHeartbeats 8000000 in
set_option maxRecDepth 100000 in
theorem fV.calls (a0 : Int) (a1 : Int) (a2 : Int) (r : Bool) (w : World) (h : fV.f a0 a1 a2 = some r) :
 Calls Tryz.prog 109 #[.int .i64 a0, .int .i64 a1, .int .i64 a2] w fun e w' => e = .returned (.bool r) ∧ Below w.heap.size w w' := by
 have HB := aa.mk (Below.refl w.heap.size w)
 have H : (if (mn a1 a2) ≥ 0 then (if a1 ≤ a0 then (some (decide (a2 ≤ (wrap64 (a0 - a1))))) else (some false)) else (some false)) = some r := h
 clear h
 obtain ⟨ji4, hji4⟩ : ∃ j_ : Int, (mn a1 a2) = j_ := ⟨_, rfl⟩
 replace H : (if (ji4) ≥ 0 then (if a1 ≤ a0 then (some (decide (a2 ≤ (wrap64 (a0 - a1))))) else (some false)) else (some false)) = some r := by first | (rw [hji4] at H; exact H) | (simp only [hji4] at H ⊢; exact H)
 have hji4_ : (if a2 < a1 then a2 else a1) = ji4 := hji4
 by_cases c5 : (ji4) ≥ 0
 ·rw [if_pos c5] at H
  have c5b0 : decide (0 ≤ (ji4)) = true := decide_eq_true c5
  clear c5
  by_cases c6 : a1 ≤ a0
  ·rw [if_pos c6] at H
   have c6b0 : decide (a1 ≤ a0) = true := decide_eq_true c6
   clear c6
   obtain rfl := Option.some.inj H
   go_enter Tryz.func109, Tryz.ntmps109
   go_wp2
   go_ret
   exact ⟨by first | rfl | (simp [aD, aC] <;> rfl) | (simp only [← hji4]; first | rfl | (simp [aD, aC] <;> rfl)) | (simp [*, aD, aC] <;> rfl), by repeat (first | (with_reducible first | exact HB.out | apply ah | apply af | apply ag) | exact HB.out)⟩
  ·rw [if_neg c6] at H
   have c6b0 : decide (a1 ≤ a0) = false := decide_eq_false c6
   clear c6
   obtain rfl := Option.some.inj H
   go_enter Tryz.func109, Tryz.ntmps109
   go_wp2
   go_ret
   exact ⟨by first | rfl | (simp [aD, aC] <;> rfl) | (simp only [← hji4]; first | rfl | (simp [aD, aC] <;> rfl)) | (simp [*, aD, aC] <;> rfl), by repeat (first | (with_reducible first | exact HB.out | apply ah | apply af | apply ag) | exact HB.out)⟩
 ·rw [if_neg c5] at H
  have c5b0 : decide (0 ≤ (ji4)) = false := decide_eq_false c5
  clear c5
  obtain rfl := Option.some.inj H
  go_enter Tryz.func109, Tryz.ntmps109
  go_wp2
  go_ret
  exact ⟨by first | rfl | (simp [aD, aC] <;> rfl) | (simp only [← hji4]; first | rfl | (simp [aD, aC] <;> rfl)) | (simp [*, aD, aC] <;> rfl), by repeat (first | (with_reducible first | exact HB.out | apply ah | apply af | apply ag) | exact HB.out)⟩
def dF.f (a0 : Int) : Option ((List (List Int)) × (List (S42)) × Int × Int) := if a0 < 0 then (some (([] : List (List Int)), ([] : List (S42)), 0, 4)) else (if a0 > 65536 then (some (([] : List (List Int)), ([] : List (S42)), 0, 4)) else (if 0 ≤ a0 then (if (a0 : Int).toNat ≤ 11728124029610 then (some ((List.replicate (a0 : Int).toNat []), ([] : List (S42)), 1, 0)) else (none)) else (none)))
set_option maxHeartbeats 8000000 in
set_option maxRecDepth 100000 in
theorem dF.calls (a0 : Int) (r1 : List (List Int)) (r2 : List (S42)) (r3 : Int) (r4 : Int) (w : World) (h : dF.f a0 = some (r1, r2, r3, r4)) :
 Calls Tryz.prog 36 #[.int .i64 a0] w fun e w' => ∃ v0_ v1_ : Value, e = .returned (.tuple #[.agg #[v0_, v1_, .int .i64 r3], .int .i64 r4]) ∧ Kd.S (Kd.slice 5 (Kd.int .u8)) 37 w' w.heap.size (fun _ => True) v0_ r1 ∧ Kd.R k42 42 w' w.heap.size (fun k_ => some k_ ≠ (v0_ : Value).ownBlock) v1_ r2 ∧ Below w.heap.size w w' := by
 have hu34 := Tryz.underlying34
 have HB := aa.mk (Below.refl w.heap.size w)
 have H : (if a0 < 0 then (some (([] : List (List Int)), ([] : List (S42)), 0, 4)) else (if a0 > 65536 then (some (([] : List (List Int)), ([] : List (S42)), 0, 4)) else (if 0 ≤ a0 then (if (a0 : Int).toNat ≤ 11728124029610 then (some ((List.replicate (a0 : Int).toNat []), ([] : List (S42)), 1, 0)) else (none)) else (none)))) = some (r1, r2, r3, r4) := h
 clear h
 by_cases c2 : a0 < 0
 ·rw [if_pos c2] at H
  have c2b0 : decide (a0 < 0) = true := decide_eq_true c2
  clear c2
  simp only [Option.some.injEq, Prod.mk.injEq] at H
  obtain ⟨rfl, rfl, rfl, rfl⟩ := H
  go_enter Tryz.func36, Tryz.ntmps36
  go_wp2_with (first | ((with_reducible refine bf (N := 2) rfl ?_); refine aY ?hg (N := 2) ?hd (cs := #[.slice none 0 0, .slice none 0 0, .int .i64 0]) (t := 34) ?hr ?_; (case hd => rfl); (case hg => rfl); (case hr => first | (go_simp; done) | (go_simp; rfl)); intro gb101 hg w3 hbox hb; have n0_ := aa.mk (az (by repeat (first | (with_reducible first | exact HB.out | apply ah | apply af | apply ag) | exact HB.out)) hb); have n1_ := aa.mk (hbox); have n2_ := aa.mk ((by rw [hg]; exact (ay (by repeat (first | (with_reducible first | exact HB.out | apply ah | apply af | apply ag) | exact HB.out))) : w.heap.size ≤ gb101)); have n3_ := aa.mk ((by rw [hg]; exact (ay (by repeat (first | (with_reducible first | exact HB.out | apply ah | apply af | apply ag) | exact HB.out))) : w.heap.size ≤ gb101)); clear HB; have HB := n0_; have BK101 := n1_; have GW101 := n2_; have GE101 := n3_; clear n0_ n1_ n2_ n3_; clear hb hbox hg; have hcz4_0 : w3.cell? ⟨gb101, 0, none⟩ = some (.slice none 0 0) := (ae BK101.out 0).trans rfl; have hcz4_1 : w3.cell? ⟨gb101, 1, none⟩ = some (.slice none 0 0) := (ae BK101.out 1).trans rfl; have hcz4_2 : w3.cell? ⟨gb101, 2, none⟩ = some (.int .i64 0) := (ae BK101.out 2).trans rfl; have hfz4_0 := ai BK101.out 0; have hfz4_1 := ai BK101.out 1; have hfz4_2 := ai BK101.out 2))
  refine bodyPost_ret (bJ rfl _ _ gb101 34 #[.slice none 0 0, .slice none 0 0, .int .i64 0] (0, 0) _ rfl (by (with_reducible repeat (first | refine ak ?_ _ | refine au ?_ | refine aj ?_ _)); refine aW (cs := #[.slice none 0 0, .slice none 0 0, .int .i64 0]) ?_ 2 _ rfl; (with_reducible repeat (first | refine ak ?_ _ | refine au ?_ | refine aj ?_ _)); refine aW (cs := #[.slice none 0 0, .slice none 0 0, .int .i64 0]) ?_ 1 _ rfl; (with_reducible repeat (first | refine ak ?_ _ | refine au ?_ | refine aj ?_ _)); refine aW (cs := #[.slice none 0 0, .slice none 0 0, .int .i64 0]) ?_ 0 _ rfl; (with_reducible repeat (first | refine ak ?_ _ | refine au ?_ | refine aj ?_ _)); exact BK101.out) Tryz.underlying34 rfl (by kernel_rfl)) rfl ?_
  exact ⟨_, _, by first | rfl | (simp [aD, aC] <;> rfl) | (simp [*, aD, aC] <;> rfl), by first | exact Kd.jv _ _ _ _ _ | exact Kd.N_nil _ _ _ _ _ | exact Kd.V_nil _ _ _ _ _ | exact Kd.Q_nil _ _ _ _ _ | exact Kd.bW _ _ _ _ _, by first | exact Kd.bW _ _ _ _ _ | exact Kd.N_nil _ _ _ _ _ | exact Kd.V_nil _ _ _ _ _ | exact Kd.Q_nil _ _ _ _ _ | exact Kd.jv _ _ _ _ _, by repeat (first | (with_reducible first | exact HB.out | apply ah | apply af | apply ag | refine av ?_ GE101.out) | exact HB.out)⟩
 ·rw [if_neg c2] at H
  have c2b0 : decide (a0 < 0) = false := decide_eq_false c2
  clear c2
  by_cases c5 : a0 > 65536
  ·rw [if_pos c5] at H
   have c5b0 : decide (65536 < a0) = true := decide_eq_true c5
   clear c5
   simp only [Option.some.injEq, Prod.mk.injEq] at H
   obtain ⟨rfl, rfl, rfl, rfl⟩ := H
   go_enter Tryz.func36, Tryz.ntmps36
   go_wp2_with (first | ((with_reducible refine bf (N := 2) rfl ?_); refine aY ?hg (N := 2) ?hd (cs := #[.slice none 0 0, .slice none 0 0, .int .i64 0]) (t := 34) ?hr ?_; (case hd => rfl); (case hg => rfl); (case hr => first | (go_simp; done) | (go_simp; rfl)); intro gb101 hg w6 hbox hb; have n0_ := aa.mk (az (by repeat (first | (with_reducible first | exact HB.out | apply ah | apply af | apply ag) | exact HB.out)) hb); have n1_ := aa.mk (hbox); have n2_ := aa.mk ((by rw [hg]; exact (ay (by repeat (first | (with_reducible first | exact HB.out | apply ah | apply af | apply ag) | exact HB.out))) : w.heap.size ≤ gb101)); have n3_ := aa.mk ((by rw [hg]; exact (ay (by repeat (first | (with_reducible first | exact HB.out | apply ah | apply af | apply ag) | exact HB.out))) : w.heap.size ≤ gb101)); clear HB; have HB := n0_; have BK101 := n1_; have GW101 := n2_; have GE101 := n3_; clear n0_ n1_ n2_ n3_; clear hb hbox hg; have hcz7_0 : w6.cell? ⟨gb101, 0, none⟩ = some (.slice none 0 0) := (ae BK101.out 0).trans rfl; have hcz7_1 : w6.cell? ⟨gb101, 1, none⟩ = some (.slice none 0 0) := (ae BK101.out 1).trans rfl; have hcz7_2 : w6.cell? ⟨gb101, 2, none⟩ = some (.int .i64 0) := (ae BK101.out 2).trans rfl; have hfz7_0 := ai BK101.out 0; have hfz7_1 := ai BK101.out 1; have hfz7_2 := ai BK101.out 2))
   refine bodyPost_ret (bJ rfl _ _ gb101 34 #[.slice none 0 0, .slice none 0 0, .int .i64 0] (0, 0) _ rfl (by (with_reducible repeat (first | refine ak ?_ _ | refine au ?_ | refine aj ?_ _)); refine aW (cs := #[.slice none 0 0, .slice none 0 0, .int .i64 0]) ?_ 2 _ rfl; (with_reducible repeat (first | refine ak ?_ _ | refine au ?_ | refine aj ?_ _)); refine aW (cs := #[.slice none 0 0, .slice none 0 0, .int .i64 0]) ?_ 1 _ rfl; (with_reducible repeat (first | refine ak ?_ _ | refine au ?_ | refine aj ?_ _)); refine aW (cs := #[.slice none 0 0, .slice none 0 0, .int .i64 0]) ?_ 0 _ rfl; (with_reducible repeat (first | refine ak ?_ _ | refine au ?_ | refine aj ?_ _)); exact BK101.out) Tryz.underlying34 rfl (by kernel_rfl)) rfl ?_
   exact ⟨_, _, by first | rfl | (simp [aD, aC] <;> rfl) | (simp [*, aD, aC] <;> rfl), by first | exact Kd.jv _ _ _ _ _ | exact Kd.N_nil _ _ _ _ _ | exact Kd.V_nil _ _ _ _ _ | exact Kd.Q_nil _ _ _ _ _ | exact Kd.bW _ _ _ _ _, by first | exact Kd.bW _ _ _ _ _ | exact Kd.N_nil _ _ _ _ _ | exact Kd.V_nil _ _ _ _ _ | exact Kd.Q_nil _ _ _ _ _ | exact Kd.jv _ _ _ _ _, by repeat (first | (with_reducible first | exact HB.out | apply ah | apply af | apply ag | refine av ?_ GE101.out) | exact HB.out)⟩
  ·rw [if_neg c5] at H
   have c5b0 : decide (65536 < a0) = false := decide_eq_false c5
   clear c5
   by_cases c8 : 0 ≤ a0
   ·rw [if_pos c8] at H
    have c8b0 := eq_true c8
    have c8b1 : decide (0 ≤ a0) = true := decide_eq_true c8
    clear c8
    by_cases c9 : (a0 : Int).toNat ≤ 11728124029610
    ·rw [if_pos c9] at H
     have c9b0 := eq_true c9
     have c9b1 : decide ((a0 : Int).toNat ≤ 11728124029610) = true := decide_eq_true c9
     clear c9
     obtain ⟨y102, hy102⟩ : ∃ y_ : List (List Int), y_ = (List.replicate (a0 : Int).toNat []) := ⟨_, rfl⟩
     replace H : (some (y102, ([] : List (S42)), 1, 0)) = some (r1, r2, r3, r4) := by first | (rw [hy102]; with_reducible exact H) | (have H2_ := (Option.bind_some _ _).symm.trans H; rw [hy102]; with_reducible exact H2_) | (have H2_ := (Option.bind_some _ _).symm.trans H; with_reducible exact H2_) | with_reducible exact H | (rw [hy102]; exact H) | exact H
     have Ny102 := aa.mk hy102
     clear hy102
     simp only [Option.some.injEq, Prod.mk.injEq] at H
     obtain ⟨rfl, rfl, rfl, rfl⟩ := H
     go_enter Tryz.func36, Tryz.ntmps36
     go_wp2_with (first | ((with_reducible refine bf (N := 2) rfl ?_); refine aY ?hg (N := 2) ?hd (cs := #[.slice none 0 0, .slice none 0 0, .int .i64 0]) (t := 34) ?hr ?_; (case hd => rfl); (case hg => rfl); (case hr => first | (go_simp; done) | (go_simp; rfl)); intro gb101 hg w10 hbox hb; have n0_ := aa.mk (az (by repeat (first | (with_reducible first | exact HB.out | apply ah | apply af | apply ag) | exact HB.out)) hb); have n1_ := aa.mk (hbox); have n2_ := aa.mk ((by rw [hg]; exact (ay (by repeat (first | (with_reducible first | exact HB.out | apply ah | apply af | apply ag) | exact HB.out))) : w.heap.size ≤ gb101)); have n3_ := aa.mk ((by rw [hg]; exact (ay (by repeat (first | (with_reducible first | exact HB.out | apply ah | apply af | apply ag) | exact HB.out))) : w.heap.size ≤ gb101)); clear HB; have HB := n0_; have BK101 := n1_; have GW101 := n2_; have GE101 := n3_; clear n0_ n1_ n2_ n3_; clear hb hbox hg) | ((with_reducible refine bf (N := 12) rfl ?_); refine Kd.S_make (Kd.slice 5 (Kd.int .u8)) _ 37 rfl (N := 12) rfl 29 _ _ rfl a0 rfl rfl Tryz.underlying29 (.slice none 0 0) 24 t_ rfl (by decide) (by omega) [] (ok := fun _ => True) (okp := fun _ => True) ⟨_, rfl, Kd.bW _ _ _ _ _⟩ (fun _ hk => hk) trivial (of_decide_eq_true (by first | (with_reducible assumption) | assumption)) (Nat.le_trans (Nat.mul_le_mul_right _ (of_decide_eq_true (by first | (with_reducible assumption) | assumption) : a0.toNat ≤ 11728124029610)) (by omega)) (Below.refl _ _) (Nat.le_refl _) ?_; intro v103 w11 ho12 hb hg_ hnew_; clear hg_ hnew_; (first | rw [← Ny102.out] at ho12 | (simp only [Int.reduceToNat] at ho12; rw [← Ny102.out] at ho12)); have n0_ := aa.mk (Kd.zB ho12 (ay (by repeat (first | (with_reducible first | exact HB.out | apply ah | apply af | apply ag | refine av ?_ GE101.out) | exact HB.out)))); have n1_ := aa.mk (aK (g := gb101) (o := .cells #[.slice none 0 0, .slice none 0 0, .int .i64 0] 34 (0, 0)) (by (with_reducible repeat (first | refine ak ?_ _ | refine au ?_ | refine aj ?_ _)); exact BK101.out) hb); have n2_ := aa.mk (az (by repeat (first | (with_reducible first | exact HB.out | apply ah | apply af | apply ag | refine av ?_ GE101.out) | exact HB.out)) hb); clear BK101; clear HB; have HO104 := n0_; have BK101 := n1_; have HB := n2_; clear n0_ n1_ n2_; clear hb ho12; obtain ⟨Ao13, co13, eo13⟩ := Kd.AB HO104.out; subst eo13; have hcz14_0 : w11.cell? ⟨gb101, 0, none⟩ = some (.slice none 0 0) := (ae BK101.out 0).trans rfl; have hcz14_1 : w11.cell? ⟨gb101, 1, none⟩ = some (.slice none 0 0) := (ae BK101.out 1).trans rfl; have hcz14_2 : w11.cell? ⟨gb101, 2, none⟩ = some (.int .i64 0) := (ae BK101.out 2).trans rfl; have hfz14_0 := ai BK101.out 0; have hfz14_1 := ai BK101.out 1; have hfz14_2 := ai BK101.out 2))
     refine bodyPost_ret (bJ rfl _ _ gb101 34 #[.slice Ao13 y102.length co13, .slice none 0 0, .int .i64 1] (0, 0) _ rfl (by (with_reducible repeat (first | refine ak ?_ _ | refine au ?_ | refine aj ?_ _)); refine aW (cs := #[.slice Ao13 y102.length co13, .slice none 0 0, .int .i64 0]) ?_ 2 _ rfl; (with_reducible repeat (first | refine ak ?_ _ | refine au ?_ | refine aj ?_ _)); refine aW (cs := #[.slice Ao13 y102.length co13, .slice none 0 0, .int .i64 0]) ?_ 1 _ rfl; (with_reducible repeat (first | refine ak ?_ _ | refine au ?_ | refine aj ?_ _)); refine aW (cs := #[.slice none 0 0, .slice none 0 0, .int .i64 0]) ?_ 0 _ rfl; (with_reducible repeat (first | refine ak ?_ _ | refine au ?_ | refine aj ?_ _)); exact BK101.out) Tryz.underlying34 rfl (by kernel_rfl)) rfl ?_
     exact ⟨_, _, by first | rfl | (simp [aD, aC] <;> rfl) | (simp [*, aD, aC] <;> rfl), by (with_reducible repeat (first | apply Kd.S_alloc | apply Kd.S_drewN | apply Kd.S_drew)); exact Kd.yx (Kd.Aq (p := ⟨gb101, 2, none⟩) (Kd.Aq (p := ⟨gb101, 1, none⟩) (Kd.Aq (p := ⟨gb101, 0, none⟩) (Kd.AU HO104.out BK101.out (by decide)) (fun _ hk => hk.2) (.slice Ao13 y102.length co13)) (fun _ hk => hk.2) (.slice none 0 0)) (fun _ hk => hk.2) (.int .i64 1)) (fun _ hk => trivial), by first | exact Kd.bW _ _ _ _ _ | exact Kd.N_nil _ _ _ _ _ | exact Kd.V_nil _ _ _ _ _ | exact Kd.Q_nil _ _ _ _ _ | exact Kd.jv _ _ _ _ _, by repeat (first | (with_reducible first | exact HB.out | apply ah | apply af | apply ag | refine av ?_ GE101.out) | exact HB.out)⟩
    ·rw [if_neg c9] at H
     exact absurd H (by simp)
   ·rw [if_neg c8] at H
    exact absurd H (by simp)
def b_.f (a0 : Int) : Option (Int) := some a0
set_option maxHeartbeats 8000000 in
set_option maxRecDepth 100000 in
theorem b_.calls (a0 : Int) (r : Int) (w : World) (h : b_.f a0 = some r) :
 Calls Tryz.prog 22 #[.int .i64 a0] w fun e w' => e = .returned (.int .i64 r) ∧ bI w w' := by
 have H : (some a0) = some r := h
 clear h
 obtain rfl := Option.some.inj H
 go_enter Tryz.func22, Tryz.ntmps22
 go_wp2
 go_ret
 exact ⟨by first | rfl | (simp; done) | (simp [*]; done), by repeat (first | exact bI.refl _ | apply bI.step)⟩
def bV.f (l0 : List Int) : Option (List Int) := if ([] : List Int).length + l0.length < 140737488355328 then (some (([] : List Int) ++ l0)) else (none)
set_option maxHeartbeats 8000000 in
set_option maxRecDepth 100000 in
theorem bV.calls (A0 : Option Addr) (c0 : Nat) (l0 : List Int) (r : List Int) (w : World) (hr0 : Kd.C (Kd.int .u8) w A0 l0.length l0) (hc0 : l0.length ≤ c0) (h : bV.f l0 = some r) :
 Calls Tryz.prog 70 #[.slice A0 l0.length c0] w fun e w' => ∃ v0_ : Value, e = .returned (v0_) ∧ Kd.R (Kd.int .u8) 5 w' w.heap.size (fun _ => True) v0_ r ∧ Below w.heap.size w w' := by
 have HR0 := aa.mk hr0
 have HC0 := aa.mk hc0
 clear hr0 hc0
 have HB := aa.mk (Below.refl w.heap.size w)
 have H : (if ([] : List Int).length + l0.length < 140737488355328 then (some (([] : List Int) ++ l0)) else (none)) = some r := h
 clear h
 by_cases c2 : ([] : List Int).length + l0.length < 140737488355328
 ·rw [if_pos c2] at H
  have LMc2 := aa.mk c2
  clear c2
  obtain ⟨y101, hy101⟩ : ∃ y_ : List Int, y_ = (([] : List Int) ++ l0) := ⟨_, rfl⟩
  replace H : (some y101) = some r := by first | (rw [hy101]; with_reducible exact H) | (have H2_ := (Option.bind_some _ _).symm.trans H; rw [hy101]; with_reducible exact H2_) | (have H2_ := (Option.bind_some _ _).symm.trans H; with_reducible exact H2_) | with_reducible exact H | (rw [hy101]; exact H) | exact H
  have Ny101 := aa.mk hy101
  clear hy101
  obtain rfl := Option.some.inj H
  go_enter Tryz.func70, Tryz.ntmps70
  go_wp2_with (first | ((with_reducible refine bK (b := .append) (xs := #[.tmp 4, .tmp 5]) rfl ?_); at_builtin; refine Kd.ek (Kd.int .u8) (w0 := w) w.heap.size rfl (.tmp 4) (.tmp 5) 37 5 (.int .u8 0) 1 rfl Tryz.underlying37 info5 rfl (by decide) (by omega) (.slice none 0 0) ([] : List Int) l0 _ _ _ (fun _ => True) (fun _ => False) rfl rfl ?aO ?aR (fun _ _ h => h) (fun _ h => h.elim) ?aF ?aB ?aS ?aL ?_; (case aR => repeat (first | exact HR0.out | (with_reducible refine Kd.dA ?_ _) | (with_reducible refine Kd.C_drewN ?_ _) | (with_reducible refine Kd.C_drew ?_))); (case aB => exact (by repeat (first | (with_reducible first | exact HB.out | apply ah | apply af | apply ag) | exact HB.out))); (case aF => exact (fun _ _ => trivial)); (case aO => exact ((Kd.bW _ _ _ _ (fun _ => True)))); (case aS => exact (ay (by repeat (first | (with_reducible first | exact HB.out | apply ah | apply af | apply ag) | exact HB.out)))); (case aL => have := LMc2.out; omega); intro v102 w3 ho hb hg hat; rw [← Ny101.out] at ho; have n0_ := aa.mk (hb); have n1_ := aa.mk (ho); clear HB; have HB := n0_; have HO103 := n1_; clear n0_ n1_; clear ho hb hg hat))
  go_ret
  exact ⟨_, by first | rfl | (simp [aD, aC] <;> rfl) | (simp [*, aD, aC] <;> rfl), by (with_reducible repeat (first | apply Kd.bQ | apply Kd.bT | apply Kd.dC)); exact HO103.out, by repeat (first | (with_reducible first | exact HB.out | apply ah | apply af | apply ag) | exact HB.out)⟩
 ·rw [if_neg c2] at H
  exact absurd H (by simp)
def bE.f (a0_0 : Int) (a0_1 : Int) (a0_2 : Int) (a0_3 : Int) (a0_4 : ByteArray) (l0_5 : List Int) : Option (Int × Int × Int × Int × ByteArray × List Int) := (bV.f l0_5).bind fun t103 => (some (a0_0, a0_1, a0_2, a0_3, a0_4, t103))
def bE.T1 : Bool × List (List Nat × List Nat) := (true, [([], []), ([0], [0]), ([], []), ([2], [2]), ([], []), ([4], [4]), ([], []), ([6], [6]), ([], []), ([8], [8]), ([], []), ([10], [10]), ([11], [11]), ([1, 3, 5, 7, 9, 12], [1, 3, 5, 7, 9, 12]), ([13, 12, 0, 1, 2, 3, 4, 5, 6, 7, 8, 9, 10, 11, 12, 13], [13])])
def bE.B1 : List Nat := [0, 1, 0, 4, 0, 16, 0, 64, 0, 256, 0, 1024, 3072, 8191, 16383]
theorem bE.tab1 : rtab .any (opsOf Tryz.f28 1) = bE.T1 := by kernel_rfl
theorem bE.bits1 : cB bE.T1.2 bE.B1 = true := by kernel_rfl
set_option maxHeartbeats 8000000 in
set_option maxRecDepth 100000 in
theorem bE.calls (a0_0 : Int) (a0_1 : Int) (a0_2 : Int) (a0_3 : Int) (a0_4 : ByteArray) (A0_5 : Option Addr) (c0_5 : Nat) (l0_5 : List Int) (r1 : Int) (r2 : Int) (r3 : Int) (r4 : Int) (r5 : ByteArray) (r6 : List Int) (w : World) (hr0_5 : Kd.C (Kd.int .u8) w A0_5 l0_5.length l0_5) (hc0_5 : l0_5.length ≤ c0_5) (h : bE.f a0_0 a0_1 a0_2 a0_3 a0_4 l0_5 = some (r1, r2, r3, r4, r5, r6)) :
 Calls Tryz.prog 28 #[.agg #[.int .i64 a0_0, .int .i64 a0_1, .int .i64 a0_2, .int .i64 a0_3, .string a0_4, .slice A0_5 l0_5.length c0_5]] w fun e w' => ∃ v5_ : Value, e = .returned (.agg #[.int .i64 r1, .int .i64 r2, .int .i64 r3, .int .i64 r4, .string r5, v5_]) ∧ Kd.R (Kd.int .u8) 5 w' w.heap.size (fun _ => True) v5_ r6 ∧ Below w.heap.size w w' := by
 have hu55 := Tryz.underlying55
 have hu61 := Tryz.underlying61
 have HR0_5 := aa.mk hr0_5
 have HC0_5 := aa.mk hc0_5
 clear hr0_5 hc0_5
 have HB := aa.mk (Below.refl w.heap.size w)
 have H : ((bV.f l0_5).bind fun t103 => (some (a0_0, a0_1, a0_2, a0_3, a0_4, t103))) = some (r1, r2, r3, r4, r5, r6) := h
 clear h
 replace H := Option.bind_eq_some_iff.mp H
 obtain ⟨t103, A20, H⟩ := H
 replace H : (some (a0_0, a0_1, a0_2, a0_3, a0_4, t103)) = some (r1, r2, r3, r4, r5, r6) := H
 have A2 := aa.mk A20
 clear A20
 simp only [Option.some.injEq, Prod.mk.injEq] at H
 obtain ⟨rfl, rfl, rfl, rfl, rfl, rfl⟩ := H
 go_enter Tryz.func28, Tryz.ntmps28
 try go_wp2_with (first | ((with_reducible refine bf (N := 1) rfl ?_); refine aY ?hg (N := 1) ?hd (cs := #[.int .i64 a0_0, .int .i64 a0_1, .int .i64 a0_2, .int .i64 a0_3, .string a0_4, .slice A0_5 l0_5.length c0_5]) (t := 55) ?hr ?_; (case hd => rfl); (case hg => rfl); (case hr => first | (go_simp; done) | (go_simp; rfl)); intro gb101 hg w3 hbox hb; have n0_ := aa.mk (az (by repeat (first | (with_reducible first | exact HB.out | apply ah | apply af | apply ag) | exact HB.out)) hb); have n1_ := aa.mk (hbox); have n2_ := aa.mk ((by rw [hg]; exact (ay (by repeat (first | (with_reducible first | exact HB.out | apply ah | apply af | apply ag) | exact HB.out))) : w.heap.size ≤ gb101)); have n3_ := aa.mk ((by rw [hg]; exact (ay (by repeat (first | (with_reducible first | exact HB.out | apply ah | apply af | apply ag) | exact HB.out))) : w.heap.size ≤ gb101)); clear HB; have HB := n0_; have BK101 := n1_; have GW101 := n2_; have GE101 := n3_; clear n0_ n1_ n2_ n3_; clear hb hbox hg) | ((with_reducible refine bf (N := 2) rfl ?_); refine aY ?hg (N := 2) ?hd (cs := #[.int .i64 0, .int .i64 0, .int .i64 0, .int .i64 0, .string (⟨#[]⟩ : ByteArray), .slice none 0 0]) (t := 61) ?hr ?_; (case hd => rfl); (case hg => rfl); (case hr => first | (go_simp; done) | (go_simp; rfl)); intro gb102 hg w4 hbox hb; have n0_ := aa.mk (aK (g := gb101) (o := .cells #[.int .i64 a0_0, .int .i64 a0_1, .int .i64 a0_2, .int .i64 a0_3, .string a0_4, .slice A0_5 l0_5.length c0_5] 55 (0, 0)) (by (with_reducible repeat (first | refine ak ?_ _ | refine au ?_ | refine aj ?_ _)); exact BK101.out) hb); have n1_ := aa.mk (az (by repeat (first | (with_reducible first | exact HB.out | apply ah | apply af | apply ag | refine av ?_ GE101.out) | exact HB.out)) hb); have n2_ := aa.mk (hbox); have n3_ := aa.mk ((by rw [hg]; exact (ay (by repeat (first | (with_reducible first | exact HB.out | apply ah | apply af | apply ag | refine av ?_ GE101.out) | exact HB.out))) : w.heap.size ≤ gb102)); have n4_ := aa.mk ((by rw [hg]; exact (ay (by repeat (first | (with_reducible first | exact HB.out | apply ah | apply af | apply ag | refine av ?_ GE101.out) | exact HB.out))) : w.heap.size ≤ gb102)); have n5_ := aa.mk ((by rw [hg]; exact Nat.ne_of_lt (aA (g := gb101) (o := .cells #[.int .i64 a0_0, .int .i64 a0_1, .int .i64 a0_2, .int .i64 a0_3, .string a0_4, .slice A0_5 l0_5.length c0_5] 55 (0, 0)) (by (with_reducible repeat (first | refine ak ?_ _ | refine au ?_ | refine aj ?_ _)); exact BK101.out)) : gb101 ≠ gb102)); have n6_ := aa.mk ((by rw [hg]; exact Nat.ne_of_gt (aA (g := gb101) (o := .cells #[.int .i64 a0_0, .int .i64 a0_1, .int .i64 a0_2, .int .i64 a0_3, .string a0_4, .slice A0_5 l0_5.length c0_5] 55 (0, 0)) (by (with_reducible repeat (first | refine ak ?_ _ | refine au ?_ | refine aj ?_ _)); exact BK101.out)) : gb102 ≠ gb101)); clear BK101; clear HB; have BK101 := n0_; have HB := n1_; have BK102 := n2_; have GW102 := n3_; have GE102 := n4_; have NB101_102 := n5_; have NB102_101 := n6_; clear n0_ n1_ n2_ n3_ n4_ n5_ n6_; clear hb hbox hg))
 have n0_ := aa.mk (au BK101.out)
 have n1_ := aa.mk (au BK102.out)
 have n2_ := aa.mk (ag HB.out)
 clear BK101
 clear BK102
 clear HB
 have BK101 := n0_
 have BK102 := n1_
 have HB := n2_
 clear n0_ n1_ n2_
 refine dG (n := 15) (S := fun w' => w'.cell? ⟨gb101, 0, none⟩ = some (.int .i64 a0_0) ∧ w'.cell? ⟨gb101, 1, none⟩ = some (.int .i64 a0_1) ∧ w'.cell? ⟨gb101, 2, none⟩ = some (.int .i64 a0_2) ∧ w'.cell? ⟨gb101, 3, none⟩ = some (.int .i64 a0_3) ∧ w'.cell? ⟨gb101, 4, none⟩ = some (.string a0_4) ∧ w'.cell? ⟨gb101, 5, none⟩ = some (.slice A0_5 l0_5.length c0_5)) (ds := []) #[yF,yF,yF,yF,yF,yF,yF,yF,yF,yF,yF,yF,yF,yF,yF] (by kernel_rfl) rfl rfl ⟨(ae BK101.out 0).trans rfl, (ae BK101.out 1).trans rfl, (ae BK101.out 2).trans rfl, (ae BK101.out 3).trans rfl, (ae BK101.out 4).trans rfl, (ae BK101.out 5).trans rfl⟩ (fun hHeld => ?_); refine bG bE.tab1 bE.bits1 (fun HT_ HW_ => ?_)
 generalize w4.drew = w5 at BK101 BK102 HB hHeld ⊢
 refine pu_ 0 3 15 1 ?_
 refine pu_ 2 5 15 5 ?_
 refine pu_ 4 7 15 21 ?_
 refine pu_ 6 9 15 85 ?_
 refine pu_ 8 11 15 341 ?_
 refine pu_ 10 13 15 1365 ?_
 refine tk_ 1 4 15 1367 ?_
 refine tk_ 3 6 15 1375 ?_
 refine tk_ 5 8 15 1407 ?_
 refine tk_ 7 10 15 1535 ?_
 refine tk_ 9 12 15 2047 ?_
 refine tk_ 11 14 15 4095 ?_
 refine on_ 12 15 15 8191 (fun K hK => ?_)
 refine dO Tryz.func70 (by kernel_rfl) rfl #[.slice A0_5 l0_5.length c0_5] (by rfl) rfl rfl (by (try simp only [List.map_toArray, List.map_cons, List.map_nil]); first | done | rfl | (simp only [List.length_drop, List.length_take]; rfl)) ?_
 with_reducible refine (bV.calls _ _ l0_5 t103 _ ?side1 ?side2 A2.out).mono ?_
 (case side1 => repeat (first | exact (Kd.aN HR0_5.out HB.out) | (with_reducible refine Kd.dA ?_ _) | (with_reducible refine Kd.C_drewN ?_ _) | (with_reducible refine Kd.C_drew ?_)))
 (case side2 => exact HC0_5.out)
 rintro e w6 ⟨v104, rfl, ho0, hb⟩
 refine ⟨_, rfl, ?_⟩
 have n0_ := aa.mk (Kd.bH ho0 (ay (by repeat (first | (with_reducible first | exact HB.out | apply ah | apply af | apply ag | refine av ?_ GE101.out | refine av ?_ GE102.out) | exact HB.out))))
 have n1_ := aa.mk (aK (g := gb101) (o := .cells #[.int .i64 a0_0, .int .i64 a0_1, .int .i64 a0_2, .int .i64 a0_3, .string a0_4, .slice A0_5 l0_5.length c0_5] 55 (0, 0)) (by (with_reducible repeat (first | refine ak ?_ _ | refine au ?_ | refine aj ?_ _)); exact BK101.out) hb)
 have n2_ := aa.mk (aK (g := gb102) (o := .cells #[.int .i64 0, .int .i64 0, .int .i64 0, .int .i64 0, .string (⟨#[]⟩ : ByteArray), .slice none 0 0] 61 (0, 0)) (by (with_reducible repeat (first | refine ak ?_ _ | refine au ?_ | refine aj ?_ _)); exact BK102.out) hb)
 have n3_ := aa.mk (az (by repeat (first | (with_reducible first | exact HB.out | apply ah | apply af | apply ag | refine av ?_ GE101.out | refine av ?_ GE102.out) | exact HB.out)) hb)
 clear BK101
 clear BK102
 clear HB
 have HO105 := n0_
 have BK101 := n1_
 have BK102 := n2_
 have HB := n3_
 clear n0_ n1_ n2_ n3_
 (try clear hb)
 (try clear hb2)
 (try clear hk)
 (try clear hi)
 (try clear ho0)
 obtain ⟨Ao7, co7, eo7⟩ := Kd.aZ HO105.out
 (first | subst eo7 | (injection eo7 with f1_ f2_ f3_; have f4_ := f1_.symm; have f5_ := f3_.symm; clear f1_ f2_ f3_; subst f4_; subst f5_))
 refine hK.out _ _ ⟨(ae BK101.out 0).trans rfl, (ae BK101.out 1).trans rfl, (ae BK101.out 2).trans rfl, (ae BK101.out 3).trans rfl, (ae BK101.out 4).trans rfl, (ae BK101.out 5).trans rfl⟩ (fun hHeld => ?_)
 clear hK K
 refine nm_ 15 ?_
 refine pu_ 13 16 15 16383 ?_
 refine one_ (i := 14) (N := none) #[yT,yT,yT,yT,yT,yT,yT,yT,yT,yT,yT,yT,yT,yT,yT] rfl rfl (fA HT_.out (by kernel_rfl)) (by decide) (fun K hK => ?_)
 have hs8 : w6.cell? ⟨gb102, 0, none⟩ = some (.int .i64 0) := (ae BK102.out 0).trans rfl
 have hfs8 := ai BK102.out 0
 have hns8_0 := NB101_102.out
 have hms8_0 := NB102_101.out
 have hs9 : w6.cell? ⟨gb102, 1, none⟩ = some (.int .i64 0) := (ae BK102.out 1).trans rfl
 have hfs9 := ai BK102.out 1
 have hns9_0 := NB101_102.out
 have hms9_0 := NB102_101.out
 have hs10 : w6.cell? ⟨gb102, 2, none⟩ = some (.int .i64 0) := (ae BK102.out 2).trans rfl
 have hfs10 := ai BK102.out 2
 have hns10_0 := NB101_102.out
 have hms10_0 := NB102_101.out
 have hs11 : w6.cell? ⟨gb102, 3, none⟩ = some (.int .i64 0) := (ae BK102.out 3).trans rfl
 have hfs11 := ai BK102.out 3
 have hns11_0 := NB101_102.out
 have hms11_0 := NB102_101.out
 have hs12 : w6.cell? ⟨gb102, 4, none⟩ = some (.string (⟨#[]⟩ : ByteArray)) := (ae BK102.out 4).trans rfl
 have hfs12 := ai BK102.out 4
 have hns12_0 := NB101_102.out
 have hms12_0 := NB102_101.out
 have hs13 : w6.cell? ⟨gb102, 5, none⟩ = some (.slice none 0 0) := (ae BK102.out 5).trans rfl
 have hfs13 := ai BK102.out 5
 have hns13_0 := NB101_102.out
 have hms13_0 := NB102_101.out
 refine iV (w1 := ?_) (by rfl) rfl ?_ ?_
 rotate_left
 ·go_simp
  rfl
 refine hK.out _ _ ⟨((cell_far (p := ⟨gb102, _, none⟩) NB101_102.out _).trans (((cell_far (p := ⟨gb102, _, none⟩) NB101_102.out _).trans (((cell_far (p := ⟨gb102, _, none⟩) NB101_102.out _).trans (((cell_far (p := ⟨gb102, _, none⟩) NB101_102.out _).trans (((cell_far (p := ⟨gb102, _, none⟩) NB101_102.out _).trans (((cell_far (p := ⟨gb102, _, none⟩) NB101_102.out _).trans (hHeld.1)))))))))))), ((cell_far (p := ⟨gb102, _, none⟩) NB101_102.out _).trans (((cell_far (p := ⟨gb102, _, none⟩) NB101_102.out _).trans (((cell_far (p := ⟨gb102, _, none⟩) NB101_102.out _).trans (((cell_far (p := ⟨gb102, _, none⟩) NB101_102.out _).trans (((cell_far (p := ⟨gb102, _, none⟩) NB101_102.out _).trans (((cell_far (p := ⟨gb102, _, none⟩) NB101_102.out _).trans (hHeld.2.1)))))))))))), ((cell_far (p := ⟨gb102, _, none⟩) NB101_102.out _).trans (((cell_far (p := ⟨gb102, _, none⟩) NB101_102.out _).trans (((cell_far (p := ⟨gb102, _, none⟩) NB101_102.out _).trans (((cell_far (p := ⟨gb102, _, none⟩) NB101_102.out _).trans (((cell_far (p := ⟨gb102, _, none⟩) NB101_102.out _).trans (((cell_far (p := ⟨gb102, _, none⟩) NB101_102.out _).trans (hHeld.2.2.1)))))))))))), ((cell_far (p := ⟨gb102, _, none⟩) NB101_102.out _).trans (((cell_far (p := ⟨gb102, _, none⟩) NB101_102.out _).trans (((cell_far (p := ⟨gb102, _, none⟩) NB101_102.out _).trans (((cell_far (p := ⟨gb102, _, none⟩) NB101_102.out _).trans (((cell_far (p := ⟨gb102, _, none⟩) NB101_102.out _).trans (((cell_far (p := ⟨gb102, _, none⟩) NB101_102.out _).trans (hHeld.2.2.2.1)))))))))))), ((cell_far (p := ⟨gb102, _, none⟩) NB101_102.out _).trans (((cell_far (p := ⟨gb102, _, none⟩) NB101_102.out _).trans (((cell_far (p := ⟨gb102, _, none⟩) NB101_102.out _).trans (((cell_far (p := ⟨gb102, _, none⟩) NB101_102.out _).trans (((cell_far (p := ⟨gb102, _, none⟩) NB101_102.out _).trans (((cell_far (p := ⟨gb102, _, none⟩) NB101_102.out _).trans (hHeld.2.2.2.2.1)))))))))))), ((cell_far (p := ⟨gb102, _, none⟩) NB101_102.out _).trans (((cell_far (p := ⟨gb102, _, none⟩) NB101_102.out _).trans (((cell_far (p := ⟨gb102, _, none⟩) NB101_102.out _).trans (((cell_far (p := ⟨gb102, _, none⟩) NB101_102.out _).trans (((cell_far (p := ⟨gb102, _, none⟩) NB101_102.out _).trans (((cell_far (p := ⟨gb102, _, none⟩) NB101_102.out _).trans (hHeld.2.2.2.2.2))))))))))))⟩ (fun hHeld => ?_)
 clear hK K
 refine eQ (bU HT_.out (by kernel_rfl)) ?_
 try go_wp2
 refine bodyPost_ret (results_cell_row rfl _ _ gb102 61 #[.int .i64 a0_0, .int .i64 a0_1, .int .i64 a0_2, .int .i64 a0_3, .string a0_4, .slice Ao7 t103.length co7] (0, 0) _ rfl (by (with_reducible repeat (first | refine ak ?_ _ | refine au ?_ | refine aj ?_ _)); refine aW (cs := #[.int .i64 a0_0, .int .i64 a0_1, .int .i64 a0_2, .int .i64 a0_3, .string a0_4, .slice none 0 0]) ?_ 5 _ rfl; (with_reducible repeat (first | refine ak ?_ _ | refine au ?_ | refine aj ?_ _)); refine aW (cs := #[.int .i64 a0_0, .int .i64 a0_1, .int .i64 a0_2, .int .i64 a0_3, .string (⟨#[]⟩ : ByteArray), .slice none 0 0]) ?_ 4 _ rfl; (with_reducible repeat (first | refine ak ?_ _ | refine au ?_ | refine aj ?_ _)); refine aW (cs := #[.int .i64 a0_0, .int .i64 a0_1, .int .i64 a0_2, .int .i64 0, .string (⟨#[]⟩ : ByteArray), .slice none 0 0]) ?_ 3 _ rfl; (with_reducible repeat (first | refine ak ?_ _ | refine au ?_ | refine aj ?_ _)); refine aW (cs := #[.int .i64 a0_0, .int .i64 a0_1, .int .i64 0, .int .i64 0, .string (⟨#[]⟩ : ByteArray), .slice none 0 0]) ?_ 2 _ rfl; (with_reducible repeat (first | refine ak ?_ _ | refine au ?_ | refine aj ?_ _)); refine aW (cs := #[.int .i64 a0_0, .int .i64 0, .int .i64 0, .int .i64 0, .string (⟨#[]⟩ : ByteArray), .slice none 0 0]) ?_ 1 _ rfl; (with_reducible repeat (first | refine ak ?_ _ | refine au ?_ | refine aj ?_ _)); refine aW (cs := #[.int .i64 0, .int .i64 0, .int .i64 0, .int .i64 0, .string (⟨#[]⟩ : ByteArray), .slice none 0 0]) ?_ 0 _ rfl; (with_reducible repeat (first | refine ak ?_ _ | refine au ?_ | refine aj ?_ _)); exact BK102.out) Tryz.underlying61 rfl (by kernel_rfl)) rfl ?_
 exact ⟨_, by first | rfl | (simp [aD, aC] <;> rfl) | (simp [*, aD, aC] <;> rfl), by (with_reducible repeat (first | apply Kd.bQ | apply Kd.bT | apply Kd.dC)); exact Kd.aX (Kd.dE (p := ⟨gb102, 5, none⟩) (Kd.dE (p := ⟨gb102, 4, none⟩) (Kd.dE (p := ⟨gb102, 3, none⟩) (Kd.dE (p := ⟨gb102, 2, none⟩) (Kd.dE (p := ⟨gb102, 1, none⟩) (Kd.dE (p := ⟨gb102, 0, none⟩) (Kd.iE HO105.out BK102.out (by decide)) (fun _ hk => hk.2) (.int .i64 a0_0)) (fun _ hk => hk.2) (.int .i64 a0_1)) (fun _ hk => hk.2) (.int .i64 a0_2)) (fun _ hk => hk.2) (.int .i64 a0_3)) (fun _ hk => hk.2) (.string a0_4)) (fun _ hk => hk.2) (.slice Ao7 t103.length co7)) (fun _ hk => trivial), by repeat (first | (with_reducible first | exact HB.out | apply ah | apply af | apply ag | refine av ?_ GE101.out | refine av ?_ GE102.out) | exact HB.out)⟩
def eU.f (a0 : Int) : Option (List Int) := if 64 ≤ 281474976710656 then ((some (List.replicate 64 0 : List Int)).bind fun y101 => (if 5 < (y101.length : Int) then (some (y101.set (5 : Int).toNat a0)) else (none))) else (none)
set_option maxHeartbeats 8000000 in
set_option maxRecDepth 100000 in
theorem eU.calls (a0 : Int) (r : List Int) (w : World) (h : eU.f a0 = some r) :
 Calls Tryz.prog 56 #[.int .u8 a0] w fun e w' => ∃ v0_ : Value, e = .returned (v0_) ∧ Kd.R (Kd.int .u8) 5 w' w.heap.size (fun _ => True) v0_ r ∧ Below w.heap.size w w' := by
 have HB := aa.mk (Below.refl w.heap.size w)
 have H : (if 64 ≤ 281474976710656 then ((some (List.replicate 64 0 : List Int)).bind fun y101 => (if 5 < (y101.length : Int) then (some (y101.set (5 : Int).toNat a0)) else (none))) else (none)) = some r := h
 clear h
 by_cases c2 : 64 ≤ 281474976710656
 ·rw [if_pos c2] at H
  have c2b0 := eq_true c2
  have c2b1 : decide (64 ≤ 281474976710656) = true := decide_eq_true c2
  clear c2
  obtain ⟨y101, hy101⟩ : ∃ y_ : List Int, y_ = (List.replicate 64 0) := ⟨_, rfl⟩
  replace H : (if 5 < (y101.length : Int) then (some (y101.set (5 : Int).toNat a0)) else (none)) = some r := by first | (rw [hy101]; with_reducible exact H) | (have H2_ := (Option.bind_some _ _).symm.trans H; rw [hy101]; with_reducible exact H2_) | (have H2_ := (Option.bind_some _ _).symm.trans H; with_reducible exact H2_) | with_reducible exact H | (rw [hy101]; exact H) | exact H
  have Ny101 := aa.mk hy101
  clear hy101
  by_cases c3 : 5 < (y101.length : Int)
  ·rw [if_pos c3] at H
   have c3b0 : decide (5 < (y101.length : Int)) = true := decide_eq_true c3
   have c3b1 : decide (5 < y101.length) = true := decide_eq_true (by omega)
   clear c3
   obtain ⟨y104, hy104⟩ : ∃ y_ : List Int, y_ = (y101.set (5 : Int).toNat a0) := ⟨_, rfl⟩
   replace H : (some y104) = some r := by first | (rw [hy104]; with_reducible exact H) | (have H2_ := (Option.bind_some _ _).symm.trans H; rw [hy104]; with_reducible exact H2_) | (have H2_ := (Option.bind_some _ _).symm.trans H; with_reducible exact H2_) | with_reducible exact H | (rw [hy104]; exact H) | exact H
   have Ny104 := aa.mk hy104
   clear hy104
   obtain rfl := Option.some.inj H
   go_enter Tryz.func56, Tryz.ntmps56
   go_wp2_with (first | ((with_reducible refine bf (N := 4) rfl ?_); refine Kd.rf (Kd.int .u8) _ 5 rfl (N := 4) rfl 37 _ _ rfl 64 rfl rfl Tryz.underlying37 (.int .u8 0) 1 info5 rfl (by decide) (by omega) 0 (ok := fun _ => True) (okp := fun _ => True) rfl (fun _ hk => hk) trivial (by omega) (by omega) (Below.refl _ _) (Nat.le_refl _) ?_; intro v102 w5 ho6 hb hg_ hnew_; clear hg_ hnew_; (first | rw [← Ny101.out] at ho6 | (simp only [Int.reduceToNat] at ho6; rw [← Ny101.out] at ho6)); have n0_ := aa.mk (Kd.bH ho6 (ay (by repeat (first | (with_reducible first | exact HB.out | apply ah | apply af | apply ag) | exact HB.out)))); have n1_ := aa.mk (az (by repeat (first | (with_reducible first | exact HB.out | apply ah | apply af | apply ag) | exact HB.out)) hb); clear HB; have HO103 := n0_; have HB := n1_; clear n0_ n1_; clear hb ho6; have p4 : 0 ≤ (5 : Int) := (by omega); have q4 : (5 : Int) < ((y101.length : Int) : Int) := of_decide_eq_true (by first | (with_reducible assumption) | assumption); have qi4 : (5 < y101.length) = True := eq_true (by omega); obtain ⟨go4, co4, eo4, gb4, gl4, cl4, HG4⟩ := Kd.oz HO103.out (by omega); (first | cases eo4 | (injection eo4 with ea_ en_ ec_; (first | subst ea_ | (injection ea_ with ea_; subst ea_)); subst ec_; clear en_)); have GB4 := aa.mk gb4; have GG4 := aa.mk HG4; clear gb4 gl4 HG4; obtain ⟨hx4_0, hf4_0⟩ := Kd.wu 0 HO103.out (5 : Int) p4 q4; (try rw [show ((5 : Int)).toNat = 5 from rfl] at hx4_0); (try simp only [Nat.reduceMul, Nat.zero_mul, Nat.zero_add, Nat.reduceAdd] at hx4_0); (try rw [show ((5 : Int)).toNat = 5 from rfl] at hf4_0); (try simp only [Nat.reduceMul, Nat.zero_mul, Nat.zero_add, Nat.reduceAdd] at hf4_0); replace p4 := eq_true p4; replace q4 := eq_true q4; obtain ⟨hy7_, hz7_⟩ := Kd.wu 0 HO103.out (5 : Int) (by omega) (of_decide_eq_true (by first | (with_reducible assumption) | assumption)); (try simp only [Int.reduceToNat, Int.toNat_zero, Int.toNat_ofNat, Nat.reduceMul, Nat.zero_mul, Nat.zero_add] at hy7_ hz7_); (try rw [show ((5 : Int)).toNat = 5 from rfl] at hy7_); (try rw [show ((5 : Int)).toNat = 5 from rfl] at hz7_); have HP7 := Kd.R_putg HO103.out (5 : Int) a0) | ((with_reducible refine mR (t := 5) (p := 7) rfl ?_); refine l_ (t := 5) (p := 7) (v := ?vo_w8) (w1 := (w5.setCell ⟨go4, (5 : Int).toNat, none⟩ (.int .u8 a0))) ?hg ?ho ?hn ?hr ?_; (case ho => rfl); (case hg => rfl); (case hn => rfl); (case hr => first | (go_simp; done) | (go_simp; rfl)); intro w8 hw; have hg : w5.grownBy w8 (some go4) := (by rw [hw]; exact HP7.2); have hp_ : Kd.R (Kd.int .u8) 5 w8 w.heap.size (fun _ => True) (.slice (some ⟨go4, 0, none⟩) y101.length co4) y104 := (by rw [hw, Ny104.out]; exact HP7.1); clear HP7; have n0_ := aa.mk (hp_); have n1_ := aa.mk ((by rw [hw]; exact av (HB.out) GB4.out : Below w.heap.size w w8)); clear HO103; clear HB; have HO103 := n0_; have HB := n1_; clear n0_ n1_; clear hg hw hp_))
   go_ret
   exact ⟨_, by first | rfl | (simp [aD, aC] <;> rfl) | (simp [*, aD, aC] <;> rfl), by (with_reducible repeat (first | apply Kd.bQ | apply Kd.bT | apply Kd.dC)); exact HO103.out, by repeat (first | (with_reducible first | exact HB.out | apply ah | apply af | apply ag) | exact HB.out)⟩
  ·rw [if_neg c3] at H
   exact absurd H (by simp)
 ·rw [if_neg c2] at H
  exact absurd H (by simp)
end Go.Proofs.YtjeeejoelmmfmaaGreat.Fn
