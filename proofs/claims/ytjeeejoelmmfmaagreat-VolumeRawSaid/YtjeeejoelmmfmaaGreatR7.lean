/- Part 7 of the walk: printed by programs of this session (by way of the kit's print) or told by hand. -/
import Derived.Test.YtjeeejoelmmfmaaGreatR6
namespace Go.Proofs.YtjeeejoelmmfmaaGreat.Fn
open Go.RowKit Go.Proofs.YtjeeejoelmmfmaaGreatW.PrintWords Go.Proofs.YtjeeejoelmmfmaaGreatW.PrintLast Go.Proofs.YtjeeejoelmmfmaaGreatW.PrintMore
attribute [local go_sem] eU ek fK fM dX dU eX fo
set_option linter.unusedVariables false
set_option linter.unusedSimpArgs false
def ru : Bool × List (List Nat × List Nat) := (true, [([], []), ([0], [0]), ([1], [1]), ([], []), ([3], [3]), ([4, 2], [4]), ([], []), ([6], [6]), ([7], [7]), ([8, 5], [8]), ([], []), ([10], [10]), ([11, 9], [11]), ([0, 1, 2, 3, 4, 6, 7, 8, 10, 11], []), ([13, 2, 12, 0, 1, 2, 3, 4, 6, 7, 8, 10, 11], [2, 13]), ([0, 1, 2, 3, 4, 5, 6, 7, 8, 10, 11, 13, 14], []), ([15, 5, 14, 0, 1, 2, 3, 4, 5, 6, 7, 8, 10, 11, 13, 14], [5, 15]), ([0, 1, 2, 3, 4, 5, 6, 7, 8, 9, 10, 11, 13, 14, 15, 16], []), ([17, 0, 1, 2, 3, 4, 5, 6, 7, 8, 9, 10, 11, 13, 14, 15, 16], [17]), ([18, 9, 16, 0, 1, 2, 3, 4, 5, 6, 7, 8, 9, 10, 11, 13, 14, 15, 16], [9, 18]), ([0, 1, 2, 3, 4, 5, 6, 7, 8, 9, 10, 11, 12, 13, 14, 15, 16, 17, 18, 19], []), ([20, 12, 19, 0, 1, 2, 3, 4, 5, 6, 7, 8, 9, 10, 11, 12, 13, 14, 15, 16, 17, 18, 19], [12, 20])])
def vT : List Nat := [0, 1, 3, 0, 8, 31, 0, 64, 192, 511, 0, 1024, 4095, 3551, 16383, 32767, 65535, 131071, 262143, 524287, 1048575, 2097151]
theorem rz : rtab .any (opsOf Tryz.f68 1) = ru := by kernel_rfl
theorem pX : dA ru.2 vT = true := by kernel_rfl
def qH : Bool × List (List Nat × List Nat) := (true, [([], []), ([0], [0]), ([], []), ([], []), ([3], [3]), ([4], [4]), ([1, 2, 0, 1, 2, 3, 4, 5], [1, 2]), ([6, 0, 1, 2, 3, 4, 5], [6]), ([7, 5, 5, 0, 1, 2, 3, 4, 5], [5, 7])])
def wR : List Nat := [0, 1, 0, 0, 8, 24, 63, 127, 255]
theorem rZ : rtab .any (opsOf Tryz.f68 5) = qH := by kernel_rfl
theorem qb : dA qH.2 wR = true := by kernel_rfl
def oD : Bool × List (List Nat × List Nat) := (true, [([], []), ([0], [0]), ([], []), ([], []), ([3], [3]), ([1, 2, 0, 1, 2, 3, 4], [1, 2]), ([5, 4, 4, 0, 1, 2, 3, 4], [4, 5])])
def uZ : List Nat := [0, 1, 0, 0, 8, 31, 63]
theorem qd : rtab .any (opsOf Tryz.f68 10) = oD := by kernel_rfl
theorem nO : dA oD.2 uZ = true := by kernel_rfl
set_option maxHeartbeats 16000000 in
set_option maxRecDepth 100000 in
theorem oO.calls (s : St) (a : At4) (w : World) (hr : Reads w s a) (hs : Small s) :
    Calls Tryz.prog 68 #[.agg (aN s a)] w fun e w' => ∃ a' : At4, e = .returned (.agg (aN s a')) ∧ Owns w' w.heap.size (fun _ => True) s a' ∧ Below w.heap.size w w' := by
  have hu31 := Tryz.underlying31
  have hu28 := Tryz.underlying28
  have hu69 := Tryz.underlying69
  obtain ⟨b1, hb1⟩ : ∃ b, b = w.heap.size := ⟨_, rfl⟩
  obtain ⟨W1, hW1⟩ : ∃ W, W = w.alloc (.cells #[.int .i64 s.size, .slice a.A1 s.now.length a.c1, .slice a.A2 s.snaps.length a.c2, .int .i64 s.next, .int .i64 s.fsize, .slice a.A5 s.sp.length a.c5, .slice a.A6 s.data.length a.c6] 31) := ⟨_, rfl⟩
  have hs1 : W1.heap.size = b1 + 1 := by rw [hW1, hb1]; simp
  obtain ⟨W2, hW2⟩ : ∃ W, W = W1.alloc (.cells #[.int .i64 0, .slice none 0 0, .slice none 0 0, .int .i64 0, .int .i64 0, .slice none 0 0, .slice none 0 0] 31) := ⟨_, rfl⟩
  have hs2 : W2.heap.size = b1 + 2 := by rw [hW2]; simp [hs1]
  have hx1 : W1.heap[b1]? = some (.cells #[.int .i64 s.size, .slice a.A1 s.now.length a.c1, .slice a.A2 s.snaps.length a.c2, .int .i64 s.next, .int .i64 s.fsize, .slice a.A5 s.sp.length a.c5, .slice a.A6 s.data.length a.c6] 31 (0, 0)) := by rw [hW1, hb1]; exact bB w _
  have HX1 := aa.mk (show W2.heap[b1]? = some (.cells #[.int .i64 s.size, .slice a.A1 s.now.length a.c1, .slice a.A2 s.snaps.length a.c2, .int .i64 s.next, .int .i64 s.fsize, .slice a.A5 s.sp.length a.c5, .slice a.A6 s.data.length a.c6] 31 (0, 0)) by rw [hW2]; exact ai hx1 _)
  have HX2 := aa.mk (show W2.heap[b1 + 1]? = some (.cells #[.int .i64 0, .slice none 0 0, .slice none 0 0, .int .i64 0, .int .i64 0, .slice none 0 0, .slice none 0 0] 31 (0, 0)) by rw [hW2, ← hs1]; exact bB W1 _)
  have hbl : Below w.heap.size w W1 := by rw [hW1]; exact (Below.refl _ _).alloc (Nat.le_refl _) _
  have HB2 := aa.mk (show Below w.heap.size w W2 by rw [hW2]; exact hbl.alloc hbl.size _)
  have HR2 := aa.mk (hr.below (w1 := W2) HB2.out)
  have HSM := aa.mk hs
  have HS2 := aa.mk hs2
  have HBB := aa.mk hb1
  have HS1 := aa.mk hs1
  have HR0 := aa.mk hr
  clear hr hs hx1 hbl hs2
  unfold aN
  go_enter Tryz.func68, Tryz.ntmps68
  go_wp2_with fail
  rw [← hW1, ← hW2, ← hb1]
  clear hW1 hW2 hb1 hs1
  refine dH (n := 22) (S := fun w' => w'.cell? ⟨b1, 0, none⟩ = some (.int .i64 s.size) ∧ w'.cell? ⟨b1, 1, none⟩ = some (.slice a.A1 s.now.length a.c1) ∧ w'.cell? ⟨b1, 2, none⟩ = some (.slice a.A2 s.snaps.length a.c2) ∧ w'.cell? ⟨b1, 3, none⟩ = some (.int .i64 s.next) ∧ w'.cell? ⟨b1, 4, none⟩ = some (.int .i64 s.fsize) ∧ w'.cell? ⟨b1, 5, none⟩ = some (.slice a.A5 s.sp.length a.c5) ∧ w'.cell? ⟨b1, 6, none⟩ = some (.slice a.A6 s.data.length a.c6)) (ds := [14, 16, 19, 21]) (lb 22 0) (by kernel_rfl) rfl (by kernel_rfl) ⟨(ae HX1.out 0).trans rfl, (ae HX1.out 1).trans rfl, (ae HX1.out 2).trans rfl, (ae HX1.out 3).trans rfl, (ae HX1.out 4).trans rfl, (ae HX1.out 5).trans rfl, (ae HX1.out 6).trans rfl⟩ (fun hHeld => ?_)
  refine bG rz pX (fun HT_ HW_ => ?_)
  have HR := aa.mk (HR2.out.below (w1 := W2.drew) (aV (Below.refl _ _)))
  have HB := aa.mk (aV HB2.out)
  have HX := aa.mk (show W2.drew.heap[b1]? = some (.cells #[.int .i64 s.size, .slice a.A1 s.now.length a.c1, .slice a.A2 s.snaps.length a.c2, .int .i64 s.next, .int .i64 s.fsize, .slice a.A5 s.sp.length a.c5, .slice a.A6 s.data.length a.c6] 31 (0, 0)) from HX1.out)
  have HY := aa.mk (show W2.drew.heap[b1 + 1]? = some (.cells #[.int .i64 0, .slice none 0 0, .slice none 0 0, .int .i64 0, .int .i64 0, .slice none 0 0, .slice none 0 0] 31 (0, 0)) from HX2.out)
  have HZ := aa.mk (show b1 + 2 ≤ W2.drew.heap.size from Nat.le_of_eq HS2.out.symm)
  clear HR2 HB2 HX1 HX2 HS2 HS1
  generalize W2.drew = w2 at hHeld HR HB HX HY HZ ⊢
  refine pu_ 0 7 22 1 ?_
  refine pu_ 3 10 22 9 ?_
  refine pu_ 6 13 22 73 ?_
  refine pu_ 7 14 22 201 ?_
  refine pu_ 10 17 22 1225 ?_
  refine tk_ 1 8 22 1227 ?_
  refine tk_ 4 11 22 1243 ?_
  refine tk_ 8 15 22 1499 ?_
  refine tk_ 11 18 22 3547 ?_
  refine on_ 2 9 22 3551 (fun K hK => ?_)
  refine dQ Tryz.func113 (by kernel_rfl) rfl #[.slice a.A1 s.now.length a.c1] (by rfl) rfl rfl (by (try simp only [List.map_toArray, List.map_cons, List.map_nil]); first | done | rfl) ?_
  refine (iE.calls a.A1 a.c1 s.now s.now w2 HR.out.h1 HR.out.l1 (by unfold iE.f; rw [if_pos (by have := HSM.out.n1; omega)])).mono ?_
  rintro e w3 ⟨v1, rfl, hR1, hb⟩
  obtain ⟨B1, d1, rfl⟩ := Kd.bf hR1
  refine ⟨_, rfl, ?_⟩
  have HV1 := aa.mk (ny (B := b1) (L := b1 + 2) hR1 (Nat.le_trans (Nat.le_add_right _ 2) HZ.out) HZ.out)
  clear hR1
  have HR' := aa.mk (HR.out.below hb)
  have HB' := aa.mk (HB.out.trans (hb.mono HB.out.size))
  have HX' := aa.mk ((hb.block _ (aA HX.out)).trans HX.out)
  have HY' := aa.mk ((hb.block _ (aA HY.out)).trans HY.out)
  have HZ' := aa.mk (Nat.le_trans HZ.out hb.size)
  refine hK.out _ _ (jm hHeld hb) (fun hHeld => ?_)
  clear hK K hb HR HB HX HY HZ
  have HR := HR'
  clear HR'
  have HB := HB'
  clear HB'
  have HX := HX'
  clear HX'
  have HY := HY'
  clear HY'
  have HZ := HZ'
  clear HZ'
  refine nm_ 9 ?_
  refine pu_ 13 20 22 11743 ?_
  refine on_ 5 12 22 11775 (fun K hK => ?_)
  refine dQ Tryz.func114 (by kernel_rfl) rfl #[.slice a.A2 s.snaps.length a.c2] (by rfl) rfl rfl (by (try simp only [List.map_toArray, List.map_cons, List.map_nil]); first | done | rfl) ?_
  obtain ⟨ps, hps1, hps2, hps3⟩ := pairsS HR0.out.h2
  have hpl : (ps.map (·.1)).length = s.snaps.length := by rw [List.length_map, ← hps1, List.length_map]
  have hcs : Kd.C kRS w3 a.A2 (ps.map (·.1)).length (ps.map (·.1)) := by rw [hpl]; exact Kd.bu hps2 HB.out
  have hcl := jI.calls a.A2 a.c2 (ps.map (·.1)) (ps.map (·.1)) w3 hcs (by rw [hpl]; exact HR.out.l2) (by unfold jI.f; rw [if_pos (by rw [hpl]; have := HSM.out.n2; omega)])
  rw [hpl] at hcl
  have HPS := aa.mk (And.intro hps1 hps3)
  have HPL := aa.mk hpl
  refine hcl.mono ?_
  clear hps1 hps2 hps3 hpl hcs hcl
  rintro e w4 ⟨v2, rfl, hR2, hb⟩
  obtain ⟨B2, d2, rfl⟩ := Kd.bf hR2
  rw [HPL.out] at hR2 ⊢
  refine ⟨_, rfl, ?_⟩
  have HV2 := aa.mk (ny (B := b1) (L := b1 + 2) hR2 (Nat.le_trans (Nat.le_add_right _ 2) HZ.out) HZ.out)
  clear hR2
  have HR' := aa.mk (HR.out.below hb)
  have HB' := aa.mk (HB.out.trans (hb.mono HB.out.size))
  have HX' := aa.mk ((hb.block _ (aA HX.out)).trans HX.out)
  have HY' := aa.mk ((hb.block _ (aA HY.out)).trans HY.out)
  have HZ' := aa.mk (Nat.le_trans HZ.out hb.size)
  have HV1' := aa.mk (Kd.bD HV1.out hb)
  refine hK.out _ _ (jm hHeld hb) (fun hHeld => ?_)
  clear hK K hb HR HB HX HY HZ HV1
  have HR := HR'
  clear HR'
  have HB := HB'
  clear HB'
  have HX := HX'
  clear HX'
  have HY := HY'
  clear HY'
  have HZ := HZ'
  clear HZ'
  have HV1 := HV1'
  clear HV1'
  refine nm_ 12 ?_
  refine on_ 9 16 22 12287 (fun K hK => ?_)
  refine dQ Tryz.func115 (by kernel_rfl) rfl #[.slice a.A5 s.sp.length a.c5] (by rfl) rfl rfl (by (try simp only [List.map_toArray, List.map_cons, List.map_nil]); first | done | rfl) ?_
  refine (bX.calls a.A5 a.c5 s.sp s.sp w4 HR.out.h5 HR.out.l5 (by unfold bX.f; rw [if_pos (by have := HSM.out.n5; omega)])).mono ?_
  rintro e w5 ⟨v5, rfl, hR5, hb⟩
  obtain ⟨B5, d5, rfl⟩ := Kd.bf hR5
  refine ⟨_, rfl, ?_⟩
  have HV5 := aa.mk (ny (B := b1) (L := b1 + 2) hR5 (Nat.le_trans (Nat.le_add_right _ 2) HZ.out) HZ.out)
  clear hR5
  have HR' := aa.mk (HR.out.below hb)
  have HB' := aa.mk (HB.out.trans (hb.mono HB.out.size))
  have HX' := aa.mk ((hb.block _ (aA HX.out)).trans HX.out)
  have HY' := aa.mk ((hb.block _ (aA HY.out)).trans HY.out)
  have HZ' := aa.mk (Nat.le_trans HZ.out hb.size)
  have HV1' := aa.mk (Kd.bD HV1.out hb)
  have HV2' := aa.mk (Kd.bD HV2.out hb)
  refine hK.out _ _ (jm hHeld hb) (fun hHeld => ?_)
  clear hK K hb HR HB HX HY HZ HV1 HV2
  have HR := HR'
  clear HR'
  have HB := HB'
  clear HB'
  have HX := HX'
  clear HX'
  have HY := HY'
  clear HY'
  have HZ := HZ'
  clear HZ'
  have HV1 := HV1'
  clear HV1'
  have HV2 := HV2'
  clear HV2'
  refine nm_ 16 ?_
  refine on_ 12 19 22 16383 (fun K hK => ?_)
  refine dQ Tryz.func116 (by kernel_rfl) rfl #[.slice a.A6 s.data.length a.c6] (by rfl) rfl rfl (by (try simp only [List.map_toArray, List.map_cons, List.map_nil]); first | done | rfl) ?_
  obtain ⟨qs, hps1, hps2, hps3⟩ := pairsB HR0.out.h6
  have hpl : (qs.map (·.1)).length = s.data.length := by rw [List.length_map, ← hps1, List.length_map]
  have hcs : Kd.C kRB w5 a.A6 (qs.map (·.1)).length (qs.map (·.1)) := by rw [hpl]; exact Kd.bu hps2 HB.out
  have hcl := jO.calls a.A6 a.c6 (qs.map (·.1)) (qs.map (·.1)) w5 hcs (by rw [hpl]; exact HR.out.l6) (by unfold jO.f; rw [if_pos (by rw [hpl]; have := HSM.out.n6; omega)])
  rw [hpl] at hcl
  have HQS := aa.mk (And.intro hps1 hps3)
  have HQL := aa.mk hpl
  refine hcl.mono ?_
  clear hps1 hps2 hps3 hpl hcs hcl
  rintro e w6 ⟨v6, rfl, hR6, hb⟩
  obtain ⟨B6, d6, rfl⟩ := Kd.bf hR6
  rw [HQL.out] at hR6 ⊢
  refine ⟨_, rfl, ?_⟩
  have HV6 := aa.mk (ny (B := b1) (L := b1 + 2) hR6 (Nat.le_trans (Nat.le_add_right _ 2) HZ.out) HZ.out)
  clear hR6
  have HR' := aa.mk (HR.out.below hb)
  have HB' := aa.mk (HB.out.trans (hb.mono HB.out.size))
  have HX' := aa.mk ((hb.block _ (aA HX.out)).trans HX.out)
  have HY' := aa.mk ((hb.block _ (aA HY.out)).trans HY.out)
  have HZ' := aa.mk (Nat.le_trans HZ.out hb.size)
  have HV1' := aa.mk (Kd.bD HV1.out hb)
  have HV2' := aa.mk (Kd.bD HV2.out hb)
  have HV5' := aa.mk (Kd.bD HV5.out hb)
  refine hK.out _ _ (jm hHeld hb) (fun hHeld => ?_)
  clear hK K hb HR HB HX HY HZ HV1 HV2 HV5
  have HR := HR'
  clear HR'
  have HB := HB'
  clear HB'
  have HX := HX'
  clear HX'
  have HY := HY'
  clear HY'
  have HZ := HZ'
  clear HZ'
  have HV1 := HV1'
  clear HV1'
  have HV2 := HV2'
  clear HV2'
  have HV5 := HV5'
  clear HV5'
  refine nm_ 19 ?_
  clear HR
  have hfz := ak HX.out 1
  have hcl := (ae HX.out 1).trans rfl
  refine jW (i := 14) (N := none) #[yT,yT,yT,yT,yT,yT,yT,yT,yT,yT,yT,yT,yT,yT,yT,yF,yF,yF,yF,yF,yF,yF] rfl rfl (dF HT_.out (by kernel_rfl)) (by decide) (fun K hK => ?_)
  refine iQ (w1 := w6.setCell ⟨b1, 1, none⟩ (.slice B1 s.now.length d1)) (by rfl) rfl ?_ ?_
  · go_simp
  refine hK.out _ _ ?_
  clear hK K hfz hcl
  have HX' := aa.mk (aW HX.out 1 (.slice B1 s.now.length d1) (cs' := #[.int .i64 s.size, .slice B1 s.now.length d1, .slice a.A2 s.snaps.length a.c2, .int .i64 s.next, .int .i64 s.fsize, .slice a.A5 s.sp.length a.c5, .slice a.A6 s.data.length a.c6]) rfl)
  have HY' := aa.mk (bU HY.out (p := ⟨b1, 1, none⟩) (by show b1 + 1 ≠ b1; omega) (.slice B1 s.now.length d1))
  have HB' := aa.mk (show Below w.heap.size w (w6.setCell ⟨b1, 1, none⟩ (.slice B1 s.now.length d1)) from HB.out.setCell (p := ⟨b1, 1, none⟩) (by rw [HBB.out]; exact Nat.le_refl _) (.slice B1 s.now.length d1))
  have HV1' := aa.mk (Kd.dE (p := ⟨b1, 1, none⟩) HV1.out (fun k hk => by have hk : b1 + 2 ≤ k := hk; show k ≠ b1; omega) (.slice B1 s.now.length d1))
  have HV2' := aa.mk (Kd.dE (p := ⟨b1, 1, none⟩) HV2.out (fun k hk => by have hk : b1 + 2 ≤ k := hk; show k ≠ b1; omega) (.slice B1 s.now.length d1))
  have HV5' := aa.mk (Kd.dE (p := ⟨b1, 1, none⟩) HV5.out (fun k hk => by have hk : b1 + 2 ≤ k := hk; show k ≠ b1; omega) (.slice B1 s.now.length d1))
  have HV6' := aa.mk (Kd.dE (p := ⟨b1, 1, none⟩) HV6.out (fun k hk => by have hk : b1 + 2 ≤ k := hk; show k ≠ b1; omega) (.slice B1 s.now.length d1))
  clear HX HY HB HZ HV1 HV2 HV5 HV6
  have HX := HX'
  clear HX'
  have HY := HY'
  clear HY'
  have HB := HB'
  clear HB'
  have HV1 := HV1'
  clear HV1'
  have HV2 := HV2'
  clear HV2'
  have HV5 := HV5'
  clear HV5'
  have HV6 := HV6'
  clear HV6'
  generalize w6.setCell ⟨b1, 1, none⟩ (.slice B1 s.now.length d1) = wn0 at HX HY HB HV1 HV2 HV5 HV6 ⊢
  refine pu_ 15 21 22 65535 ?_
  have hfz := ak HX.out 2
  have hcl := (ae HX.out 2).trans rfl
  refine jW (i := 16) (N := none) #[yT,yT,yT,yT,yT,yT,yT,yT,yT,yT,yT,yT,yT,yT,yT,yT,yT,yF,yF,yF,yF,yF] rfl rfl (dF HT_.out (by kernel_rfl)) (by decide) (fun K hK => ?_)
  refine iQ (w1 := wn0.setCell ⟨b1, 2, none⟩ (.slice B2 s.snaps.length d2)) (by rfl) rfl ?_ ?_
  · go_simp
  refine hK.out _ _ ?_
  clear hK K hfz hcl
  have HX' := aa.mk (aW HX.out 2 (.slice B2 s.snaps.length d2) (cs' := #[.int .i64 s.size, .slice B1 s.now.length d1, .slice B2 s.snaps.length d2, .int .i64 s.next, .int .i64 s.fsize, .slice a.A5 s.sp.length a.c5, .slice a.A6 s.data.length a.c6]) rfl)
  have HY' := aa.mk (bU HY.out (p := ⟨b1, 2, none⟩) (by show b1 + 1 ≠ b1; omega) (.slice B2 s.snaps.length d2))
  have HB' := aa.mk (show Below w.heap.size w (wn0.setCell ⟨b1, 2, none⟩ (.slice B2 s.snaps.length d2)) from HB.out.setCell (p := ⟨b1, 2, none⟩) (by rw [HBB.out]; exact Nat.le_refl _) (.slice B2 s.snaps.length d2))
  have HV1' := aa.mk (Kd.dE (p := ⟨b1, 2, none⟩) HV1.out (fun k hk => by have hk : b1 + 2 ≤ k := hk; show k ≠ b1; omega) (.slice B2 s.snaps.length d2))
  have HV2' := aa.mk (Kd.dE (p := ⟨b1, 2, none⟩) HV2.out (fun k hk => by have hk : b1 + 2 ≤ k := hk; show k ≠ b1; omega) (.slice B2 s.snaps.length d2))
  have HV5' := aa.mk (Kd.dE (p := ⟨b1, 2, none⟩) HV5.out (fun k hk => by have hk : b1 + 2 ≤ k := hk; show k ≠ b1; omega) (.slice B2 s.snaps.length d2))
  have HV6' := aa.mk (Kd.dE (p := ⟨b1, 2, none⟩) HV6.out (fun k hk => by have hk : b1 + 2 ≤ k := hk; show k ≠ b1; omega) (.slice B2 s.snaps.length d2))
  clear HX HY HB HV1 HV2 HV5 HV6
  have HX := HX'
  clear HX'
  have HY := HY'
  clear HY'
  have HB := HB'
  clear HB'
  have HV1 := HV1'
  clear HV1'
  have HV2 := HV2'
  clear HV2'
  have HV5 := HV5'
  clear HV5'
  have HV6 := HV6'
  clear HV6'
  generalize wn0.setCell ⟨b1, 2, none⟩ (.slice B2 s.snaps.length d2) = wn1 at HX HY HB HV1 HV2 HV5 HV6 ⊢
  refine pu_ 17 22 22 262143 ?_
  refine pu_ 18 23 22 524287 ?_
  have hfz := ak HX.out 5
  have hcl := (ae HX.out 5).trans rfl
  refine jW (i := 19) (N := none) #[yT,yT,yT,yT,yT,yT,yT,yT,yT,yT,yT,yT,yT,yT,yT,yT,yT,yT,yT,yT,yF,yF] rfl rfl (dF HT_.out (by kernel_rfl)) (by decide) (fun K hK => ?_)
  refine iQ (w1 := wn1.setCell ⟨b1, 5, none⟩ (.slice B5 s.sp.length d5)) (by rfl) rfl ?_ ?_
  · go_simp
  refine hK.out _ _ ?_
  clear hK K hfz hcl
  have HX' := aa.mk (aW HX.out 5 (.slice B5 s.sp.length d5) (cs' := #[.int .i64 s.size, .slice B1 s.now.length d1, .slice B2 s.snaps.length d2, .int .i64 s.next, .int .i64 s.fsize, .slice B5 s.sp.length d5, .slice a.A6 s.data.length a.c6]) rfl)
  have HY' := aa.mk (bU HY.out (p := ⟨b1, 5, none⟩) (by show b1 + 1 ≠ b1; omega) (.slice B5 s.sp.length d5))
  have HB' := aa.mk (show Below w.heap.size w (wn1.setCell ⟨b1, 5, none⟩ (.slice B5 s.sp.length d5)) from HB.out.setCell (p := ⟨b1, 5, none⟩) (by rw [HBB.out]; exact Nat.le_refl _) (.slice B5 s.sp.length d5))
  have HV1' := aa.mk (Kd.dE (p := ⟨b1, 5, none⟩) HV1.out (fun k hk => by have hk : b1 + 2 ≤ k := hk; show k ≠ b1; omega) (.slice B5 s.sp.length d5))
  have HV2' := aa.mk (Kd.dE (p := ⟨b1, 5, none⟩) HV2.out (fun k hk => by have hk : b1 + 2 ≤ k := hk; show k ≠ b1; omega) (.slice B5 s.sp.length d5))
  have HV5' := aa.mk (Kd.dE (p := ⟨b1, 5, none⟩) HV5.out (fun k hk => by have hk : b1 + 2 ≤ k := hk; show k ≠ b1; omega) (.slice B5 s.sp.length d5))
  have HV6' := aa.mk (Kd.dE (p := ⟨b1, 5, none⟩) HV6.out (fun k hk => by have hk : b1 + 2 ≤ k := hk; show k ≠ b1; omega) (.slice B5 s.sp.length d5))
  clear HX HY HB HV1 HV2 HV5 HV6
  have HX := HX'
  clear HX'
  have HY := HY'
  clear HY'
  have HB := HB'
  clear HB'
  have HV1 := HV1'
  clear HV1'
  have HV2 := HV2'
  clear HV2'
  have HV5 := HV5'
  clear HV5'
  have HV6 := HV6'
  clear HV6'
  generalize wn1.setCell ⟨b1, 5, none⟩ (.slice B5 s.sp.length d5) = wn2 at HX HY HB HV1 HV2 HV5 HV6 ⊢
  refine pu_ 20 24 22 2097151 ?_
  have hfz := ak HX.out 6
  have hcl := (ae HX.out 6).trans rfl
  refine jW (i := 21) (N := none) #[yT,yT,yT,yT,yT,yT,yT,yT,yT,yT,yT,yT,yT,yT,yT,yT,yT,yT,yT,yT,yT,yT] rfl rfl (dF HT_.out (by kernel_rfl)) (by decide) (fun K hK => ?_)
  refine iQ (w1 := wn2.setCell ⟨b1, 6, none⟩ (.slice B6 s.data.length d6)) (by rfl) rfl ?_ ?_
  · go_simp
  refine hK.out _ _ ?_
  clear hK K hfz hcl
  have HX' := aa.mk (aW HX.out 6 (.slice B6 s.data.length d6) (cs' := #[.int .i64 s.size, .slice B1 s.now.length d1, .slice B2 s.snaps.length d2, .int .i64 s.next, .int .i64 s.fsize, .slice B5 s.sp.length d5, .slice B6 s.data.length d6]) rfl)
  have HY' := aa.mk (bU HY.out (p := ⟨b1, 6, none⟩) (by show b1 + 1 ≠ b1; omega) (.slice B6 s.data.length d6))
  have HB' := aa.mk (show Below w.heap.size w (wn2.setCell ⟨b1, 6, none⟩ (.slice B6 s.data.length d6)) from HB.out.setCell (p := ⟨b1, 6, none⟩) (by rw [HBB.out]; exact Nat.le_refl _) (.slice B6 s.data.length d6))
  have HV1' := aa.mk (Kd.dE (p := ⟨b1, 6, none⟩) HV1.out (fun k hk => by have hk : b1 + 2 ≤ k := hk; show k ≠ b1; omega) (.slice B6 s.data.length d6))
  have HV2' := aa.mk (Kd.dE (p := ⟨b1, 6, none⟩) HV2.out (fun k hk => by have hk : b1 + 2 ≤ k := hk; show k ≠ b1; omega) (.slice B6 s.data.length d6))
  have HV5' := aa.mk (Kd.dE (p := ⟨b1, 6, none⟩) HV5.out (fun k hk => by have hk : b1 + 2 ≤ k := hk; show k ≠ b1; omega) (.slice B6 s.data.length d6))
  have HV6' := aa.mk (Kd.dE (p := ⟨b1, 6, none⟩) HV6.out (fun k hk => by have hk : b1 + 2 ≤ k := hk; show k ≠ b1; omega) (.slice B6 s.data.length d6))
  clear HX HY HB HV1 HV2 HV5 HV6
  have HX := HX'
  clear HX'
  have HY := HY'
  clear HY'
  have HB := HB'
  clear HB'
  have HV1 := HV1'
  clear HV1'
  have HV2 := HV2'
  clear HV2'
  have HV5 := HV5'
  clear HV5'
  have HV6 := HV6'
  clear HV6'
  generalize wn2.setCell ⟨b1, 6, none⟩ (.slice B6 s.data.length d6) = wn3 at HX HY HB HV1 HV2 HV5 HV6 ⊢
  refine fu (bW HT_.out (by kernel_rfl)) ?_
  clear HT_ HW_
  have HM := aa.mk (show Mid w s (.slice B1 s.now.length d1) (.slice B2 s.snaps.length d2) (.slice B5 s.sp.length d5) (.slice B6 s.data.length d6) ps qs 0 0 wn3 from by
    have a12 := Kd.d_ HV1.out HV2.out (by decide)
    have a16 := Kd.d_ a12 HV6.out (by decide)
    have a26 := Kd.d_ HV2.out HV6.out (by decide)
    have a52 := Kd.d_ HV5.out HV2.out (by decide)
    have a56 := Kd.d_ a52 HV6.out (by decide)
    have a62 := Kd.d_ HV6.out HV2.out (by decide)
    have hx := HX.out
    have hy := HY.out
    rw [HBB.out] at hx hy a16 a26 a56 a62
    exact ⟨hx, hy, HB.out, Kd.aZ a16 fun k hk => ⟨hk.1.1, hk.1.2, hk.2⟩, a26, Kd.aZ a56 fun k hk => ⟨hk.1.1, hk.1.2, hk.2⟩, a62, HPS.out.1, HQS.out.1, fun t p _ ht => by omega, fun t p hp _ => HPS.out.2 p (List.mem_of_getElem? hp), fun t p _ ht => by omega, fun t p hp _ => HQS.out.2 p (List.mem_of_getElem? hp)⟩)
  have q1 := (ae HX.out 1).trans rfl
  have q2 := (ae HX.out 2).trans rfl
  clear HX HY HB HV1 HV2 HV5 HV6 HPS HQS HPL HQL
  go_wp2_with fail
  go_loopg [28] s.snaps.length (fun gk v28 W => ∃ (i : Nat) (xs : List (RawS × S69)), v28 = .int .i64 (i : Int) ∧ aa (i + gk = s.snaps.length) ∧ aa (Mid w s (.slice B1 s.now.length d1) (.slice B2 s.snaps.length d2) (.slice B5 s.sp.length d5) (.slice B6 s.data.length d6) xs qs i 0 W))
  case atStart => exact ⟨0, ps, rfl, ⟨by simp⟩, HM⟩
  case round =>
    obtain ⟨i, xs, rfl, HI, HM⟩ := hrel
    have HXL := aa.mk (show xs.length = s.snaps.length from fO HM.out.q2)
    cases gk with
    | zero =>
      have hi : i = s.snaps.length := by have := HI.out; omega
      subst hi
      have hx3 := HM.out.hx
      rw [← HBB.out] at hx3
      have q5 := (ae hx3 5).trans rfl
      have q6 := (ae hx3 6).trans rfl
      clear hx3 HXL HI
      go_wp2_with fail
      go_loopg [45] s.data.length (fun gk v45 W => ∃ (j : Nat) (ys : List (RawB × List Int)), v45 = .int .i64 (j : Int) ∧ aa (j + gk = s.data.length) ∧ aa (Mid w s (.slice B1 s.now.length d1) (.slice B2 s.snaps.length d2) (.slice B5 s.sp.length d5) (.slice B6 s.data.length d6) xs ys s.snaps.length j W))
      case atStart => exact ⟨0, qs, rfl, ⟨by simp⟩, HM⟩
      case round =>
        obtain ⟨j, ys, rfl, HI, HM⟩ := hrel
        have HXL := aa.mk (show ys.length = s.data.length from fO HM.out.q6)
        have HXS := aa.mk (show xs.length = s.snaps.length from fO HM.out.q2)
        cases gk with
        | zero =>
          have hj : j = s.data.length := by have := HI.out; omega
          subst hj
          have hx3 := HM.out.hx
          have hy3 := HM.out.hy
          rw [← HBB.out] at hx3 hy3
          have q0 := (ae hx3 0).trans rfl
          have q1 := (ae hx3 1).trans rfl
          have q2 := (ae hx3 2).trans rfl
          have q3 := (ae hx3 3).trans rfl
          have q4 := (ae hx3 4).trans rfl
          have q5 := (ae hx3 5).trans rfl
          have q6 := (ae hx3 6).trans rfl
          have HY := aa.mk hy3
          clear hx3 hy3 HI
          go_wp2_with (refine ji (.store 31 (.tmp 2) (.tmp 57)) rfl ?_; refine jh ?_)
          refine ⟨?_⟩
          refine eB (P := Tryz.prog) rfl 31 (.tmp 2) (.tmp 57) rfl _ (b1 + 1) 0 rfl #[.int .i64 s.size, .slice B1 s.now.length d1, .slice B2 s.snaps.length d2, .int .i64 s.next, .int .i64 s.fsize, .slice B5 s.sp.length d5, .slice B6 s.data.length d6] rfl rfl 31 NIL7 HY.out (by kernel_rfl) (Nat.le_refl 7) (by simp [Value.oneCell']) ?_
          rw [(show (NIL7.toList.take 0 ++ (#[.int .i64 s.size, .slice B1 s.now.length d1, .slice B2 s.snaps.length d2, .int .i64 s.next, .int .i64 s.fsize, .slice B5 s.sp.length d5, .slice B6 s.data.length d6] : Array Value).toList ++ NIL7.toList.drop (0 + (#[.int .i64 s.size, .slice B1 s.now.length d1, .slice B2 s.snaps.length d2, .int .i64 s.next, .int .i64 s.fsize, .slice B5 s.sp.length d5, .slice B6 s.data.length d6] : Array Value).toList.length)).toArray = #[.int .i64 s.size, .slice B1 s.now.length d1, .slice B2 s.snaps.length d2, .int .i64 s.next, .int .i64 s.fsize, .slice B5 s.sp.length d5, .slice B6 s.data.length d6] from rfl)]
          have hst := setRow_heap wr (b1 + 1) NIL7 #[.int .i64 s.size, .slice B1 s.now.length d1, .slice B2 s.snaps.length d2, .int .i64 s.next, .int .i64 s.fsize, .slice B5 s.sp.length d5, .slice B6 s.data.length d6] 31 (0, 0) HY.out
          have HW := aa.mk (show ∃ W, W = wr.setRow (b1 + 1) #[.int .i64 s.size, .slice B1 s.now.length d1, .slice B2 s.snaps.length d2, .int .i64 s.next, .int .i64 s.fsize, .slice B5 s.sp.length d5, .slice B6 s.data.length d6] from ⟨_, rfl⟩)
          obtain ⟨wf, hwf⟩ := HW.out
          rw [← hwf] at hst ⊢
          have HWF := aa.mk hwf
          clear hwf HW q0 q1 q2 q3 q4 q5 q6
          have q0 := (ae hst 0).trans rfl
          have q1 := (ae hst 1).trans rfl
          have q2 := (ae hst 2).trans rfl
          have q3 := (ae hst 3).trans rfl
          have q4 := (ae hst 4).trans rfl
          have q5 := (ae hst 5).trans rfl
          have q6 := (ae hst 6).trans rfl
          have HST := aa.mk hst
          clear hst
          go_wp2
          (try simp only [Exit.inBlock, Exit.then])
          refine bodyPost_ret (results_cell_row rfl _ _ (b1 + 1) 31 #[.int .i64 s.size, .slice B1 s.now.length d1, .slice B2 s.snaps.length d2, .int .i64 s.next, .int .i64 s.fsize, .slice B5 s.sp.length d5, .slice B6 s.data.length d6] (0, 0) _ rfl HST.out Tryz.underlying31 rfl (by kernel_rfl)) rfl ?_
          have hb := HM.out.hb
          have ho := HM.out.owns (wf := wf) (fun k hk => by rw [HWF.out]; exact setRow_other wr (b1 + 1) k _ (by rw [HBB.out]; omega))
          refine ⟨⟨B1, d1, B2, d2, B5, d5, B6, d6⟩, rfl, ho, ?_⟩
          rw [HWF.out]
          exact aQ hb (by rw [HBB.out]; omega) _
        | succ k1 =>
          have hj1 : (j : Int) < (s.data.length : Int) := by have := HI.out; omega
          have hj2 : j < s.data.length := by have := HI.out; omega
          have hj0 : (0 : Int) ≤ (j : Int) := by omega
          have hd : decide ((j : Int) < (s.data.length : Int)) = true := decide_eq_true hj1
          obtain ⟨⟨x, y⟩, hxy⟩ : ∃ p, ys[j]? = some p := ⟨_, List.getElem?_eq_getElem (by rw [HXL.out]; exact hj2)⟩
          obtain ⟨g, d6', hv2, c0, cs, hcs⟩ := HM.out.atB hxy
          injection hv2 with hv2 hv4 hv3
          subst hv2
          clear hv4
          have HXY := aa.mk hxy
          have hx3 := HM.out.hx
          rw [← HBB.out] at hx3
          have hsm : y.length ≤ 64 := HSM.out.n7 y (by
            rw [← HM.out.q6]
            exact List.mem_map.2 ⟨_, List.mem_of_getElem? hxy, rfl⟩)
          have HYL := aa.mk hsm
          have q6 := (ae hx3 6).trans rfl
          clear hxy hv3 hsm hcs hx3
          go_wp2_with fail
          have hx3 := HM.out.hx
          rw [← HBB.out] at hx3
          refine dH (n := 7) (S := fun w' => w'.cell? ⟨b1, 6, none⟩ = some (.slice (some ⟨g, 0, none⟩) s.data.length d6)) (ds := [6]) (lb 7 0) (by kernel_rfl) rfl (by kernel_rfl) ((ae hx3 6).trans rfl) (fun hHeld => ?_)
          refine bG qd nO (fun HT_ HW_ => ?_)
          have HM2 := aa.mk (show Mid w s (.slice B1 s.now.length d1) (.slice B2 s.snaps.length d2) (.slice B5 s.sp.length d5) (.slice (some ⟨g, 0, none⟩) s.data.length d6) xs ys s.snaps.length j wr.drew from HM.out.below (aV (Below.refl _ _)))
          clear hx3 HM c0
          generalize wr.drew = w5 at hHeld HM2 ⊢
          refine pu_ 0 50 7 1 ?_
          refine tk_ 1 51 7 3 ?_
          refine pu_ 2 52 7 7 ?_
          refine pu_ 3 53 7 15 ?_
          refine on_ 4 54 7 31 (fun K hK => ?_)
          refine dQ Tryz.func117 (by kernel_rfl) rfl #[.slice x.A x.n x.c] (by rfl) rfl rfl (by (try simp only [List.map_toArray, List.map_cons, List.map_nil]); first | done | rfl) ?_
          have hC := HM2.out.cb j _ HXY.out (Nat.le_refl _)
          have hCC := Kd.bu hC.2.2 HM2.out.hb
          have hxn : x.n = y.length := hC.1
          have hxc : x.n ≤ x.c := hC.2.1
          rw [hxn] at hxc ⊢
          have HCL := aa.mk (iN.calls x.A x.c y y w5 hCC hxc (by unfold iN.f; rw [if_pos (by have := HYL.out; omega)]))
          clear hC hCC hxn hxc
          refine HCL.out.mono ?_
          rintro e w6 ⟨v, rfl, hR, hb⟩
          obtain ⟨N, dn, rfl⟩ := Kd.bf hR
          refine ⟨_, rfl, ?_⟩
          have HN := aa.mk (show Kd.R (Kd.int .u8) 5 w6 w.heap.size (ok2 w.heap.size (.slice B2 s.snaps.length d2) (.slice (some ⟨g, 0, none⟩) s.data.length d6)) (.slice N y.length dn) y from Kd.bH (Kd.aZ (Kd.bQ hR) (fun k hk => HM2.out.own2 hk.2.1)) HM2.out.hb.size)
          have HM' := aa.mk (HM2.out.below hb)
          refine hK.out _ _ ((hb.cell (World.block_lt_of_cell? _ _ hHeld)).trans hHeld) (fun hHeld => ?_)
          clear hK K hb hR HM2 HCL
          have HM := HM'
          clear HM'
          refine nm_ 54 ?_
          refine pu_ 5 55 7 63 ?_
          obtain ⟨g', d6', hv2, c3, cs, hcs⟩ := HM.out.atB HXY.out
          injection hv2 with hv2 hv4 hv3
          clear hv4 hv3
          injection hv2 with hv2
          injection hv2 with hv2
          subst hv2
          have hfz := ak hcs j
          have HM' := aa.mk (HM.out.putB rfl x y HXY.out N y.length dn HN.out)
          refine jW (i := 6) (N := none) #[yT,yT,yT,yT,yT,yT,yT] rfl rfl (dF HT_.out (by kernel_rfl)) (by decide) (fun K hK => ?_)
          refine iQ (w1 := w6.setCell ⟨g, j, none⟩ (.slice N y.length dn)) (by rfl) rfl ?_ ?_
          · go_simp
          refine hK.out _ _ ?_
          clear hK K hfz c3 hcs HM HN hHeld
          refine fu (bW HT_.out (by kernel_rfl)) ?_
          clear HT_ HW_
          generalize w6.setCell ⟨g, j, none⟩ (.slice N y.length dn) = w7 at HM' ⊢
          have hi3 : (j : Int) ≤ 65536 := by have := HSM.out.n6; omega
          go_wp2_with fail
          go_roundg k1
          case measure => omega
          case rel => exact ⟨j + 1, _, by first | rfl | (simp; done) | go_num, ⟨by have := HI.out; omega⟩, HM'⟩
    | succ k1 =>
      have hj1 : (i : Int) < (s.snaps.length : Int) := by have := HI.out; omega
      have hj2 : i < s.snaps.length := by have := HI.out; omega
      have hj0 : (0 : Int) ≤ (i : Int) := by omega
      have hd : decide ((i : Int) < (s.snaps.length : Int)) = true := decide_eq_true hj1
      obtain ⟨⟨x, y⟩, hxy⟩ : ∃ p, xs[i]? = some p := ⟨_, List.getElem?_eq_getElem (by rw [HXL.out]; exact hj2)⟩
      obtain ⟨g, d2', hv2, c0, c1, c2, c3, cs, hcs⟩ := HM.out.atS hxy
      injection hv2 with hv2 hv4 hv3
      subst hv2
      clear hv4
      have HXY := aa.mk hxy
      have HCS := aa.mk hcs
      have hsm : y.f3.length ≤ 1024 := HSM.out.n3 y (by
        rw [← HM.out.q2]
        exact List.mem_map.2 ⟨_, List.mem_of_getElem? hxy, rfl⟩)
      have HYL := aa.mk hsm
      clear hxy hv3 hcs hsm
      obtain ⟨bx, hbx⟩ : ∃ b, b = wr.heap.size := ⟨_, rfl⟩
      obtain ⟨W3, hW3⟩ : ∃ W, W = wr.alloc (.cells #[.int .i64 x.f0, .string x.f1, .int .i64 x.f2, .slice x.A x.n x.c] 69) := ⟨_, rfl⟩
      have HX3 := aa.mk (show W3.heap[bx]? = some (.cells #[.int .i64 x.f0, .string x.f1, .int .i64 x.f2, .slice x.A x.n x.c] 69 (0, 0)) by rw [hW3, hbx]; exact bB wr _)
      have HM3 := aa.mk (show Mid w s (.slice B1 s.now.length d1) (.slice (some ⟨g, 0, none⟩) s.snaps.length d2) (.slice B5 s.sp.length d5) (.slice B6 s.data.length d6) xs qs i 0 W3 by rw [hW3]; exact HM.out.below ((Below.refl _ _).alloc (Nat.le_refl _) _))
      clear HM
      go_wp2_with fail
      rw [← hW3, ← hbx]
      clear hW3 hbx c0 c1 c2 c3
      have hx3 := HM3.out.hx
      rw [← HBB.out] at hx3
      refine dH (n := 9) (S := fun w' => w'.cell? ⟨b1, 2, none⟩ = some (.slice (some ⟨g, 0, none⟩) s.snaps.length d2) ∧ w'.cell? ⟨bx, 3, none⟩ = some (.slice x.A x.n x.c)) (ds := [8]) (lb 9 0) (by kernel_rfl) rfl (by kernel_rfl) ⟨(ae hx3 2).trans rfl, (ae HX3.out 3).trans rfl⟩ (fun hHeld => ?_)
      refine bG rZ qb (fun HT_ HW_ => ?_)
      have HM := aa.mk (show Mid w s (.slice B1 s.now.length d1) (.slice (some ⟨g, 0, none⟩) s.snaps.length d2) (.slice B5 s.sp.length d5) (.slice B6 s.data.length d6) xs qs i 0 W3.drew from HM3.out.below (aV (Below.refl _ _)))
      have hcs := HCS.out
      clear hx3 HM3 HX3 hcs HCS
      generalize W3.drew = w5 at hHeld HM ⊢
      refine pu_ 0 33 9 1 ?_
      refine tk_ 1 34 9 3 ?_
      refine pu_ 2 35 9 7 ?_
      refine pu_ 3 36 9 15 ?_
      refine tk_ 4 37 9 31 ?_
      refine on_ 5 38 9 63 (fun K hK => ?_)
      refine dQ Tryz.func113 (by kernel_rfl) rfl #[.slice x.A x.n x.c] (by rfl) rfl rfl (by (try simp only [List.map_toArray, List.map_cons, List.map_nil]); first | done | rfl) ?_
      have hC := HM.out.cs i _ HXY.out (Nat.le_refl _)
      have hCC := Kd.bu hC.2.2.2.2.2 HM.out.hb
      have hxn : x.n = y.f3.length := hC.2.2.2.1
      have hxc : x.n ≤ x.c := hC.2.2.2.2.1
      rw [hxn] at hxc ⊢
      have HCL := aa.mk (iE.calls x.A x.c y.f3 y.f3 w5 hCC hxc (by unfold iE.f; rw [if_pos (by have := HYL.out; omega)]))
      clear hC hCC hxn hxc
      refine HCL.out.mono ?_
      rintro e w6 ⟨v, rfl, hR, hb⟩
      obtain ⟨N, dn, rfl⟩ := Kd.bf hR
      refine ⟨_, rfl, ?_⟩
      have HN := aa.mk (show Kd.R k151 151 w6 w.heap.size (ok2 w.heap.size (.slice (some ⟨g, 0, none⟩) s.snaps.length d2) (.slice B6 s.data.length d6)) (.slice N y.f3.length dn) y.f3 from Kd.bH (Kd.aZ (Kd.bQ hR) (fun k hk => HM.out.own2 hk.2.1)) HM.out.hb.size)
      have HM' := aa.mk (HM.out.below hb)
      refine hK.out _ _ ⟨(hb.cell (World.block_lt_of_cell? _ _ hHeld.1)).trans hHeld.1, (hb.cell (World.block_lt_of_cell? _ _ hHeld.2)).trans hHeld.2⟩ (fun hHeld => ?_)
      clear hK K hb hR HM HCL
      have HM := HM'
      clear HM'
      refine nm_ 38 ?_
      refine pu_ 6 39 9 127 ?_
      refine pu_ 7 40 9 255 ?_
      obtain ⟨g', d2', hv2, -, -, -, c3, cs, hcs⟩ := HM.out.atS HXY.out
      injection hv2 with hv2 hv4 hv3
      clear hv4 hv3
      injection hv2 with hv2
      injection hv2 with hv2
      subst hv2
      have hfz := ak hcs (i * 4 + 3)
      have HM' := aa.mk (HM.out.putS rfl x y HXY.out N y.f3.length dn HN.out)
      refine jW (i := 8) (N := none) #[yT,yT,yT,yT,yT,yT,yT,yT,yT] rfl rfl (dF HT_.out (by kernel_rfl)) (by decide) (fun K hK => ?_)
      refine iQ (w1 := w6.setCell ⟨g, i * 4 + 3, none⟩ (.slice N y.f3.length dn)) (by rfl) rfl ?_ ?_
      · go_simp
      refine hK.out _ _ ?_
      clear hK K hfz c3 hcs HM HN hHeld
      refine fu (bW HT_.out (by kernel_rfl)) ?_
      clear HT_ HW_
      generalize w6.setCell ⟨g, i * 4 + 3, none⟩ (.slice N y.f3.length dn) = w7 at HM' ⊢
      have hi3 : (i : Int) ≤ 8 := by have := HSM.out.n2; omega
      go_wp2_with fail
      go_roundg k1
      case measure => omega
      case rel => exact ⟨i + 1, _, by first | rfl | (simp; done) | go_num, ⟨by have := HI.out; omega⟩, HM'⟩
set_option maxHeartbeats 2000000 in
set_option maxRecDepth 100000 in
theorem idx_nm (cl : Nat) (lb : Array Value) (p : S173 → Bool) (eg : ∀ args w, (callFunc cl args).run Tryz.prog w = .ok (.enter cl args) w)
    (A0 : Option Addr) (c0 : Nat) (l0 : List S173) (w : World) (hr0 : Kd.C k173 w A0 l0.length l0)
    (hp : ∀ (W : World) (x : S173), Below w.heap.size w W → Calls Tryz.prog cl (#[.agg #[.int .i64 x.f0, .string x.f1]] ++ lb) W fun e w' => e = .returned (.bool (p x)) ∧ Below w.heap.size w w') :
    Calls Tryz.prog 144 #[.slice A0 l0.length c0, .func (.func cl) #[] lb] w fun e w' => e = .returned (.int .i64 (idxF p l0)) ∧ Below w.heap.size w w' := by
  have hu := Tryz.underlying173
  have HR0 := aa.mk hr0
  have HP := aa.mk hp
  clear hr0 hp
  go_enter Tryz.func144, Tryz.ntmps144
  go_wp2
  go_loopg [5, 8] l0.length (fun gk _ v8 W => ∃ i : Int, v8 = .int .i64 i ∧ aa (0 ≤ i ∧ i + gk = l0.length) ∧ aa (Below w.heap.size w W) ∧ aa (∀ j (hj : j < l0.length), (j : Int) < i → p l0[j] = false))
  case atStart => exact ⟨0, rfl, ⟨Int.le_refl _, by simp⟩, ⟨Below.refl _ w⟩, ⟨fun j hj h => by omega⟩⟩
  case round =>
    obtain ⟨i, rfl, HI, HB, HA⟩ := hrel
    cases gk with
    | zero =>
      have hi : i = l0.length := by have := HI.out.2; omega
      have hd : decide (i < (l0.length : Int)) = false := decide_eq_false (by omega)
      have hr : idxF p l0 = -1 := jQ (fun x hx => by
        obtain ⟨j, hj, rfl⟩ := List.mem_iff_getElem.1 hx
        exact HA.out j hj (by omega))
      have HRES := aa.mk hr
      clear hi hr
      go_wp2
      go_ret
      exact ⟨by rw [HRES.out]; rfl, HB.out⟩
    | succ k1 =>
      have hp0 : 0 ≤ i := HI.out.1
      have hp1 : i < (l0.length : Int) := by have := HI.out.2; omega
      have hd : decide (i < (l0.length : Int)) = true := decide_eq_true hp1
      have hC : Kd.C k173 wr A0 l0.length l0 := Kd.bu HR0.out HB.out
      have hlen64 : (l0.length : Int) ≤ 9223372036854775807 := by have := HR0.out.2.1; omega
      obtain ⟨ad, e3, g0, g1⟩ := tV hC i hp0 hp1
      cases e3
      obtain ⟨x, hx⟩ : ∃ x, x = ku l0 i := ⟨_, rfl⟩
      rw [← hx] at g0 g1
      have hxi : x = l0[i.toNat]'(by omega) := by rw [hx]; unfold ku; rw [List.getD_eq_getElem?_getD, List.getElem?_eq_getElem (by omega)]; rfl
      have hcall := HP.out wr x HB.out
      have HX := aa.mk hxi
      have HPI := aa.mk (And.intro hp0 hp1)
      clear hx hC hxi
      cases hq : p x with
      | true =>
        rw [hq] at hcall
        have hres : idxF p l0 = i := by
          have h1 := kU (p := p) (l := l0) (k := i.toNat) (by omega) (by rw [← HX.out]; exact hq) (fun j hj => HA.out j (by omega) (by omega))
          rw [h1]; omega
        have HRES := aa.mk hres
        clear hres
        go_wp2_with (go_at_fn cl; refine hcall.mono ?_; rintro e w' ⟨rfl, hb'⟩)
        go_ret
        exact ⟨by rw [HRES.out]; rfl, hb'⟩
      | false =>
        rw [hq] at hcall
        have HQ := aa.mk hq
        go_wp2_with (go_at_fn cl; refine hcall.mono ?_; rintro e w' ⟨rfl, hb'⟩)
        go_roundg k1
        case measure => omega
        case rel =>
          refine ⟨i + 1, by first | rfl | (simp; done) | go_num, ⟨by have := HPI.out.1; omega, by have := HI.out.2; omega⟩, ⟨hb'⟩, ⟨fun j hj h => ?_⟩⟩
          by_cases e : (j : Int) = i
          · have e2 : j = i.toNat := by omega
            subst e2
            rw [← HX.out]; exact HQ.out
          · exact HA.out j hj (by omega)
set_option maxHeartbeats 1000000 in
set_option maxRecDepth 100000 in
theorem has_nm (cl : Nat) (lb : Array Value) (p : S173 → Bool) (eg : ∀ args w, (callFunc cl args).run Tryz.prog w = .ok (.enter cl args) w)
    (A0 : Option Addr) (c0 : Nat) (l0 : List S173) (w : World) (hr0 : Kd.C k173 w A0 l0.length l0)
    (hp : ∀ (W : World) (x : S173), Below w.heap.size w W → Calls Tryz.prog cl (#[.agg #[.int .i64 x.f0, .string x.f1]] ++ lb) W fun e w' => e = .returned (.bool (p x)) ∧ Below w.heap.size w w') :
    Calls Tryz.prog 110 #[.slice A0 l0.length c0, .func (.func cl) #[] lb] w fun e w' => e = .returned (.bool (l0.any p)) ∧ Below w.heap.size w w' := by
  have hidx := idx_nm cl lb p eg A0 c0 l0 w hr0 hp
  have hres : decide (0 ≤ idxF p l0) = l0.any p := by
    unfold idxF
    cases h : l0.findIdx? p with
    | some i =>
      have := List.findIdx?_eq_some_iff_getElem.1 h
      obtain ⟨h1, h2, _⟩ := this
      rw [List.any_eq_true.2 ⟨_, List.getElem_mem h1, h2⟩]
      exact decide_eq_true (by show (0 : Int) ≤ (i : Int); omega)
    | none =>
      have := List.findIdx?_eq_none_iff.1 h
      rw [List.any_eq_false.2 (fun x hx => by rw [this x hx]; decide)]
      rfl
  have HI := aa.mk hidx
  have HRES := aa.mk hres
  clear hidx hres hp hr0
  go_enter Tryz.func110, Tryz.ntmps110
  go_wp2_with fail
  refine HI.out.mono ?_
  rintro e w1 ⟨rfl, hb⟩
  have HB := aa.mk hb
  clear hb
  go_wp2
  go_ret
  exact ⟨by rw [← HRES.out]; rfl, HB.out⟩
def lY (size at0 n : Int) : Bool := (fQ.f size at0 n).getD false
theorem oL (size at0 n : Int) : fQ.f size at0 n = some (lY size at0 n) := by
  have h : ∃ b, fQ.f size at0 n = some b := by
    unfold fQ.f
    split
    · split <;> exact ⟨_, rfl⟩
    · exact ⟨_, rfl⟩
  obtain ⟨b, hb⟩ := h
  unfold lY
  rw [hb]; rfl
def may1 (size : Int) (x : OpV) : Int := if x.data.length = 0 ∨ 0 < x.data.length % 64 ∨ 64 < x.data.length / 64 then 1 else if lY size x.at0 ((x.data.length / 64 : Nat) : Int) then 0 else 4
def may4 (l : List S173) (next : Int) (x : OpV) : Int := if x.name.toList.isEmpty = true ∨ 16 < x.name.size then 1 else if (l.any fun y => y.f1.toList == x.name.toList) then 6 else if 8 ≤ l.length ∨ 255 ≤ next then 3 else 0
set_option maxHeartbeats 8000000 in
set_option maxRecDepth 100000 in
theorem vg (size next : Int) (AL : Option Addr) (cL : Nat) (l : List S173) (x : OpV) (Dx : Option Addr) (cx : Nat) (w : World) (hlen : x.data.length ≤ 9223372036854775807) :
    Calls Tryz.prog 66 #[.int .i64 size, .slice AL l.length cL, .int .i64 next, .agg #[.int .i64 1, .int .i64 x.at0, .int .i64 x.n, .int .i64 x.id, .string x.name, .slice Dx x.data.length cx]] w fun e w' => e = .returned (.int .i64 (may1 size x)) ∧ Below w.heap.size w w' := by
  have hu61 := Tryz.underlying61
  obtain ⟨n, hn⟩ : ∃ n, n = x.data.length := ⟨_, rfl⟩
  obtain ⟨q, hq⟩ : ∃ q, q = n / 64 := ⟨_, rfl⟩
  have hres : may1 size x = if n = 0 ∨ 0 < n % 64 ∨ 64 < q then 1 else if lY size x.at0 (q : Int) then 0 else 4 := by unfold may1; rw [hq, hn]
  rw [hres, ← hn]
  obtain ⟨W1, hW1⟩ : ∃ W, W = w.alloc (.cells #[.int .i64 1, .int .i64 x.at0, .int .i64 x.n, .int .i64 x.id, .string x.name, .slice Dx n cx] 61) := ⟨_, rfl⟩
  have hx1 : W1.heap[w.heap.size]? = some (.cells #[.int .i64 1, .int .i64 x.at0, .int .i64 x.n, .int .i64 x.id, .string x.name, .slice Dx n cx] 61 (0, 0)) := by rw [hW1]; exact bB w _
  have HB := aa.mk (show Below w.heap.size w W1 by rw [hW1]; exact (Below.refl _ _).alloc (Nat.le_refl _) _)
  have p0 := (ae hx1 0).trans rfl
  have p1 := (ae hx1 1).trans rfl
  have p5 := (ae hx1 5).trans rfl
  have hw : wrap64 ((n : Int) / 64) = (q : Int) := by rw [w64 (by omega)]; omega
  have HF := aa.mk (fQ.calls size x.at0 (q : Int) _ W1 (oL size x.at0 (q : Int)))
  have HN := aa.mk (And.intro hn hq)
  rw [hW1] at p0 p1 p5
  clear hx1 hres hlen hn hq
  by_cases h1 : n = 0
  · rw [if_pos (.inl h1)]
    have b1 : ((n : Int) == 0) = true := by simpa using h1
    clear h1
    go_enter Tryz.func66, Tryz.ntmps66
    go_wp2_with fail
    rw [← hW1]
    go_ret
    exact ⟨rfl, HB.out⟩
  have b1 : ((n : Int) == 0) = false := by simpa using h1
  by_cases h2 : 0 < n % 64
  · rw [if_pos (.inr (.inl h2))]
    have b2 : decide (0 < (n : Int) % 64) = true := decide_eq_true (by omega)
    clear h1 h2
    go_enter Tryz.func66, Tryz.ntmps66
    go_wp2_with fail
    rw [← hW1]
    go_ret
    exact ⟨rfl, HB.out⟩
  have b2 : decide (0 < (n : Int) % 64) = false := decide_eq_false (by omega)
  by_cases h3 : 64 < q
  · rw [if_pos (.inr (.inr h3))]
    have b3 : decide (64 < (q : Int)) = true := decide_eq_true (by omega)
    have b3' : decide (64 < q) = true := decide_eq_true h3
    clear h1 h2 h3
    go_enter Tryz.func66, Tryz.ntmps66
    go_wp2_with fail
    rw [← hW1]
    go_ret
    exact ⟨rfl, HB.out⟩
  rw [if_neg (by omega)]
  have b3 : decide (64 < (q : Int)) = false := decide_eq_false (by omega)
  have b3' : decide (64 < q) = false := decide_eq_false h3
  clear h1 h2 h3
  obtain ⟨r, hr⟩ : ∃ r, r = lY size x.at0 (q : Int) := ⟨_, rfl⟩
  rw [← hr] at HF ⊢
  clear hr
  go_enter Tryz.func66, Tryz.ntmps66
  go_wp2_with fail
  rw [← hW1]
  clear p0 p1 p5 hW1 hw
  refine HF.out.mono ?_
  rintro e w2 ⟨rfl, hb⟩
  have HB2 := aa.mk (HB.out.trans (hb.mono HB.out.size))
  clear hb HF
  cases r <;> (go_wp2_with fail; go_ret; exact ⟨rfl, HB2.out⟩)
set_option maxHeartbeats 1000000 in
set_option maxRecDepth 100000 in
theorem Ab (y : S173) (b : Nat) (cs : Array Value) (nm : ByteArray) (w : World) (hb : w.heap[b]? = some (.cells cs 61 (0, 0))) (h4 : cs[4]? = some (.string nm)) :
    Calls Tryz.prog 111 (#[.agg #[.int .i64 y.f0, .string y.f1]] ++ #[.pointer (some ⟨b, 0, none⟩)]) w fun e w' => e = .returned (.bool (y.f1.toList == nm.toList)) ∧ Below w.heap.size w w' := by
  have hu := Tryz.underlying173
  have hu61 := Tryz.underlying61
  obtain ⟨W1, hW1⟩ : ∃ W, W = w.alloc (.cells #[.int .i64 y.f0, .string y.f1] 173) := ⟨_, rfl⟩
  have HB := aa.mk (show Below w.heap.size w W1 by rw [hW1]; exact (Below.refl _ _).alloc (Nat.le_refl _) _)
  have u0 : W1.cell? ⟨b, 4, none⟩ = some (.string nm) := (ae ((HB.out.block b (aA hb)).trans hb) 4).trans h4
  rw [hW1] at u0
  clear hb h4
  go_enter Tryz.func111, Tryz.ntmps111
  go_wp2_with fail
  rw [← hW1]
  go_ret
  exact ⟨by first | rfl | simp, HB.out⟩
set_option maxHeartbeats 8000000 in
set_option maxRecDepth 100000 in
theorem xh (size next : Int) (AL : Option Addr) (cL : Nat) (l : List S173) (x : OpV) (Dx : Option Addr) (cx : Nat) (w : World) (hL : Kd.C k173 w AL l.length l) (hc : l.length ≤ cL) :
    Calls Tryz.prog 66 #[.int .i64 size, .slice AL l.length cL, .int .i64 next, .agg #[.int .i64 4, .int .i64 x.at0, .int .i64 x.n, .int .i64 x.id, .string x.name, .slice Dx x.data.length cx]] w fun e w' => e = .returned (.int .i64 (may4 l next x)) ∧ Below w.heap.size w w' := by
  have hu61 := Tryz.underlying61
  obtain ⟨W1, hW1⟩ : ∃ W, W = w.alloc (.cells #[.int .i64 4, .int .i64 x.at0, .int .i64 x.n, .int .i64 x.id, .string x.name, .slice Dx x.data.length cx] 61) := ⟨_, rfl⟩
  have hx1 : W1.heap[w.heap.size]? = some (.cells #[.int .i64 4, .int .i64 x.at0, .int .i64 x.n, .int .i64 x.id, .string x.name, .slice Dx x.data.length cx] 61 (0, 0)) := by rw [hW1]; exact bB w _
  have HB := aa.mk (show Below w.heap.size w W1 by rw [hW1]; exact (Below.refl _ _).alloc (Nat.le_refl _) _)
  have p0 := (ae hx1 0).trans rfl
  have p4 := (ae hx1 4).trans rfl
  have HH := aa.mk (has_nm 111 #[.pointer (some ⟨w.heap.size, 0, none⟩)] (fun y => y.f1.toList == x.name.toList) (fun args w => jB Tryz.func111 (by kernel_rfl) rfl args w) AL cL l W1 (Kd.bu hL HB.out) (fun W y hB => Calls.mono (Ab y _ _ x.name W ((hB.block _ (aA hx1)).trans hx1) rfl) fun e w' h => ⟨h.1, az hB h.2⟩))
  rw [hW1] at p0 p4
  clear hx1 hL hc
  unfold may4
  by_cases h1 : x.name.toList.isEmpty = true
  · rw [if_pos (.inl h1)]
    have hl := List.isEmpty_iff.1 h1
    go_enter Tryz.func66, Tryz.ntmps66
    go_wp2_with fail
    rw [← hW1]
    go_ret
    exact ⟨rfl, HB.out⟩
  have h1f : x.name.toList.isEmpty = false := Bool.eq_false_iff.2 h1
  have hl : ¬ x.name.toList = [] := fun h => h1 (List.isEmpty_iff.2 h)
  by_cases h2 : 16 < x.name.size
  · rw [if_pos (.inr h2)]
    have b2 : decide ((16 : Int) < (x.name.size : Int)) = true := decide_eq_true (by omega)
    have b2' : decide (16 < x.name.size) = true := decide_eq_true h2
    clear h1 h2
    go_enter Tryz.func66, Tryz.ntmps66
    go_wp2_with fail
    rw [← hW1]
    go_ret
    exact ⟨rfl, HB.out⟩
  have b2 : decide ((16 : Int) < (x.name.size : Int)) = false := decide_eq_false (by omega)
  have b2' : decide (16 < x.name.size) = false := decide_eq_false h2
  rw [if_neg (by rintro (h | h); exact h1 h; exact h2 h)]
  clear h1 h2
  obtain ⟨r, hr⟩ : ∃ r, r = (l.any fun y => y.f1.toList == x.name.toList) := ⟨_, rfl⟩
  rw [← hr] at HH ⊢
  obtain ⟨res, hres⟩ : ∃ v : Int, v = (if r = true then 6 else if 8 ≤ l.length ∨ 255 ≤ next then 3 else 0) := ⟨_, rfl⟩
  rw [← hres]
  have HRES := aa.mk hres
  clear hr hres
  go_enter Tryz.func66, Tryz.ntmps66
  go_wp2_with fail
  rw [← hW1]
  clear p0 p4 hW1 hl h1f b2 b2'
  refine HH.out.mono ?_
  rintro e w2 ⟨rfl, hb⟩
  have HB2 := aa.mk (HB.out.trans (hb.mono HB.out.size))
  clear hb HH
  cases r with
  | true => go_wp2_with fail; go_ret; exact ⟨by rw [HRES.out]; rfl, HB2.out⟩
  | false =>
    by_cases h3 : 8 ≤ l.length
    · have HE := aa.mk (show res = 3 by rw [HRES.out, if_neg (by decide), if_pos (.inl h3)])
      have b3 : decide ((8 : Int) ≤ (l.length : Int)) = true := decide_eq_true (by omega)
      have b3' : decide (8 ≤ l.length) = true := decide_eq_true h3
      clear h3
      go_wp2_with fail
      go_ret
      exact ⟨by rw [HE.out]; rfl, HB2.out⟩
    have b3 : decide ((8 : Int) ≤ (l.length : Int)) = false := decide_eq_false (by omega)
    have b3' : decide (8 ≤ l.length) = false := decide_eq_false h3
    by_cases h4 : 255 ≤ next
    · have HE := aa.mk (show res = 3 by rw [HRES.out, if_neg (by decide), if_pos (.inr h4)])
      have b4 : decide (255 ≤ next) = true := decide_eq_true h4
      clear h3 h4
      go_wp2_with fail
      go_ret
      exact ⟨by rw [HE.out]; rfl, HB2.out⟩
    have HE := aa.mk (show res = 0 by rw [HRES.out, if_neg (by decide), if_neg (by rintro (h | h); exact h3 h; exact h4 h)])
    have b4 : decide (255 ≤ next) = false := decide_eq_false h4
    clear h3 h4
    go_wp2_with fail
    go_ret
    exact ⟨by rw [HE.out]; rfl, HB2.out⟩
def eD (x : OpV) (Dx : Option Addr) (cx : Nat) : Array Value := #[.int .i64 x.what, .int .i64 x.at0, .int .i64 x.n, .int .i64 x.id, .string x.name, .slice Dx x.data.length cx]
def NIL5 : Array Value := #[.int .i64 0, .slice none 0 0, .int .i64 0, .slice none 0 0, .int .i64 0]
structure rJ (w : World) (s : St) (a : At4) (x : OpV) (Dx : Option Addr) (cx b : Nat) (W : World) : Prop where
  e : b = w.heap.size
  x2 : W.heap[b]? = some (.cells #[.int .i64 s.size, .slice a.A1 s.now.length a.c1, .slice a.A2 s.snaps.length a.c2, .int .i64 s.next, .int .i64 s.fsize, .slice a.A5 s.sp.length a.c5, .slice a.A6 s.data.length a.c6] 31 (0, 0))
  x3 : W.heap[b + 1]? = some (.cells #[.int .i64 x.what, .int .i64 x.at0, .int .i64 x.n, .int .i64 x.id, .string x.name, .slice Dx x.data.length cx] 61 (0, 0))
  x4 : W.heap[b + 2]? = some (.cells NIL7 31 (0, 0))
  x5 : W.heap[b + 3]? = some (.cells NIL5 58 (0, 0))
  hb : Below w.heap.size w W
  hr : Reads W s a
theorem rJ.below {w : World} {s : St} {a : At4} {x : OpV} {Dx : Option Addr} {cx b : Nat} {W W1 : World} (h : rJ w s a x Dx cx b W) (hb : Below W.heap.size W W1) : rJ w s a x Dx cx b W1 :=
  ⟨h.e, (hb.block _ (aA h.x2)).trans h.x2, (hb.block _ (aA h.x3)).trans h.x3, (hb.block _ (aA h.x4)).trans h.x4, (hb.block _ (aA h.x5)).trans h.x5, h.hb.trans (hb.mono h.hb.size), h.hr.below hb⟩
theorem oH (w : World) (s : St) (a : At4) (x : OpV) (Dx : Option Addr) (cx : Nat) (hr : Reads w s a) :
    rJ w s a x Dx cx w.heap.size ((((w.alloc (.cells #[.int .i64 s.size, .slice a.A1 s.now.length a.c1, .slice a.A2 s.snaps.length a.c2, .int .i64 s.next, .int .i64 s.fsize, .slice a.A5 s.sp.length a.c5, .slice a.A6 s.data.length a.c6] 31)).alloc (.cells #[.int .i64 x.what, .int .i64 x.at0, .int .i64 x.n, .int .i64 x.id, .string x.name, .slice Dx x.data.length cx] 61)).alloc (.cells NIL7 31)).alloc (.cells NIL5 58)) := by
  obtain ⟨W1, hW1⟩ : ∃ W, W = w.alloc (.cells #[.int .i64 s.size, .slice a.A1 s.now.length a.c1, .slice a.A2 s.snaps.length a.c2, .int .i64 s.next, .int .i64 s.fsize, .slice a.A5 s.sp.length a.c5, .slice a.A6 s.data.length a.c6] 31) := ⟨_, rfl⟩
  rw [← hW1]
  obtain ⟨W2, hW2⟩ : ∃ W, W = W1.alloc (.cells #[.int .i64 x.what, .int .i64 x.at0, .int .i64 x.n, .int .i64 x.id, .string x.name, .slice Dx x.data.length cx] 61) := ⟨_, rfl⟩
  rw [← hW2]
  obtain ⟨W3, hW3⟩ : ∃ W, W = W2.alloc (.cells NIL7 31) := ⟨_, rfl⟩
  rw [← hW3]
  obtain ⟨W4, hW4⟩ : ∃ W, W = W3.alloc (.cells NIL5 58) := ⟨_, rfl⟩
  rw [← hW4]
  have s1 : W1.heap.size = w.heap.size + 1 := by rw [hW1]; simp
  have s2 : W2.heap.size = w.heap.size + 2 := by rw [hW2]; simp [s1]
  have s3 : W3.heap.size = w.heap.size + 3 := by rw [hW3]; simp [s2]
  have k1 : Below w.heap.size w W1 := by rw [hW1]; exact (Below.refl _ _).alloc (Nat.le_refl _) _
  have k2 : Below W1.heap.size W1 W2 := by rw [hW2]; exact (Below.refl _ _).alloc (Nat.le_refl _) _
  have k3 : Below W2.heap.size W2 W3 := by rw [hW3]; exact (Below.refl _ _).alloc (Nat.le_refl _) _
  have k4 : Below W3.heap.size W3 W4 := by rw [hW4]; exact (Below.refl _ _).alloc (Nat.le_refl _) _
  have y2 : W1.heap[w.heap.size]? = some (.cells #[.int .i64 s.size, .slice a.A1 s.now.length a.c1, .slice a.A2 s.snaps.length a.c2, .int .i64 s.next, .int .i64 s.fsize, .slice a.A5 s.sp.length a.c5, .slice a.A6 s.data.length a.c6] 31 (0, 0)) := by rw [hW1]; exact bB w _
  have y3 : W2.heap[w.heap.size + 1]? = some (.cells #[.int .i64 x.what, .int .i64 x.at0, .int .i64 x.n, .int .i64 x.id, .string x.name, .slice Dx x.data.length cx] 61 (0, 0)) := by rw [hW2, ← s1]; exact bB W1 _
  have y4 : W3.heap[w.heap.size + 2]? = some (.cells NIL7 31 (0, 0)) := by rw [hW3, ← s2]; exact bB W2 _
  have y5 : W4.heap[w.heap.size + 3]? = some (.cells NIL5 58 (0, 0)) := by rw [hW4, ← s3]; exact bB W3 _
  have hb := ((k1.trans (k2.mono k1.size)).trans (k3.mono (k1.trans (k2.mono k1.size)).size)).trans (k4.mono ((k1.trans (k2.mono k1.size)).trans (k3.mono (k1.trans (k2.mono k1.size)).size)).size)
  exact ⟨rfl, aG (aG (aG y2 k2) k3) k4, aG (aG y3 k3) k4, aG y4 k4, y5, hb, hr.below hb⟩
def dd_T4 : Bool × List (List Nat × List Nat) := (true, [([], []), ([0], [0]), ([], []), ([2], [2]), ([], []), ([4], [4]), ([], []), ([1, 3, 5, 6, 3], [1, 3, 5, 6]), ([7, 7, 0, 1, 2, 3, 4, 5, 6, 7], [7])])
def dd_B4 : List Nat := [0, 1, 0, 4, 0, 16, 0, 127, 255]
theorem zM : rtab .any (opsOf Tryz.f27 4) = dd_T4 := by kernel_rfl
theorem wz : dA dd_T4.2 dd_B4 = true := by kernel_rfl
def xY : Bool × List (List Nat × List Nat) := (true, [([], []), ([], []), ([0, 0], [0]), ([1, 2, 0, 1, 2], [1])])
def dd_B12 : List Nat := [0, 0, 1, 7]
theorem wJ : rtab .any (opsOf Tryz.f27 12) = xY := by kernel_rfl
theorem u7 : dA xY.2 dd_B12 = true := by kernel_rfl
set_option maxHeartbeats 16000000 in
set_option maxRecDepth 100000 in
theorem Do_bad (s : St) (a : At4) (x : OpV) (Dx : Option Addr) (cx : Nat) (w : World) (hr : Reads w s a) (hn : s.snaps.length < 4398046511103) (hbad : bY s ≠ 0) :
    Calls Tryz.prog 27 #[.agg (aN s a), .agg (eD x Dx cx)] w fun e w' => e = .returned (.tuple #[.agg NIL7, .agg #[.int .i64 (bY s), .slice none 0 0, .int .i64 0, .slice none 0 0, .int .i64 0]]) ∧ Below w.heap.size w w' := by
  have hu31 := Tryz.underlying31
  have hu61 := Tryz.underlying61
  have hu58 := Tryz.underlying58
  obtain ⟨W4, hW4⟩ : ∃ W, W = ((((w.alloc (.cells #[.int .i64 s.size, .slice a.A1 s.now.length a.c1, .slice a.A2 s.snaps.length a.c2, .int .i64 s.next, .int .i64 s.fsize, .slice a.A5 s.sp.length a.c5, .slice a.A6 s.data.length a.c6] 31)).alloc (.cells #[.int .i64 x.what, .int .i64 x.at0, .int .i64 x.n, .int .i64 x.id, .string x.name, .slice Dx x.data.length cx] 61)).alloc (.cells NIL7 31)).alloc (.cells NIL5 58)) := ⟨_, rfl⟩
  obtain ⟨b, hbb⟩ : ∃ k, k = w.heap.size := ⟨_, rfl⟩
  have HB4 := aa.mk (show rJ w s a x Dx cx b W4 by rw [hW4, hbb]; exact oH w s a x Dx cx hr)
  have q0 := (ae HB4.out.x2 0).trans rfl
  have q1 := (ae HB4.out.x2 1).trans rfl
  have q2 := (ae HB4.out.x2 2).trans rfl
  have q3 := (ae HB4.out.x2 3).trans rfl
  have q4 := (ae HB4.out.x2 4).trans rfl
  have q5 := (ae HB4.out.x2 5).trans rfl
  have q6 := (ae HB4.out.x2 6).trans rfl
  rw [hW4, hbb] at q0 q1 q2 q3 q4 q5 q6
  have HCK := aa.mk (bT.calls s a (bY s) W4 HB4.out.hr (by unfold bT.f; rw [if_pos hn]))
  obtain ⟨r, hr9⟩ : ∃ r, r = bY s := ⟨_, rfl⟩
  rw [← hr9] at HCK hbad ⊢
  have hbn : (r != 0) = true := bne_iff_ne.mpr hbad
  clear hr hn hbad hr9
  unfold aN eD
  go_enter Tryz.func27, Tryz.ntmps27
  have hN7 : NIL7 = #[.int .i64 0, .slice none 0 0, .slice none 0 0, .int .i64 0, .int .i64 0, .slice none 0 0, .slice none 0 0] := rfl
  have hN5 : NIL5 = #[.int .i64 0, .slice none 0 0, .int .i64 0, .slice none 0 0, .int .i64 0] := rfl
  rw [hN7, hN5] at hW4 q0 q1 q2 q3 q4 q5 q6
  rw [hN7]
  go_wp2_with fail
  rw [← hW4, ← hbb]
  clear hW4 hbb q0 q1 q2 q3 q4 q5 q6
  refine HCK.out.mono ?_
  rintro e w5 ⟨rfl, hb⟩
  have HB5 := aa.mk (HB4.out.below hb)
  clear hb HB4 HCK
  go_wp2_with (refine ji (.store 31 (.tmp 4) (.tmp 15)) rfl ?_; refine jh ?_)
  refine ⟨?_⟩
  refine eB (P := Tryz.prog) rfl 31 (.tmp 4) (.tmp 15) rfl _ (b + 2) 0 rfl NIL7 rfl rfl 31 _ HB5.out.x4 (by kernel_rfl) (Nat.le_refl 7) (by simp [Value.oneCell', NIL7]) ?_
  rw [(show (NIL7.toList.take 0 ++ NIL7.toList ++ NIL7.toList.drop (0 + NIL7.toList.length)).toArray = NIL7 from rfl)]
  have hx5 := (setRow_other w5 (b + 2) (b + 3) NIL7 (by omega)).trans HB5.out.x5
  refine eB (P := Tryz.prog) rfl 58 (.tmp 5) (.tmp 17) rfl _ (b + 3) 0 rfl #[.int .i64 r, .slice none 0 0, .int .i64 0, .slice none 0 0, .int .i64 0] rfl rfl 58 _ hx5 (by kernel_rfl) (Nat.le_refl 5) (by simp [Value.oneCell']) ?_
  rw [(show (NIL5.toList.take 0 ++ (#[.int .i64 r, .slice none 0 0, .int .i64 0, .slice none 0 0, .int .i64 0] : Array Value).toList ++ NIL5.toList.drop (0 + (#[.int .i64 r, .slice none 0 0, .int .i64 0, .slice none 0 0, .int .i64 0] : Array Value).toList.length)).toArray = #[.int .i64 r, .slice none 0 0, .int .i64 0, .slice none 0 0, .int .i64 0] from rfl)]
  have y4 := (setRow_other (w5.setRow (b + 2) NIL7) (b + 3) (b + 2) #[.int .i64 r, .slice none 0 0, .int .i64 0, .slice none 0 0, .int .i64 0] (by omega)).trans (setRow_heap w5 (b + 2) _ NIL7 _ _ HB5.out.x4)
  have y5 := setRow_heap (w5.setRow (b + 2) NIL7) (b + 3) _ #[.int .i64 r, .slice none 0 0, .int .i64 0, .slice none 0 0, .int .i64 0] _ _ hx5
  have HB6 := aa.mk (aQ (aQ HB5.out.hb (g := b + 2) (by rw [HB5.out.e]; omega) NIL7) (g := b + 3) (by rw [HB5.out.e]; omega) #[.int .i64 r, .slice none 0 0, .int .i64 0, .slice none 0 0, .int .i64 0])
  have HY := aa.mk (And.intro y4 y5)
  clear y4 y5 hx5 HB5
  generalize (w5.setRow (b + 2) NIL7).setRow (b + 3) #[.int .i64 r, .slice none 0 0, .int .i64 0, .slice none 0 0, .int .i64 0] = w6 at HB6 HY ⊢
  go_wp2
  (try simp only [Exit.inBlock, Exit.then])
  refine bodyPost_ret (mg rfl _ _ (b + 2) (b + 3) 31 58 NIL7 #[.int .i64 r, .slice none 0 0, .int .i64 0, .slice none 0 0, .int .i64 0] (0, 0) (0, 0) _ _ rfl HY.out.1 Tryz.underlying31 rfl (by kernel_rfl) rfl HY.out.2 Tryz.underlying58 rfl (by kernel_rfl)) rfl ?_
  exact ⟨rfl, HB6.out⟩
set_option maxHeartbeats 16000000 in
set_option maxRecDepth 100000 in
theorem tZ (s : St) (a : At4) (x : OpV) (Dx : Option Addr) (cx : Nat) (w : World) (hr : Reads w s a) (hn : s.snaps.length < 4398046511103) (hok : bY s = 0)
    (hmay : ∀ (AL : Option Addr) (cL : Nat) (W : World), Kd.C k173 W AL (fF s).length (fF s) → (fF s).length ≤ cL → Calls Tryz.prog 66 #[.int .i64 s.size, .slice AL (fF s).length cL, .int .i64 s.next, .agg #[.int .i64 x.what, .int .i64 x.at0, .int .i64 x.n, .int .i64 x.id, .string x.name, .slice Dx x.data.length cx]] W fun e w' => e = .returned (.int .i64 0) ∧ Below W.heap.size W w') (hsm : Small s)
    (s' : St) (rid : Int) (dt : List Int) (ls : List S173) (hdo : ∀ (w0 W : World) (b : Nat) (a : At4), Below w.heap.size w w0 → Sits w0 b s a W → Calls Tryz.prog 69 #[.pointer (some ⟨b, 0, none⟩), .agg #[.int .i64 x.what, .int .i64 x.at0, .int .i64 x.n, .int .i64 x.id, .string x.name, .slice Dx x.data.length cx]] W fun e w' => ∃ (a' : At4) (vD vL : Value), e = .returned (.tuple #[.agg #[.int .i64 0, vD, .int .i64 rid, vL, .int .i64 0], .bool true]) ∧ Sits w0 b s' a' w' ∧ Kd.R (Kd.int .u8) 5 w' w0.heap.size (fun _ => True) vD dt ∧ Kd.R k173 173 w' w0.heap.size (fun _ => True) vL ls) :
    Calls Tryz.prog 27 #[.agg (aN s a), .agg (eD x Dx cx)] w fun e w' => ∃ (a' : At4) (vD vL : Value), e = .returned (.tuple #[.agg (aN s' a'), .agg #[.int .i64 0, vD, .int .i64 rid, vL, .int .i64 s'.size]]) ∧ Owns w' w.heap.size (fun _ => True) s' a' ∧ Kd.R (Kd.int .u8) 5 w' w.heap.size (fun _ => True) vD dt ∧ Kd.R k173 173 w' w.heap.size (fun _ => True) vL ls ∧ Below w.heap.size w w' := by
  have hu31 := Tryz.underlying31
  have hu61 := Tryz.underlying61
  have hu58 := Tryz.underlying58
  obtain ⟨W4, hW4⟩ : ∃ W, W = ((((w.alloc (.cells #[.int .i64 s.size, .slice a.A1 s.now.length a.c1, .slice a.A2 s.snaps.length a.c2, .int .i64 s.next, .int .i64 s.fsize, .slice a.A5 s.sp.length a.c5, .slice a.A6 s.data.length a.c6] 31)).alloc (.cells #[.int .i64 x.what, .int .i64 x.at0, .int .i64 x.n, .int .i64 x.id, .string x.name, .slice Dx x.data.length cx] 61)).alloc (.cells NIL7 31)).alloc (.cells NIL5 58)) := ⟨_, rfl⟩
  obtain ⟨b, hbb⟩ : ∃ k, k = w.heap.size := ⟨_, rfl⟩
  have HB4 := aa.mk (show rJ w s a x Dx cx b W4 by rw [hW4, hbb]; exact oH w s a x Dx cx hr)
  have q0 := (ae HB4.out.x2 0).trans rfl
  have q1 := (ae HB4.out.x2 1).trans rfl
  have q2 := (ae HB4.out.x2 2).trans rfl
  have q3 := (ae HB4.out.x2 3).trans rfl
  have q4 := (ae HB4.out.x2 4).trans rfl
  have q5 := (ae HB4.out.x2 5).trans rfl
  have q6 := (ae HB4.out.x2 6).trans rfl
  rw [hW4, hbb] at q0 q1 q2 q3 q4 q5 q6
  have HCK := aa.mk (bT.calls s a (bY s) W4 HB4.out.hr (by unfold bT.f; rw [if_pos hn]))
  have HN := aa.mk hn
  have HSM := aa.mk hsm
  have HDO := aa.mk hdo
  have HMAY := aa.mk hmay
  rw [hok] at HCK
  clear hr hn hok hsm hdo hmay
  unfold aN eD
  go_enter Tryz.func27, Tryz.ntmps27
  have hN7 : NIL7 = #[.int .i64 0, .slice none 0 0, .slice none 0 0, .int .i64 0, .int .i64 0, .slice none 0 0, .slice none 0 0] := rfl
  have hN5 : NIL5 = #[.int .i64 0, .slice none 0 0, .int .i64 0, .slice none 0 0, .int .i64 0] := rfl
  rw [hN7, hN5] at hW4 q0 q1 q2 q3 q4 q5 q6
  go_wp2_with fail
  rw [← hW4, ← hbb]
  have HWB := aa.mk hbb
  clear hW4 hbb q0 q1 q2 q3 q4 q5 q6
  refine HCK.out.mono ?_
  rintro e w5 ⟨rfl, hb⟩
  have HB5 := aa.mk (HB4.out.below hb)
  clear hb HB4 HCK hN7 hN5
  go_wp2_with fail
  refine dH (n := 9) (S := fun w' => w'.cell? ⟨b, 0, none⟩ = some (.int .i64 s.size) ∧ w'.cell? ⟨b, 1, none⟩ = some (.slice a.A1 s.now.length a.c1) ∧ w'.cell? ⟨b, 2, none⟩ = some (.slice a.A2 s.snaps.length a.c2) ∧ w'.cell? ⟨b, 3, none⟩ = some (.int .i64 s.next) ∧ w'.cell? ⟨b, 4, none⟩ = some (.int .i64 s.fsize) ∧ w'.cell? ⟨b, 5, none⟩ = some (.slice a.A5 s.sp.length a.c5) ∧ w'.cell? ⟨b, 6, none⟩ = some (.slice a.A6 s.data.length a.c6) ∧ w'.cell? ⟨b + 1, 0, none⟩ = some (.int .i64 x.what) ∧ w'.cell? ⟨b + 1, 1, none⟩ = some (.int .i64 x.at0) ∧ w'.cell? ⟨b + 1, 2, none⟩ = some (.int .i64 x.n) ∧ w'.cell? ⟨b + 1, 3, none⟩ = some (.int .i64 x.id) ∧ w'.cell? ⟨b + 1, 4, none⟩ = some (.string x.name) ∧ w'.cell? ⟨b + 1, 5, none⟩ = some (.slice Dx x.data.length cx)) (ds := []) (lb 9 0) (by kernel_rfl) rfl (by kernel_rfl) ⟨(ae HB5.out.x2 0).trans rfl, (ae HB5.out.x2 1).trans rfl, (ae HB5.out.x2 2).trans rfl, (ae HB5.out.x2 3).trans rfl, (ae HB5.out.x2 4).trans rfl, (ae HB5.out.x2 5).trans rfl, (ae HB5.out.x2 6).trans rfl, (ae HB5.out.x3 0).trans rfl, (ae HB5.out.x3 1).trans rfl, (ae HB5.out.x3 2).trans rfl, (ae HB5.out.x3 3).trans rfl, (ae HB5.out.x3 4).trans rfl, (ae HB5.out.x3 5).trans rfl⟩ (fun hHeld => ?_)
  refine bG zM wz (fun HT_ HW_ => ?_)
  have HB6 := aa.mk (HB5.out.below (aV (Below.refl _ _)))
  clear HB5
  generalize w5.drew = w6 at hHeld HB6 ⊢
  refine pu_ 0 18 9 1 ?_
  refine tk_ 1 19 9 3 ?_
  refine tk_ 2 20 9 7 ?_
  refine pu_ 4 22 9 23 ?_
  refine tk_ 5 23 9 55 ?_
  refine tk_ 6 24 9 119 ?_
  refine on_ 3 21 9 127 (fun K hK => ?_)
  refine dQ Tryz.func67 (by kernel_rfl) rfl #[.agg (aN s a)] (by rfl) rfl rfl (by (try simp only [List.map_toArray, List.map_cons, List.map_nil]); first | done | rfl) ?_
  refine (vE HB6.out.hr HN.out).mono ?_
  rintro e w7 ⟨AL, cL, rfl, hlL, hCL, hb⟩
  refine ⟨_, rfl, ?_⟩
  have HB7 := aa.mk (HB6.out.below hb)
  have HMY := aa.mk (HMAY.out AL cL w7 hCL hlL)
  refine hK.out _ _ ⟨(ae HB7.out.x2 0).trans rfl, (ae HB7.out.x2 1).trans rfl, (ae HB7.out.x2 2).trans rfl, (ae HB7.out.x2 3).trans rfl, (ae HB7.out.x2 4).trans rfl, (ae HB7.out.x2 5).trans rfl, (ae HB7.out.x2 6).trans rfl, (ae HB7.out.x3 0).trans rfl, (ae HB7.out.x3 1).trans rfl, (ae HB7.out.x3 2).trans rfl, (ae HB7.out.x3 3).trans rfl, (ae HB7.out.x3 4).trans rfl, (ae HB7.out.x3 5).trans rfl⟩ (fun hHeld => ?_)
  clear hK K hb HB6 hlL hCL
  refine nm_ 21 ?_
  refine on_ 7 25 9 255 (fun K hK => ?_)
  refine dQ Tryz.func66 (by kernel_rfl) rfl #[.int .i64 s.size, .slice AL (fF s).length cL, .int .i64 s.next, .agg #[.int .i64 x.what, .int .i64 x.at0, .int .i64 x.n, .int .i64 x.id, .string x.name, .slice Dx x.data.length cx]] (by rfl) rfl rfl (by (try simp only [List.map_toArray, List.map_cons, List.map_nil]); first | done | rfl) ?_
  refine HMY.out.mono ?_
  rintro e w8 ⟨rfl, hb⟩
  refine ⟨_, rfl, ?_⟩
  have HB8 := aa.mk (HB7.out.below hb)
  refine hK.out _ _ ⟨(ae HB8.out.x2 0).trans rfl, (ae HB8.out.x2 1).trans rfl, (ae HB8.out.x2 2).trans rfl, (ae HB8.out.x2 3).trans rfl, (ae HB8.out.x2 4).trans rfl, (ae HB8.out.x2 5).trans rfl, (ae HB8.out.x2 6).trans rfl, (ae HB8.out.x3 0).trans rfl, (ae HB8.out.x3 1).trans rfl, (ae HB8.out.x3 2).trans rfl, (ae HB8.out.x3 3).trans rfl, (ae HB8.out.x3 4).trans rfl, (ae HB8.out.x3 5).trans rfl⟩ (fun hHeld => ?_)
  clear hK K hb HB7 HMY
  refine nm_ 25 ?_
  refine pu_ 8 7 9 511 ?_
  refine fu (bW HT_.out (by kernel_rfl)) ?_
  clear HT_ HW_ hHeld
  have q0 := (ae HB8.out.x2 0).trans rfl
  have q1 := (ae HB8.out.x2 1).trans rfl
  have q2 := (ae HB8.out.x2 2).trans rfl
  have q3 := (ae HB8.out.x2 3).trans rfl
  have q4 := (ae HB8.out.x2 4).trans rfl
  have q5 := (ae HB8.out.x2 5).trans rfl
  have q6 := (ae HB8.out.x2 6).trans rfl
  have HCL := aa.mk (oO.calls s a w8 HB8.out.hr HSM.out)
  go_wp2_with fail
  refine HCL.out.mono ?_
  rintro e w9 ⟨a9, rfl, hO, hb⟩
  unfold aN
  have HB9 := aa.mk (HB8.out.below hb)
  obtain ⟨W10, hW10⟩ : ∃ W, W = w9.alloc (.cells (aN s a9) 31) := ⟨_, rfl⟩
  obtain ⟨b8, hb8⟩ : ∃ k, k = w9.heap.size := ⟨_, rfl⟩
  have hbl : Below w9.heap.size w9 W10 := by rw [hW10]; exact (Below.refl _ _).alloc (Nat.le_refl _) _
  have HSI := aa.mk (show Sits w8 b8 s a9 W10 from ⟨by rw [hW10, hb8]; exact bB w9 _, hb.trans (hbl.mono hb.size), by rw [hb8]; exact hb.size, by
    have h1 : Owns w9 w8.heap.size (fun k => k ≠ b8) s a9 := ⟨Kd.aZ (Kd.bQ hO.o1) fun k hk => by have := hk.2.2.1; omega, Kd.aZ (Kd.bQ hO.o2) fun k hk => by have := hk.2.2.1; omega, Kd.aZ (Kd.bQ hO.o5) fun k hk => by have := hk.2.2.1; omega, Kd.aZ (Kd.bQ hO.o6) fun k hk => by have := hk.2.2.1; omega⟩
    exact h1.below hbl⟩)
  have HB10 := aa.mk (HB9.out.below hbl)
  have HDC := aa.mk (HDO.out w8 W10 b8 a9 HB8.out.hb HSI.out)
  have HE8 := aa.mk (show b8 = w9.heap.size ∧ w8.heap.size ≤ b8 from ⟨hb8, by rw [hb8]; exact hb.size⟩)
  clear hO hb hbl HB9 HCL q0 q1 q2 q3 q4 q5 q6 HDO
  have p0 := (ae HB10.out.x3 0).trans rfl
  have p1 := (ae HB10.out.x3 1).trans rfl
  have p2 := (ae HB10.out.x3 2).trans rfl
  have p3 := (ae HB10.out.x3 3).trans rfl
  have p4 := (ae HB10.out.x3 4).trans rfl
  have p5 := (ae HB10.out.x3 5).trans rfl
  unfold aN at hW10
  rw [hW10] at p0 p1 p2 p3 p4 p5
  go_wp2_with fail
  rw [← hW10, ← hb8]
  clear hW10 hb8 p0 p1 p2 p3 p4 p5
  refine HDC.out.mono ?_
  rintro e w11 ⟨a', vD, vL, rfl, hS, hRD, hRL⟩
  obtain ⟨AD, cD, rfl⟩ := Kd.bf hRD
  obtain ⟨AN, cN, rfl⟩ := Kd.bf hRL
  have HB11 := aa.mk (HB8.out.below hS.hb)
  obtain ⟨w13, hw13⟩ : ∃ W, W = w11.alloc (.cells #[.int .i64 0, .slice AD dt.length cD, .int .i64 rid, .slice AN ls.length cN, .int .i64 s'.size] 58) := ⟨_, rfl⟩
  obtain ⟨b9, hb9⟩ : ∃ k, k = w11.heap.size := ⟨_, rfl⟩
  have hbl : Below w11.heap.size w11 w13 := by rw [hw13]; exact (Below.refl _ _).alloc (Nat.le_refl _) _
  have hbl0 : Below w11.heap.size w11 (w11.alloc (.cells #[.int .i64 0, .slice AD dt.length cD, .int .i64 rid, .slice AN ls.length cN, .int .i64 0] 58)) := (Below.refl _ _).alloc (Nat.le_refl _) _
  have HSI3 := aa.mk (hS.below hbl)
  have HRD3 := aa.mk (Kd.bD hRD hbl)
  have HRL3 := aa.mk (Kd.bD hRL hbl)
  have HB13 := aa.mk (HB11.out.below hbl)
  have HX10 := aa.mk (show w13.heap[b9]? = some (.cells #[.int .i64 0, .slice AD dt.length cD, .int .i64 rid, .slice AN ls.length cN, .int .i64 s'.size] 58 (0, 0)) by rw [hw13, hb9]; exact bB w11 _)
  have HE9 := aa.mk (show w8.heap.size ≤ b9 ∧ b9 ≠ b8 ∧ b + 3 < w8.heap.size from ⟨by rw [hb9]; exact hS.hb.size, by have := aA hS.hx; omega, aA HB8.out.x5⟩)
  have hx := (hS.below hbl0).hx
  unfold aN at hx
  have q0 := (ae hx 0).trans rfl
  clear hS hRD hRL HB11 HSI HB10 HDC hbl hbl0 hx
  go_wp2_with fail
  rw [← hw13, ← hb9]
  clear q0 hw13 hb9
  have hx := HSI3.out.hx
  unfold aN at hx
  refine dH (n := 4) (S := fun w' => w'.cell? ⟨b8, 0, none⟩ = some (.int .i64 s'.size) ∧ w'.cell? ⟨b8, 1, none⟩ = some (.slice a'.A1 s'.now.length a'.c1) ∧ w'.cell? ⟨b8, 2, none⟩ = some (.slice a'.A2 s'.snaps.length a'.c2) ∧ w'.cell? ⟨b8, 3, none⟩ = some (.int .i64 s'.next) ∧ w'.cell? ⟨b8, 4, none⟩ = some (.int .i64 s'.fsize) ∧ w'.cell? ⟨b8, 5, none⟩ = some (.slice a'.A5 s'.sp.length a'.c5) ∧ w'.cell? ⟨b8, 6, none⟩ = some (.slice a'.A6 s'.data.length a'.c6) ∧ w'.cell? ⟨b9, 0, none⟩ = some (.int .i64 0) ∧ w'.cell? ⟨b9, 1, none⟩ = some (.slice AD dt.length cD) ∧ w'.cell? ⟨b9, 2, none⟩ = some (.int .i64 rid) ∧ w'.cell? ⟨b9, 3, none⟩ = some (.slice AN ls.length cN) ∧ w'.cell? ⟨b9, 4, none⟩ = some (.int .i64 s'.size)) (ds := []) (lb 4 0) (by kernel_rfl) rfl (by kernel_rfl) ⟨(ae hx 0).trans rfl, (ae hx 1).trans rfl, (ae hx 2).trans rfl, (ae hx 3).trans rfl, (ae hx 4).trans rfl, (ae hx 5).trans rfl, (ae hx 6).trans rfl, (ae HX10.out 0).trans rfl, (ae HX10.out 1).trans rfl, (ae HX10.out 2).trans rfl, (ae HX10.out 3).trans rfl, (ae HX10.out 4).trans rfl⟩ (fun hHeld => ?_)
  refine bG wJ u7 (fun HT_ HW_ => ?_)
  have HB14 := aa.mk (HB13.out.below (aV (Below.refl _ _)))
  have HSI4 := aa.mk (HSI3.out.below (aV (Below.refl _ _)))
  have HX11 := aa.mk (show w13.drew.heap[b9]? = _ from HX10.out)
  have HRD4 := aa.mk (Kd.bD HRD3.out (aV (Below.refl _ _)))
  have HRL4 := aa.mk (Kd.bD HRL3.out (aV (Below.refl _ _)))
  clear hx HB13 HSI3 HX10 HRD3 HRL3
  generalize w13.drew = w14 at hHeld HB14 HSI4 HX11 HRD4 HRL4 ⊢
  refine tk_ 0 51 4 1 ?_
  refine tk_ 1 52 4 3 ?_
  have HEX := aa.mk (show ∃ W, W = w14.setRow (b + 2) #[.int .i64 s'.size, .slice a'.A1 s'.now.length a'.c1, .slice a'.A2 s'.snaps.length a'.c2, .int .i64 s'.next, .int .i64 s'.fsize, .slice a'.A5 s'.sp.length a'.c5, .slice a'.A6 s'.data.length a'.c6] from ⟨_, rfl⟩)
  refine one_ (i := 2) (N := none) #[yT,yT,yT,yF] rfl rfl (dF HT_.out (by kernel_rfl)) (by decide) (fun K hK => ?_)
  refine iQ (w1 := w14.setRow (b + 2) #[.int .i64 s'.size, .slice a'.A1 s'.now.length a'.c1, .slice a'.A2 s'.snaps.length a'.c2, .int .i64 s'.next, .int .i64 s'.fsize, .slice a'.A5 s'.sp.length a'.c5, .slice a'.A6 s'.data.length a'.c6]) (by rfl) rfl (fA 31 (.tmp 4) (.tmp 51) rfl _ (b + 2) 0 rfl #[.int .i64 s'.size, .slice a'.A1 s'.now.length a'.c1, .slice a'.A2 s'.snaps.length a'.c2, .int .i64 s'.next, .int .i64 s'.fsize, .slice a'.A5 s'.sp.length a'.c5, .slice a'.A6 s'.data.length a'.c6] rfl rfl 31 _ HB14.out.x4 (by kernel_rfl) (Nat.le_refl _) (by simp [Value.oneCell'])) ?_
  obtain ⟨w15, hwe⟩ := HEX.out
  rw [← hwe]
  have hfar : ∀ k, k ≠ b + 2 → w15.heap[k]? = w14.heap[k]? := fun k hk => by rw [hwe]; exact setRow_other w14 (b + 2) k _ hk
  have HNEW := aa.mk (show w15.heap[b + 2]? = some (.cells #[.int .i64 s'.size, .slice a'.A1 s'.now.length a'.c1, .slice a'.A2 s'.snaps.length a'.c2, .int .i64 s'.next, .int .i64 s'.fsize, .slice a'.A5 s'.sp.length a'.c5, .slice a'.A6 s'.data.length a'.c6] 31 (0, 0)) by rw [hwe]; exact setRow_heap w14 (b + 2) _ _ _ _ HB14.out.x4)
  have hbel : Below w.heap.size w w15 := by rw [hwe]; exact aQ HB14.out.hb (by rw [HB14.out.e]; omega) _
  have HBL15 := aa.mk hbel
  have HX12 := aa.mk ((hfar b9 (by have := HE9.out; omega)).trans HX11.out)
  have HX5 := aa.mk ((hfar (b + 3) (by omega)).trans HB14.out.x5)
  have hx := (hfar b8 (by have := HE8.out.2; have := HE9.out; omega)).trans HSI4.out.hx
  unfold aN at hx
  have HXS := aa.mk hx
  have HO15 := aa.mk ((HSI4.out.own.lX HB14.out.x4 (by decide) (by decide) (by decide) (by decide)).step (wf := w15) (fun k hk _ => hfar k hk.2))
  have HRD5 := aa.mk (Kd.bZ (dJ HRD4.out HB14.out.x4 (by decide)) (fun k hk _ => hfar k hk.2))
  have HRL5 := aa.mk (Kd.bZ (dJ HRL4.out HB14.out.x4 (by decide)) (fun k hk _ => hfar k hk.2))
  refine hK.out _ _ ⟨(ae hx 0).trans rfl, (ae hx 1).trans rfl, (ae hx 2).trans rfl, (ae hx 3).trans rfl, (ae hx 4).trans rfl, (ae hx 5).trans rfl, (ae hx 6).trans rfl, (ae HX12.out 0).trans rfl, (ae HX12.out 1).trans rfl, (ae HX12.out 2).trans rfl, (ae HX12.out 3).trans rfl, (ae HX12.out 4).trans rfl⟩ (fun hHeld => ?_)
  clear hK K hfar hwe HEX
  have HX4 := HNEW
  clear hbel hx HNEW HB14 HSI4 HX11 HRD4 HRL4
  have HEX := aa.mk (show ∃ W, W = w15.setRow (b + 3) #[.int .i64 0, .slice AD dt.length cD, .int .i64 rid, .slice AN ls.length cN, .int .i64 s'.size] from ⟨_, rfl⟩)
  refine one_ (i := 3) (N := none) #[yT,yT,yT,yT] rfl rfl (dF HT_.out (by kernel_rfl)) (by decide) (fun K hK => ?_)
  refine iQ (w1 := w15.setRow (b + 3) #[.int .i64 0, .slice AD dt.length cD, .int .i64 rid, .slice AN ls.length cN, .int .i64 s'.size]) (by rfl) rfl (fA 58 (.tmp 5) (.tmp 52) rfl _ (b + 3) 0 rfl #[.int .i64 0, .slice AD dt.length cD, .int .i64 rid, .slice AN ls.length cN, .int .i64 s'.size] rfl rfl 58 _ HX5.out (by kernel_rfl) (Nat.le_refl _) (by simp [Value.oneCell'])) ?_
  obtain ⟨w16, hwe⟩ := HEX.out
  rw [← hwe]
  have hfar : ∀ k, k ≠ b + 3 → w16.heap[k]? = w15.heap[k]? := fun k hk => by rw [hwe]; exact setRow_other w15 (b + 3) k _ hk
  have HNEW := aa.mk (show w16.heap[b + 3]? = some (.cells #[.int .i64 0, .slice AD dt.length cD, .int .i64 rid, .slice AN ls.length cN, .int .i64 s'.size] 58 (0, 0)) by rw [hwe]; exact setRow_heap w15 (b + 3) _ _ _ _ HX5.out)
  have hbel : Below w.heap.size w w16 := by rw [hwe]; exact aQ HBL15.out (by rw [HWB.out]; omega) _
  have HBL16 := aa.mk hbel
  have HX13 := aa.mk ((hfar b9 (by have := HE9.out; omega)).trans HX12.out)
  have HX6 := aa.mk ((hfar (b + 2) (by omega)).trans HX4.out)
  have hx := (hfar b8 (by have := HE8.out.2; have := HE9.out; omega)).trans HXS.out
  have HO16 := aa.mk ((HO15.out.lX HX5.out (by decide) (by decide) (by decide) (by decide)).step (wf := w16) (fun k hk _ => hfar k hk.2))
  have HRD6 := aa.mk (Kd.bZ (dJ HRD5.out HX5.out (by decide)) (fun k hk _ => hfar k hk.2))
  have HRL6 := aa.mk (Kd.bZ (dJ HRL5.out HX5.out (by decide)) (fun k hk _ => hfar k hk.2))
  refine hK.out _ _ ⟨(ae hx 0).trans rfl, (ae hx 1).trans rfl, (ae hx 2).trans rfl, (ae hx 3).trans rfl, (ae hx 4).trans rfl, (ae hx 5).trans rfl, (ae hx 6).trans rfl, (ae HX13.out 0).trans rfl, (ae HX13.out 1).trans rfl, (ae HX13.out 2).trans rfl, (ae HX13.out 3).trans rfl, (ae HX13.out 4).trans rfl⟩ (fun hHeld => ?_)
  clear hK K hfar hwe HEX
  refine fu (bW HT_.out (by kernel_rfl)) ?_
  clear HT_ HW_ hHeld hx hbel
  have HSZ := aa.mk (show w.heap.size ≤ w8.heap.size from HB8.out.hb.size)
  clear HX12 HX13 HXS HO15 HRD5 HRL5
  go_wp2
  (try simp only [Exit.inBlock, Exit.then])
  refine bodyPost_ret (mg rfl _ _ (b + 2) (b + 3) 31 58 #[.int .i64 s'.size, .slice a'.A1 s'.now.length a'.c1, .slice a'.A2 s'.snaps.length a'.c2, .int .i64 s'.next, .int .i64 s'.fsize, .slice a'.A5 s'.sp.length a'.c5, .slice a'.A6 s'.data.length a'.c6] #[.int .i64 0, .slice AD dt.length cD, .int .i64 rid, .slice AN ls.length cN, .int .i64 s'.size] (0, 0) (0, 0) _ _ rfl HX6.out Tryz.underlying31 rfl (by kernel_rfl) rfl HNEW.out Tryz.underlying58 rfl (by kernel_rfl)) rfl ?_
  have lo := HSZ.out
  have hO := HO16.out
  exact ⟨a', _, _, rfl, ⟨Kd.bH (Kd.aZ hO.o1 fun _ _ => trivial) lo, Kd.bH (Kd.aZ hO.o2 fun _ _ => trivial) lo, Kd.bH (Kd.aZ hO.o5 fun _ _ => trivial) lo, Kd.bH (Kd.aZ hO.o6 fun _ _ => trivial) lo⟩, Kd.bH (Kd.aZ HRD6.out fun _ _ => trivial) lo, Kd.bH (Kd.aZ HRL6.out fun _ _ => trivial) lo, HBL16.out⟩
theorem put_comm {a : Act} {i j : Tmp} {u v : Value} (h : i ≠ j) : (a.put (some i) u).put (some j) v = (a.put (some j) v).put (some i) u := by
  unfold Act.put
  simp only [Act.mk.injEq, and_true]
  exact Array.setIfInBounds_comm _ _ h
abbrev ptrV (b : Nat) : Value := .pointer (some ⟨b, 0, none⟩)
theorem aJ {w w' : World} {p : Addr} {v : Value} (hb : Below w.heap.size w w') (h : w.cell? p = some v) : w'.cell? p = some v := (hb.cell (World.block_lt_of_cell? _ _ h)).trans h
section
variable {P : Program} {ops : Array Oper} {Q : Exit → Act → World → Prop} {S : World → Prop} {ds : List Nat}
def Nd1 (P : Program) (ops : Array Oper) (Q : Exit → Act → World → Prop) (S : World → Prop) (ds : List Nat) (n N : Nat) (t : TypeId) (cs : Array Value) (B F k kj : Nat) (a : Act) (w0 : World) : Prop :=
  S w0 → (∀ w, Below w0.heap.size w0 w → S w → aK P .any ops Q S ds (F + 1) (lb n k) a w) ∧
    ∀ b w, Below w0.heap.size w0 w → S w → w.heap[b]? = some (.cells cs t (0, 0)) → B ≤ b → aK P .any ops Q S ds F (lb n kj) (a.put (some N) (ptrV b)) w
theorem sV (j N : Nat) (t : TypeId) (cs : Array Value) {n F k : Nat} {l : Array Bool} {a : Act} {w : World} (kj : Nat) (hS : S w) (h : Nd1 P ops Q S ds n N t cs w.heap.size F k kj a w) (hl : l = lb n k := by rfl) : aK P .any ops Q S ds (F + 1) l a w := by
  subst hl
  exact (h hS).1 w (Below.refl _ _) hS
def rdy (T : List (List Nat × List Nat)) (n k : Nat) (is : List Nat) : Bool := kZ T (lb n k).toList == is
theorem gU {T : Bool × List (List Nat × List Nat)} (hT : rtab .any ops = T) {n k : Nat} {is : List Nat} (h : rdy T.2 n k is = true) : Region.ready .any ops (lb n k) = is := by
  subst hT
  rw [ready_eq]
  exact eq_of_beq h
theorem all2 {n k : Nat} {a : Act} {w : World} {F e j : Nat} {is : List Nat} (hr : Region.ready .any ops (lb n k) = is) (his : is = [e, j] ∨ is = [j, e])
    (h1 : wpOp P ops Q e (fun a' w' => (e ∉ ds → S w → S w') ∧ aK P .any ops Q S ds F ((lb n k).setIfInBounds e true) a' w') a w)
    (h2 : wpOp P ops Q j (fun a' w' => (j ∉ ds → S w → S w') ∧ aK P .any ops Q S ds F ((lb n k).setIfInBounds j true) a' w') a w) : aK P .any ops Q S ds (F + 1) (lb n k) a w := by
  refine dK hr (by rcases his with rfl | rfl <;> simp) fun i hi => ?_
  have : i = e ∨ i = j := by
    rcases his with rfl | rfl
    · simpa using hi
    · rcases List.mem_cons.1 hi with h | h
      · exact .inr h
      · exact .inl (by simpa using h)
  rcases this with rfl | rfl
  · exact h1
  · exact h2
theorem jv {j N : Nat} {oj : Oper} {t : TypeId} {cs : Array Value} {a : Act} {w : World} {K : Act → World → Prop} (hj : ops[j]? = some oj) (hN : oj.dst = some N) (hg : oj.guard = none)
    (hrun : (execOp a.eval oj).run P w = .ok (.value (.pointer (some ⟨w.heap.size, 0, none⟩))) (w.alloc (.cells cs t (0, 0))))
    (h : ∀ w1, w1.heap[w.heap.size]? = some (.cells cs t (0, 0)) → Below w.heap.size w w1 → K (a.put (some N) (ptrV w.heap.size)) w1) : wpOp P ops Q j K a w := by
  refine wpOp_step hj fun K' hK => ?_
  have hw : Region.wanted oj (yielded ops a.tmps) = true := by
    unfold Region.wanted
    rw [hg]
  refine nC hw hN hrun fun g hg2 w1 h1 h2 => hK _ _ ?_
  subst hg2
  rw [hN]
  exact h w1 h1 h2
def EvK (S : World → Prop) (B : Nat) (t : TypeId) (cs : Array Value) (w w' : World) : Prop := w.heap.size ≤ w'.heap.size ∧ (S w → S w') ∧ ∀ b, B ≤ b → w.heap[b]? = some (.cells cs t (0, 0)) → w'.heap[b]? = some (.cells cs t (0, 0))
theorem EvK.of {B : Nat} {t : TypeId} {cs : Array Value} {w w' : World} (hst : ∀ w w' : World, Below w.heap.size w w' → S w → S w') (hb : Below w.heap.size w w') : EvK S B t cs w w' := ⟨hb.size, hst _ _ hb, fun b _ h => (hb.block b (aA h)).trans h⟩
theorem xU {T : Bool × List (List Nat × List Nat)} (hT : rtab .any ops = T) {n e j N M : Nat} {oe oj : Oper} {t : TypeId} {cs : Array Value} {B F k kj : Nat} (k' kj' : Nat) {a : Act} {w0 : World}
    (he : ops[e]? = some oe) (hNe : oe.dst = some M) (hj : ops[j]? = some oj) (hN : oj.dst = some N) (hg : oj.guard = none) (hne : M ≠ N)
    (hc : ((rdy T.2 n k [e, j] || rdy T.2 n k [j, e]) && rdy T.2 n kj [e] && ((lb n k).toList.set e true == (lb n k').toList) && ((lb n k).toList.set j true == (lb n kj).toList) && ((lb n kj).toList.set e true == (lb n kj').toList)) = true)
    (hd : e ∉ ds ∧ j ∉ ds) (hB : B ≤ w0.heap.size) (hst : ∀ w w' : World, Below w.heap.size w w' → S w → S w')
    (hrun : ∀ (A : Act) (w : World), A = a ∨ (∃ b, A = a.put (some N) (ptrV b)) → (execOp A.eval oj).run P w = .ok (.value (.pointer (some ⟨w.heap.size, 0, none⟩))) (w.alloc (.cells cs t (0, 0))))
    (h : ∀ w, Below w0.heap.size w0 w → S w → ∀ A : Act, A = a ∨ (∃ b, A = a.put (some N) (ptrV b)) → ∀ K : Act → World → Prop,
      (∀ v w', EvK S B t cs w w' → Nd1 P ops Q S ds n N t cs B F k' kj' (a.put (some M) v) w' → K (A.put (some M) v) w') → if Region.wanted oe (yielded ops A.tmps) = true then Oper.wp P oe A w K Q else K (A.put oe.dst undef) w) :
    Nd1 P ops Q S ds n N t cs B (F + 1) k kj a w0 := by
  simp only [Bool.and_eq_true, Bool.or_eq_true] at hc
  obtain ⟨⟨⟨⟨c1, c2⟩, c3⟩, c4⟩, c5⟩ := hc
  have e3 : (lb n k).setIfInBounds e true = lb n k' := eq_of_beq (jy c3)
  have e4 : (lb n k).setIfInBounds j true = lb n kj := eq_of_beq (jy c4)
  have e5 : (lb n kj).setIfInBounds e true = lb n kj' := eq_of_beq (jy c5)
  have late : ∀ b w, Below w0.heap.size w0 w → S w → w.heap[b]? = some (.cells cs t (0, 0)) → B ≤ b → aK P .any ops Q S ds (F + 1) (lb n kj) (a.put (some N) (ptrV b)) w := by
    intro b w hb hS hbox hBb
    refine dK (gU hT c2) (by simp) fun i hi => ?_
    have : i = e := by simpa using hi
    subst this
    refine wpOp_step he fun K hK => ?_
    refine h w hb hS _ (.inr ⟨b, rfl⟩) K fun v w' hb' hnd => hK _ _ ⟨fun _ _ => hb'.2.1 hS, ?_⟩
    rw [e5, put_comm ((fun e_ => hne e_.symm))]
    have hS' := hb'.2.1 hS
    exact (hnd hS').2 b w' (Below.refl _ _) hS' (hb'.2.2 b hBb hbox) hBb
  intro _
  refine ⟨fun w hb hS => ?_, late⟩
  obtain ⟨is, his, hr⟩ : ∃ is, (is = [e, j] ∨ is = [j, e]) ∧ Region.ready .any ops (lb n k) = is := by
    rcases c1 with c1 | c1
    · exact ⟨_, .inl rfl, gU hT c1⟩
    · exact ⟨_, .inr rfl, gU hT c1⟩
  refine all2 hr his ?_ ?_
  · refine wpOp_step he fun K hK => ?_
    refine h w hb hS _ (.inl rfl) K fun v w' hb' hnd => hK _ _ ⟨fun _ _ => hb'.2.1 hS, ?_⟩
    rw [e3]
    have hS' := hb'.2.1 hS
    exact (hnd hS').1 w' (Below.refl _ _) hS'
  · refine jv hj hN hg (hrun a w (.inl rfl)) fun w1 h1 h2 => ⟨fun _ _ => hst _ _ h2 hS, ?_⟩
    rw [e4]
    exact late _ w1 (hb.trans (h2.mono hb.size)) (hst _ _ h2 hS) h1 (Nat.le_trans hB hb.size)
theorem gF {T : Bool × List (List Nat × List Nat)} (hT : rtab .any ops = T) (e j : Nat) {n N M : Nat} {oe oj : Oper} {t : TypeId} {cs : Array Value} {B F k kj : Nat} (k' kj' : Nat) {a : Act} {w0 : World} {f : FuncId} {fn : Func} {os : Array Operand} {ts : Array TypeId}
    (hf : P.funcs[f]? = some fn) (args : Array Value) (hB : B ≤ w0.heap.size) (hst : ∀ w w' : World, Below w.heap.size w w' → S w → S w')
    (h : ∀ w, Below w0.heap.size w0 w → Calls P f args w fun x w' => ∃ v, x = .returned v ∧ Below w.heap.size w w' ∧ Nd1 P ops Q S ds n N t cs B F k' kj' (a.put (some M) v) w')
    (he : ops[e]? = some oe := by exact rfl) (hNe : oe.dst = some M := by exact rfl) (hj : ops[j]? = some oj := by exact rfl) (hN : oj.dst = some N := by exact rfl) (hg : oj.guard = none := by exact rfl) (hge : oe.guard = none := by exact rfl) (hne : M ≠ N := by decide)
    (hc : ((rdy T.2 n k [e, j] || rdy T.2 n k [j, e]) && rdy T.2 n kj [e] && ((lb n k).toList.set e true == (lb n k').toList) && ((lb n k).toList.set j true == (lb n kj).toList) && ((lb n kj).toList.set e true == (lb n kj').toList)) = true := by kernel_rfl)
    (hd : e ∉ ds ∧ j ∉ ds := by decide) (hname : (fn.name == "runtime.NumGoroutine") = false := by kernel_rfl) (hb : fn.body.isSome = true := by exact rfl)
    (hop : oe.op = .call { callee := .value (.func f), args := os, argTypes := ts } := by exact rfl)
    (ha : os.map a.eval = args := by first | rfl | (simp only [List.map_toArray, List.map_cons, List.map_nil]; rfl)) (ha2 : ∀ b, os.map (a.put (some N) (ptrV b)).eval = args := by intro b; first | rfl | (simp only [List.map_toArray, List.map_cons, List.map_nil]; rfl))
    (hrun : ∀ (A : Act) (w : World), (execOp A.eval oj).run P w = .ok (.value (.pointer (some ⟨w.heap.size, 0, none⟩))) (w.alloc (.cells cs t (0, 0))) := by intro A w; first | (go_simp; done) | (go_simp; rfl)) :
    Nd1 P ops Q S ds n N t cs B (F + 1) k kj a w0 := by
  refine xU hT k' kj' he hNe hj hN hg hne hc hd hB hst (fun A w _ => hrun A w) fun w hw hS A hA K hK => ?_
  have hwt : Region.wanted oe (yielded ops A.tmps) = true := by
    unfold Region.wanted
    rw [hge]
  rw [hNe]
  refine dQ hf hname hb args hwt hNe hop (by rcases hA with rfl | ⟨b, rfl⟩; exact ha; exact ha2 b) ?_
  refine (h w hw).mono fun x w' hx => ?_
  obtain ⟨v, rfl, hb', hnd⟩ := hx
  exact ⟨v, rfl, hK v w' (EvK.of hst hb') hnd⟩
theorem jr {n N : Nat} {t : TypeId} {cs : Array Value} {B F k kj : Nat} {a a' : Act} {w0 : World} (h : Nd1 P ops Q S ds n N t cs B F k kj a' w0) (ha : a = a' := by (simp only [Act.put, List.setIfInBounds_toArray, List.set_cons_zero, List.set_cons_succ, iZ, jC]; rfl)) : Nd1 P ops Q S ds n N t cs B F k kj a w0 := by subst ha; exact h
theorem iO {T : Bool × List (List Nat × List Nat)} (hT : rtab .any ops = T) (i : Nat) {n N Ni : Nat} {oi : Oper} {t : TypeId} {cs : Array Value} {B F k kj : Nat} (k' kj' : Nat) {a a' : Act} {v : Value} {w0 : World}
    (h : Nd1 P ops Q S ds n N t cs B F k' kj' a' w0)
    (hi : ops[i]? = some oi := by exact rfl) (hNi : oi.dst = some Ni := by exact rfl) (hne : Ni ≠ N := by decide)
    (hc : (anyT T (lb n k).toList (lb n k').toList i && anyT T (lb n kj).toList (lb n kj').toList i) = true := by kernel_rfl)
    (hQ : ∀ c a w, Q (.panic c) (a.put oi.dst v) w → Q (.panic c) a w := by exact fun _ _ _ h => h)
    (hy : Yields P ops oi v a := by exact Or.inl ⟨by rfl, by intro w'; go_simp; with_reducible rfl⟩)
    (hy2 : ∀ b, Yields P ops oi v (a.put (some N) (ptrV b)) := by exact fun b => Or.inl ⟨by rfl, by intro w'; first | (go_simp; done) | (go_simp; with_reducible rfl)⟩)
    (ha : a.put (some Ni) v = a' := by (simp only [Act.put, List.setIfInBounds_toArray, List.set_cons_zero, List.set_cons_succ, iZ, jC]; rfl)) :
    Nd1 P ops Q S ds n N t cs B (F + 1) k kj a w0 := by
  subst ha
  rw [Bool.and_eq_true] at hc
  intro hS0
  obtain ⟨h1, h2⟩ := h hS0
  refine ⟨fun w hb hS => oF _ hi hNi (ky hT hc.1) hQ hy rfl (h1 w hb hS), fun b w hb hS hbox hBb => ?_⟩
  refine oF _ hi hNi (ky hT hc.2) hQ (hy2 b) rfl ?_
  rw [put_comm ((fun e_ => hne e_.symm))]
  exact h2 b w hb hS hbox hBb
theorem pQ {T : Bool × List (List Nat × List Nat)} (hT : rtab .any ops = T) (j : Nat) {n N : Nat} {oj : Oper} {t : TypeId} {cs : Array Value} {B F k kj : Nat} {a : Act} {w0 : World} (hB : B ≤ w0.heap.size) (hst : ∀ w w' : World, Below w.heap.size w w' → S w → S w')
    (h : ∀ b w, Below w0.heap.size w0 w → S w → w.heap[b]? = some (.cells cs t (0, 0)) → B ≤ b → aK P .any ops Q S ds F (lb n kj) (a.put (some N) (ptrV b)) w)
    (hj : ops[j]? = some oj := by exact rfl) (hN : oj.dst = some N := by exact rfl) (hg : oj.guard = none := by exact rfl)
    (hc : (rdy T.2 n k [j] && ((lb n k).toList.set j true == (lb n kj).toList)) = true := by kernel_rfl)
    (hrun : ∀ (A : Act) (w : World), (execOp A.eval oj).run P w = .ok (.value (.pointer (some ⟨w.heap.size, 0, none⟩))) (w.alloc (.cells cs t (0, 0))) := by intro A w; first | (go_simp; done) | (go_simp; rfl)) :
    Nd1 P ops Q S ds n N t cs B F k kj a w0 := by
  rw [Bool.and_eq_true] at hc
  intro _
  refine ⟨fun w hb hS => ?_, h⟩
  refine dK (gU hT hc.1) (by simp) fun i hi => ?_
  have : i = j := by simpa using hi
  subst this
  refine jv hj hN hg (hrun a w) fun w1 h1 h2 => ⟨fun _ _ => hst _ _ h2 hS, ?_⟩
  rw [(show (lb n k).setIfInBounds i true = lb n kj from eq_of_beq (jy hc.2))]
  exact h _ w1 (hb.trans (h2.mono hb.size)) (hst _ _ h2 hS) h1 (Nat.le_trans hB hb.size)
def Nd2 (P : Program) (ops : Array Oper) (Q : Exit → Act → World → Prop) (S : World → Prop) (ds : List Nat) (n N1 : Nat) (t1 : TypeId) (cs1 : Array Value) (N2 : Nat) (t2 : TypeId) (cs2 : Array Value) (B F k k1 k2 k3 : Nat) (a : Act) (w0 : World) : Prop :=
  S w0 → (∀ w, Below w0.heap.size w0 w → S w → aK P .any ops Q S ds (F + 2) (lb n k) a w) ∧
    (∀ b w, Below w0.heap.size w0 w → S w → w.heap[b]? = some (.cells cs1 t1 (0, 0)) → B ≤ b → aK P .any ops Q S ds (F + 1) (lb n k1) (a.put (some N1) (ptrV b)) w) ∧
    (∀ b w, Below w0.heap.size w0 w → S w → w.heap[b]? = some (.cells cs2 t2 (0, 0)) → B ≤ b → aK P .any ops Q S ds (F + 1) (lb n k2) (a.put (some N2) (ptrV b)) w) ∧
    ∀ b c w, Below w0.heap.size w0 w → S w → w.heap[b]? = some (.cells cs1 t1 (0, 0)) → w.heap[c]? = some (.cells cs2 t2 (0, 0)) → B ≤ b → B ≤ c → aK P .any ops Q S ds F (lb n k3) ((a.put (some N1) (ptrV b)).put (some N2) (ptrV c)) w
theorem nd2_in (N1 : Nat) (t1 : TypeId) (cs1 : Array Value) (N2 : Nat) (t2 : TypeId) (cs2 : Array Value) {n F k : Nat} {l : Array Bool} {a : Act} {w : World} (k1 k2 k3 : Nat) (hS : S w) (h : Nd2 P ops Q S ds n N1 t1 cs1 N2 t2 cs2 w.heap.size F k k1 k2 k3 a w) (hl : l = lb n k := by rfl) : aK P .any ops Q S ds (F + 2) l a w := by
  subst hl
  exact (h hS).1 w (Below.refl _ _) hS
def Alt (a : Act) (N1 N2 : Nat) (A : Act) : Prop := A = a ∨ (∃ b, A = a.put (some N1) (ptrV b)) ∨ (∃ b, A = a.put (some N2) (ptrV b)) ∨ ∃ b c, A = (a.put (some N1) (ptrV b)).put (some N2) (ptrV c)
theorem all3 {n k : Nat} {a : Act} {w : World} {F e j1 j2 : Nat} {is : List Nat} (hr : Region.ready .any ops (lb n k) = is) (his : is = [e, j1, j2] ∨ is = [j1, j2, e] ∨ is = [j1, e, j2])
    (h0 : wpOp P ops Q e (fun a' w' => (e ∉ ds → S w → S w') ∧ aK P .any ops Q S ds F ((lb n k).setIfInBounds e true) a' w') a w)
    (h1 : wpOp P ops Q j1 (fun a' w' => (j1 ∉ ds → S w → S w') ∧ aK P .any ops Q S ds F ((lb n k).setIfInBounds j1 true) a' w') a w)
    (h2 : wpOp P ops Q j2 (fun a' w' => (j2 ∉ ds → S w → S w') ∧ aK P .any ops Q S ds F ((lb n k).setIfInBounds j2 true) a' w') a w) : aK P .any ops Q S ds (F + 1) (lb n k) a w := by
  refine dK hr (by rcases his with rfl | rfl | rfl <;> simp) fun i hi => ?_
  have : i = e ∨ i = j1 ∨ i = j2 := by
    rcases his with rfl | rfl | rfl <;> simp at hi <;> omega
  rcases this with rfl | rfl | rfl
  · exact h0
  · exact h1
  · exact h2
def alt2 (T : List (List Nat × List Nat)) (n k e j : Nat) : Bool := rdy T n k [e, j] || rdy T n k [j, e]
theorem p_ {T : Bool × List (List Nat × List Nat)} (hT : rtab .any ops = T) {n k e j : Nat} (h : alt2 T.2 n k e j = true) : ∃ is, (is = [e, j] ∨ is = [j, e]) ∧ Region.ready .any ops (lb n k) = is := by
  rcases Bool.or_eq_true_iff.1 h with c1 | c1
  · exact ⟨_, .inl rfl, gU hT c1⟩
  · exact ⟨_, .inr rfl, gU hT c1⟩
def stT (n k i k' : Nat) : Bool := (lb n k).toList.set i true == (lb n k').toList
theorem iD {n k i k' : Nat} (h : stT n k i k' = true) : (lb n k).setIfInBounds i true = lb n k' := eq_of_beq (jy h)
def chk2 (T : List (List Nat × List Nat)) (n e j1 j2 k k1 k2 k3 k' k1' k2' k3' : Nat) : Bool :=
  (rdy T n k [e, j1, j2] || (rdy T n k [j1, j2, e] || rdy T n k [j1, e, j2])) && (alt2 T n k1 e j2 && (alt2 T n k2 e j1 && (rdy T n k3 [e] && (stT n k e k' && (stT n k1 e k1' && (stT n k2 e k2' && (stT n k3 e k3' && (stT n k j1 k1 && (stT n k j2 k2 && (stT n k1 j2 k3 && stT n k2 j1 k3))))))))))
theorem nd2_ev {T : Bool × List (List Nat × List Nat)} (hT : rtab .any ops = T) {n e j1 j2 N1 N2 M : Nat} {oe o1 o2 : Oper} {t1 t2 : TypeId} {cs1 cs2 : Array Value} {B F k k1 k2 k3 : Nat} (k' k1' k2' k3' : Nat) {a : Act} {w0 : World}
    (he : ops[e]? = some oe) (hNe : oe.dst = some M) (hj1 : ops[j1]? = some o1) (hN1 : o1.dst = some N1) (hg1 : o1.guard = none) (hj2 : ops[j2]? = some o2) (hN2 : o2.dst = some N2) (hg2 : o2.guard = none) (hne : M ≠ N1 ∧ M ≠ N2 ∧ N1 ≠ N2)
    (hc : chk2 T.2 n e j1 j2 k k1 k2 k3 k' k1' k2' k3' = true) (hd : e ∉ ds ∧ j1 ∉ ds ∧ j2 ∉ ds) (hB : B ≤ w0.heap.size) (hst : ∀ w w' : World, Below w.heap.size w w' → S w → S w')
    (hrun1 : ∀ (A : Act) (w : World), (execOp A.eval o1).run P w = .ok (.value (.pointer (some ⟨w.heap.size, 0, none⟩))) (w.alloc (.cells cs1 t1 (0, 0))))
    (hrun2 : ∀ (A : Act) (w : World), (execOp A.eval o2).run P w = .ok (.value (.pointer (some ⟨w.heap.size, 0, none⟩))) (w.alloc (.cells cs2 t2 (0, 0))))
    (h : ∀ w, Below w0.heap.size w0 w → S w → ∀ A : Act, Alt a N1 N2 A → ∀ K : Act → World → Prop,
      (∀ v w', EvK S B t1 cs1 w w' → EvK S B t2 cs2 w w' → Nd2 P ops Q S ds n N1 t1 cs1 N2 t2 cs2 B F k' k1' k2' k3' (a.put (some M) v) w' → K (A.put (some M) v) w') → if Region.wanted oe (yielded ops A.tmps) = true then Oper.wp P oe A w K Q else K (A.put oe.dst undef) w) :
    Nd2 P ops Q S ds n N1 t1 cs1 N2 t2 cs2 B (F + 1) k k1 k2 k3 a w0 := by
  simp only [chk2, Bool.and_eq_true, Bool.or_eq_true] at hc
  obtain ⟨c0, c1, c2, c3, s0, s1, s2, s3, f1, f2, f3, f4⟩ := hc
  obtain ⟨hm1, hm2, h12⟩ := hne
  obtain ⟨d0, d1, d2⟩ := hd
  have all : ∀ b c w, Below w0.heap.size w0 w → S w → w.heap[b]? = some (.cells cs1 t1 (0, 0)) → w.heap[c]? = some (.cells cs2 t2 (0, 0)) → B ≤ b → B ≤ c → aK P .any ops Q S ds (F + 1) (lb n k3) ((a.put (some N1) (ptrV b)).put (some N2) (ptrV c)) w := by
    intro b c w hb hS hbx hcx hBb hBc
    refine dK (gU hT c3) (by simp) fun i hi => ?_
    have : i = e := by simpa using hi
    subst this
    refine wpOp_step he fun K hK => ?_
    refine h w hb hS _ (.inr (.inr (.inr ⟨b, c, rfl⟩))) K fun v w' hb' hb2 hnd => hK _ _ ⟨fun _ _ => hb'.2.1 hS, ?_⟩
    rw [iD s3, put_comm (fun e_ => hm2 e_.symm), put_comm (fun e_ => hm1 e_.symm)]
    have hS' := hb'.2.1 hS
    exact (hnd hS').2.2.2 b c w' (Below.refl _ _) hS' (hb'.2.2 b hBb hbx) (hb2.2.2 c hBc hcx) hBb hBc
  have one1 : ∀ b w, Below w0.heap.size w0 w → S w → w.heap[b]? = some (.cells cs1 t1 (0, 0)) → B ≤ b → aK P .any ops Q S ds (F + 2) (lb n k1) (a.put (some N1) (ptrV b)) w := by
    intro b w hb hS hbx hBb
    obtain ⟨is, his, hr⟩ := p_ hT c1
    refine all2 hr his ?_ ?_
    · refine wpOp_step he fun K hK => ?_
      refine h w hb hS _ (.inr (.inl ⟨b, rfl⟩)) K fun v w' hb' hb2 hnd => hK _ _ ⟨fun _ _ => hb'.2.1 hS, ?_⟩
      rw [iD s1, put_comm (fun e_ => hm1 e_.symm)]
      have hS' := hb'.2.1 hS
      exact (hnd hS').2.1 b w' (Below.refl _ _) hS' (hb'.2.2 b hBb hbx) hBb
    · refine jv hj2 hN2 hg2 (hrun2 _ w) fun w1 h1 h2 => ⟨fun _ _ => hst _ _ h2 hS, ?_⟩
      rw [iD f3]
      exact all _ _ w1 (hb.trans (h2.mono hb.size)) (hst _ _ h2 hS) ((h2.block b (aA hbx)).trans hbx) h1 hBb (Nat.le_trans hB hb.size)
  have one2 : ∀ b w, Below w0.heap.size w0 w → S w → w.heap[b]? = some (.cells cs2 t2 (0, 0)) → B ≤ b → aK P .any ops Q S ds (F + 2) (lb n k2) (a.put (some N2) (ptrV b)) w := by
    intro b w hb hS hbx hBb
    obtain ⟨is, his, hr⟩ := p_ hT c2
    refine all2 hr his ?_ ?_
    · refine wpOp_step he fun K hK => ?_
      refine h w hb hS _ (.inr (.inr (.inl ⟨b, rfl⟩))) K fun v w' hb' hb2 hnd => hK _ _ ⟨fun _ _ => hb'.2.1 hS, ?_⟩
      rw [iD s2, put_comm (fun e_ => hm2 e_.symm)]
      have hS' := hb'.2.1 hS
      exact (hnd hS').2.2.1 b w' (Below.refl _ _) hS' (hb2.2.2 b hBb hbx) hBb
    · refine jv hj1 hN1 hg1 (hrun1 _ w) fun w1 h1 h2 => ⟨fun _ _ => hst _ _ h2 hS, ?_⟩
      rw [iD f4, put_comm (fun e_ => h12 e_.symm)]
      exact all _ _ w1 (hb.trans (h2.mono hb.size)) (hst _ _ h2 hS) h1 ((h2.block b (aA hbx)).trans hbx) (Nat.le_trans hB hb.size) hBb
  intro _
  refine ⟨fun w hb hS => ?_, one1, one2, all⟩
  obtain ⟨is, his, hr⟩ : ∃ is, (is = [e, j1, j2] ∨ is = [j1, j2, e] ∨ is = [j1, e, j2]) ∧ Region.ready .any ops (lb n k) = is := by
    rcases c0 with c0 | c0 | c0
    · exact ⟨_, .inl rfl, gU hT c0⟩
    · exact ⟨_, .inr (.inl rfl), gU hT c0⟩
    · exact ⟨_, .inr (.inr rfl), gU hT c0⟩
  refine all3 hr his ?_ ?_ ?_
  · refine wpOp_step he fun K hK => ?_
    refine h w hb hS _ (.inl rfl) K fun v w' hb' hb2 hnd => hK _ _ ⟨fun _ _ => hb'.2.1 hS, ?_⟩
    rw [iD s0]
    have hS' := hb'.2.1 hS
    exact (hnd hS').1 w' (Below.refl _ _) hS'
  · refine jv hj1 hN1 hg1 (hrun1 a w) fun w1 h1 h2 => ⟨fun _ _ => hst _ _ h2 hS, ?_⟩
    rw [iD f1]
    exact one1 _ w1 (hb.trans (h2.mono hb.size)) (hst _ _ h2 hS) h1 (Nat.le_trans hB hb.size)
  · refine jv hj2 hN2 hg2 (hrun2 a w) fun w1 h1 h2 => ⟨fun _ _ => hst _ _ h2 hS, ?_⟩
    rw [iD f2]
    exact one2 _ w1 (hb.trans (h2.mono hb.size)) (hst _ _ h2 hS) h1 (Nat.le_trans hB hb.size)
theorem qE {T : Bool × List (List Nat × List Nat)} (hT : rtab .any ops = T) (e j1 j2 : Nat) {n N1 N2 M : Nat} {oe o1 o2 : Oper} {t1 t2 : TypeId} {cs1 cs2 : Array Value} {B F k k1 k2 k3 : Nat} (k' k1' k2' k3' : Nat) {a : Act} {w0 : World} {f : FuncId} {fn : Func} {os : Array Operand} {ts : Array TypeId}
    (hf : P.funcs[f]? = some fn) (args : Array Value) (hB : B ≤ w0.heap.size) (hst : ∀ w w' : World, Below w.heap.size w w' → S w → S w')
    (h : ∀ w, Below w0.heap.size w0 w → Calls P f args w fun x w' => ∃ v, x = .returned v ∧ Below w.heap.size w w' ∧ Nd2 P ops Q S ds n N1 t1 cs1 N2 t2 cs2 B F k' k1' k2' k3' (a.put (some M) v) w')
    (he : ops[e]? = some oe := by exact rfl) (hNe : oe.dst = some M := by exact rfl) (hj1 : ops[j1]? = some o1 := by exact rfl) (hN1 : o1.dst = some N1 := by exact rfl) (hg1 : o1.guard = none := by exact rfl)
    (hj2 : ops[j2]? = some o2 := by exact rfl) (hN2 : o2.dst = some N2 := by exact rfl) (hg2 : o2.guard = none := by exact rfl) (hge : oe.guard = none := by exact rfl) (hne : M ≠ N1 ∧ M ≠ N2 ∧ N1 ≠ N2 := by decide)
    (hc : chk2 T.2 n e j1 j2 k k1 k2 k3 k' k1' k2' k3' = true := by kernel_rfl)
    (hd : e ∉ ds ∧ j1 ∉ ds ∧ j2 ∉ ds := by decide) (hname : (fn.name == "runtime.NumGoroutine") = false := by kernel_rfl) (hb : fn.body.isSome = true := by exact rfl)
    (hop : oe.op = .call { callee := .value (.func f), args := os, argTypes := ts } := by exact rfl)
    (ha : os.map a.eval = args := by first | rfl | (simp only [List.map_toArray, List.map_cons, List.map_nil]; rfl)) (ha1 : ∀ b, os.map (a.put (some N1) (ptrV b)).eval = args := by intro b; first | rfl | (simp only [List.map_toArray, List.map_cons, List.map_nil]; rfl))
    (ha2 : ∀ b, os.map (a.put (some N2) (ptrV b)).eval = args := by intro b; first | rfl | (simp only [List.map_toArray, List.map_cons, List.map_nil]; rfl)) (ha3 : ∀ b c, os.map ((a.put (some N1) (ptrV b)).put (some N2) (ptrV c)).eval = args := by intro b c; first | rfl | (simp only [List.map_toArray, List.map_cons, List.map_nil]; rfl))
    (hrun1 : ∀ (A : Act) (w : World), (execOp A.eval o1).run P w = .ok (.value (.pointer (some ⟨w.heap.size, 0, none⟩))) (w.alloc (.cells cs1 t1 (0, 0))) := by intro A w; first | (go_simp; done) | (go_simp; rfl))
    (hrun2 : ∀ (A : Act) (w : World), (execOp A.eval o2).run P w = .ok (.value (.pointer (some ⟨w.heap.size, 0, none⟩))) (w.alloc (.cells cs2 t2 (0, 0))) := by intro A w; first | (go_simp; done) | (go_simp; rfl)) :
    Nd2 P ops Q S ds n N1 t1 cs1 N2 t2 cs2 B (F + 1) k k1 k2 k3 a w0 := by
  refine nd2_ev hT k' k1' k2' k3' he hNe hj1 hN1 hg1 hj2 hN2 hg2 hne hc hd hB hst hrun1 hrun2 fun w hw hS A hA K hK => ?_
  have hwt : Region.wanted oe (yielded ops A.tmps) = true := by
    unfold Region.wanted
    rw [hge]
  rw [hNe]
  refine dQ hf hname hb args hwt hNe hop (by rcases hA with rfl | ⟨b, rfl⟩ | ⟨b, rfl⟩ | ⟨b, c, rfl⟩; exact ha; exact ha1 b; exact ha2 b; exact ha3 b c) ?_
  refine (h w hw).mono fun x w' hx => ?_
  obtain ⟨v, rfl, hb', hnd⟩ := hx
  exact ⟨v, rfl, hK v w' (EvK.of hst hb') (EvK.of hst hb') hnd⟩
theorem yj {n N1 N2 : Nat} {t1 t2 : TypeId} {cs1 cs2 : Array Value} {B F k k1 k2 k3 : Nat} {a a' : Act} {w0 : World} (h : Nd2 P ops Q S ds n N1 t1 cs1 N2 t2 cs2 B F k k1 k2 k3 a' w0) (ha : a = a' := by (simp only [Act.put, List.setIfInBounds_toArray, List.set_cons_zero, List.set_cons_succ, iZ, jC]; rfl)) : Nd2 P ops Q S ds n N1 t1 cs1 N2 t2 cs2 B F k k1 k2 k3 a w0 := by subst ha; exact h
theorem vv {T : Bool × List (List Nat × List Nat)} (hT : rtab .any ops = T) (i : Nat) {n N1 N2 Ni : Nat} {oi : Oper} {t1 t2 : TypeId} {cs1 cs2 : Array Value} {B F k k1 k2 k3 : Nat} (k' k1' k2' k3' : Nat) {a a' : Act} {v : Value} {w0 : World}
    (h : Nd2 P ops Q S ds n N1 t1 cs1 N2 t2 cs2 B F k' k1' k2' k3' a' w0)
    (hi : ops[i]? = some oi := by exact rfl) (hNi : oi.dst = some Ni := by exact rfl) (hne : Ni ≠ N1 ∧ Ni ≠ N2 := by decide)
    (hc : (anyT T (lb n k).toList (lb n k').toList i && (anyT T (lb n k1).toList (lb n k1').toList i && (anyT T (lb n k2).toList (lb n k2').toList i && anyT T (lb n k3).toList (lb n k3').toList i))) = true := by kernel_rfl)
    (hQ : ∀ c a w, Q (.panic c) (a.put oi.dst v) w → Q (.panic c) a w := by exact fun _ _ _ h => h)
    (hy : Yields P ops oi v a := by exact Or.inl ⟨by rfl, by intro w'; go_simp; with_reducible rfl⟩)
    (hy1 : ∀ b, Yields P ops oi v (a.put (some N1) (ptrV b)) := by exact fun b => Or.inl ⟨by rfl, by intro w'; first | (go_simp; done) | (go_simp; with_reducible rfl)⟩)
    (hy2 : ∀ b, Yields P ops oi v (a.put (some N2) (ptrV b)) := by exact fun b => Or.inl ⟨by rfl, by intro w'; first | (go_simp; done) | (go_simp; with_reducible rfl)⟩)
    (hy3 : ∀ b c, Yields P ops oi v ((a.put (some N1) (ptrV b)).put (some N2) (ptrV c)) := by exact fun b c => Or.inl ⟨by rfl, by intro w'; first | (go_simp; done) | (go_simp; with_reducible rfl)⟩)
    (ha : a.put (some Ni) v = a' := by (simp only [Act.put, List.setIfInBounds_toArray, List.set_cons_zero, List.set_cons_succ, iZ, jC]; rfl)) :
    Nd2 P ops Q S ds n N1 t1 cs1 N2 t2 cs2 B (F + 1) k k1 k2 k3 a w0 := by
  subst ha
  simp only [Bool.and_eq_true] at hc
  obtain ⟨c0, c1, c2, c3⟩ := hc
  intro hS0
  obtain ⟨h0, h1, h2, h3⟩ := h hS0
  refine ⟨fun w hb hS => oF _ hi hNi (ky hT c0) hQ hy rfl (h0 w hb hS), fun b w hb hS hx hB => ?_, fun b w hb hS hx hB => ?_, fun b c w hb hS hx hy hB hC => ?_⟩
  · refine oF _ hi hNi (ky hT c1) hQ (hy1 b) rfl ?_
    rw [put_comm (fun e_ => hne.1 e_.symm)]
    exact h1 b w hb hS hx hB
  · refine oF _ hi hNi (ky hT c2) hQ (hy2 b) rfl ?_
    rw [put_comm (fun e_ => hne.2 e_.symm)]
    exact h2 b w hb hS hx hB
  · refine oF _ hi hNi (ky hT c3) hQ (hy3 b c) rfl ?_
    rw [put_comm (fun e_ => hne.2 e_.symm), put_comm (fun e_ => hne.1 e_.symm)]
    exact h3 b c w hb hS hx hy hB hC
theorem zm {T : Bool × List (List Nat × List Nat)} (hT : rtab .any ops = T) (j1 j2 : Nat) {n N1 N2 : Nat} {o1 o2 : Oper} {t1 t2 : TypeId} {cs1 cs2 : Array Value} {B F k k1 k2 k3 : Nat} {a : Act} {w0 : World} (hB : B ≤ w0.heap.size) (hst : ∀ w w' : World, Below w.heap.size w w' → S w → S w')
    (h : ∀ b c w, Below w0.heap.size w0 w → S w → w.heap[b]? = some (.cells cs1 t1 (0, 0)) → w.heap[c]? = some (.cells cs2 t2 (0, 0)) → B ≤ b → B ≤ c → aK P .any ops Q S ds F (lb n k3) ((a.put (some N1) (ptrV b)).put (some N2) (ptrV c)) w)
    (hj1 : ops[j1]? = some o1 := by exact rfl) (hN1 : o1.dst = some N1 := by exact rfl) (hg1 : o1.guard = none := by exact rfl) (hj2 : ops[j2]? = some o2 := by exact rfl) (hN2 : o2.dst = some N2 := by exact rfl) (hg2 : o2.guard = none := by exact rfl) (hne : N1 ≠ N2 := by decide)
    (hc : (alt2 T.2 n k j1 j2 && (rdy T.2 n k1 [j2] && (rdy T.2 n k2 [j1] && (stT n k j1 k1 && (stT n k j2 k2 && (stT n k1 j2 k3 && stT n k2 j1 k3)))))) = true := by kernel_rfl)
    (hrun1 : ∀ (A : Act) (w : World), (execOp A.eval o1).run P w = .ok (.value (.pointer (some ⟨w.heap.size, 0, none⟩))) (w.alloc (.cells cs1 t1 (0, 0))) := by intro A w; first | (go_simp; done) | (go_simp; rfl))
    (hrun2 : ∀ (A : Act) (w : World), (execOp A.eval o2).run P w = .ok (.value (.pointer (some ⟨w.heap.size, 0, none⟩))) (w.alloc (.cells cs2 t2 (0, 0))) := by intro A w; first | (go_simp; done) | (go_simp; rfl)) :
    Nd2 P ops Q S ds n N1 t1 cs1 N2 t2 cs2 B F k k1 k2 k3 a w0 := by
  simp only [Bool.and_eq_true] at hc
  obtain ⟨c0, c1, c2, f1, f2, f3, f4⟩ := hc
  intro _
  have one1 : ∀ b w, Below w0.heap.size w0 w → S w → w.heap[b]? = some (.cells cs1 t1 (0, 0)) → B ≤ b → aK P .any ops Q S ds (F + 1) (lb n k1) (a.put (some N1) (ptrV b)) w := by
    intro b w hb hS hbx hBb
    refine dK (gU hT c1) (by simp) fun i hi => ?_
    have : i = j2 := by simpa using hi
    subst this
    refine jv hj2 hN2 hg2 (hrun2 _ w) fun w1 h1 h2 => ⟨fun _ _ => hst _ _ h2 hS, ?_⟩
    rw [iD f3]
    exact h _ _ w1 (hb.trans (h2.mono hb.size)) (hst _ _ h2 hS) ((h2.block b (aA hbx)).trans hbx) h1 hBb (Nat.le_trans hB hb.size)
  have one2 : ∀ b w, Below w0.heap.size w0 w → S w → w.heap[b]? = some (.cells cs2 t2 (0, 0)) → B ≤ b → aK P .any ops Q S ds (F + 1) (lb n k2) (a.put (some N2) (ptrV b)) w := by
    intro b w hb hS hbx hBb
    refine dK (gU hT c2) (by simp) fun i hi => ?_
    have : i = j1 := by simpa using hi
    subst this
    refine jv hj1 hN1 hg1 (hrun1 _ w) fun w1 h1 h2 => ⟨fun _ _ => hst _ _ h2 hS, ?_⟩
    rw [iD f4, put_comm (fun e_ => hne e_.symm)]
    exact h _ _ w1 (hb.trans (h2.mono hb.size)) (hst _ _ h2 hS) h1 ((h2.block b (aA hbx)).trans hbx) (Nat.le_trans hB hb.size) hBb
  refine ⟨fun w hb hS => ?_, one1, one2, h⟩
  obtain ⟨is, his, hr⟩ := p_ hT c0
  refine all2 hr his ?_ ?_
  · refine jv hj1 hN1 hg1 (hrun1 a w) fun w1 h1 h2 => ⟨fun _ _ => hst _ _ h2 hS, ?_⟩
    rw [iD f1]
    exact one1 _ w1 (hb.trans (h2.mono hb.size)) (hst _ _ h2 hS) h1 (Nat.le_trans hB hb.size)
  · refine jv hj2 hN2 hg2 (hrun2 a w) fun w1 h1 h2 => ⟨fun _ _ => hst _ _ h2 hS, ?_⟩
    rw [iD f2]
    exact one2 _ w1 (hb.trans (h2.mono hb.size)) (hst _ _ h2 hS) h1 (Nat.le_trans hB hb.size)
theorem qJ {F : Nat} {l : Array Bool} {a a' : Act} {w : World} (h : aK P .any ops Q S ds F l a' w) (ha : a = a' := by (simp only [ptrV, Act.put, List.setIfInBounds_toArray, List.set_cons_zero, List.set_cons_succ, iZ, jC]; rfl)) : aK P .any ops Q S ds F l a w := by subst ha; exact h
theorem pK {o : Oper} {a : Act} {w : World} (ty : TypeId) (x y : Operand) (ho : o.op = .store ty x y) (g : Nat) (hx : a.eval x = ptrV g) (cells : Array Value) (hy : a.eval y = .agg cells)
    (t : TypeId) (cur : Array Value) (hg : w.heap[g]? = some (.cells cur t (0, 0))) (hi : (P.info? ty).map (·.size) = some cells.size) (hf : cells.size = cur.size) (h1 : ∀ v ∈ cells.toList, v.oneCell' = true) :
    (execOp a.eval o).run P w = .ok .skip (w.setRow g cells) := by
  have h := fA (P := P) ty x y ho ⟨g, 0, none⟩ g 0 rfl cells hx hy t cur hg hi (by omega) h1
  rw [(show (cur.toList.take 0 ++ cells.toList ++ cur.toList.drop (0 + cells.toList.length)).toArray = cells by
    rw [List.take_zero, List.nil_append, List.drop_eq_nil_of_le (by simp; omega), List.append_nil]), ] at h
  exact h
theorem fC {T : Bool × List (List Nat × List Nat)} (hT : rtab .any ops = T) (i g : Nat) {n k F : Nat} {oi : Oper} {a : Act} {w : World} (k' : Nat) (cells : Array Value) {ty : TypeId} {x y : Operand} {t : TypeId} {cur : Array Value} (hg : w.heap[g]? = some (.cells cur t (0, 0)))
    (h : aK P .any ops Q S ds F (lb n k') a (w.setRow g cells)) (hi : ops[i]? = some oi := by exact rfl) (hN : oi.dst = none := by exact rfl) (hgd : oi.guard = none := by exact rfl) (ho : oi.op = .store ty x y := by exact rfl) (hx : a.eval x = ptrV g := by exact rfl) (hy : a.eval y = .agg cells := by exact rfl)
    (hc : (rdy T.2 n k [i] && stT n k i k') = true := by kernel_rfl) (hd : i ∈ ds := by decide) (hif : (P.info? ty).map (·.size) = some cells.size := by kernel_rfl) (hf : cells.size = cur.size := by rfl) (h1 : ∀ v ∈ cells.toList, v.oneCell' = true := by simp [Value.oneCell']) :
    aK P .any ops Q S ds (F + 1) (lb n k) a w := by
  rw [Bool.and_eq_true] at hc
  refine dK (gU hT hc.1) (by simp) fun i' hi' => ?_
  have : i' = i := by simpa using hi'
  subst this
  refine wpOp_step hi fun K hK => ?_
  have hw : Region.wanted oi (yielded ops a.tmps) = true := by
    unfold Region.wanted
    rw [hgd]
  rw [hN]
  refine iQ hw hN (pK ty x y ho g hx cells hy t cur hg hif hf h1) (hK _ _ ⟨fun hn => absurd hd hn, ?_⟩)
  rw [iD hc.2]
  exact h
theorem mP {T : Bool × List (List Nat × List Nat)} (hT : rtab .any ops = T) {n k F : Nat} {a : Act} {w : World} (h : Q .normal a w) (hc : rdy T.2 n k [] = true := by kernel_rfl) : aK P .any ops Q S ds F (lb n k) a w := jq (gU hT hc) h F
theorem dm {rest : List Oper} {o : Oper} {a : Act} {w : World} (g : Nat) (cells : Array Value) {ty : TypeId} {x y : Operand} {t : TypeId} {cur : Array Value} (hg : w.heap[g]? = some (.cells cur t (0, 0)))
    (h : wpList P ops Q rest (a.put o.dst undef) (w.setRow g cells)) (hgd : o.guard = none := by exact rfl) (ho : o.op = .store ty x y := by exact rfl) (hx : a.eval x = ptrV g := by exact rfl) (hy : a.eval y = .agg cells := by exact rfl)
    (hif : (P.info? ty).map (·.size) = some cells.size := by kernel_rfl) (hf : cells.size = cur.size := by rfl) (h1 : ∀ v ∈ cells.toList, v.oneCell' = true := by simp [Value.oneCell']) : wpList P ops Q (o :: rest) a w := by
  refine eB hgd ty x y ho ⟨g, 0, none⟩ g 0 rfl cells hx hy t cur hg hif (by omega) h1 ?_
  rw [(show (cur.toList.take 0 ++ cells.toList ++ cur.toList.drop (0 + cells.toList.length)).toArray = cells by
    rw [List.take_zero, List.nil_append, List.drop_eq_nil_of_le (by simp; omega), List.append_nil])]
  exact h
end
theorem uA : ∀ {a b : List S93}, eqS a b = true ↔ a = b
  | [], [] => by simp [eqS]
  | [], _ :: _ => by simp [eqS]
  | _ :: _, [] => by simp [eqS]
  | x :: s, y :: t => by
    rw [eqS, Bool.and_eq_true, Bool.and_eq_true, uA]
    obtain ⟨a, b⟩ := x
    obtain ⟨c, d⟩ := y
    simp
structure VOk (s : St) : Prop where
  f6 : Flag.qh s.fsize (s.sp.map toP)
  nm : nmB s = true
  m9 : Flag.sH ((gB s).map toM)
  wn : ic s.now s.size = true
  ws : ∀ x ∈ s.snaps, ic x.f3 x.f2 = true
  dl : (s.data.length : Int) = s.fsize
  d64 : ∀ b ∈ s.data, b.length = 64
  fr0 : (bS s.fsize (iG s)).2.2 = 0
  fr : (bS s.fsize (iG s)).2.1 = s.sp
theorem o_ {s : St} : bY s = 0 ↔ VOk s := by
  have e : bY s = 0 ↔ (nD s && (mi s && (pR s && rW s))) = true := by
    unfold bY; split <;> simp_all
  rw [e]
  simp only [nD, mi, pR, rW, Bool.and_eq_true, decide_eq_true_eq, Bool.not_eq_true', List.any_eq_false, uA, bne_iff_ne, ne_eq, Decidable.not_not]
  constructor
  · rintro ⟨⟨h1, h2, h3, h4⟩, h5, ⟨h6, h7⟩, h8, h9⟩
    exact ⟨Flag.iA.1 h1, h2, Flag.gJ.1 h3, h4, fun x hx => by simpa using h5 x hx, h6, fun b hb => by have := h7 b hb; omega, h8, h9⟩
  · intro h
    exact ⟨⟨Flag.iA.2 h.f6, h.nm, Flag.gJ.2 h.m9, h.wn⟩, fun x hx => by simpa using h.ws x hx, ⟨h.dl, fun b hb => by have := h.d64 b hb; omega⟩, h.fr0, h.fr⟩
theorem uj (s : St) : bY s = 0 ∨ bY s = 9 := by unfold bY; split <;> simp
def oU (s : St) : List (List Flag.Ex) := s.now.map toE :: s.snaps.map fun x => x.f3.map toE
theorem qi (s : St) : ((gB s).map toM).map (·.l) = oU s := by
  unfold gB oU toM
  simp [List.map_map, Function.comp_def]
theorem nV {s : St} (h : Flag.sH ((gB s).map toM)) : Flag.NFs ((iG s).map toP) ∧ (∀ i, Flag.memS ((iG s).map toP) i ↔ ∃ l ∈ oU s, Flag.qN l i) := by
  obtain ⟨hok, _⟩ := refs9 (Flag.gJ.2 h)
  obtain ⟨q, hq⟩ : ∃ q, q = fe (gQ (gB s)) := ⟨_, rfl⟩
  have hu : iG s = joinL (q.map spR) := by rw [hq]; rfl
  rw [← hq] at hok
  have h1 := pI (tN hok)
  have e : (q.map spR).map toP = Flag.qV (q.map toR) := by
    unfold Flag.qV
    rw [List.map_map, List.map_map]; rfl
  have hpos : ∀ x ∈ (jk (q.map spR)).map toP, 0 < x.n := by
    intro x hx
    obtain ⟨y, hy, rfl⟩ := List.mem_map.1 hx
    exact (tN hok y ((fq _).mem_iff.1 hy)).n
  obtain ⟨h2, h3⟩ := Flag.kv (gH (gY (q.map spR))) hpos
  rw [hu, h1]
  refine ⟨h2, fun i => ?_⟩
  rw [h3, Flag.nS ((fq (q.map spR)).map toP), e, Flag.sw]
  have hp : (q.map toR).Perm (Flag.qm ((gB s).map toM)) := by
    rw [hq, gW, lL]
    exact Flag.iC _
  rw [Flag.vU hp, Flag.ug h, ← qi]
  constructor
  · rintro ⟨x, hx, hu⟩
    exact ⟨x.l, List.mem_map_of_mem hx, hu⟩
  · rintro ⟨l, hl, hu⟩
    obtain ⟨x, hx, rfl⟩ := List.mem_map.1 hl
    exact ⟨x, hx, hu⟩
theorem kE {fs : Int} {u : List S93} (h : (bS fs u).2.2 = 0) : (bS fs u).1 = fs ∧ Flag.qh fs ((bS fs u).2.1.map toP) ∧ (∀ x ∈ u.map toP, Flag.Ins fs x) ∧ ∀ i, Flag.memS ((bS fs u).2.1.map toP) i ↔ (0 ≤ i ∧ i < fs) ∧ ¬ Flag.memS (u.map toP) i := by
  have e := tq fs u
  rcases Flag.rM fs (u.map toP) with ⟨_, _, h3⟩ | ⟨m, e1, h1, h2, h3⟩
  · rw [← e] at h3
    exact absurd h h3
  · rw [e1] at e
    simp only [Prod.mk.injEq] at e
    obtain ⟨e2, e3, _⟩ := e
    rw [e3]
    exact ⟨e2, h1, h2, h3⟩
theorem VOk.free {s : St} (h : VOk s) (i : Int) : Flag.memS (s.sp.map toP) i ↔ (0 ≤ i ∧ i < s.fsize) ∧ ¬ ∃ l ∈ oU s, Flag.qN l i := by
  have := (kE h.fr0).2.2.2 i
  rw [h.fr, (nV h.m9).2] at this
  exact this
theorem VOk.used {s : St} (h : VOk s) {l : List Flag.Ex} (hl : l ∈ oU s) {v i : Int} (hv : Flag.fU l v = some i) : 0 ≤ i ∧ i < s.fsize := by
  have h1 := (kE h.fr0).2.2.1
  obtain ⟨u, hu, h2, h3⟩ := Flag.eH.1 (((nV h.m9).2 i).2 ⟨l, hl, v, hv⟩)
  have := h1 u hu
  have h4 := this.a
  have h5 := this.e
  omega
def encI (x : Int) : List Value := [.int .u8 x]
theorem zG : Flat (Kd.int .u8) encI :=
  ⟨fun _ => rfl, by decide, fun x v hv => by
    simp only [encI, List.mem_cons, List.not_mem_nil, or_false] at hv
    rw [hv]; rfl, fun h => h, fun w base ok x => rfl⟩
theorem jL (x : Int) : (encI x).length = 1 := rfl
theorem vI (l : List Int) : ∀ v ∈ l.flatMap encI, v.oneCell' = true := by
  intro v hv
  obtain ⟨x, _, hx⟩ := List.mem_flatMap.1 hv
  exact zG.one x v hx
theorem srcI {w : World} {ad : Addr} {n : Nat} {y : List Int} (h : Kd.C (Kd.int .u8) w (some ad) n y) : ∀ t u, (y.flatMap encI)[t]? = some u → w.cell? (ad.add t) = some u := by
  intro t u hu
  have he : y.flatMap encI = y.map (Value.int .u8) := by
    clear h hu
    induction y with
    | nil => rfl
    | cons x l ih => rw [List.flatMap_cons, ih]; rfl
  rw [he, List.getElem?_map] at hu
  obtain ⟨z, hz, rfl⟩ := Option.map_eq_some_iff.1 hu
  have htl := (List.getElem?_eq_some_iff.1 hz).1
  obtain ⟨h1, h2, h3⟩ := h
  obtain ⟨ad', e, hc⟩ := h3 (by omega)
  injection e with e
  subst e
  obtain ⟨cs, _, h5, h6⟩ := hc t z hz
  have h5 : cs = [.int .u8 z] := h5
  subst h5
  have := h6 0 _ rfl
  rwa [(show t * (Kd.int .u8).sz + 0 = t by show t * 1 + 0 = t; omega)] at this
def octI (d : List (List Int)) (v p at0 : Int) : Nat → Int → List Int → Option (List Int)
  | 0, _, out => some out
  | k + 1, i, out => if p = -1 then octI d v p at0 k (i + 1) out else
    if 0 ≤ wrap64 (wrap64 (wrap64 (v - at0) + i) * 64) ∧ wrap64 (wrap64 (wrap64 (v - at0) + i) * 64) + 64 ≤ out.length ∧ 0 ≤ wrap64 (p + i) ∧ wrap64 (p + i) < d.length ∧ (d.getD (wrap64 (p + i)).toNat []).length = 64 then
      octI d v p at0 k (i + 1) (out.take (wrap64 (wrap64 (wrap64 (v - at0) + i) * 64)).toNat ++ d.getD (wrap64 (p + i)).toNat [] ++ out.drop ((wrap64 (wrap64 (wrap64 (v - at0) + i) * 64)).toNat + (d.getD (wrap64 (p + i)).toNat []).length))
    else none
def octO (d : List (List Int)) (at0 : Int) : List S151 → List Int → Option (List Int)
  | [], out => some out
  | x :: t, out => if x.f2 ≤ 65536 then (octI d x.f0 x.f1 at0 x.f2.toNat 0 out).bind (octO d at0 t) else none
def octV (d : List (List Int)) (l : List S151) (at0 n : Int) : Option (List Int) := if 0 ≤ n ∧ n ≤ 65536 then octO d at0 (nP l at0 n).1 (List.replicate (n * 64).toNat 0) else none
def sQ : Bool × List (List Nat × List Nat) := (true, [([], []), ([], []), ([1], [1]), ([], []), ([2, 3], [2, 3]), ([], []), ([4, 5], [4, 5]), ([6], [6]), ([0, 7], [0, 7]), ([], []), ([9], [9]), ([], []), ([11], [11]), ([], []), ([12, 13], [12, 13]), ([10, 14], [10, 14]), ([15], [15]), ([8, 16], [8, 16])])
def yU : List Nat := [0, 0, 2, 0, 14, 0, 62, 126, 255, 0, 512, 0, 2048, 0, 14336, 32256, 65024, 131071]
theorem ui : rtab .any (opsOf Tryz.f59 10) = sQ := by kernel_rfl
theorem rO : dA sQ.2 yU = true := by kernel_rfl
set_option maxHeartbeats 16000000 in
set_option maxRecDepth 100000 in
theorem qy (s : St) (a : At4) (A : Option Addr) (c : Nat) (l : List S151) (at0 n : Int) (res : List Int) (w : World) (hr : Reads w s a) (hl : Kd.C k151 w A l.length l) (hc : l.length ≤ c) (h : octV s.data l at0 n = some res) :
    Calls Tryz.prog 59 #[.agg (aN s a), .slice A l.length c, .int .i64 at0, .int .i64 n] w fun e w' => ∃ v : Value, e = .returned v ∧ Kd.R (Kd.int .u8) 5 w' w.heap.size (fun _ => True) v res ∧ Below w.heap.size w w' := by
  have hu31 := Tryz.underlying31
  have hu151 := Tryz.underlying151
  unfold octV at h
  split at h
  case isFalse => cases h
  rename_i hn
  have HG0 := aa.mk h
  have HN := aa.mk hn
  have hw1 : wrap64 (n * 64) = n * 64 := by rw [w64 (by omega)]
  obtain ⟨b, hb⟩ : ∃ k, k = w.heap.size := ⟨_, rfl⟩
  obtain ⟨W1, hW1⟩ : ∃ W, W = w.alloc (.cells #[.int .i64 s.size, .slice a.A1 s.now.length a.c1, .slice a.A2 s.snaps.length a.c2, .int .i64 s.next, .int .i64 s.fsize, .slice a.A5 s.sp.length a.c5, .slice a.A6 s.data.length a.c6] 31) := ⟨_, rfl⟩
  have HX1 := aa.mk (show W1.heap[b]? = some (.cells #[.int .i64 s.size, .slice a.A1 s.now.length a.c1, .slice a.A2 s.snaps.length a.c2, .int .i64 s.next, .int .i64 s.fsize, .slice a.A5 s.sp.length a.c5, .slice a.A6 s.data.length a.c6] 31 (0, 0)) by rw [hW1, hb]; exact bB w _)
  have HB1 := aa.mk (show Below w.heap.size w W1 by rw [hW1]; exact (Below.refl _ _).alloc (Nat.le_refl _) _)
  have HL := aa.mk (And.intro hl hc)
  have HR0 := aa.mk hr
  have HBB := aa.mk hb
  clear h hn hr hl hc
  unfold aN
  go_enter Tryz.func59, Tryz.ntmps59
  go_wp2_with (refine ji (.makeSlice 37 (.tmp 16) (.tmp 16)) rfl ?_; refine jh ?_)
  rw [← hW1, ← hb]
  refine ⟨?_⟩
  refine Kd.yG (Kd.int .u8) (w0 := w) w.heap.size 5 rfl (N := 17) rfl 37 (.tmp 16) (.tmp 16) rfl (n * 64) (by first | rfl | (simp only [hw1]; rfl)) (by first | rfl | (simp only [hw1]; rfl)) Tryz.underlying37 (.int .u8 0) 1 info5 rfl (by decide) (by decide) 0 (ok := fun _ => True) (okp := fun _ => True) rfl (fun _ _ => trivial) trivial (by have := HN.out; omega) (by have := HN.out; omega) HB1.out HB1.out.size ?_
  intro v w2 hR hB hg hat
  clear hW1 hb
  obtain ⟨g, hvg, hgs⟩ := hat
  rcases iR zG hR with ⟨h1, _⟩ | ⟨g', cap, h1, hg0, _, hL⟩
  · rw [h1] at hvg; cases hvg
  have hgg : g' = g := by rw [h1] at hvg; exact Option.some.inj hvg
  subst hgg
  obtain ⟨cur, hLL⟩ := hL.toL jL
  subst h1
  obtain ⟨L, hLn⟩ : ∃ k, k = (List.replicate (n * 64).toNat (0 : Int)).length := ⟨_, rfl⟩
  rw [← hLn]
  have HLL := aa.mk hLL
  have HLN := aa.mk hLn
  have HX2 := aa.mk ((hg.block b (aA HX1.out) (by simp)).trans HX1.out)
  have HB2 := aa.mk hB
  have HGB := aa.mk (show g' ≠ b ∧ w.heap.size ≤ g' from ⟨by have := aA HX1.out; omega, hg0⟩)
  have HLK := aa.mk (iI.calls A c l at0 n (nP l at0 n).1 (nP l at0 n).2 w2 (Kd.bu HL.out.1 hB) HL.out.2 rfl)
  clear hLL hLn hR hB hg hvg hgs hg0 hL HX1 HB1
  go_wp2_with fail
  refine HLK.out.mono ?_
  rintro e w3 ⟨v, rfl, hR, hb⟩
  obtain ⟨A3, c3, rfl⟩ := Kd.bf hR
  have HX3 := aa.mk ((hb.block b (aA HX2.out)).trans HX2.out)
  have HB3 := aa.mk (HB2.out.trans (hb.mono HB2.out.size))
  have HL3 := aa.mk (HLL.out.same (w1 := w3) (hb.block _ (aA HLL.out.1)))
  have HP3 := aa.mk (show Kd.R k151 151 w3 w.heap.size (fun k => k ≠ g') (.slice A3 (nP l at0 n).1.length c3) (nP l at0 n).1 from Kd.bH (Kd.aZ (Kd.bQ hR) (fun k hk => by have := hk.2.1; have := aA HLL.out.1; omega)) HB2.out.size)
  obtain ⟨ps, hps⟩ : ∃ q, q = (nP l at0 n).1 := ⟨_, rfl⟩
  rw [← hps] at HP3 HG0 ⊢
  clear hR hb hps HX2 HB2 HLL HLK
  have hpl : ps.length ≤ 9223372036854775807 := (Kd.bA HP3.out).2.2.2.1
  go_wp2_with fail
  go_loopg [27] ps.length (fun gk v27 W => ∃ (i : Nat) (out : List Int) (cur : Array Value), v27 = .int .i64 (i : Int) ∧ aa (i + gk = ps.length) ∧ aa (octO s.data at0 (ps.drop i) out = some res) ∧ aa (LieL encI 1 5 W g' cap cur out ∧ out.length = L) ∧ aa (Kd.R k151 151 W w.heap.size (fun k => k ≠ g') (.slice A3 ps.length c3) ps) ∧ aa (W.heap[b]? = some (.cells #[.int .i64 s.size, .slice a.A1 s.now.length a.c1, .slice a.A2 s.snaps.length a.c2, .int .i64 s.next, .int .i64 s.fsize, .slice a.A5 s.sp.length a.c5, .slice a.A6 s.data.length a.c6] 31 (0, 0))) ∧ aa (Below w.heap.size w W))
  case atStart => exact ⟨0, _, _, rfl, ⟨by simp⟩, ⟨HG0.out⟩, ⟨HL3.out, HLN.out.symm⟩, HP3, HX3, HB3⟩
  case round =>
    obtain ⟨i, out, cur, rfl, HI, HG, HO, HP, HX, HB⟩ := hrel
    cases gk with
    | zero =>
      have hi : i = ps.length := by have := HI.out; omega
      subst hi
      have hd : decide ((ps.length : Int) < (ps.length : Int)) = false := decide_eq_false (by omega)
      have hg := HG.out
      rw [List.drop_length, octO] at hg
      obtain rfl := Option.some.inj hg
      clear hg
      go_wp2_with fail
      go_ret
      have hR := f_ (base := w.heap.size) (ok := fun _ => True) zG HGB.out.2 trivial (HO.out.1.to jL)
      rw [HO.out.2] at hR
      exact ⟨_, rfl, hR, HB.out⟩
    | succ k1 =>
      have hj2 : i < ps.length := by have := HI.out; omega
      have hj1 : (i : Int) < (ps.length : Int) := by omega
      have hj0 : (0 : Int) ≤ (i : Int) := by omega
      have hd : decide ((i : Int) < (ps.length : Int)) = true := decide_eq_true hj1
      have hd2 : decide (i < ps.length) = true := decide_eq_true hj2
      obtain ⟨ad, e3, g0, g1, g2⟩ := dV (Kd.bA HP.out).2.2 (i : Int) hj0 hj1
      obtain ⟨x, hx⟩ : ∃ x, x = ax ps (i : Int) := ⟨_, rfl⟩
      rw [← hx] at g0 g1 g2
      simp only [Int.toNat_natCast] at g0 g1 g2
      have hst : ps.drop i = x :: ps.drop (i + 1) := by
        have h5 : x = ps[i] := by rw [hx]; unfold ax; rw [Int.toNat_natCast, List.getD_eq_getElem?_getD, List.getElem?_eq_getElem hj2]; rfl
        rw [h5, List.getElem_cons_drop]
      have hg := HG.out
      rw [hst, octO] at hg
      split at hg
      case isFalse => cases hg
      rename_i hf2
      have HF2 := aa.mk hf2
      obtain ⟨out1, hin, hout⟩ := Option.bind_eq_some_iff.1 hg
      have HIN := aa.mk hin
      have HOUT := aa.mk hout
      subst e3
      obtain ⟨bx, hbx⟩ : ∃ k, k = wr.heap.size := ⟨_, rfl⟩
      obtain ⟨W4, hW4⟩ : ∃ W, W = wr.alloc (.cells #[.int .i64 x.f0, .int .i64 x.f1, .int .i64 x.f2] 151) := ⟨_, rfl⟩
      have hb4 : Below wr.heap.size wr W4 := by rw [hW4]; exact (Below.refl _ _).alloc (Nat.le_refl _) _
      have hxx : W4.heap[bx]? = some (.cells #[.int .i64 x.f0, .int .i64 x.f1, .int .i64 x.f2] 151 (0, 0)) := by rw [hW4, hbx]; exact bB wr _
      have hlt := aA HO.out.1.1
      have HXX := aa.mk hxx
      have HGX := aa.mk (show bx ≠ g' ∧ w.heap.size ≤ bx from ⟨by omega, by rw [hbx]; exact HB.out.size⟩)
      have HL4 := aa.mk (And.intro (HO.out.1.same (w1 := W4) (hb4.block _ hlt)) HO.out.2)
      have HP4 := aa.mk (Kd.bD HP.out hb4)
      have HX4 := aa.mk ((hb4.block b (aA HX.out)).trans HX.out)
      have HB4 := aa.mk (HB.out.trans (hb4.mono HB.out.size))
      have y2 := (ae hxx 2).trans rfl
      rw [hW4, hbx] at y2
      have HST := aa.mk hj2
      clear hf2 hx hst hg hin hout hb4 hxx hlt HO HP HX HB HG
      go_wp2_with fail
      rw [← hW4, ← hbx]
      clear hW4 hbx g0 g1 g2 y2 hj0 hd hd2 hj1 hj2
      go_loopg [33] x.f2.toNat (fun gk v33 W => ∃ (j : Nat) (out : List Int) (cur : Array Value), v33 = .int .i64 (j : Int) ∧ aa (j + gk = x.f2.toNat) ∧ aa (octI s.data x.f0 x.f1 at0 gk (j : Int) out = some out1) ∧ aa (LieL encI 1 5 W g' cap cur out ∧ out.length = L) ∧ aa (Kd.R k151 151 W w.heap.size (fun k => k ≠ g') (.slice (some ad) ps.length c3) ps) ∧ aa (W.heap[b]? = some (.cells #[.int .i64 s.size, .slice a.A1 s.now.length a.c1, .slice a.A2 s.snaps.length a.c2, .int .i64 s.next, .int .i64 s.fsize, .slice a.A5 s.sp.length a.c5, .slice a.A6 s.data.length a.c6] 31 (0, 0)) ∧ W.heap[bx]? = some (.cells #[.int .i64 x.f0, .int .i64 x.f1, .int .i64 x.f2] 151 (0, 0))) ∧ aa (Below w.heap.size w W))
      case atStart => exact ⟨0, _, _, rfl, ⟨by simp⟩, HIN, HL4, HP4, ⟨HX4.out, HXX.out⟩, HB4⟩
      case round =>
        obtain ⟨j, out, cur, rfl, HJ, HG, HO, HP, HX, HB⟩ := hrel
        cases gk with
        | zero =>
          have hj : decide ((j : Int) < x.f2) = false := decide_eq_false (by have := HJ.out; omega)
          have hg := HG.out
          rw [octI] at hg
          obtain rfl := Option.some.inj hg
          have hi3 : (i : Int) < 9223372036854775807 := by have := HST.out; have := (Kd.bA HP.out).2.2.2.1; omega
          clear hg
          go_wp2_with fail
          go_roundg k1
          case measure => omega
          case rel => exact ⟨i + 1, _, _, by first | rfl | (simp; done) | go_num, ⟨by have := HI.out; omega⟩, HOUT, HO, HP, ⟨HX.out.1⟩, HB⟩
        | succ j1 =>
          have hd : decide ((j : Int) < x.f2) = true := decide_eq_true (by have := HJ.out; omega)
          have z1 := (ae HX.out.2 1).trans rfl
          have hjw : wrap64 ((j : Int) + 1) = ((j + 1 : Nat) : Int) := by rw [w64 (by have := HJ.out; have := HF2.out; omega)]; omega
          have HJW := aa.mk hjw
          clear hjw
          by_cases hp : x.f1 = -1
          · have hb1 : (x.f1 != -1) = false := by simpa using hp
            have hg := HG.out
            rw [octI, if_pos hp] at hg
            have HG2 := aa.mk hg
            clear hg hp
            go_wp2_with fail
            go_roundg j1
            case measure => omega
            case rel => exact ⟨j + 1, out, cur, by first | rfl | (simp; done) | (rw [HJW.out]), ⟨by have := HJ.out; omega⟩, ⟨by have := HG2.out; rwa [Int.natCast_add, Int.natCast_one]⟩, HO, HP, HX, HB⟩
          · have hb1 : (x.f1 != -1) = true := by simpa using hp
            have hg := HG.out
            rw [octI, if_neg hp] at hg
            split at hg
            case isFalse => cases hg
            rename_i hc5
            clear hp
            obtain ⟨off, hoff⟩ := Int.eq_ofNat_of_zero_le hc5.1
            obtain ⟨k, hk⟩ := Int.eq_ofNat_of_zero_le hc5.2.2.1
            rw [hoff, hk] at hc5 hg
            simp only [Int.toNat_natCast] at hc5 hg
            obtain ⟨y, hy⟩ : ∃ l, l = s.data.getD k [] := ⟨_, rfl⟩
            rw [← hy] at hc5 hg
            have hr6 := (HR0.out.below HB.out).h6
            have hkl : k < s.data.length := by have := hc5.2.2.2.1; omega
            obtain ⟨adD, A0, c0, hA6, hcell, hl0, hC0⟩ := vH hr6 (k : Int) (by omega) (by omega)
            rw [Int.toNat_natCast] at hcell hl0 hC0
            rw [← hy] at hcell hl0 hC0
            have hyl : y.length = 64 := hc5.2.2.2.2
            obtain ⟨ad0, hA0, _⟩ := hC0.2.2 (by omega)
            subst hA0
            have HSRC := aa.mk (srcI hC0)
            have hofl : off + 64 ≤ L := by have := hc5.2.1; have := HO.out.2; omega
            have hLc : L ≤ cap := by have := HO.out.1.2.2.1; have := HO.out.2; omega
            have hcut := oq (some ⟨g', 0, none⟩) L cap off (by omega) hLc
            rw [if_neg (by omega), (show (some (⟨g', 0, none⟩ : Addr)).map (·.add (off * 1)) = some ⟨g', off, none⟩ by rw [Nat.mul_one, Option.map_some, add_plain])] at hcut
            have HG2 := aa.mk (And.intro hg (And.intro hyl (And.intro hofl hLc)))
            have HW := aa.mk (And.intro hoff hk)
            have hkl1 : (k : Int) < (s.data.length : Int) := by omega
            have hkl0 : (0 : Int) ≤ (k : Int) := by omega
            have HX6 := aa.mk (show wr.cell? ⟨b, 6, none⟩ = some (.slice (some adD) s.data.length a.c6) by rw [← hA6]; exact (ae HX.out.1 6).trans rfl)
            have HCE := aa.mk hcell
            clear hg hc5 hoff hk hy hr6 hA6 hcell hl0 hC0 hyl hofl hLc HG
            go_wp2_with fail
            refine dH (n := 18) (S := fun w' => w'.cell? ⟨bx, 0, none⟩ = some (.int .i64 x.f0) ∧ w'.cell? ⟨bx, 1, none⟩ = some (.int .i64 x.f1) ∧ w'.cell? ⟨b, 6, none⟩ = some (.slice (some adD) s.data.length a.c6) ∧ w'.cell? (adD.add k) = some (.slice (some ad0) y.length c0)) (ds := [17]) (lb 18 0) (by kernel_rfl) rfl (by kernel_rfl) ⟨(ae HX.out.2 0).trans rfl, (ae HX.out.2 1).trans rfl, HX6.out, HCE.out⟩ (fun hHeld => ?_)
            refine bG ui rO (fun HT_ HW_ => ?_)
            have HX7 := aa.mk (show wr.drew.heap[b]? = _ ∧ wr.drew.heap[bx]? = _ from HX.out)
            have HO7 := aa.mk (show LieL encI 1 5 wr.drew g' cap cur out ∧ out.length = L from ⟨HO.out.1.same rfl, HO.out.2⟩)
            have HP7 := aa.mk (Kd.bD HP.out (aV (Below.refl _ _)))
            have HB7 := aa.mk (HB.out.trans ((aV (Below.refl wr.heap.size wr)).mono HB.out.size))
            have hS7 := HSRC.out
            have HS7 := aa.mk (show ∀ (t : Nat) (u : Value), (y.flatMap encI)[t]? = some u → wr.drew.cell? (ad0.add t) = some u from HSRC.out)
            clear HX HO HP HB HX6 HCE HSRC hS7 z1
            generalize wr.drew = w7 at hHeld HX7 HO7 HP7 HB7 HS7 ⊢
            refine pu_ 0 39 18 1 ?_
            refine pu_ 1 40 18 3 ?_
            refine tk_ 2 41 18 7 ?_
            refine pu_ 3 42 18 15 ?_
            refine pu_ 4 43 18 31 ?_
            refine pu_ 5 44 18 63 ?_
            refine pu_ 6 45 18 127 ?_
            refine pu_ 7 46 18 255 ?_
            rw [HW.out.1]
            refine pu_ 8 47 18 511 ?_
            refine pu_ 9 48 18 1023 ?_
            refine tk_ 10 49 18 2047 ?_
            refine pu_ 11 50 18 4095 ?_
            refine tk_ 12 51 18 8191 ?_
            refine pu_ 13 52 18 16383 ?_
            refine pu_ 14 53 18 32767 ?_
            rw [HW.out.2]
            refine pu_ 15 54 18 65535 ?_
            refine tk_ 16 55 18 131071 ?_
            have hcp := fD (P := Tryz.prog) w7 37 37 3 5 g' off (L - off) (cap - off) ad0 y.length c0 cur 5 (y.flatMap encI) 1 Tryz.underlying37 Tryz.sizeOf5 HO7.out.1.1 (by rw [eY (enc := encI) jL, (show Nat.min y.length (L - off) = y.length from Nat.min_eq_left (by have := HG2.out; omega))]) HS7.out (by rw [eY (enc := encI) jL, HO7.out.1.2.1]; have := HG2.out; omega) (vI y)
            have hput := HO7.out.1.nH jL (ys := y) (i := off) (by have := HG2.out; have := HO7.out.2; omega)
            rw [Nat.mul_one] at hput
            obtain ⟨cur2, hcur2⟩ : ∃ c, c = (cur.toList.take off ++ y.flatMap encI ++ cur.toList.drop (off + (y.flatMap encI).length)).toArray := ⟨_, rfl⟩
            rw [← hcur2] at hcp hput
            refine jW (i := 17) (N := some 56) #[yT,yT,yT,yT,yT,yT,yT,yT,yT,yT,yT,yT,yT,yT,yT,yT,yT,yT] rfl rfl (dF HT_.out (by kernel_rfl)) (by decide) (fun K hK => ?_)
            refine oZ (N := some 56) (v := goInt (Nat.min y.length (L - off))) (w1 := w7.setRow g' cur2) (by rfl) rfl (by first | (go_simp; done) | (go_simp; rfl)) ?_
            refine hK.out _ _ ?_
            clear hK K hcp hcut hcur2
            have hfar : ∀ k, k ≠ g' → (w7.setRow g' cur2).heap[k]? = w7.heap[k]? := fun k hk => setRow_other w7 g' k _ hk
            have HX8 := aa.mk (show (w7.setRow g' cur2).heap[b]? = _ ∧ (w7.setRow g' cur2).heap[bx]? = _ from ⟨(hfar b (Ne.symm HGB.out.1)).trans HX7.out.1, (hfar bx HGX.out.1).trans HX7.out.2⟩)
            have HP8 := aa.mk (Kd.bZ HP7.out (fun k hk _ => hfar k hk))
            have HB8 := aa.mk (aQ HB7.out HGB.out.2 cur2)
            have HO8 := aa.mk (show LieL encI 1 5 (w7.setRow g' cur2) g' cap cur2 (out.take off ++ y ++ out.drop (off + y.length)) ∧ (out.take off ++ y ++ out.drop (off + y.length)).length = L from ⟨hput, by have := HG2.out; have := HO7.out.2; simp only [List.length_append, List.length_take, List.length_drop]; omega⟩)
            clear hfar hput hHeld HX7 HO7 HP7 HB7 HS7
            refine fu (bW HT_.out (by kernel_rfl)) ?_
            clear HT_ HW_
            generalize w7.setRow g' cur2 = w8 at HX8 HP8 HB8 HO8 ⊢
            go_wp2_with fail
            go_roundg j1
            case measure => omega
            case rel => exact ⟨j + 1, _, cur2, by first | rfl | (simp; done) | (rw [HJW.out]), ⟨by have := HJ.out; omega⟩, ⟨by have := HG2.out.1; rwa [Int.natCast_add, Int.natCast_one]⟩, HO8, HP8, HX8, HB8⟩
def qp (s : St) (id : Int) : Int := idxF (fun x : S69 => x.f0 == id) s.snaps
set_option maxHeartbeats 1000000 in
set_option maxRecDepth 100000 in
theorem z8 (x : S69) (A : Option Addr) (c b : Nat) (id : Int) (w : World) (hb : w.heap[b]? = some (.cells #[.int .i64 id] 3 (0, 0))) :
    Calls Tryz.prog 102 (#[.agg #[.int .i64 x.f0, .string x.f1, .int .i64 x.f2, .slice A x.f3.length c]] ++ #[.pointer (some ⟨b, 0, none⟩)]) w fun e w' => e = .returned (.bool (x.f0 == id)) ∧ Below w.heap.size w w' := by
  have hu := Tryz.underlying69
  obtain ⟨W1, hW1⟩ : ∃ W, W = w.alloc (.cells #[.int .i64 x.f0, .string x.f1, .int .i64 x.f2, .slice A x.f3.length c] 69) := ⟨_, rfl⟩
  have HB := aa.mk (show Below w.heap.size w W1 by rw [hW1]; exact (Below.refl _ _).alloc (Nat.le_refl _) _)
  have u0 : W1.cell? ⟨b, 0, none⟩ = some (.int .i64 id) := (ae (show W1.heap[b]? = some (.cells #[.int .i64 id] 3 (0, 0)) by rw [HB.out.block b (aA hb)]; exact hb) 0).trans rfl
  rw [hW1] at u0
  clear hb
  go_enter Tryz.func102, Tryz.ntmps102
  go_wp2_with fail
  rw [← hW1]
  go_ret
  exact ⟨rfl, HB.out⟩
set_option maxHeartbeats 2000000 in
set_option maxRecDepth 100000 in
theorem find_v (s : St) (a : At4) (id : Int) (w : World) (hr : Reads w s a) :
    Calls Tryz.prog 58 #[.agg (aN s a), .int .i64 id] w fun e w' => e = .returned (.int .i64 (qp s id)) ∧ Below w.heap.size w w' := by
  have hu31 := Tryz.underlying31
  obtain ⟨W1, hW1⟩ : ∃ W, W = w.alloc (.cells #[.int .i64 s.size, .slice a.A1 s.now.length a.c1, .slice a.A2 s.snaps.length a.c2, .int .i64 s.next, .int .i64 s.fsize, .slice a.A5 s.sp.length a.c5, .slice a.A6 s.data.length a.c6] 31) := ⟨_, rfl⟩
  obtain ⟨W2, hW2⟩ : ∃ W, W = W1.alloc (.cells #[.int .i64 id] 3) := ⟨_, rfl⟩
  have hs1 : W1.heap.size = w.heap.size + 1 := by rw [hW1]; simp
  have hb1 : Below w.heap.size w W1 := by rw [hW1]; exact (Below.refl _ _).alloc (Nat.le_refl _) _
  have HB := aa.mk (show Below w.heap.size w W2 by rw [hW2]; exact hb1.alloc hb1.size _)
  have hx2 : W2.heap[w.heap.size + 1]? = some (.cells #[.int .i64 id] 3 (0, 0)) := by rw [hW2, ← hs1]; exact bB W1 _
  have HH := aa.mk (xV 102 #[.pointer (some ⟨w.heap.size + 1, 0, none⟩)] (fun x => x.f0 == id) (fun args w => jB Tryz.func102 (by kernel_rfl) rfl args w) a.A2 a.c2 s.snaps W2 (hr.below HB.out).h2 (fun W x A c hB hl hC => Calls.mono (z8 x A c _ id W ((hB.block _ (aA hx2)).trans hx2)) fun e w' h => ⟨h.1, az hB h.2⟩))
  clear hr hs1 hb1 hx2
  unfold aN
  go_enter Tryz.func58, Tryz.ntmps58
  go_wp2_with fail
  rw [← hW1, ← hW2]
  refine HH.out.mono ?_
  rintro e w3 ⟨rfl, hb⟩
  have HB3 := aa.mk (HB.out.trans (hb.mono HB.out.size))
  clear hb HH
  go_wp2
  go_ret
  exact ⟨rfl, HB3.out⟩
def cutV (d : List (List Int)) (l : List S151) (size at0 n : Int) : Option (List Int × Int) := if at0 < 0 ∨ n < 0 ∨ size < at0 ∨ wrap64 (size - at0) < n then some ([], 4) else (octV d l at0 n).bind fun r => some (r, 0)
def sU (s : St) (owner at0 n : Int) : Option (List Int × Int) :=
  if bY s = 0 then
    (if owner = 0 then cutV s.data s.now s.size at0 n
     else if qp s owner < 0 then some ([], 71)
     else cutV s.data (a_ s.snaps (qp s owner)).f3 (a_ s.snaps (qp s owner)).f2 at0 n)
  else some ([], bY s)
theorem wo (s : St) (id : Int) : qp s id < (s.snaps.length : Int) := by
  unfold qp idxF
  cases h : s.snaps.findIdx? (fun x => x.f0 == id) with
  | none => simp only []; omega
  | some k =>
    have := (List.findIdx?_eq_some_iff_getElem.1 h).1
    simp only []; omega
def xR : Bool × List (List Nat × List Nat) := (true, [([], []), ([0], [0]), ([], []), ([2], [2]), ([1, 0, 1], [1]), ([3, 4, 0, 1, 2, 3, 4], [3])])
def rdv_B4 : List Nat := [0, 1, 0, 4, 3, 31]
theorem vW : rtab .any (opsOf Tryz.f21 4) = xR := by kernel_rfl
theorem tL : dA xR.2 rdv_B4 = true := by kernel_rfl
def xZ : Bool × List (List Nat × List Nat) := (true, [([], []), ([0], [0]), ([], []), ([1, 2], [1, 2]), ([3], [3]), ([4], [4]), ([], []), ([6], [6]), ([], []), ([7, 8], [7, 8]), ([9], [9]), ([10], [10]), ([5, 0, 1, 2, 3, 4, 5], [5]), ([11, 12, 0, 1, 2, 3, 4, 5, 6, 7, 8, 9, 10, 11, 12], [11])])
def rdv_B9 : List Nat := [0, 1, 0, 7, 15, 31, 0, 64, 0, 448, 960, 1984, 63, 8191]
theorem xG : rtab .any (opsOf Tryz.f21 9) = xZ := by kernel_rfl
theorem vF : dA xZ.2 rdv_B9 = true := by kernel_rfl
set_option maxHeartbeats 16000000 in
set_option maxRecDepth 100000 in
theorem yg (s : St) (a : At4) (owner at0 n : Int) (r : List Int) (er : Int) (w : World) (hr : Reads w s a) (hn : s.snaps.length < 4398046511103) (h : sU s owner at0 n = some (r, er)) :
    Calls Tryz.prog 21 #[.agg (aN s a), .int .i64 owner, .int .i64 at0, .int .i64 n] w fun e w' => ∃ v : Value, e = .returned (.tuple #[v, .int .i64 er]) ∧ Kd.R (Kd.int .u8) 5 w' w.heap.size (fun _ => True) v r ∧ Below w.heap.size w w' := by
  have hu31 := Tryz.underlying31
  have hu69 := Tryz.underlying69
  obtain ⟨b, hb⟩ : ∃ k, k = w.heap.size := ⟨_, rfl⟩
  obtain ⟨W1, hW1⟩ : ∃ W, W = w.alloc (.cells #[.int .i64 s.size, .slice a.A1 s.now.length a.c1, .slice a.A2 s.snaps.length a.c2, .int .i64 s.next, .int .i64 s.fsize, .slice a.A5 s.sp.length a.c5, .slice a.A6 s.data.length a.c6] 31) := ⟨_, rfl⟩
  have HX1 := aa.mk (show W1.heap[b]? = some (.cells #[.int .i64 s.size, .slice a.A1 s.now.length a.c1, .slice a.A2 s.snaps.length a.c2, .int .i64 s.next, .int .i64 s.fsize, .slice a.A5 s.sp.length a.c5, .slice a.A6 s.data.length a.c6] 31 (0, 0)) by rw [hW1, hb]; exact bB w _)
  have HB1 := aa.mk (show Below w.heap.size w W1 by rw [hW1]; exact (Below.refl _ _).alloc (Nat.le_refl _) _)
  have HR1 := aa.mk (hr.below HB1.out)
  have HCK := aa.mk (bT.calls s a (bY s) W1 HR1.out (by unfold bT.f; rw [if_pos hn]))
  have HG := aa.mk h
  have q0 := (ae HX1.out 0).trans rfl
  have q1 := (ae HX1.out 1).trans rfl
  have q2 := (ae HX1.out 2).trans rfl
  have q3 := (ae HX1.out 3).trans rfl
  have q4 := (ae HX1.out 4).trans rfl
  have q5 := (ae HX1.out 5).trans rfl
  have q6 := (ae HX1.out 6).trans rfl
  rw [hW1, hb] at q0 q1 q2 q3 q4 q5 q6
  clear hr hn h
  unfold aN
  go_enter Tryz.func21, Tryz.ntmps21
  go_wp2_with fail
  rw [← hW1, ← hb]
  clear hW1 hb q0 q1 q2 q3 q4 q5 q6
  obtain ⟨ck, hck⟩ : ∃ c, c = bY s := ⟨_, rfl⟩
  rw [← hck] at HCK
  refine HCK.out.mono ?_
  rintro e w2 ⟨rfl, hb⟩
  have HX2 := aa.mk ((hb.block b (aA HX1.out)).trans HX1.out)
  have HB2 := aa.mk (HB1.out.trans (hb.mono HB1.out.size))
  have HR2 := aa.mk (HR1.out.below hb)
  have hg := HG.out
  rw [sU, ← hck] at hg
  clear hb HCK HX1 HB1 HR1 HG hck
  by_cases h0 : ck = 0
  case neg =>
    have hbn : (ck != 0) = true := bne_iff_ne.mpr h0
    rw [if_neg h0] at hg
    obtain ⟨rfl, rfl⟩ := Prod.mk.inj (Option.some.inj hg)
    clear hg h0
    go_wp2_with fail
    go_ret2
    exact ⟨_, rfl, Kd.dh _ _ _ _ _, HB2.out⟩
  subst h0
  rw [if_pos rfl] at hg
  have HG := aa.mk hg
  clear hg
  go_wp2_with fail
  refine dH (n := 6) (S := fun w' => w'.cell? ⟨b, 0, none⟩ = some (.int .i64 s.size) ∧ w'.cell? ⟨b, 1, none⟩ = some (.slice a.A1 s.now.length a.c1)) (ds := []) (lb 6 0) (by kernel_rfl) rfl (by kernel_rfl) ⟨(ae HX2.out 0).trans rfl, (ae HX2.out 1).trans rfl⟩ (fun hHeld => ?_)
  refine bG vW tL (fun HT_ HW_ => ?_)
  have HX3 := aa.mk (show w2.drew.heap[b]? = _ from HX2.out)
  have HB3 := aa.mk (HB2.out.trans ((aV (Below.refl w2.heap.size w2)).mono HB2.out.size))
  have HR3 := aa.mk (HR2.out.below (aV (Below.refl _ _)))
  clear HX2 HB2 HR2
  generalize w2.drew = w3 at hHeld HX3 HB3 HR3 ⊢
  refine pu_ 0 19 6 1 ?_
  refine tk_ 1 20 6 3 ?_
  refine pu_ 2 21 6 7 ?_
  refine tk_ 3 22 6 15 ?_
  refine pu_ 4 11 6 31 ?_
  refine pu_ 5 12 6 63 ?_
  refine fu (bW HT_.out (by kernel_rfl)) ?_
  clear HT_ HW_ hHeld
  have hg := HG.out
  by_cases ho : owner = 0
  · rw [if_pos ho] at hg
    have hbo : (owner != 0) = false := by simpa using ho
    have HCL := aa.mk (And.intro HR3.out.h1 HR3.out.l1)
    have HXw := HX3
    have HBw := HB3
    have HRw := HR3
    clear ho HG
    rw [cutV] at hg
    by_cases h1 : at0 < 0
    · rw [if_pos (.inl h1)] at hg
      obtain ⟨rfl, rfl⟩ := Prod.mk.inj (Option.some.inj hg)
      have d1 : decide (at0 < 0) = true := decide_eq_true h1
      clear hg h1
      go_wp2_with fail
      go_ret2
      exact ⟨_, rfl, Kd.dh _ _ _ _ _, HBw.out⟩
    have d1 : decide (at0 < 0) = false := decide_eq_false h1
    by_cases h2 : n < 0
    · rw [if_pos (.inr (.inl h2))] at hg
      obtain ⟨rfl, rfl⟩ := Prod.mk.inj (Option.some.inj hg)
      have d2 : decide (n < 0) = true := decide_eq_true h2
      clear hg h1 h2
      go_wp2_with fail
      go_ret2
      exact ⟨_, rfl, Kd.dh _ _ _ _ _, HBw.out⟩
    have d2 : decide (n < 0) = false := decide_eq_false h2
    by_cases h3 : s.size < at0
    · rw [if_pos (.inr (.inr (.inl h3)))] at hg
      obtain ⟨rfl, rfl⟩ := Prod.mk.inj (Option.some.inj hg)
      have d3 : decide (s.size < at0) = true := decide_eq_true h3
      clear hg h1 h2 h3
      go_wp2_with fail
      go_ret2
      exact ⟨_, rfl, Kd.dh _ _ _ _ _, HBw.out⟩
    have d3 : decide (s.size < at0) = false := decide_eq_false h3
    by_cases h4 : wrap64 (s.size - at0) < n
    · rw [if_pos (.inr (.inr (.inr h4)))] at hg
      obtain ⟨rfl, rfl⟩ := Prod.mk.inj (Option.some.inj hg)
      have d4 : decide (wrap64 (s.size - at0) < n) = true := decide_eq_true h4
      clear hg h1 h2 h3 h4
      go_wp2_with fail
      go_ret2
      exact ⟨_, rfl, Kd.dh _ _ _ _ _, HBw.out⟩
    have d4 : decide (wrap64 (s.size - at0) < n) = false := decide_eq_false h4
    rw [if_neg (by rintro (h | h | h | h); exact h1 h; exact h2 h; exact h3 h; exact h4 h)] at hg
    obtain ⟨r9, hoc, hg⟩ := Option.bind_eq_some_iff.1 hg
    obtain ⟨rfl, rfl⟩ := Prod.mk.inj (Option.some.inj hg)
    have HOC := aa.mk (qy s a a.A1 a.c1 s.now at0 n r9 w3 HRw.out HCL.out.1 HCL.out.2 hoc)
    have q0 := (ae HXw.out 0).trans rfl
    have q1 := (ae HXw.out 1).trans rfl
    have q2 := (ae HXw.out 2).trans rfl
    have q3 := (ae HXw.out 3).trans rfl
    have q4 := (ae HXw.out 4).trans rfl
    have q5 := (ae HXw.out 5).trans rfl
    have q6 := (ae HXw.out 6).trans rfl
    clear hg h1 h2 h3 h4 hoc
    go_wp2_with fail
    refine HOC.out.mono ?_
    rintro e w9 ⟨v, rfl, hR, hb⟩
    have HR9 := aa.mk (Kd.bH hR HBw.out.size)
    have HB9 := aa.mk (HBw.out.trans (hb.mono HBw.out.size))
    clear HOC hR hb q0 q1 q2 q3 q4 q5 q6
    go_wp2_with fail
    go_ret2
    exact ⟨v, rfl, Kd.aZ HR9.out (fun _ _ => trivial), HB9.out⟩
  rw [if_neg ho] at hg
  have hbo : (owner != 0) = true := bne_iff_ne.mpr ho
  have HFI := aa.mk (find_v s a owner w3 HR3.out)
  have HG2 := aa.mk hg
  have q0 := (ae HX3.out 0).trans rfl
  have q1 := (ae HX3.out 1).trans rfl
  have q2 := (ae HX3.out 2).trans rfl
  have q3 := (ae HX3.out 3).trans rfl
  have q4 := (ae HX3.out 4).trans rfl
  have q5 := (ae HX3.out 5).trans rfl
  have q6 := (ae HX3.out 6).trans rfl
  clear hg ho HG
  unfold aN at HFI
  go_wp2_with fail
  clear q0 q1 q2 q3 q4 q5 q6
  refine HFI.out.mono ?_
  rintro e w4 ⟨rfl, hb⟩
  have HX4 := aa.mk ((hb.block b (aA HX3.out)).trans HX3.out)
  have HB4 := aa.mk (HB3.out.trans (hb.mono HB3.out.size))
  have HR4 := aa.mk (HR3.out.below hb)
  have hg := HG2.out
  obtain ⟨i, hi⟩ : ∃ i, i = qp s owner := ⟨_, rfl⟩
  rw [← hi] at hg ⊢
  have HFV := aa.mk hi
  clear hb HFI HX3 HB3 HR3 HG2 hi
  by_cases hi0 : i < 0
  · rw [if_pos hi0] at hg
    obtain ⟨rfl, rfl⟩ := Prod.mk.inj (Option.some.inj hg)
    have di : decide (i < 0) = true := decide_eq_true hi0
    clear hg hi0
    go_wp2_with fail
    go_ret2
    exact ⟨_, rfl, Kd.dh _ _ _ _ _, HB4.out⟩
  rw [if_neg hi0] at hg
  have di : decide (i < 0) = false := decide_eq_false hi0
  have hip : 0 ≤ i := by omega
  have hil : i < (s.snaps.length : Int) := by have := HFV.out; rw [this]; exact wo s owner
  obtain ⟨ad, A3, c3, e3, g0, g1, g2, g3, hl3, hC3⟩ := qM HR4.out.h2 i hip hil
  obtain ⟨x, hx⟩ : ∃ x, x = a_ s.snaps i := ⟨_, rfl⟩
  rw [← hx] at g0 g1 g2 g3 hl3 hC3
  rw [← hx] at hg
  have HG := aa.mk hg
  have HCL := aa.mk (And.intro hC3 hl3)
  have HG23 := aa.mk (And.intro g2 g3)
  have hx2 : w4.cell? ⟨b, 2, none⟩ = some (.slice (some ad) s.snaps.length a.c2) := by rw [← e3]; exact (ae HX4.out 2).trans rfl
  have HX42 := aa.mk hx2
  clear hx hg g0 g1 g2 g3 hl3 hC3 e3 hx2 HFV hi0
  go_wp2_with fail
  refine dH (n := 14) (S := fun w' => w'.cell? ⟨b, 2, none⟩ = some (.slice (some ad) s.snaps.length a.c2) ∧ w'.cell? ⟨(ad.add (i.toNat * 4)).block, (ad.add (i.toNat * 4)).off + 2, none⟩ = some (.int .i64 x.f2) ∧ w'.cell? ⟨(ad.add (i.toNat * 4)).block, (ad.add (i.toNat * 4)).off + 3, none⟩ = some (.slice A3 x.f3.length c3)) (ds := []) (lb 14 0) (by kernel_rfl) rfl (by kernel_rfl) ⟨HX42.out, HG23.out.1, HG23.out.2⟩ (fun hHeld => ?_)
  refine bG xG vF (fun HT_ HW_ => ?_)
  have HX5 := aa.mk (show w4.drew.heap[b]? = _ from HX4.out)
  have HB5 := aa.mk (HB4.out.trans ((aV (Below.refl w4.heap.size w4)).mono HB4.out.size))
  have HR5 := aa.mk (HR4.out.below (aV (Below.refl _ _)))
  have HCL5 := aa.mk (show Kd.C k151 w4.drew A3 x.f3.length x.f3 ∧ x.f3.length ≤ c3 from ⟨Kd.bu HCL.out.1 (aV (Below.refl _ _)), HCL.out.2⟩)
  clear HX4 HB4 HR4 HCL HG23 HX42
  generalize w4.drew = w5 at hHeld HX5 HB5 HR5 HCL5 ⊢
  refine pu_ 0 30 14 1 ?_
  refine tk_ 1 31 14 3 ?_
  refine pu_ 2 32 14 7 ?_
  refine pu_ 3 33 14 15 ?_
  refine pu_ 4 34 14 31 ?_
  refine tk_ 5 35 14 63 ?_
  refine pu_ 6 36 14 127 ?_
  refine tk_ 7 37 14 255 ?_
  refine pu_ 8 38 14 511 ?_
  refine pu_ 9 39 14 1023 ?_
  refine pu_ 10 40 14 2047 ?_
  refine tk_ 11 41 14 4095 ?_
  refine pu_ 12 11 14 8191 ?_
  refine pu_ 13 12 14 16383 ?_
  refine fu (bW HT_.out (by kernel_rfl)) ?_
  clear HT_ HW_ hHeld di hip hil
  have hg := HG.out
  have HCL := HCL5
  have HXw := HX5
  have HBw := HB5
  have HRw := HR5
  clear HG
  rw [cutV] at hg
  by_cases h1 : at0 < 0
  · rw [if_pos (.inl h1)] at hg
    obtain ⟨rfl, rfl⟩ := Prod.mk.inj (Option.some.inj hg)
    have d1 : decide (at0 < 0) = true := decide_eq_true h1
    clear hg h1
    go_wp2_with fail
    go_ret2
    exact ⟨_, rfl, Kd.dh _ _ _ _ _, HBw.out⟩
  have d1 : decide (at0 < 0) = false := decide_eq_false h1
  by_cases h2 : n < 0
  · rw [if_pos (.inr (.inl h2))] at hg
    obtain ⟨rfl, rfl⟩ := Prod.mk.inj (Option.some.inj hg)
    have d2 : decide (n < 0) = true := decide_eq_true h2
    clear hg h1 h2
    go_wp2_with fail
    go_ret2
    exact ⟨_, rfl, Kd.dh _ _ _ _ _, HBw.out⟩
  have d2 : decide (n < 0) = false := decide_eq_false h2
  by_cases h3 : x.f2 < at0
  · rw [if_pos (.inr (.inr (.inl h3)))] at hg
    obtain ⟨rfl, rfl⟩ := Prod.mk.inj (Option.some.inj hg)
    have d3 : decide (x.f2 < at0) = true := decide_eq_true h3
    clear hg h1 h2 h3
    go_wp2_with fail
    go_ret2
    exact ⟨_, rfl, Kd.dh _ _ _ _ _, HBw.out⟩
  have d3 : decide (x.f2 < at0) = false := decide_eq_false h3
  by_cases h4 : wrap64 (x.f2 - at0) < n
  · rw [if_pos (.inr (.inr (.inr h4)))] at hg
    obtain ⟨rfl, rfl⟩ := Prod.mk.inj (Option.some.inj hg)
    have d4 : decide (wrap64 (x.f2 - at0) < n) = true := decide_eq_true h4
    clear hg h1 h2 h3 h4
    go_wp2_with fail
    go_ret2
    exact ⟨_, rfl, Kd.dh _ _ _ _ _, HBw.out⟩
  have d4 : decide (wrap64 (x.f2 - at0) < n) = false := decide_eq_false h4
  rw [if_neg (by rintro (h | h | h | h); exact h1 h; exact h2 h; exact h3 h; exact h4 h)] at hg
  obtain ⟨r9, hoc, hg⟩ := Option.bind_eq_some_iff.1 hg
  obtain ⟨rfl, rfl⟩ := Prod.mk.inj (Option.some.inj hg)
  have HOC := aa.mk (qy s a A3 c3 x.f3 at0 n r9 w5 HRw.out HCL.out.1 HCL.out.2 hoc)
  have q0 := (ae HXw.out 0).trans rfl
  have q1 := (ae HXw.out 1).trans rfl
  have q2 := (ae HXw.out 2).trans rfl
  have q3 := (ae HXw.out 3).trans rfl
  have q4 := (ae HXw.out 4).trans rfl
  have q5 := (ae HXw.out 5).trans rfl
  have q6 := (ae HXw.out 6).trans rfl
  clear hg h1 h2 h3 h4 hoc
  go_wp2_with fail
  refine HOC.out.mono ?_
  rintro e w9 ⟨v, rfl, hR, hb⟩
  have HR9 := aa.mk (Kd.bH hR HBw.out.size)
  have HB9 := aa.mk (HBw.out.trans (hb.mono HBw.out.size))
  clear HOC hR hb q0 q1 q2 q3 q4 q5 q6
  go_wp2_with fail
  go_ret2
  exact ⟨v, rfl, Kd.aZ HR9.out (fun _ _ => trivial), HB9.out⟩
def alD (c : Int) : List Int := (List.replicate 64 0).set 5 c
def alZ : List Int := List.replicate 64 0
def al0 : St := ⟨4, [], [], 1, 8, [⟨0, 8⟩], List.replicate 8 alZ⟩
def al1 : St := ⟨4, [⟨0, 0, 2⟩], [], 1, 8, [⟨2, 6⟩], alD 1 :: alD 2 :: List.replicate 6 alZ⟩
def alA : ByteArray := ⟨#[97]⟩
def al2 : St := ⟨4, [⟨0, 0, 2⟩], [⟨1, alA, 4, [⟨0, 0, 2⟩]⟩], 2, 8, [⟨2, 6⟩], alD 1 :: alD 2 :: List.replicate 6 alZ⟩
def al3 : St := ⟨4, [⟨0, 2, 1⟩, ⟨1, 1, 1⟩], [⟨1, alA, 4, [⟨0, 0, 2⟩]⟩], 2, 8, [⟨3, 5⟩], alD 1 :: alD 2 :: alD 3 :: List.replicate 5 alZ⟩
def Inc (l : List S93) : Prop := l.Pairwise fun a b => a.f0 ≤ b.f0
theorem ve {l : List S93} (h : Inc l) : jk l = l := List.mergeSort_of_pairwise (h.imp fun h => decide_eq_true h)
theorem ng {s : St} {u v : List S93} (hu : (fe (gQ (gB s))).map spR = u) (hs : Inc u) (hv : u.foldl gz [] = v) : iG s = v := by
  unfold iG joinL
  rw [hu, ve hs, hv]
theorem oJ {s : St} {v : List S93} {z : Int} {g : List S93} (hm : Flag.gm ((gB s).map toM) = 0) (hu : iG s = v) (hw : bS s.fsize v = (z, g, 0)) : gy 9300 s = some ({ s with fsize := z, sp := g }, true) := by
  unfold gy
  rw [used9 (by decide), if_pos hm, Option.bind_some]
  dsimp only
  rw [if_pos rfl, (show joinL ((fe (gQ (gB s))).map spR) = v from hu), hw]
  rfl
theorem al_c0 : bY al0 = 0 := by kernel_rfl
theorem al_c1 : bY al1 = 0 := by kernel_rfl
theorem al_r : dM.f 9300 al3.fsize al3.sp = some (5, 5, 0) := by kernel_rfl
def al1w : St := ⟨4, [⟨0, 0, 2⟩], [], 1, 8, [⟨2, 6⟩], alD 1 :: alD 2 :: List.replicate 6 alZ⟩
theorem al_w1 : jZ 9300 9 al0 0 (alD 1 ++ alD 2) = some (al1w, true) := by kernel_rfl
theorem al_t1 : gy 9300 al1w = some (al1, true) := by kernel_rfl
theorem al_u2 : iG al2 = [⟨0, 2⟩] := ng (u := [⟨0, 2⟩, ⟨0, 2⟩]) (by kernel_rfl) (by unfold Inc; decide) (by kernel_rfl)
theorem al_s : gy 9300 ({ al1 with snaps := al1.snaps ++ [⟨al1.next, alA, al1.size, al1.now⟩], next := wrap64 (al1.next + 1) } : St) = some (al2, true) :=
  (oJ (v := [⟨0, 2⟩]) (z := 8) (g := [⟨2, 6⟩]) (by kernel_rfl) (ng (u := [⟨0, 2⟩, ⟨0, 2⟩]) (by kernel_rfl) (by unfold Inc; decide) (by kernel_rfl)) (by kernel_rfl)).trans (by kernel_rfl)
def al3w : St := ⟨4, [⟨0, 2, 1⟩, ⟨1, 1, 1⟩], [⟨1, alA, 4, [⟨0, 0, 2⟩]⟩], 2, 8, [⟨3, 5⟩], alD 1 :: alD 2 :: alD 3 :: List.replicate 5 alZ⟩
theorem al_w2 : jZ 9300 9 al2 0 (alD 3) = some (al3w, true) := by kernel_rfl
theorem zR : iG al3 = [⟨0, 3⟩] := ng (u := [⟨0, 2⟩, ⟨1, 1⟩, ⟨2, 1⟩]) (by kernel_rfl) (by unfold Inc; decide) (by kernel_rfl)
theorem al_t2 : gy 9300 al3w = some (al3, true) := oJ (z := 8) (g := [⟨3, 5⟩]) (by kernel_rfl) zR (by kernel_rfl)
theorem al_A : alA.toList = [97] := by
  show ByteArray.toList.loop alA 0 [] = [97]
  rw [ByteArray.toList.loop, if_pos (by decide), ByteArray.toList.loop, if_neg (by decide)]
  rfl
theorem al_n {s : St} (h1 : s.snaps = [⟨1, alA, 4, [⟨0, 0, 2⟩]⟩]) (h2 : s.next = 2) : nmB s = true := by
  unfold nmB fF
  rw [h1, h2]
  simp [mr, al_A, isIn]
  decide
theorem al_c2 : bY al2 = 0 := o_.2 ⟨Flag.iA.1 (by kernel_rfl), al_n rfl rfl, Flag.gJ.1 (by kernel_rfl), by kernel_rfl, (List.forall_mem_singleton (a := (⟨1, alA, 4, [⟨0, 0, 2⟩]⟩ : S69))).2 (by kernel_rfl), by kernel_rfl, by decide, by rw [al_u2]; kernel_rfl, by rw [al_u2]; kernel_rfl⟩
theorem al_c3 : bY al3 = 0 := o_.2 ⟨Flag.iA.1 (by kernel_rfl), al_n rfl rfl, Flag.gJ.1 (by kernel_rfl), by kernel_rfl, (List.forall_mem_singleton (a := (⟨1, alA, 4, [⟨0, 0, 2⟩]⟩ : S69))).2 (by kernel_rfl), by kernel_rfl, by decide, by rw [zR]; kernel_rfl, by rw [zR]; kernel_rfl⟩
theorem al_rd : sU al3 1 0 1 = some (alD 1, 0) := by
  unfold sU
  rw [if_pos al_c3]
  kernel_rfl
theorem do_wr (s s1 s' : St) (a : At4) (x : OpV) (Dx : Option Addr) (cx : Nat) (w : World) (hr : Reads w s a) (hD : Kd.C (Kd.int .u8) w Dx x.data.length x.data) (hc : x.data.length ≤ cx) (hw1 : x.what = 1) (hok : bY s = 0) (hsm : Small s) (hmay : may1 s.size x = 0) (K M : Nat)
    (h1 : jZ K M s x.at0 x.data = some (s1, true)) (h2 : gy K s1 = some (s', true)) (hn : s1.snaps.length < 4398046511103) :
    Calls Tryz.prog 27 #[.agg (aN s a), .agg (eD x Dx cx)] w fun e w' => ∃ (a' : At4) (A1 A2 : Option Addr) (c1 c2 : Nat), e = .returned (.tuple #[.agg (aN s' a'), .agg #[.int .i64 0, .slice A1 0 c1, .int .i64 0, .slice A2 0 c2, .int .i64 s'.size]]) ∧ Owns w' w.heap.size (fun _ => True) s' a' ∧ Below w.heap.size w w' := by
  refine (tZ s a x Dx cx w hr (by have := hsm.n2; omega) hok (fun AL cL W hC hl => ?_) hsm s' 0 [] [] (fun w0 W b a2 hb hs => ?_)).mono ?_
  · have h := vg s.size s.next AL cL (fF s) x Dx cx W hD.2.1
    rw [hmay] at h
    rw [hw1]
    exact h
  · rw [hw1]
    refine (wY K M b s a2 x Dx cx s1 true s' true w0 W hs (Kd.bu hD hb) hc hn h1 h2).mono ?_
    rintro e w' ⟨a', rfl, hS⟩
    exact ⟨a', _, _, rfl, hS, Kd.dh _ _ _ _ _, Kd.dh _ _ _ _ _⟩
  · rintro e w' ⟨a', vD, vL, rfl, hO, hRD, hRL, hb⟩
    obtain ⟨A1, c1, rfl⟩ := Kd.bf hRD
    obtain ⟨A2, c2, rfl⟩ := Kd.bf hRL
    exact ⟨a', A1, A2, c1, c2, rfl, hO, hb⟩
theorem do_sn (s s' : St) (a : At4) (x : OpV) (Dx : Option Addr) (cx : Nat) (w : World) (hr : Reads w s a) (hw1 : x.what = 4) (hok : bY s = 0) (hsm : Small s) (hmay : may4 (fF s) s.next x = 0) (K : Nat)
    (h2 : gy K { s with snaps := s.snaps ++ [⟨s.next, x.name, s.size, s.now⟩], next := wrap64 (s.next + 1) } = some (s', true)) :
    Calls Tryz.prog 27 #[.agg (aN s a), .agg (eD x Dx cx)] w fun e w' => ∃ (a' : At4) (A1 A2 : Option Addr) (c1 c2 : Nat), e = .returned (.tuple #[.agg (aN s' a'), .agg #[.int .i64 0, .slice A1 0 c1, .int .i64 s.next, .slice A2 0 c2, .int .i64 s'.size]]) ∧ Owns w' w.heap.size (fun _ => True) s' a' ∧ Below w.heap.size w w' := by
  refine (tZ s a x Dx cx w hr (by have := hsm.n2; omega) hok (fun AL cL W hC hl => ?_) hsm s' s.next [] [] (fun w0 W b a2 hb hs => ?_)).mono ?_
  · have h := xh s.size s.next AL cL (fF s) x Dx cx W hC hl
    rw [hmay] at h
    rw [hw1]
    exact h
  · rw [hw1]
    refine (y9 K b s a2 x Dx cx s' true w0 W hs (by have := hsm.n2; omega) hsm.n1 h2).mono ?_
    rintro e w' ⟨a', rfl, hS⟩
    exact ⟨a', _, _, rfl, hS, Kd.dh _ _ _ _ _, Kd.dh _ _ _ _ _⟩
  · rintro e w' ⟨a', vD, vL, rfl, hO, hRD, hRL, hb⟩
    obtain ⟨A1, c1, rfl⟩ := Kd.bf hRD
    obtain ⟨A2, c2, rfl⟩ := Kd.bf hRL
    exact ⟨a', A1, A2, c1, c2, rfl, hO, hb⟩
theorem qQ (x : OpV) (Dx : Option Addr) (cx : Nat) (w : World) (hD : Kd.C (Kd.int .u8) w Dx x.data.length x.data) (hc : x.data.length ≤ cx) (hl : x.data.length < 140737488355328) :
    Calls Tryz.prog 28 #[.agg (eD x Dx cx)] w fun e w' => ∃ (A : Option Addr) (c : Nat), e = .returned (.agg (eD x A c)) ∧ Kd.R (Kd.int .u8) 5 w' w.heap.size (fun _ => True) (.slice A x.data.length c) x.data ∧ Below w.heap.size w w' := by
  refine (bF.calls x.what x.at0 x.n x.id x.name Dx cx x.data _ _ _ _ _ x.data w hD hc (by unfold bF.f bR.f; rw [if_pos (by simpa using hl)]; rfl)).mono ?_
  rintro e w' ⟨v, rfl, hR, hb⟩
  obtain ⟨A, c, rfl⟩ := Kd.bf hR
  exact ⟨A, c, rfl, hR, hb⟩
theorem xn (c : Int) (w : World) : Calls Tryz.prog 56 #[.int .u8 c] w fun e w' => ∃ (A : Option Addr) (m : Nat), e = .returned (.slice A 64 m) ∧ Kd.R (Kd.int .u8) 5 w' w.heap.size (fun _ => True) (.slice A 64 m) (alD c) ∧ Below w.heap.size w w' := by
  refine (eT.calls c (alD c) w rfl).mono ?_
  rintro e w' ⟨v, rfl, hR, hb⟩
  obtain ⟨A, m, rfl⟩ := Kd.bf hR
  exact ⟨A, m, rfl, hR, hb⟩
theorem Owns.lt {w : World} {base : Nat} {ok : Nat → Prop} {s : St} {a : At4} (h : Owns w base ok s a) : Owns w base (fun k => ok k ∧ base ≤ k ∧ k < w.heap.size) s a :=
  ⟨Kd.aZ (Kd.bQ h.o1) fun _ hk => ⟨hk.1, hk.2.1, hk.2.2.1⟩, Kd.aZ (Kd.bQ h.o2) fun _ hk => ⟨hk.1, hk.2.1, hk.2.2.1⟩, Kd.aZ (Kd.bQ h.o5) fun _ hk => ⟨hk.1, hk.2.1, hk.2.2.1⟩, Kd.aZ (Kd.bQ h.o6) fun _ hk => ⟨hk.1, hk.2.1, hk.2.2.1⟩⟩
theorem Owns.low {w : World} {base base' : Nat} {ok : Nat → Prop} {s : St} {a : At4} (h : Owns w base ok s a) (hb : base' ≤ base) : Owns w base' ok s a := ⟨Kd.bH h.o1 hb, Kd.bH h.o2 hb, Kd.bH h.o5 hb, Kd.bH h.o6 hb⟩
theorem zN {w W : World} {s : St} {a : At4} (hO : Owns W w.heap.size (fun _ => True) s a) (hb : Below w.heap.size w W) : Sits w W.heap.size s a ((W.alloc (.cells NIL7 31)).setRow W.heap.size (aN s a)) := by
  have hbl := (Below.refl W.heap.size W).alloc (Nat.le_refl _) (.cells NIL7 31)
  have hx1 := bB W (.cells NIL7 31)
  exact ⟨setRow_heap _ _ _ _ _ _ hx1, aQ (hb.trans (hbl.mono hb.size)) (g := W.heap.size) hb.size _, hb.size, ((hO.lt.mono (ok' := fun k => k ≠ W.heap.size) fun k hk => by omega).below hbl).step fun k hk _ => setRow_other _ _ k _ hk⟩
theorem mV {w0 w : World} {b1 b : Nat} {s s' : St} {a a' : At4} {t : TypeId} {cur cells : Array Value} (h : Sits w0 b1 s a w) (hO : Owns w w0.heap.size (fun k => k ≠ b1) s' a') (hb : w.heap[b]? = some (.cells cur t (0, 0)))
    (h1 : ∀ q, q ∈ 151 :: k151.E → q ≠ t) (h2 : ∀ q, q ∈ 69 :: k69.E → q ≠ t) (h5 : ∀ q, q ∈ 93 :: k93.E → q ≠ t) (h6 : ∀ q, q ∈ 37 :: kLB.E → q ≠ t) (hne : b ≠ b1) (hbb : w0.heap.size ≤ b) :
    Sits w0 b1 s' a' ((w.setRow b1 (aN s' a')).setRow b cells) ∧ ((w.setRow b1 (aN s' a')).setRow b cells).heap[b]? = some (.cells cells t (0, 0)) := by
  have e1 := setRow_heap w b1 _ (aN s' a') _ _ h.hx
  have e2 := (setRow_other w b1 b (aN s' a') hne).trans hb
  refine ⟨⟨(setRow_other _ b b1 cells (Ne.symm hne)).trans e1, aQ (aQ h.hb h.hbb _) hbb _, h.hbb, ?_⟩, setRow_heap _ b _ cells _ _ e2⟩
  exact (((hO.lX hb h1 h2 h5 h6).step (wf := w.setRow b1 (aN s' a')) (fun k hk _ => setRow_other w b1 k _ hk.1)).step (wf := (w.setRow b1 (aN s' a')).setRow b cells) (fun k hk _ => setRow_other _ b k _ hk.2)).mono fun _ hk => hk.1
theorem mU {w : World} {b1 b k : Nat} {c1 c : Array Value} {o : Option Obj} (h : w.heap[k]? = o) (h1 : k ≠ b1) (h2 : k ≠ b) : ((w.setRow b1 c1).setRow b c).heap[k]? = o := (setRow_other _ b k c h2).trans ((setRow_other w b1 k c1 h1).trans h)
set_option maxHeartbeats 4000000 in
set_option maxRecDepth 100000 in
theorem xu (s : St) (a : At4) (w : World) (hr : Reads w s a) (hn : s.snaps.length < 4398046511103) (hbad : bY s ≠ 0) :
    Calls Tryz.prog 32 #[.agg (aN s a)] w fun e w' => e = .returned (.tuple #[.slice none 0 0, .int .i64 (bY s)]) ∧ Below w.heap.size w w' := by
  have hu31 := Tryz.underlying31
  obtain ⟨W1, hW1⟩ : ∃ W, W = w.alloc (.cells #[.int .i64 s.size, .slice a.A1 s.now.length a.c1, .slice a.A2 s.snaps.length a.c2, .int .i64 s.next, .int .i64 s.fsize, .slice a.A5 s.sp.length a.c5, .slice a.A6 s.data.length a.c6] 31) := ⟨_, rfl⟩
  have hx := (show W1.heap[w.heap.size]? = some (.cells #[.int .i64 s.size, .slice a.A1 s.now.length a.c1, .slice a.A2 s.snaps.length a.c2, .int .i64 s.next, .int .i64 s.fsize, .slice a.A5 s.sp.length a.c5, .slice a.A6 s.data.length a.c6] 31 (0, 0)) by rw [hW1]; exact bB w _)
  have HB1 := aa.mk (show Below w.heap.size w W1 by rw [hW1]; exact (Below.refl _ _).alloc (Nat.le_refl _) _)
  have HCK := aa.mk (bT.calls s a (bY s) W1 (hr.below HB1.out) (by unfold bT.f; rw [if_pos hn]))
  have q0 := (ae hx 0).trans rfl
  have q1 := (ae hx 1).trans rfl
  have q2 := (ae hx 2).trans rfl
  have q3 := (ae hx 3).trans rfl
  have q4 := (ae hx 4).trans rfl
  have q5 := (ae hx 5).trans rfl
  have q6 := (ae hx 6).trans rfl
  rw [hW1] at q0 q1 q2 q3 q4 q5 q6
  have hbn : (bY s != 0) = true := bne_iff_ne.mpr hbad
  obtain ⟨r, hr9⟩ : ∃ r, r = bY s := ⟨_, rfl⟩
  rw [← hr9] at HCK hbn ⊢
  clear hr hn hbad hr9 hx
  unfold aN
  go_enter Tryz.func32, Tryz.ntmps32
  go_wp2_with fail
  rw [← hW1]
  clear hW1 q0 q1 q2 q3 q4 q5 q6
  refine HCK.out.mono ?_
  rintro e w2 ⟨rfl, hb⟩
  have HB2 := aa.mk (HB1.out.trans (hb.mono HB1.out.size))
  clear hb HCK HB1
  go_wp2_with fail
  go_ret2
  exact ⟨rfl, HB2.out⟩
def NIL3 : Array Value := #[.slice none 0 0, .slice none 0 0, .int .i64 0]
set_option maxHeartbeats 4000000 in
set_option maxRecDepth 100000 in
theorem vO (s : St) (a : At4) (w : World) (hr : Reads w s a) (hn : s.snaps.length < 4398046511103) (hbad : bY s ≠ 0) :
    Calls Tryz.prog 42 #[.agg (aN s a)] w fun e w' => e = .returned (.tuple #[.agg NIL3, .int .i64 (bY s)]) ∧ Below w.heap.size w w' := by
  have hu31 := Tryz.underlying31
  have hu98 := Tryz.underlying98
  obtain ⟨W1, hW1⟩ : ∃ W, W = w.alloc (.cells #[.int .i64 s.size, .slice a.A1 s.now.length a.c1, .slice a.A2 s.snaps.length a.c2, .int .i64 s.next, .int .i64 s.fsize, .slice a.A5 s.sp.length a.c5, .slice a.A6 s.data.length a.c6] 31) := ⟨_, rfl⟩
  obtain ⟨W2, hW2⟩ : ∃ W, W = W1.alloc (.cells NIL3 98) := ⟨_, rfl⟩
  have hb1 : Below w.heap.size w W1 := by rw [hW1]; exact (Below.refl _ _).alloc (Nat.le_refl _) _
  have hb2 : Below W1.heap.size W1 W2 := by rw [hW2]; exact (Below.refl _ _).alloc (Nat.le_refl _) _
  have hx1 := (show W1.heap[w.heap.size]? = some (.cells #[.int .i64 s.size, .slice a.A1 s.now.length a.c1, .slice a.A2 s.snaps.length a.c2, .int .i64 s.next, .int .i64 s.fsize, .slice a.A5 s.sp.length a.c5, .slice a.A6 s.data.length a.c6] 31 (0, 0)) by rw [hW1]; exact bB w _)
  have hx := (hb2.block _ (aA hx1)).trans hx1
  obtain ⟨b2, hb2e⟩ : ∃ k, k = w.heap.size + 1 := ⟨_, rfl⟩
  have HX2 := aa.mk (show W2.heap[b2]? = some (.cells NIL3 98 (0, 0)) by rw [hW2, hb2e, (show w.heap.size + 1 = W1.heap.size by rw [hW1]; simp)]; exact bB W1 _)
  have HB1 := aa.mk (hb1.trans (hb2.mono hb1.size))
  have HE := aa.mk (show w.heap.size ≤ b2 by omega)
  have HCK := aa.mk (bT.calls s a (bY s) W2 (hr.below HB1.out) (by unfold bT.f; rw [if_pos hn]))
  have q0 := (ae hx 0).trans rfl
  have q1 := (ae hx 1).trans rfl
  have q2 := (ae hx 2).trans rfl
  have q3 := (ae hx 3).trans rfl
  have q4 := (ae hx 4).trans rfl
  have q5 := (ae hx 5).trans rfl
  have q6 := (ae hx 6).trans rfl
  have hN3 : NIL3 = #[.slice none 0 0, .slice none 0 0, .int .i64 0] := rfl
  rw [hN3] at hW2
  rw [hW2, hW1] at q0 q1 q2 q3 q4 q5 q6
  rw [hW1] at hW2
  have hbn : (bY s != 0) = true := bne_iff_ne.mpr hbad
  obtain ⟨r, hr9⟩ : ∃ r, r = bY s := ⟨_, rfl⟩
  rw [← hr9] at HCK hbn ⊢
  clear hr hn hbad hr9 hx hx1 hb1 hb2
  unfold aN
  go_enter Tryz.func42, Tryz.ntmps42
  go_wp2_with fail
  rw [← hW2, ← hb2e]
  clear hW2 hW1 q0 q1 q2 q3 q4 q5 q6 hb2e
  refine HCK.out.mono ?_
  rintro e w2 ⟨rfl, hb⟩
  have HB2 := aa.mk (HB1.out.trans (hb.mono HB1.out.size))
  have HX := aa.mk ((hb.block _ (aA HX2.out)).trans HX2.out)
  clear hb HCK HB1 HX2
  go_wp2_with (refine ji (.store 98 (.tmp 2) (.tmp 12)) rfl ?_; refine jh ?_)
  refine ⟨?_⟩
  refine dm b2 NIL3 HX.out ?_ (h1 := by simp [Value.oneCell', NIL3])
  have hx4 := setRow_heap w2 b2 _ NIL3 _ _ HX.out
  have HB4 := aa.mk (aQ HB2.out (g := b2) HE.out NIL3)
  generalize w2.setRow b2 NIL3 = w4 at hx4 HB4 ⊢
  go_wp2
  (try simp only [Exit.inBlock, Exit.then])
  refine bodyPost_ret (bO rfl _ _ b2 98 NIL3 (0, 0) _ rfl hx4 Tryz.underlying98 rfl (by kernel_rfl)) rfl ?_
  exact ⟨rfl, HB4.out⟩
def nM (n : Int) : List S93 := if n > 0 then [⟨0, n⟩] else []
def nX (size room : Int) : Bool := decide (room < 0) || (decide (room > 65536) || (decide (size < 0) || decide (size > 65536)))
def nilV : St := ⟨0, [], [], 0, 0, [], []⟩
def newV (size room : Int) : St × Int := if nX size room = true then (nilV, 4) else (⟨size, [], [], 1, room, nM room, List.replicate room.toNat alZ⟩, 0)
theorem fnew_f (k : Nat) (n : Int) : dx.f (k + 1) n = some (if n < 0 ∨ n > 65536 then (0, [], 4) else (n, nM n, 0)) := by
  unfold dx.f nM
  by_cases c1 : n < 0
  · rw [if_pos c1, dx.j0, if_pos rfl, if_pos (Or.inl c1)]
  · rw [if_neg c1, dx.j0]
    by_cases c2 : n > 65536
    · rw [decide_eq_true c2, if_pos rfl, if_pos (Or.inr c2)]
    · rw [decide_eq_false c2, if_neg (by decide)]
      by_cases c3 : n > 0
      · rw [if_pos c3, if_neg (show ¬ (n < 0 ∨ n > 65536) by omega), if_pos c3]
      · rw [if_neg c3, if_neg (show ¬ (n < 0 ∨ n > 65536) by omega), if_neg c3]
def zX : At4 := ⟨none, 0, none, 0, none, 0, none, 0⟩
theorem Sits.wH {w0 w w1 : World} {b : Nat} {s : St} {a : At4} (h : Sits w0 b s a w) (l : List (List Int)) (A : Option Addr) (c : Nat) (hR : Kd.R kLB 37 w1 w0.heap.size (fun k => k ≠ b) (.slice A l.length c) l) (hB : Below w0.heap.size w0 w1)
    (hg : w.grownBy w1 (Value.slice a.A6 s.data.length a.c6).ownBlock) : Sits w0 b { s with data := l } { a with A6 := A, c6 := c } (w1.setCell ⟨b, 6, none⟩ (.slice A l.length c)) := by
  have h6 := h.own.o6
  have hb6 : some b ≠ (Value.slice a.A6 s.data.length a.c6).ownBlock := fun e => h6.1 b e.symm rfl
  have hx1 : w1.heap[b]? = some (.cells (aN s a) 31 (0, 0)) := (hg.block b (aA h.hx) hb6).trans h.hx
  have o1 := Kd.aZ (ok' := fun k => k ≠ b) (Kd.j4 (Kd.d_ h.own.o1 h6 (by decide)) hg (fun k hk => hk.2)) (fun k hk => hk.1)
  have o2 := Kd.aZ (ok' := fun k => k ≠ b) (Kd.j4 (Kd.d_ h.own.o2 h6 (by decide)) hg (fun k hk => hk.2)) (fun k hk => hk.1)
  have o5 := Kd.aZ (ok' := fun k => k ≠ b) (Kd.j4 (Kd.d_ h.own.o5 h6 (by decide)) hg (fun k hk => hk.2)) (fun k hk => hk.1)
  have hf : ∀ k, k ≠ b → k < w1.heap.size → (w1.setCell ⟨b, 6, none⟩ (.slice A l.length c)).heap[k]? = w1.heap[k]? := fun k hk _ => Below.heap_setCell w1 ⟨b, 6, none⟩ _ k hk
  exact ⟨aW hx1 6 _ rfl, hB.setCell (p := ⟨b, 6, none⟩) h.hbb _, h.hbb, ⟨Kd.bZ o1 hf, Kd.bZ o2 hf, Kd.bZ o5 hf, Kd.bZ hR hf⟩⟩
def nw_T7 : Bool × List (List Nat × List Nat) := (true, [([], []), ([0], [0]), ([], []), ([2], [2]), ([1, 3], [1, 3]), ([0, 1, 2, 3, 4], []), ([5, 4, 4, 0, 1, 2, 3, 4], [4, 5])])
def nw_B7 : List Nat := [0, 1, 0, 4, 15, 31, 63]
theorem zS : rtab .any (opsOf Tryz.f35 7) = nw_T7 := by kernel_rfl
theorem wZ : dA nw_T7.2 nw_B7 = true := by kernel_rfl
set_option maxHeartbeats 16000000 in
set_option maxRecDepth 100000 in
theorem new_v (size room : Int) (w : World) : Calls Tryz.prog 35 #[.int .i64 size, .int .i64 room] w fun e w' => ∃ a, e = .returned (.tuple #[.agg (aN (newV size room).1 a), .int .i64 (newV size room).2]) ∧ Owns w' w.heap.size (fun _ => True) (newV size room).1 a ∧ Below w.heap.size w w' := by
  have hu31 := Tryz.underlying31
  have hu28 := Tryz.underlying28
  obtain ⟨b4, hb4⟩ : ∃ k, k = w.heap.size := ⟨_, rfl⟩
  obtain ⟨W1, hW1⟩ : ∃ W, W = w.alloc (.cells NIL7 31) := ⟨_, rfl⟩
  have HX4 := aa.mk (show W1.heap[b4]? = some (.cells NIL7 31 (0, 0)) by rw [hW1, hb4]; exact bB w _)
  have HB1 := aa.mk (show Below w.heap.size w W1 by rw [hW1]; exact (Below.refl _ _).alloc (Nat.le_refl _) _)
  have HE4 := aa.mk (show w.heap.size ≤ b4 by omega)
  have HFN := aa.mk (fun r1 r2 r3 (h : dx.f (0 + 1) room = some (r1, r2, r3)) => dx.calls (0 + 1) room r1 r2 r3 W1 h)
  rw [fnew_f] at HFN
  have hN7 : NIL7 = #[.int .i64 0, .slice none 0 0, .slice none 0 0, .int .i64 0, .int .i64 0, .slice none 0 0, .slice none 0 0] := rfl
  rw [hN7] at hW1
  go_enter Tryz.func35, Tryz.ntmps35
  go_wp2_with fail
  rw [← hW1, ← hb4]
  clear hW1 hb4
  by_cases c1 : room < 0 ∨ room > 65536
  · have HNV := aa.mk (show newV size room = (nilV, 4) by
      unfold newV nX
      rw [if_pos]
      rcases c1 with c1 | c1 <;> simp [c1])
    rw [if_pos c1] at HFN
    refine (HFN.out _ _ _ rfl).mono ?_
    rintro e w2 ⟨v, rfl, hR, hb⟩
    obtain ⟨A1, m1, rfl⟩ := Kd.bf hR
    have HX := aa.mk ((hb.block _ (aA HX4.out)).trans HX4.out)
    have HB := aa.mk (HB1.out.trans (hb.mono HB1.out.size))
    clear hR hb HX4 HB1 HFN c1
    go_wp2_with (refine ji (.store 28 (.tmp 6) (.tmp 12)) rfl ?_; refine jh ?_)
    refine ⟨?_⟩
    have hb2 := (Below.refl w2.heap.size w2).alloc (Nat.le_refl _) (.cells #[.int .i64 0, .slice none 0 0] 28)
    refine dm w2.heap.size #[.int .i64 0, .slice A1 0 m1] (bB w2 _) ?_
    have HX3 := aa.mk ((setRow_other _ w2.heap.size b4 #[.int .i64 0, .slice A1 0 m1] (by have := aA HX.out; omega)).trans ((hb2.block _ (aA HX.out)).trans HX.out))
    have HB3 := aa.mk (aQ (HB.out.trans (hb2.mono HB.out.size)) (g := w2.heap.size) HB.out.size #[.int .i64 0, .slice A1 0 m1])
    clear hb2 HX HB
    generalize (w2.alloc (.cells #[.int .i64 0, .slice none 0 0] 28)).setRow w2.heap.size #[.int .i64 0, .slice A1 0 m1] = w3 at HX3 HB3 ⊢
    go_wp2_with (refine ji (.store 31 (.tmp 4) (.tmp 24)) rfl ?_; refine jh ?_)
    refine ⟨?_⟩
    refine dm b4 NIL7 HX3.out ?_ (h1 := by simp [Value.oneCell', NIL7])
    have hx4 := setRow_heap w3 b4 _ NIL7 _ _ HX3.out
    have HB4 := aa.mk (aQ HB3.out (g := b4) HE4.out NIL7)
    generalize w3.setRow b4 NIL7 = w4 at hx4 HB4 ⊢
    go_wp2
    (try simp only [Exit.inBlock, Exit.then])
    refine bodyPost_ret (bO rfl _ _ b4 31 NIL7 (0, 0) _ rfl hx4 Tryz.underlying31 rfl (by kernel_rfl)) rfl ?_
    rw [HNV.out]
    exact ⟨zX, rfl, ⟨Kd.dh _ _ _ _ _, Kd.dh _ _ _ _ _, Kd.dh _ _ _ _ _, Kd.dh _ _ _ _ _⟩, HB4.out⟩
  rw [if_neg c1] at HFN
  refine (HFN.out _ _ _ rfl).mono ?_
  rintro e w2 ⟨v, rfl, hR, hb⟩
  obtain ⟨A1, m1, rfl⟩ := Kd.bf hR
  have HX := aa.mk ((hb.block _ (aA HX4.out)).trans HX4.out)
  have HB := aa.mk (HB1.out.trans (hb.mono HB1.out.size))
  have HRM := aa.mk c1
  have HSPN := aa.mk (Kd.bH hR HB1.out.size)
  clear hR hb HX4 HB1 HFN c1
  obtain ⟨L, hL⟩ : ∃ l, l = nM room := ⟨_, rfl⟩
  rw [← hL] at HSPN ⊢
  have HL := aa.mk hL
  clear hL
  go_wp2_with (refine ji (.store 28 (.tmp 6) (.tmp 12)) rfl ?_; refine jh ?_)
  refine ⟨?_⟩
  have hb2 := (Below.refl w2.heap.size w2).alloc (Nat.le_refl _) (.cells #[.int .i64 0, .slice none 0 0] 28)
  refine dm w2.heap.size #[.int .i64 room, .slice A1 L.length m1] (bB w2 _) ?_
  have HX3 := aa.mk ((setRow_other _ w2.heap.size b4 #[.int .i64 room, .slice A1 L.length m1] (by have := aA HX.out; omega)).trans ((hb2.block _ (aA HX.out)).trans HX.out))
  have HX6 := aa.mk (setRow_heap (w2.alloc (.cells #[.int .i64 0, .slice none 0 0] 28)) w2.heap.size _ #[.int .i64 room, .slice A1 L.length m1] _ _ (bB w2 _))
  have HB3 := aa.mk (aQ (HB.out.trans (hb2.mono HB.out.size)) (g := w2.heap.size) HB.out.size #[.int .i64 room, .slice A1 L.length m1])
  have HSP3 := aa.mk (Kd.bZ (dJ (Kd.bD HSPN.out hb2) (bB w2 _) (by decide)) (w1 := (w2.alloc (.cells #[.int .i64 0, .slice none 0 0] 28)).setRow w2.heap.size #[.int .i64 room, .slice A1 L.length m1]) (fun k hk _ => setRow_other _ w2.heap.size k _ hk.2))
  obtain ⟨b6, hb6⟩ : ∃ k, k = w2.heap.size := ⟨_, rfl⟩
  rw [← hb6] at HX3 HX6 HB3 HSP3 ⊢
  have HE6 := aa.mk (show b6 ≠ b4 by have := aA HX.out; omega)
  clear hb2 HX HB HSPN hb6
  generalize (w2.alloc (.cells #[.int .i64 0, .slice none 0 0] 28)).setRow b6 #[.int .i64 room, .slice A1 L.length m1] = w3 at HX3 HX6 HB3 HSP3 ⊢
  by_cases c2 : size < 0
  · have HNV := aa.mk (show newV size room = (nilV, 4) by unfold newV nX; rw [if_pos]; simp [c2])
    have d2 : decide (size < 0) = true := decide_eq_true c2
    clear c2
    go_wp2_with (refine ji (.store 31 (.tmp 4) (.tmp 24)) rfl ?_; refine jh ?_)
    refine ⟨?_⟩
    refine dm b4 NIL7 HX3.out ?_ (h1 := by simp [Value.oneCell', NIL7])
    have hx4 := setRow_heap w3 b4 _ NIL7 _ _ HX3.out
    have HB4 := aa.mk (aQ HB3.out (g := b4) HE4.out NIL7)
    generalize w3.setRow b4 NIL7 = w4 at hx4 HB4 ⊢
    go_wp2
    (try simp only [Exit.inBlock, Exit.then])
    refine bodyPost_ret (bO rfl _ _ b4 31 NIL7 (0, 0) _ rfl hx4 Tryz.underlying31 rfl (by kernel_rfl)) rfl ?_
    rw [HNV.out]
    exact ⟨zX, rfl, ⟨Kd.dh _ _ _ _ _, Kd.dh _ _ _ _ _, Kd.dh _ _ _ _ _, Kd.dh _ _ _ _ _⟩, HB4.out⟩
  have d2 : decide (size < 0) = false := decide_eq_false c2
  by_cases c3 : size > 65536
  · have HNV := aa.mk (show newV size room = (nilV, 4) by unfold newV nX; rw [if_pos]; simp [c3])
    have d3 : decide (65536 < size) = true := decide_eq_true c3
    clear c2 c3
    go_wp2_with (refine ji (.store 31 (.tmp 4) (.tmp 24)) rfl ?_; refine jh ?_)
    refine ⟨?_⟩
    refine dm b4 NIL7 HX3.out ?_ (h1 := by simp [Value.oneCell', NIL7])
    have hx4 := setRow_heap w3 b4 _ NIL7 _ _ HX3.out
    have HB4 := aa.mk (aQ HB3.out (g := b4) HE4.out NIL7)
    generalize w3.setRow b4 NIL7 = w4 at hx4 HB4 ⊢
    go_wp2
    (try simp only [Exit.inBlock, Exit.then])
    refine bodyPost_ret (bO rfl _ _ b4 31 NIL7 (0, 0) _ rfl hx4 Tryz.underlying31 rfl (by kernel_rfl)) rfl ?_
    rw [HNV.out]
    exact ⟨zX, rfl, ⟨Kd.dh _ _ _ _ _, Kd.dh _ _ _ _ _, Kd.dh _ _ _ _ _, Kd.dh _ _ _ _ _⟩, HB4.out⟩
  have d3 : decide (65536 < size) = false := decide_eq_false c3
  have HNV := aa.mk (show newV size room = (⟨size, [], [], 1, room, L, List.replicate room.toNat alZ⟩, 0) by
    have := HRM.out
    unfold newV nX
    rw [if_neg (by simp; omega), HL.out])
  clear c2 c3 HL
  have q0 := (ae HX6.out 0).trans rfl
  have q1 := (ae HX6.out 1).trans rfl
  go_wp2_with (refine ji (.store 31 (.tmp 8) (.tmp 27)) rfl ?_; refine jh ?_)
  refine ⟨?_⟩
  clear q0 q1
  obtain ⟨b, hbb⟩ : ∃ k, k = w3.heap.size := ⟨_, rfl⟩
  obtain ⟨W4, hW4⟩ : ∃ W, W = w3.alloc (.cells #[.int .i64 0, .slice none 0 0, .slice none 0 0, .int .i64 0, .int .i64 0, .slice none 0 0, .slice none 0 0] 31) := ⟨_, rfl⟩
  have hb4 : Below w3.heap.size w3 W4 := by rw [hW4]; exact (Below.refl _ _).alloc (Nat.le_refl _) _
  have hx8 : W4.heap[b]? = some (.cells NIL7 31 (0, 0)) := by rw [hW4, hbb]; exact bB w3 _
  rw [← hW4, ← hbb]
  refine dm b #[.int .i64 size, .slice none 0 0, .slice none 0 0, .int .i64 1, .int .i64 room, .slice A1 L.length m1, .slice none 0 0] hx8 ?_
  have HE8 := aa.mk (show b ≠ b4 ∧ w.heap.size ≤ b from ⟨by have := aA HX3.out; omega, by have := HB3.out.size; omega⟩)
  have HX4 := aa.mk ((setRow_other W4 b b4 #[.int .i64 size, .slice none 0 0, .slice none 0 0, .int .i64 1, .int .i64 room, .slice A1 L.length m1, .slice none 0 0] (Ne.symm HE8.out.1)).trans ((hb4.block _ (aA HX3.out)).trans HX3.out))
  have HS := aa.mk (show Sits w b ⟨size, [], [], 1, room, L, []⟩ ⟨none, 0, none, 0, A1, m1, none, 0⟩ (W4.setRow b #[.int .i64 size, .slice none 0 0, .slice none 0 0, .int .i64 1, .int .i64 room, .slice A1 L.length m1, .slice none 0 0]) from
    ⟨setRow_heap W4 b _ _ _ _ hx8, aQ (HB3.out.trans (hb4.mono HB3.out.size)) (g := b) HE8.out.2 _, HE8.out.2, ⟨Kd.dh _ _ _ _ _, Kd.dh _ _ _ _ _, Kd.bZ (Kd.aZ (ok' := fun k => k ≠ b) (Kd.bQ (Kd.bD HSP3.out hb4)) (fun k hk => by
      rintro rfl
      have hlt := Kd.R_lt HSP3.out
      obtain ⟨h1, h2, h3, q, hq, cells, hc⟩ := hk
      rw [hx8] at hc
      injection hc with hc
      injection hc with _ hc2 _
      revert hc2
      revert q
      decide)) (fun k hk _ => setRow_other W4 b k _ hk), Kd.dh _ _ _ _ _⟩⟩)
  clear HX3 HSP3 HB3 hb4 hx8 hW4 hbb HX6 HE6
  generalize W4.setRow b #[.int .i64 size, .slice none 0 0, .slice none 0 0, .int .i64 1, .int .i64 room, .slice A1 L.length m1, .slice none 0 0] = w5 at HX4 HS ⊢
  go_wp2_with fail
  go_loopg [29] room.toNat (fun gk v29 W => ∃ (i : Nat) (a : At4), v29 = .int .i64 (i : Int) ∧ aa (i + gk = room.toNat) ∧ aa (Sits w b ⟨size, [], [], 1, room, L, List.replicate i alZ⟩ a W) ∧ aa (W.heap[b4]? = some (.cells NIL7 31 (0, 0))))
  case atStart => exact ⟨0, _, rfl, ⟨by omega⟩, HS, HX4⟩
  case round =>
    obtain ⟨i, a, rfl, HI, HS, HX4⟩ := hrel
    cases gk with
    | zero =>
      have hz : decide ((i : Int) < room) = false := decide_eq_false (by have := HI.out; have := HRM.out; omega)
      have HIR := aa.mk (show i = room.toNat by have := HI.out; omega)
      clear HI
      have hx := HS.out.hx
      unfold aN at hx
      have q0 := (ae hx 0).trans rfl
      have q1 := (ae hx 1).trans rfl
      have q2 := (ae hx 2).trans rfl
      have q3 := (ae hx 3).trans rfl
      have q4 := (ae hx 4).trans rfl
      have q5 := (ae hx 5).trans rfl
      have q6 := (ae hx 6).trans rfl
      clear hx
      go_wp2_with (refine ji (.store 31 (.tmp 4) (.tmp 38)) rfl ?_; refine jh ?_)
      refine ⟨?_⟩
      refine dm b4 #[.int .i64 size, .slice a.A1 0 a.c1, .slice a.A2 0 a.c2, .int .i64 1, .int .i64 room, .slice a.A5 L.length a.c5, .slice a.A6 i a.c6] HX4.out ?_
      have hx4 := setRow_heap wr b4 _ #[.int .i64 size, .slice a.A1 0 a.c1, .slice a.A2 0 a.c2, .int .i64 1, .int .i64 room, .slice a.A5 L.length a.c5, .slice a.A6 i a.c6] _ _ HX4.out
      have HB4 := aa.mk (aQ HS.out.hb (g := b4) HE4.out #[.int .i64 size, .slice a.A1 0 a.c1, .slice a.A2 0 a.c2, .int .i64 1, .int .i64 room, .slice a.A5 L.length a.c5, .slice a.A6 i a.c6])
      have HO := aa.mk ((HS.out.own.lX HX4.out (by decide) (by decide) (by decide) (by decide)).step (wf := wr.setRow b4 #[.int .i64 size, .slice a.A1 0 a.c1, .slice a.A2 0 a.c2, .int .i64 1, .int .i64 room, .slice a.A5 L.length a.c5, .slice a.A6 i a.c6]) (fun k hk _ => setRow_other _ b4 k _ hk.2))
      clear q0 q1 q2 q3 q4 q5 q6 HS hz
      generalize wr.setRow b4 #[.int .i64 size, .slice a.A1 0 a.c1, .slice a.A2 0 a.c2, .int .i64 1, .int .i64 room, .slice a.A5 L.length a.c5, .slice a.A6 i a.c6] = w7 at hx4 HB4 HO ⊢
      go_wp2
      (try simp only [Exit.inBlock, Exit.then])
      refine bodyPost_ret (bO rfl _ _ b4 31 _ (0, 0) _ rfl hx4 Tryz.underlying31 rfl (by kernel_rfl)) rfl ?_
      rw [HNV.out, ← HIR.out]
      exact ⟨a, by unfold aN; simp, ⟨Kd.aZ HO.out.o1 (fun _ _ => trivial), Kd.aZ HO.out.o2 (fun _ _ => trivial), Kd.aZ HO.out.o5 (fun _ _ => trivial), Kd.aZ HO.out.o6 (fun _ _ => trivial)⟩, HB4.out⟩
    | succ gk =>
      have hz : decide ((i : Int) < room) = true := decide_eq_true (by have := HI.out; have := HRM.out; omega)
      have hl : (List.replicate i alZ).length = i := List.length_replicate
      go_wp2_with fail
      have hx := HS.out.hx
      unfold aN at hx
      rw [hl] at hx
      refine dH (n := 7) (S := fun w' => w'.cell? ⟨b, 0, none⟩ = some (.int .i64 size) ∧ w'.cell? ⟨b, 6, none⟩ = some (.slice a.A6 i a.c6)) (ds := [6]) (lb 7 0) (by kernel_rfl) rfl (by kernel_rfl) ⟨(ae hx 0).trans rfl, (ae hx 6).trans rfl⟩ (fun hHeld => ?_)
      refine bG zS wZ (fun HT_ HW_ => ?_)
      have HS1 := aa.mk (HS.out.below (aV (Below.refl _ _)))
      have HX1 := aa.mk (show wr.drew.heap[b4]? = _ from HX4.out)
      clear hx HS HX4 hz
      generalize wr.drew = w1 at hHeld HS1 HX1 ⊢
      refine pu_ 0 31 7 1 ?_
      refine tk_ 1 32 7 3 ?_
      refine on_ 2 33 7 7 (fun K hK => ?_)
      refine Kd.p8 (Kd.int .u8) w1.heap.size 5 (by rfl) (N := 33) rfl 37 _ _ rfl 64 rfl rfl Tryz.underlying37 (.int .u8 0) 1 info5 rfl (by decide) (by omega) 0 (ok := fun _ => True) (okp := fun _ => True) rfl (fun _ hk => hk) trivial (by omega) (by decide) (Below.refl _ _) (Nat.le_refl _) ?_
      intro v w2 hR hb hg_ hnew_
      obtain ⟨N, dn, rfl⟩ := Kd.bf hR
      have HS2 := aa.mk (HS1.out.below hb)
      have HX2 := aa.mk ((hb.block _ (aA HX1.out)).trans HX1.out)
      have HN2 := aa.mk (show Kd.R (Kd.int .u8) 5 w2 w.heap.size (fun k => k ≠ b ∧ some k ≠ (Value.slice a.A6 (List.replicate i alZ).length a.c6).ownBlock) (.slice N alZ.length dn) alZ from Kd.bH (Kd.aZ (Kd.bQ hR) (fun k hk => ⟨by have := hk.2.1; have := aA HS1.out.hx; omega, fun e => by have := Kd.R_lt HS1.out.own.o6 k e.symm; have := hk.2.1; omega⟩)) HS1.out.hb.size)
      have hx := HS2.out.hx
      unfold aN at hx
      rw [hl] at hx
      refine hK.out _ _ ⟨(ae hx 0).trans rfl, (ae hx 6).trans rfl⟩ (fun hHeld => ?_)
      clear hK K hb hg_ hnew_ hR hx HS1 HX1
      refine nm_ 33 ?_
      refine on_ 3 34 7 15 (fun K hK => ?_)
      refine oZ (N := some 34) (v := .slice (some ⟨w2.heap.size, 0, none⟩) 1 1) (w1 := w2.alloc (.cells #[.slice N 64 dn] 37)) (by rfl) rfl (by first | (go_simp; done) | (go_simp; rfl)) ?_
      have hb := (Below.refl w2.heap.size w2).alloc (Nat.le_refl _) (.cells #[.slice N 64 dn] 37)
      have hx := (HS2.out.below hb).hx
      unfold aN at hx
      rw [hl] at hx
      refine hK.out _ _ ⟨(ae hx 0).trans rfl, (ae hx 6).trans rfl⟩ (fun hHeld => ?_)
      clear hK K hb hx
      refine nm_ 34 ?_
      refine on_ 4 35 7 31 (fun K hK => ?_)
      refine Kd.gG kLB (w0 := w) w.heap.size (by rfl) (.tmp 32) (.tmp 34) 29 37 (.slice none 0 0) 24 rfl Tryz.underlying29 info37 rfl (by decide) (by omega) (.slice a.A6 i a.c6) (List.replicate i alZ) alZ [.slice N alZ.length dn] (fun k => k ≠ b) (fun k => k ≠ b ∧ some k ≠ (Value.slice a.A6 (List.replicate i alZ).length a.c6).ownBlock) rfl rfl (Kd.M_row HN2.out) (fun k hk => by rw [hl] at hk; exact hk) (fun k hk => by have := aA HS2.out.hx; omega) (by have := HS2.out.own.o6; rw [hl] at this; exact this) HS2.out.hb HS2.out.hb.size (by rw [hl]; have := HI.out; have := HRM.out; omega) ?_
      intro v w7 hR hB hg hat
      have e1 : List.replicate i alZ ++ [alZ] = List.replicate (i + 1) alZ := List.replicate_succ'.symm
      have hl1 : (List.replicate (i + 1) alZ).length = i + 1 := List.length_replicate
      rw [e1] at hR
      obtain ⟨A6', c6', rfl⟩ := Kd.bf hR
      have h6 := HS2.out.own.o6
      rw [hl] at h6
      have hbn : some b ≠ (Value.slice a.A6 i a.c6).ownBlock := fun e => h6.1 b e.symm rfl
      have hxn : some b4 ≠ (Value.slice a.A6 i a.c6).ownBlock := fun e => (dJ h6 HX2.out (by decide)).1 b4 e.symm |>.2 rfl
      have hx := (hg.block b (aA HS2.out.hx) hbn).trans HS2.out.hx
      unfold aN at hx
      rw [hl] at hx
      have HBX := aa.mk hx
      have HS8 := aa.mk (HS2.out.wH _ A6' c6' hR hB (by rw [hl]; exact hg))
      have HX8 := aa.mk ((Below.heap_setCell w7 ⟨b, 6, none⟩ (.slice A6' (List.replicate (i + 1) alZ).length c6') b4 (Ne.symm HE8.out.1)).trans ((hg.block b4 (aA HX2.out) hxn).trans HX2.out))
      rw [hl1] at HX8 HS8 ⊢
      refine hK.out _ _ ⟨(ae hx 0).trans rfl, (ae hx 6).trans rfl⟩ (fun hHeld => ?_)
      clear hK K h6 hbn hxn hx hat hg hB hR HS2 HX2 HN2
      refine nm_ 35 ?_
      refine pu_ 5 36 7 63 ?_
      have hbx := HBX.out
      have hfz := ak hbx 6
      have q6 := (ae hbx 6).trans rfl
      refine jW (i := 6) (N := none) #[yT,yT,yT,yT,yT,yT,yT] rfl rfl (dF HT_.out (by kernel_rfl)) (by decide) (fun K hK => ?_)
      refine iQ (w1 := w7.setCell ⟨b, 6, none⟩ (.slice A6' (i + 1) c6')) (by rfl) rfl ?_ ?_
      · go_simp
      refine hK.out _ _ ?_
      clear hK K hHeld hfz q6 hbx HBX
      refine fu (bW HT_.out (by kernel_rfl)) ?_
      clear HT_ HW_
      generalize w7.setCell ⟨b, 6, none⟩ (.slice A6' (i + 1) c6') = w8 at HS8 HX8 ⊢
      go_wp2_with fail
      go_roundg gk
      case measure => omega
      case rel => exact ⟨i + 1, _, by have h1 := HI.out; have h2 := HRM.out; rw [w64 (by omega)]; rfl, ⟨by have := HI.out; omega⟩, HS8, HX8⟩
def al_T2 : Bool × List (List Nat × List Nat) := (true, [([], []), ([], []), ([1], []), ([1, 2, 2], [1, 2]), ([3], [3]), ([4, 3], [4]), ([0, 5, 5], [0, 5]), ([6], [6]), ([7], [7]), ([7], [7]), ([], []), ([8, 6, 0, 1, 2, 3, 4, 5, 6, 7, 8, 10], [8]), ([10, 9, 11, 0, 1, 2, 3, 4, 5, 6, 7, 8, 9, 10, 11], [9, 10])])
def al_B2 : List Nat := [0, 0, 2, 6, 14, 30, 63, 127, 255, 255, 0, 1535, 4095]
theorem zb : rtab .any (opsOf Tryz.f19 2) = al_T2 := by kernel_rfl
theorem v_ : dA al_T2.2 al_B2 = true := by kernel_rfl
def al_T3 : Bool × List (List Nat × List Nat) := (true, [([], []), ([], []), ([1], [1]), ([0, 2, 2], [0, 2]), ([3], [3]), ([4], [4]), ([4], [4]), ([], []), ([5, 3, 0, 1, 2, 3, 4, 5, 7], [5]), ([7, 6, 8, 0, 1, 2, 3, 4, 5, 6, 7, 8], [6, 7])])
def al_B3 : List Nat := [0, 0, 2, 7, 15, 31, 31, 0, 191, 511]
theorem za : rtab .any (opsOf Tryz.f19 3) = al_T3 := by kernel_rfl
theorem wh : dA al_T3.2 al_B3 = true := by kernel_rfl
def al_T4 : Bool × List (List Nat × List Nat) := (true, [([], []), ([], []), ([1], [1]), ([2, 1], [2]), ([0, 3, 3], [0, 3]), ([4], [4]), ([5], [5]), ([5], [5]), ([], []), ([6, 4, 0, 1, 2, 3, 4, 5, 6, 8], [6]), ([8, 7, 9, 0, 1, 2, 3, 4, 5, 6, 7, 8, 9], [7, 8])])
def al_B4 : List Nat := [0, 0, 2, 6, 15, 31, 63, 63, 0, 383, 1023]
theorem zi : rtab .any (opsOf Tryz.f19 4) = al_T4 := by kernel_rfl
theorem wX : dA al_T4.2 al_B4 = true := by kernel_rfl
def al_T7 : Bool × List (List Nat × List Nat) := (true, [([], []), ([0], [0]), ([], []), ([2], [2]), ([3, 1], [3]), ([1, 4], [1, 4]), ([], []), ([6], [6]), ([7, 4], [7]), ([5, 8], [5, 8]), ([], []), ([10], [10]), ([11, 8], [11]), ([9, 12], [9, 12]), ([], []), ([14, 12], [14]), ([13, 15], [13, 15]), ([], []), ([17, 15], [17]), ([16, 18], [16, 18]), ([19], [19]), ([20, 18], [20]), ([21], [21]), ([22, 21], [21, 22]), ([21, 23], [21, 23]), ([24, 21], [24]), ([25], [25]), ([26, 25], [25, 26]), ([25, 25], [25]), ([28, 25], [25, 28]), ([27, 29, 25], [25, 27, 29]), ([25, 30], [25, 30]), ([31, 28, 0, 1, 2, 3, 4, 5, 6, 7, 8, 9, 10, 11, 12, 13, 14, 15, 16, 17, 18, 19, 20, 21, 22, 23, 24, 25, 26, 27, 28, 29, 30, 31], [31])])
def al_B7 : List Nat := [0, 1, 0, 4, 15, 31, 0, 64, 223, 511, 0, 1024, 3551, 8191, 0, 24031, 65535, 0, 187871, 524287, 1048575, 2097151, 4194303, 8388607, 16777215, 33554431, 67108863, 134217727, 67108863, 335544319, 1073741823, 2147483647, 4294967295]
theorem zI : rtab .any (opsOf Tryz.f19 7) = al_T7 := by kernel_rfl
theorem xk : dA al_T7.2 al_B7 = true := by kernel_rfl
theorem zw {s : St} (h1 : s.now.length ≤ 2) (h2 : s.snaps.length ≤ 1) (h3 : ∀ x ∈ s.snaps, x.f3.length ≤ 2) (h5 : s.sp.length ≤ 2) (h6 : s.data.length = 8) (h7 : ∀ b ∈ s.data, b.length = 64) : Small s :=
  ⟨by omega, by omega, fun x hx => by have := h3 x hx; omega, by omega, by omega, fun b hb => by have := h7 b hb; omega⟩
theorem al_sm0 : Small al0 := zw (by decide) (by decide) (by decide) (by decide) (by decide) (by decide)
theorem al_sm1 : Small al1 := zw (by decide) (by decide) (by decide) (by decide) (by decide) (by decide)
theorem al_sm2 : Small al2 := zw (by decide) (by decide) (by intro x hx; have : x = ⟨1, alA, 4, [⟨0, 0, 2⟩]⟩ := List.mem_singleton.1 hx; subst this; decide) (by decide) (by decide) (by decide)
theorem zT : may4 (fF al1) al1.next ⟨4, 0, 0, 0, alA, []⟩ = 0 := by
  unfold may4
  rw [al_A]
  rfl
theorem rY (n : Int) (w : World) : Calls Tryz.prog 22 #[.int .i64 n] w fun e w' => e = .returned (.int .i64 n) ∧ Below w.heap.size w w' := (fI.calls n n w rfl).mono fun _ _ h => ⟨h.1, jJ h.2⟩
set_option maxHeartbeats 16000000 in
set_option maxRecDepth 100000 in
theorem zl (w : World) : Calls Tryz.prog 19 #[] w fun e w' => e = .returned (.bool true) ∧ Below w.heap.size w w' := by
  have hu31 := Tryz.underlying31
  have hu28 := Tryz.underlying28
  have hu58 := Tryz.underlying58
  have hu55 := Tryz.underlying55
  go_enter Tryz.func19, Tryz.ntmps19
  go_wp2_with fail
  refine (new_v 4 8 w).mono ?_
  rintro e w1 ⟨a, rfl, hO, hb⟩
  rw [(show newV 4 8 = (al0, 0) from rfl)] at hO ⊢
  go_wp2_with (refine ji (.store 31 (.tmp 1) (.tmp 13)) rfl ?_; refine jh ?_)
  refine ⟨?_⟩
  refine dm w1.heap.size (aN al0 a) (bB w1 _) ?_ (h1 := by simp [Value.oneCell', aN])
  have HS := aa.mk (zN hO hb)
  have HY := aa.mk True.intro
  obtain ⟨b1, hb1⟩ : ∃ k, k = w1.heap.size := ⟨_, rfl⟩
  unfold NIL7 at HS
  rw [← hb1] at HS ⊢
  clear hO hb hb1
  generalize (w1.alloc _).setRow b1 (aN al0 a) = w2 at HS ⊢
  go_wp2_with fail
  have hx := HS.out.hx
  unfold aN at hx
  refine dH (n := 13) (S := fun w' => w'.cell? ⟨b1, 0, none⟩ = some (.int .i64 al0.size) ∧ w'.cell? ⟨b1, 1, none⟩ = some (.slice a.A1 al0.now.length a.c1) ∧ w'.cell? ⟨b1, 2, none⟩ = some (.slice a.A2 al0.snaps.length a.c2) ∧ w'.cell? ⟨b1, 3, none⟩ = some (.int .i64 al0.next) ∧ w'.cell? ⟨b1, 4, none⟩ = some (.int .i64 al0.fsize) ∧ w'.cell? ⟨b1, 5, none⟩ = some (.slice a.A5 al0.sp.length a.c5) ∧ w'.cell? ⟨b1, 6, none⟩ = some (.slice a.A6 al0.data.length a.c6)) (ds := [11, 12]) (lb 13 0) (by kernel_rfl) rfl (by kernel_rfl) ⟨(ae hx 0).trans rfl, (ae hx 1).trans rfl, (ae hx 2).trans rfl, (ae hx 3).trans rfl, (ae hx 4).trans rfl, (ae hx 5).trans rfl, (ae hx 6).trans rfl⟩ (fun hHeld => ?_)
  refine bG zb v_ (fun HT_ HW_ => ?_)
  have HS' := aa.mk (HS.out.below (aV (Below.refl _ _)))
  clear hx HS
  generalize w2.drew = w3 at hHeld HS'  ⊢
  refine tk_ 0 16 13 1 ?_
  refine sV 10 3 58 #[.int .i64 0, .slice none 0 0, .int .i64 0, .slice none 0 0, .int .i64 0] 1025 hHeld ?_
  have HBW := aa.mk (Below.refl w3.heap.size w3)
  have HS := HS'
  clear HS' hHeld
  refine gF HT_.out 1 10 3 1027 Tryz.func56 #[.int .u8 1] HBW.out.size (fun _ _ hb h => ⟨aJ hb h.1, aJ hb h.2.1, aJ hb h.2.2.1, aJ hb h.2.2.2.1, aJ hb h.2.2.2.2.1, aJ hb h.2.2.2.2.2.1, aJ hb h.2.2.2.2.2.2⟩) (fun w' hb => ?_)
  have hbW := HBW.out.trans (hb.mono HBW.out.size)
  refine (xn 1 w').mono ?_
  rintro e w4 ⟨D1, m1, rfl, hR, hb'⟩
  refine ⟨_, rfl, hb', ?_⟩
  have HBW' := aa.mk (hbW.trans (hb'.mono hbW.size))
  have HR1 := aa.mk (Kd.bH hR hbW.size)
  clear hR
  clear HBW hb hb' hbW
  have HBW := HBW'
  clear HBW'
  refine jr ?_
  refine gF HT_.out 2 10 7 1031 Tryz.func56 #[.int .u8 2] HBW.out.size (fun _ _ hb h => ⟨aJ hb h.1, aJ hb h.2.1, aJ hb h.2.2.1, aJ hb h.2.2.2.1, aJ hb h.2.2.2.2.1, aJ hb h.2.2.2.2.2.1, aJ hb h.2.2.2.2.2.2⟩) (fun w' hb => ?_)
  have hbW := HBW.out.trans (hb.mono HBW.out.size)
  have HR1' := aa.mk (Kd.bD HR1.out hb)
  refine (xn 2 w').mono ?_
  rintro e w5 ⟨D2, m2, rfl, hR, hb'⟩
  refine ⟨_, rfl, hb', ?_⟩
  have HBW' := aa.mk (hbW.trans (hb'.mono hbW.size))
  have HR12 := aa.mk (Kd.bD HR1'.out hb')
  have HR2 := aa.mk (Kd.bH hR hbW.size)
  clear hR
  clear HBW hb hb' hbW HR1 HR1'
  have HBW := HBW'
  have HR1 := HR12
  clear HBW' HR12
  refine jr ?_
  refine xU (e := 3) (j := 10) (M := 19) (N := 3) HT_.out 15 1039 rfl rfl rfl rfl rfl (by decide) (by kernel_rfl) (by decide) HBW.out.size (fun _ _ hb h => ⟨aJ hb h.1, aJ hb h.2.1, aJ hb h.2.2.1, aJ hb h.2.2.2.1, aJ hb h.2.2.2.2.1, aJ hb h.2.2.2.2.2.1, aJ hb h.2.2.2.2.2.2⟩) (fun A w' _ => by first | (go_simp; done) | (go_simp; rfl)) (fun w' hb hSw A hA K hK => ?_)
  have hbW := HBW.out.trans (hb.mono HBW.out.size)
  have HR1' := aa.mk (Kd.bD HR1.out hb)
  have HR2' := aa.mk (Kd.bD HR2.out hb)
  have e1 : A.eval (.tmp 17) = .slice D1 64 m1 := by rcases hA with rfl | ⟨b, rfl⟩ <;> rfl
  have e2 : A.eval (.tmp 18) = .slice D2 64 m2 := by rcases hA with rfl | ⟨b, rfl⟩ <;> rfl
  have hr2 := Kd.bA HR2'.out
  refine Kd.jP (Kd.int .u8) (Rr := (Kd.int .u8).K w') (w0 := w3) w3.heap.size rfl (.tmp 17) (.tmp 18) 37 5 (.int .u8 0) 1 rfl Tryz.underlying37 info5 rfl (by decide) (by omega) (.slice D1 64 m1) (alD 1) (alD 2) D2 64 m2 (fun _ => True) (fun _ => False) e1 e2 HR1'.out hr2.2.2 (fun x cs h => h) (fun _ h => h.elim) (fun _ _ => trivial) hbW hbW.size (by decide) ?_
  intro v w6 hR hB hg hat
  obtain ⟨D3, m3, rfl⟩ := Kd.bf hR
  have hx := (HS.out.below hB).hx
  unfold aN at hx
  refine hK _ _ ⟨hg.size, fun _ => ⟨(ae hx 0).trans rfl, (ae hx 1).trans rfl, (ae hx 2).trans rfl, (ae hx 3).trans rfl, (ae hx 4).trans rfl, (ae hx 5).trans rfl, (ae hx 6).trans rfl⟩, fun b _ hbox => (hg.block b (aA hbox) (fun e => ((dJ HR1'.out hbox (by decide)).1 b e.symm).2 rfl)).trans hbox⟩ ?_
  have HBW' := aa.mk hB
  have HRD := aa.mk hR
  clear HBW hb hbW hB hg hat hR HR1 HR1' HR2 HR2' hr2 hx K hK hA A hSw e1 e2
  have HBW := HBW'
  clear HBW'
  refine jr ?_
  refine iO HT_.out 4 31 1055 ?_
  refine gF HT_.out 5 10 63 1087 Tryz.func28 #[.agg (eD ⟨1, 0, 0, 0, ⟨#[]⟩, alD 1 ++ alD 2⟩ D3 m3)] HBW.out.size (fun _ _ hb h => ⟨aJ hb h.1, aJ hb h.2.1, aJ hb h.2.2.1, aJ hb h.2.2.2.1, aJ hb h.2.2.2.2.1, aJ hb h.2.2.2.2.2.1, aJ hb h.2.2.2.2.2.2⟩) (fun w' hb => ?_)
  have hbW := HBW.out.trans (hb.mono HBW.out.size)
  have HRD' := aa.mk (Kd.bD HRD.out hb)
  refine (qQ ⟨1, 0, 0, 0, ⟨#[]⟩, alD 1 ++ alD 2⟩ D3 m3 w' (Kd.bA HRD'.out).2.2 (Kd.bA HRD'.out).2.1 (by decide)).mono ?_
  rintro e w7 ⟨DO, mO, rfl, hR, hb'⟩
  refine ⟨_, rfl, hb', ?_⟩
  have HBW' := aa.mk (hbW.trans (hb'.mono hbW.size))
  have HRD2 := aa.mk (Kd.bD HRD'.out hb')
  have HRO := aa.mk (Kd.bH hR hbW.size)
  clear hR
  clear HBW hb hb' hbW HRD HRD'
  have HBW := HBW'
  have HRD := HRD2
  clear HBW' HRD2
  refine jr ?_
  refine gF HT_.out 6 10 127 1151 Tryz.func27 #[.agg (aN al0 a), .agg (eD ⟨1, 0, 0, 0, ⟨#[]⟩, alD 1 ++ alD 2⟩ DO mO)] HBW.out.size (fun _ _ hb h => ⟨aJ hb h.1, aJ hb h.2.1, aJ hb h.2.2.1, aJ hb h.2.2.2.1, aJ hb h.2.2.2.2.1, aJ hb h.2.2.2.2.2.1, aJ hb h.2.2.2.2.2.2⟩) (fun w' hb => ?_)
  have hbW := HBW.out.trans (hb.mono HBW.out.size)
  have HRD' := aa.mk (Kd.bD HRD.out hb)
  have HRO' := aa.mk (Kd.bD HRO.out hb)
  refine (do_wr al0 al1w al1 a ⟨1, 0, 0, 0, ⟨#[]⟩, alD 1 ++ alD 2⟩ DO mO w' (HS.out.below hbW).reads (Kd.bA HRO'.out).2.2 (Kd.bA HRO'.out).2.1 rfl al_c0 al_sm0 (by kernel_rfl) 9300 9 al_w1 al_t1 (by decide)).mono ?_
  rintro e w8 ⟨a1, DA, DB, mA, mB, rfl, hO, hb'⟩
  refine ⟨_, rfl, hb', ?_⟩
  have HBW' := aa.mk (hbW.trans (hb'.mono hbW.size))
  have HRD2 := aa.mk (Kd.bD HRD'.out hb')
  have HRO2 := aa.mk (Kd.bD HRO'.out hb')
  have HO := aa.mk ((hO.lt.mono (ok' := fun k => k ≠ b1) (fun k hk => by have := aA HS.out.hx; have := hbW.size; omega)).low (Nat.le_trans HS.out.hb.size hbW.size))
  clear hO
  clear HBW hb hb' hbW HRD HRD' HRO HRO'
  have HBW := HBW'
  have HRD := HRD2
  have HRO := HRO2
  clear HBW' HRD2 HRO2
  refine jr ?_
  refine iO HT_.out 7 255 1279 ?_
  refine iO HT_.out 8 511 1535 ?_
  refine iO HT_.out 9 1023 2047 ?_
  refine pQ HT_.out 10 HBW.out.size (fun _ _ hb h => ⟨aJ hb h.1, aJ hb h.2.1, aJ hb h.2.2.1, aJ hb h.2.2.2.1, aJ hb h.2.2.2.2.1, aJ hb h.2.2.2.2.2.1, aJ hb h.2.2.2.2.2.2⟩) (fun y3 w' hb hSw hbox hBb => ?_)
  have hbW := HBW.out.trans (hb.mono HBW.out.size)
  have HS' := aa.mk (HS.out.below hbW)
  have HO' := aa.mk (HO.out.below hb)
  have HN := aa.mk (show y3 ≠ b1 ∧ w.heap.size ≤ y3 from ⟨by have := aA HS.out.hx; omega, Nat.le_trans HS.out.hb.size hBb⟩)
  refine qJ ?_
  refine fC HT_.out 11 b1 4095 (aN al1 a1) HS'.out.hx ?_ (h1 := by simp [Value.oneCell', aN])
  refine fC HT_.out 12 y3 8191 #[.int .i64 0, .slice DA 0 mA, .int .i64 0, .slice DB 0 mB, .int .i64 al1.size] ((setRow_other w' b1 y3 _ HN.out.1).trans hbox) ?_
  refine mP HT_.out ?_
  have hsn := mV (cells := #[.int .i64 0, .slice DA 0 mA, .int .i64 0, .slice DB 0 mB, .int .i64 al1.size]) HS'.out HO'.out hbox (by decide) (by decide) (by decide) (by decide) HN.out.1 HN.out.2
  have HS2 := aa.mk hsn.1
  have HY3 := aa.mk hsn.2
  clear hsn HS' HS HO HO' hbox hBb hb hbW HBW hSw HN  HRD HRO HT_ HW_
  have HS := HS2
  clear HS2
  generalize (w'.setRow b1 (aN al1 a1)).setRow y3 #[.int .i64 0, .slice DA 0 mA, .int .i64 0, .slice DB 0 mB, .int .i64 al1.size] = w2 at HS HY3  ⊢
  go_wp2_with fail
  have hx := HS.out.hx
  unfold aN at hx
  refine dH (n := 10) (S := fun w' => w'.cell? ⟨b1, 0, none⟩ = some (.int .i64 al1.size) ∧ w'.cell? ⟨b1, 1, none⟩ = some (.slice a1.A1 al1.now.length a1.c1) ∧ w'.cell? ⟨b1, 2, none⟩ = some (.slice a1.A2 al1.snaps.length a1.c2) ∧ w'.cell? ⟨b1, 3, none⟩ = some (.int .i64 al1.next) ∧ w'.cell? ⟨b1, 4, none⟩ = some (.int .i64 al1.fsize) ∧ w'.cell? ⟨b1, 5, none⟩ = some (.slice a1.A5 al1.sp.length a1.c5) ∧ w'.cell? ⟨b1, 6, none⟩ = some (.slice a1.A6 al1.data.length a1.c6)) (ds := [8, 9]) (lb 10 0) (by kernel_rfl) rfl (by kernel_rfl) ⟨(ae hx 0).trans rfl, (ae hx 1).trans rfl, (ae hx 2).trans rfl, (ae hx 3).trans rfl, (ae hx 4).trans rfl, (ae hx 5).trans rfl, (ae hx 6).trans rfl⟩ (fun hHeld => ?_)
  refine bG za wh (fun HT_ HW_ => ?_)
  have HS' := aa.mk (HS.out.below (aV (Below.refl _ _)))
  have HY3' := aa.mk (show w2.drew.heap[y3]? = _ from HY3.out)
  clear hx HS HY3
  generalize w2.drew = w3 at hHeld HS' HY3' ⊢
  refine tk_ 0 26 10 1 ?_
  refine sV 7 4 58 #[.int .i64 0, .slice none 0 0, .int .i64 0, .slice none 0 0, .int .i64 0] 129 hHeld ?_
  have HBW := aa.mk (Below.refl w3.heap.size w3)
  have HS := HS'
  have HY3 := HY3'
  clear HS' hHeld HY3'
  refine iO HT_.out 1 3 131 ?_
  refine gF HT_.out 2 7 7 135 Tryz.func28 #[.agg (eD ⟨4, 0, 0, 0, alA, []⟩ none 0)] HBW.out.size (fun _ _ hb h => ⟨aJ hb h.1, aJ hb h.2.1, aJ hb h.2.2.1, aJ hb h.2.2.2.1, aJ hb h.2.2.2.2.1, aJ hb h.2.2.2.2.2.1, aJ hb h.2.2.2.2.2.2⟩) (fun w' hb => ?_)
  have hbW := HBW.out.trans (hb.mono HBW.out.size)
  refine (qQ ⟨4, 0, 0, 0, alA, []⟩ none 0 w' ⟨rfl, by simp, fun h => absurd h (by simp)⟩ (Nat.le_refl _) (by decide)).mono ?_
  rintro e w4 ⟨DO, mO, rfl, hR, hb'⟩
  refine ⟨_, rfl, hb', ?_⟩
  have HBW' := aa.mk (hbW.trans (hb'.mono hbW.size))
  have HRO := aa.mk (Kd.bH hR hbW.size)
  clear hR
  clear HBW hb hb' hbW
  have HBW := HBW'
  clear HBW'
  refine jr ?_
  refine gF HT_.out 3 7 15 143 Tryz.func27 #[.agg (aN al1 a1), .agg (eD ⟨4, 0, 0, 0, alA, []⟩ DO mO)] HBW.out.size (fun _ _ hb h => ⟨aJ hb h.1, aJ hb h.2.1, aJ hb h.2.2.1, aJ hb h.2.2.2.1, aJ hb h.2.2.2.2.1, aJ hb h.2.2.2.2.2.1, aJ hb h.2.2.2.2.2.2⟩) (fun w' hb => ?_)
  have hbW := HBW.out.trans (hb.mono HBW.out.size)
  have HRO' := aa.mk (Kd.bD HRO.out hb)
  refine (do_sn al1 al2 a1 ⟨4, 0, 0, 0, alA, []⟩ DO mO w' (HS.out.below hbW).reads rfl al_c1 al_sm1 zT 9300 al_s).mono ?_
  rintro e w5 ⟨a2, DA, DB, mA, mB, rfl, hO, hb'⟩
  refine ⟨_, rfl, hb', ?_⟩
  have HBW' := aa.mk (hbW.trans (hb'.mono hbW.size))
  have HRO2 := aa.mk (Kd.bD HRO'.out hb')
  have HO := aa.mk ((hO.lt.mono (ok' := fun k => k ≠ b1) (fun k hk => by have := aA HS.out.hx; have := hbW.size; omega)).low (Nat.le_trans HS.out.hb.size hbW.size))
  clear hO
  clear HBW hb hb' hbW HRO HRO'
  have HBW := HBW'
  have HRO := HRO2
  clear HBW' HRO2
  refine jr ?_
  refine iO HT_.out 4 31 159 ?_
  refine iO HT_.out 5 63 191 ?_
  refine iO HT_.out 6 127 255 ?_
  refine pQ HT_.out 7 HBW.out.size (fun _ _ hb h => ⟨aJ hb h.1, aJ hb h.2.1, aJ hb h.2.2.1, aJ hb h.2.2.2.1, aJ hb h.2.2.2.2.1, aJ hb h.2.2.2.2.2.1, aJ hb h.2.2.2.2.2.2⟩) (fun y4 w' hb hSw hbox hBb => ?_)
  have hbW := HBW.out.trans (hb.mono HBW.out.size)
  have HS' := aa.mk (HS.out.below hbW)
  have HO' := aa.mk (HO.out.below hb)
  have HN := aa.mk (show y4 ≠ b1 ∧ w.heap.size ≤ y4 from ⟨by have := aA HS.out.hx; omega, Nat.le_trans HS.out.hb.size hBb⟩)
  have HY3' := aa.mk (mU (b1 := b1) (b := y4) (c1 := aN al2 a2) (c := #[.int .i64 0, .slice DA 0 mA, .int .i64 al1.next, .slice DB 0 mB, .int .i64 al2.size]) ((hbW.block _ (aA HY3.out)).trans HY3.out) (by rintro rfl; have h1 := HS.out.hx; rw [HY3.out] at h1; injection h1 with h1; injection h1 with _ h2 _; revert h2; decide) (by have := aA HY3.out; omega))
  refine qJ ?_
  refine fC HT_.out 8 b1 511 (aN al2 a2) HS'.out.hx ?_ (h1 := by simp [Value.oneCell', aN])
  refine fC HT_.out 9 y4 1023 #[.int .i64 0, .slice DA 0 mA, .int .i64 al1.next, .slice DB 0 mB, .int .i64 al2.size] ((setRow_other w' b1 y4 _ HN.out.1).trans hbox) ?_
  refine mP HT_.out ?_
  have hsn := mV (cells := #[.int .i64 0, .slice DA 0 mA, .int .i64 al1.next, .slice DB 0 mB, .int .i64 al2.size]) HS'.out HO'.out hbox (by decide) (by decide) (by decide) (by decide) HN.out.1 HN.out.2
  have HS2 := aa.mk hsn.1
  have HY4 := aa.mk hsn.2
  clear hsn HS' HS HO HO' hbox hBb hb hbW HBW hSw HN HY3 HRO HT_ HW_
  have HS := HS2
  have HY3 := HY3'
  clear HS2 HY3'
  generalize (w'.setRow b1 (aN al2 a2)).setRow y4 #[.int .i64 0, .slice DA 0 mA, .int .i64 al1.next, .slice DB 0 mB, .int .i64 al2.size] = w2 at HS HY4 HY3 ⊢
  go_wp2_with fail
  have hx := HS.out.hx
  unfold aN at hx
  refine dH (n := 11) (S := fun w' => w'.cell? ⟨b1, 0, none⟩ = some (.int .i64 al2.size) ∧ w'.cell? ⟨b1, 1, none⟩ = some (.slice a2.A1 al2.now.length a2.c1) ∧ w'.cell? ⟨b1, 2, none⟩ = some (.slice a2.A2 al2.snaps.length a2.c2) ∧ w'.cell? ⟨b1, 3, none⟩ = some (.int .i64 al2.next) ∧ w'.cell? ⟨b1, 4, none⟩ = some (.int .i64 al2.fsize) ∧ w'.cell? ⟨b1, 5, none⟩ = some (.slice a2.A5 al2.sp.length a2.c5) ∧ w'.cell? ⟨b1, 6, none⟩ = some (.slice a2.A6 al2.data.length a2.c6)) (ds := [9, 10]) (lb 11 0) (by kernel_rfl) rfl (by kernel_rfl) ⟨(ae hx 0).trans rfl, (ae hx 1).trans rfl, (ae hx 2).trans rfl, (ae hx 3).trans rfl, (ae hx 4).trans rfl, (ae hx 5).trans rfl, (ae hx 6).trans rfl⟩ (fun hHeld => ?_)
  refine bG zi wX (fun HT_ HW_ => ?_)
  have HS' := aa.mk (HS.out.below (aV (Below.refl _ _)))
  have HY3' := aa.mk (show w2.drew.heap[y3]? = _ from HY3.out)
  have HY4' := aa.mk (show w2.drew.heap[y4]? = _ from HY4.out)
  clear hx HS HY3 HY4
  generalize w2.drew = w3 at hHeld HS' HY3' HY4' ⊢
  refine tk_ 0 33 11 1 ?_
  refine sV 8 5 58 #[.int .i64 0, .slice none 0 0, .int .i64 0, .slice none 0 0, .int .i64 0] 257 hHeld ?_
  have HBW := aa.mk (Below.refl w3.heap.size w3)
  have HS := HS'
  have HY3 := HY3'
  have HY4 := HY4'
  clear HS' hHeld HY3' HY4'
  refine gF HT_.out 1 8 3 259 Tryz.func56 #[.int .u8 3] HBW.out.size (fun _ _ hb h => ⟨aJ hb h.1, aJ hb h.2.1, aJ hb h.2.2.1, aJ hb h.2.2.2.1, aJ hb h.2.2.2.2.1, aJ hb h.2.2.2.2.2.1, aJ hb h.2.2.2.2.2.2⟩) (fun w' hb => ?_)
  have hbW := HBW.out.trans (hb.mono HBW.out.size)
  refine (xn 3 w').mono ?_
  rintro e w4 ⟨D3, m3, rfl, hR, hb'⟩
  refine ⟨_, rfl, hb', ?_⟩
  have HBW' := aa.mk (hbW.trans (hb'.mono hbW.size))
  have HRD := aa.mk (Kd.bH hR hbW.size)
  clear hR
  clear HBW hb hb' hbW
  have HBW := HBW'
  clear HBW'
  refine jr ?_
  refine iO HT_.out 2 7 263 ?_
  refine gF HT_.out 3 8 15 271 Tryz.func28 #[.agg (eD ⟨1, 0, 0, 0, ⟨#[]⟩, alD 3⟩ D3 m3)] HBW.out.size (fun _ _ hb h => ⟨aJ hb h.1, aJ hb h.2.1, aJ hb h.2.2.1, aJ hb h.2.2.2.1, aJ hb h.2.2.2.2.1, aJ hb h.2.2.2.2.2.1, aJ hb h.2.2.2.2.2.2⟩) (fun w' hb => ?_)
  have hbW := HBW.out.trans (hb.mono HBW.out.size)
  have HRD' := aa.mk (Kd.bD HRD.out hb)
  refine (qQ ⟨1, 0, 0, 0, ⟨#[]⟩, alD 3⟩ D3 m3 w' (Kd.bA HRD'.out).2.2 (Kd.bA HRD'.out).2.1 (by decide)).mono ?_
  rintro e w5 ⟨DO, mO, rfl, hR, hb'⟩
  refine ⟨_, rfl, hb', ?_⟩
  have HBW' := aa.mk (hbW.trans (hb'.mono hbW.size))
  have HRD2 := aa.mk (Kd.bD HRD'.out hb')
  have HRO := aa.mk (Kd.bH hR hbW.size)
  clear hR
  clear HBW hb hb' hbW HRD HRD'
  have HBW := HBW'
  have HRD := HRD2
  clear HBW' HRD2
  refine jr ?_
  refine gF HT_.out 4 8 31 287 Tryz.func27 #[.agg (aN al2 a2), .agg (eD ⟨1, 0, 0, 0, ⟨#[]⟩, alD 3⟩ DO mO)] HBW.out.size (fun _ _ hb h => ⟨aJ hb h.1, aJ hb h.2.1, aJ hb h.2.2.1, aJ hb h.2.2.2.1, aJ hb h.2.2.2.2.1, aJ hb h.2.2.2.2.2.1, aJ hb h.2.2.2.2.2.2⟩) (fun w' hb => ?_)
  have hbW := HBW.out.trans (hb.mono HBW.out.size)
  have HRD' := aa.mk (Kd.bD HRD.out hb)
  have HRO' := aa.mk (Kd.bD HRO.out hb)
  refine (do_wr al2 al3w al3 a2 ⟨1, 0, 0, 0, ⟨#[]⟩, alD 3⟩ DO mO w' (HS.out.below hbW).reads (Kd.bA HRO'.out).2.2 (Kd.bA HRO'.out).2.1 rfl al_c2 al_sm2 (by kernel_rfl) 9300 9 al_w2 al_t2 (by decide)).mono ?_
  rintro e w6 ⟨a3, DA, DB, mA, mB, rfl, hO, hb'⟩
  refine ⟨_, rfl, hb', ?_⟩
  have HBW' := aa.mk (hbW.trans (hb'.mono hbW.size))
  have HRD2 := aa.mk (Kd.bD HRD'.out hb')
  have HRO2 := aa.mk (Kd.bD HRO'.out hb')
  have HO := aa.mk ((hO.lt.mono (ok' := fun k => k ≠ b1) (fun k hk => by have := aA HS.out.hx; have := hbW.size; omega)).low (Nat.le_trans HS.out.hb.size hbW.size))
  clear hO
  clear HBW hb hb' hbW HRD HRD' HRO HRO'
  have HBW := HBW'
  have HRD := HRD2
  have HRO := HRO2
  clear HBW' HRD2 HRO2
  refine jr ?_
  refine iO HT_.out 5 63 319 ?_
  refine iO HT_.out 6 127 383 ?_
  refine iO HT_.out 7 255 511 ?_
  refine pQ HT_.out 8 HBW.out.size (fun _ _ hb h => ⟨aJ hb h.1, aJ hb h.2.1, aJ hb h.2.2.1, aJ hb h.2.2.2.1, aJ hb h.2.2.2.2.1, aJ hb h.2.2.2.2.2.1, aJ hb h.2.2.2.2.2.2⟩) (fun y5 w' hb hSw hbox hBb => ?_)
  have hbW := HBW.out.trans (hb.mono HBW.out.size)
  have HS' := aa.mk (HS.out.below hbW)
  have HO' := aa.mk (HO.out.below hb)
  have HN := aa.mk (show y5 ≠ b1 ∧ w.heap.size ≤ y5 from ⟨by have := aA HS.out.hx; omega, Nat.le_trans HS.out.hb.size hBb⟩)
  have HY3' := aa.mk (mU (b1 := b1) (b := y5) (c1 := aN al3 a3) (c := #[.int .i64 0, .slice DA 0 mA, .int .i64 0, .slice DB 0 mB, .int .i64 al3.size]) ((hbW.block _ (aA HY3.out)).trans HY3.out) (by rintro rfl; have h1 := HS.out.hx; rw [HY3.out] at h1; injection h1 with h1; injection h1 with _ h2 _; revert h2; decide) (by have := aA HY3.out; omega))
  have HY4' := aa.mk (mU (b1 := b1) (b := y5) (c1 := aN al3 a3) (c := #[.int .i64 0, .slice DA 0 mA, .int .i64 0, .slice DB 0 mB, .int .i64 al3.size]) ((hbW.block _ (aA HY4.out)).trans HY4.out) (by rintro rfl; have h1 := HS.out.hx; rw [HY4.out] at h1; injection h1 with h1; injection h1 with _ h2 _; revert h2; decide) (by have := aA HY4.out; omega))
  refine qJ ?_
  refine fC HT_.out 9 b1 1023 (aN al3 a3) HS'.out.hx ?_ (h1 := by simp [Value.oneCell', aN])
  refine fC HT_.out 10 y5 2047 #[.int .i64 0, .slice DA 0 mA, .int .i64 0, .slice DB 0 mB, .int .i64 al3.size] ((setRow_other w' b1 y5 _ HN.out.1).trans hbox) ?_
  refine mP HT_.out ?_
  have hsn := mV (cells := #[.int .i64 0, .slice DA 0 mA, .int .i64 0, .slice DB 0 mB, .int .i64 al3.size]) HS'.out HO'.out hbox (by decide) (by decide) (by decide) (by decide) HN.out.1 HN.out.2
  have HS2 := aa.mk hsn.1
  have HY5 := aa.mk hsn.2
  clear hsn HS' HS HO HO' hbox hBb hb hbW HBW hSw HN HY3 HY4 HRD HRO HT_ HW_
  have HS := HS2
  have HY3 := HY3'
  have HY4 := HY4'
  clear HS2 HY3' HY4'
  generalize (w'.setRow b1 (aN al3 a3)).setRow y5 #[.int .i64 0, .slice DA 0 mA, .int .i64 0, .slice DB 0 mB, .int .i64 al3.size] = w2 at HS HY5 HY3 HY4 ⊢
  have HRM := aa.mk (dM.calls 9300 al3.fsize a3.A5 a3.c5 al3.sp 5 5 0 w2 HS.out.reads.h5 HS.out.reads.l5 al_r)
  have hx := HS.out.hx
  unfold aN at hx
  have q4 := (ae hx 4).trans rfl
  have q5 := (ae hx 5).trans rfl
  clear hx
  go_wp2_with fail
  refine HRM.out.mono ?_
  rintro e w3 ⟨rfl, hb⟩
  have HS2 := aa.mk (HS.out.below hb)
  have HY3' := aa.mk ((hb.block _ (aA HY3.out)).trans HY3.out)
  have HY4' := aa.mk ((hb.block _ (aA HY4.out)).trans HY4.out)
  have HY5' := aa.mk ((hb.block _ (aA HY5.out)).trans HY5.out)
  clear HRM q4 q5 hb HS HY3 HY4 HY5
  have HS := HS2
  have HY3 := HY3'
  have HY4 := HY4'
  have HY5 := HY5'
  clear HS2 HY3' HY4' HY5'
  have HRD := aa.mk (yg al3 a3 1 0 1 (alD 1) 0 w3 HS.out.reads (by decide) al_rd)
  have hx := HS.out.hx
  unfold aN at hx
  have q0 := (ae hx 0).trans rfl
  have q1 := (ae hx 1).trans rfl
  have q2 := (ae hx 2).trans rfl
  have q3 := (ae hx 3).trans rfl
  have q4 := (ae hx 4).trans rfl
  have q5 := (ae hx 5).trans rfl
  have q6 := (ae hx 6).trans rfl
  clear hx
  go_wp2_with fail
  refine HRD.out.mono ?_
  rintro e w4 ⟨v, rfl, hR, hb⟩
  obtain ⟨A9, m9, rfl⟩ := Kd.bf hR
  have HBW := aa.mk (HS.out.hb.trans (hb.mono HS.out.hb.size))
  have HR9 := aa.mk (Kd.bA hR).2.2
  have HY3' := aa.mk ((hb.block _ (aA HY3.out)).trans HY3.out)
  have HY4' := aa.mk ((hb.block _ (aA HY4.out)).trans HY4.out)
  have HY5' := aa.mk ((hb.block _ (aA HY5.out)).trans HY5.out)
  clear HRD hR q0 q1 q2 q3 q4 q5 q6 hb HS HY3 HY4 HY5
  have hl9 : (alD 1).length = 64 := rfl
  rw [hl9] at HR9 ⊢
  obtain ⟨S1, hS1⟩ : ∃ x, x = strOfNums (alD 1) := ⟨_, rfl⟩
  have hcv : ∀ W : World, Below w4.heap.size w4 W → (convert 37 9 (.slice A9 64 m9)).run Tryz.prog W = .ok (.string S1) W := fun W hb => by rw [hS1]; exact Kd.qA Tryz.underlying37 Tryz.underlying5 Tryz.underlying9 (Kd.bu HR9.out hb)
  go_wp2_with fail
  refine dH (n := 33) (S := fun w' => w'.cell? ⟨y3, 0, none⟩ = some (.int .i64 0) ∧ w'.cell? ⟨y4, 0, none⟩ = some (.int .i64 0) ∧ w'.cell? ⟨y5, 0, none⟩ = some (.int .i64 0) ∧ (convert 37 9 (.slice A9 64 m9)).run Tryz.prog w' = .ok (.string S1) w') (ds := []) (lb 33 0) (by kernel_rfl) rfl (by kernel_rfl) ⟨(ae HY3'.out 0).trans rfl, (ae HY4'.out 0).trans rfl, (ae HY5'.out 0).trans rfl, hcv _ (aV (Below.refl _ _))⟩ (fun hHeld => ?_)
  refine bG zI xk (fun HT_ HW_ => ?_)
  have HB := aa.mk (aV (Below.refl w4.heap.size w4))
  have HCV := aa.mk hcv
  have hz : wrap64 0 = 0 := w64 (by omega)
  clear hcv
  generalize w4.drew = w5 at hHeld HB ⊢
  refine pu_ 0 52 33 1 ?_
  refine pu_ 2 54 33 5 ?_
  refine tk_ 3 55 33 13 ?_
  refine pu_ 6 58 33 77 ?_
  refine tk_ 7 59 33 205 ?_
  refine pu_ 10 62 33 1229 ?_
  refine tk_ 11 63 33 3277 ?_
  refine pu_ 14 66 33 19661 ?_
  refine pu_ 17 69 33 150733 ?_
  refine on_ 1 53 33 150735 (fun K hK => ?_)
  refine dQ Tryz.func22 (by kernel_rfl) rfl #[.int .i64 0] (by rfl) rfl rfl (by (try simp only [List.map_toArray, List.map_cons, List.map_nil]); first | done | rfl) ?_
  refine (rY 0 w5).mono ?_
  rintro e w6 ⟨rfl, hb⟩
  refine ⟨_, rfl, ?_⟩
  have HB' := aa.mk (HB.out.trans (hb.mono HB.out.size))
  refine hK.out _ _ ⟨aJ hb hHeld.1, aJ hb hHeld.2.1, aJ hb hHeld.2.2.1, HCV.out _ HB'.out⟩ (fun hHeld => ?_)
  clear hK K hb HB
  have HB := HB'
  clear HB'
  refine nm_ 53 ?_
  refine on_ 4 56 33 150751 (fun K hK => ?_)
  refine dQ Tryz.func22 (by kernel_rfl) rfl #[.int .i64 0] (by rfl) rfl rfl (by (try simp only [List.map_toArray, List.map_cons, List.map_nil]); first | done | rfl) ?_
  refine (rY 0 w6).mono ?_
  rintro e w7 ⟨rfl, hb⟩
  refine ⟨_, rfl, ?_⟩
  have HB' := aa.mk (HB.out.trans (hb.mono HB.out.size))
  refine hK.out _ _ ⟨aJ hb hHeld.1, aJ hb hHeld.2.1, aJ hb hHeld.2.2.1, HCV.out _ HB'.out⟩ (fun hHeld => ?_)
  clear hK K hb HB
  have HB := HB'
  clear HB'
  refine nm_ 56 ?_
  refine pu_ 5 57 33 150783 ?_
  try rw [hz]
  refine on_ 8 60 33 151039 (fun K hK => ?_)
  refine dQ Tryz.func22 (by kernel_rfl) rfl #[.int .i64 0] (by rfl) rfl rfl (by (try simp only [List.map_toArray, List.map_cons, List.map_nil]); first | done | rfl) ?_
  refine (rY 0 w7).mono ?_
  rintro e w8 ⟨rfl, hb⟩
  refine ⟨_, rfl, ?_⟩
  have HB' := aa.mk (HB.out.trans (hb.mono HB.out.size))
  refine hK.out _ _ ⟨aJ hb hHeld.1, aJ hb hHeld.2.1, aJ hb hHeld.2.2.1, HCV.out _ HB'.out⟩ (fun hHeld => ?_)
  clear hK K hb HB
  have HB := HB'
  clear HB'
  refine nm_ 60 ?_
  refine pu_ 9 61 33 151551 ?_
  try rw [hz]
  refine on_ 12 64 33 155647 (fun K hK => ?_)
  refine dQ Tryz.func22 (by kernel_rfl) rfl #[.int .i64 0] (by rfl) rfl rfl (by (try simp only [List.map_toArray, List.map_cons, List.map_nil]); first | done | rfl) ?_
  refine (rY 0 w8).mono ?_
  rintro e w9 ⟨rfl, hb⟩
  refine ⟨_, rfl, ?_⟩
  have HB' := aa.mk (HB.out.trans (hb.mono HB.out.size))
  refine hK.out _ _ ⟨aJ hb hHeld.1, aJ hb hHeld.2.1, aJ hb hHeld.2.2.1, HCV.out _ HB'.out⟩ (fun hHeld => ?_)
  clear hK K hb HB
  have HB := HB'
  clear HB'
  refine nm_ 64 ?_
  refine pu_ 13 65 33 163839 ?_
  try rw [hz]
  refine on_ 15 67 33 196607 (fun K hK => ?_)
  refine dQ Tryz.func22 (by kernel_rfl) rfl #[.int .i64 0] (by rfl) rfl rfl (by (try simp only [List.map_toArray, List.map_cons, List.map_nil]); first | done | rfl) ?_
  refine (rY 0 w9).mono ?_
  rintro e w10 ⟨rfl, hb⟩
  refine ⟨_, rfl, ?_⟩
  have HB' := aa.mk (HB.out.trans (hb.mono HB.out.size))
  refine hK.out _ _ ⟨aJ hb hHeld.1, aJ hb hHeld.2.1, aJ hb hHeld.2.2.1, HCV.out _ HB'.out⟩ (fun hHeld => ?_)
  clear hK K hb HB
  have HB := HB'
  clear HB'
  refine nm_ 67 ?_
  refine pu_ 16 68 33 262143 ?_
  try rw [hz]
  refine on_ 18 70 33 524287 (fun K hK => ?_)
  refine dQ Tryz.func22 (by kernel_rfl) rfl #[.int .i64 0] (by rfl) rfl rfl (by (try simp only [List.map_toArray, List.map_cons, List.map_nil]); first | done | rfl) ?_
  refine (rY 0 w10).mono ?_
  rintro e w11 ⟨rfl, hb⟩
  refine ⟨_, rfl, ?_⟩
  have HB' := aa.mk (HB.out.trans (hb.mono HB.out.size))
  refine hK.out _ _ ⟨aJ hb hHeld.1, aJ hb hHeld.2.1, aJ hb hHeld.2.2.1, HCV.out _ HB'.out⟩ (fun hHeld => ?_)
  clear hK K hb HB
  have HB := HB'
  clear HB'
  refine nm_ 70 ?_
  refine pu_ 19 71 33 1048575 ?_
  try rw [hz]
  refine pu_ 20 72 33 2097151 ?_
  refine pu_ 21 73 33 4194303 ?_
  refine pu_ 22 74 33 8388607 ?_
  refine pu_ 23 75 33 16777215 ?_
  refine pu_ 24 76 33 33554431 ?_
  refine pu_ 25 77 33 67108863 ?_
  refine pu_ 26 78 33 134217727 ?_
  refine tk_ 27 79 33 268435455 ?_
  refine on_ 28 80 33 536870911 (fun K hK => ?_)
  refine dQ Tryz.func56 (by kernel_rfl) rfl #[.int .u8 1] (by rfl) rfl rfl (by (try simp only [List.map_toArray, List.map_cons, List.map_nil]); first | done | rfl) ?_
  refine (xn 1 w11).mono ?_
  rintro e w12 ⟨D9, n9, rfl, hR, hb⟩
  refine ⟨_, rfl, ?_⟩
  have HR8 := aa.mk (Kd.bA hR).2.2
  clear hR
  have HB' := aa.mk (HB.out.trans (hb.mono HB.out.size))
  refine hK.out _ _ ⟨aJ hb hHeld.1, aJ hb hHeld.2.1, aJ hb hHeld.2.2.1, HCV.out _ HB'.out⟩ (fun hHeld => ?_)
  clear hK K hb HB
  have HB := HB'
  clear HB'
  refine nm_ 80 ?_
  refine on_ 29 81 33 1073741823 (fun K hK => ?_)
  refine oZ (N := some 81) (v := .string S1) (w1 := w12) (by rfl) rfl ?_ ?_
  · have h1 := Kd.qA (P := Tryz.prog) (A := D9) (c := n9) Tryz.underlying37 Tryz.underlying5 Tryz.underlying9 HR8.out
    rw [← hS1] at h1
    have h2 : (convert 37 9 (.slice D9 64 n9)).run Tryz.prog w12 = .ok (.string S1) w12 := h1
    first | (go_simp; done) | (go_simp; rfl)
  refine hK.out _ _ hHeld (fun hHeld => ?_)
  clear hK K
  refine nm_ 81 ?_
  refine pu_ 30 82 33 2147483647 ?_
  refine pu_ 31 83 33 4294967295 ?_
  refine pu_ 32 0 33 8589934591 ?_
  refine fu (bW HT_.out (by kernel_rfl)) ?_
  clear HT_ HW_ hHeld
  go_wp2
  go_ret
  exact ⟨by simp, HBW.out.trans (HB.out.mono HBW.out.size)⟩
def yJ : Bool × List (List Nat × List Nat) := (true, [([], []), ([], []), ([1], [1]), ([0, 2, 2], [0, 2]), ([3], [3]), ([4], [4]), ([4], [4]), ([], []), ([], []), ([7, 5, 3, 0, 1, 2, 3, 4, 5, 7, 8], [5, 7]), ([8, 6, 9, 0, 1, 2, 3, 4, 5, 6, 7, 8, 9], [6, 8])])
def raw_B7 : List Nat := [0, 0, 2, 7, 15, 31, 31, 0, 0, 447, 1023]
theorem wB : rtab .any (opsOf Tryz.f10 7) = yJ := by kernel_rfl
theorem tH : dA yJ.2 raw_B7 = true := by kernel_rfl
def mF.f (s : St) (x : OpV) : Option Bool := if s.snaps.length < 4398046511103 ∧ x.data.length < 140737488355328 then some true else none
set_option maxHeartbeats 16000000 in
set_option maxRecDepth 100000 in
theorem raw_v (s : St) (a : At4) (x : OpV) (Dx : Option Addr) (cx : Nat) (w : World) (hr : Reads w s a) (hD : Kd.C (Kd.int .u8) w Dx x.data.length x.data) (hc : x.data.length ≤ cx) (hn : s.snaps.length < 4398046511103) (hl : x.data.length < 140737488355328) :
    Calls Tryz.prog 10 #[.agg (aN s a), .agg (eD x Dx cx)] w fun e w' => e = .returned (.bool true) ∧ Below w.heap.size w w' := by
  have hu31 := Tryz.underlying31
  have hu55 := Tryz.underlying55
  have hu58 := Tryz.underlying58
  have hu98 := Tryz.underlying98
  obtain ⟨W1, hW1⟩ : ∃ W, W = w.alloc (.cells #[.int .i64 s.size, .slice a.A1 s.now.length a.c1, .slice a.A2 s.snaps.length a.c2, .int .i64 s.next, .int .i64 s.fsize, .slice a.A5 s.sp.length a.c5, .slice a.A6 s.data.length a.c6] 31) := ⟨_, rfl⟩
  obtain ⟨W2, hW2⟩ : ∃ W, W = W1.alloc (.cells #[.int .i64 x.what, .int .i64 x.at0, .int .i64 x.n, .int .i64 x.id, .string x.name, .slice Dx x.data.length cx] 55) := ⟨_, rfl⟩
  have hb1 : Below w.heap.size w W1 := by rw [hW1]; exact (Below.refl _ _).alloc (Nat.le_refl _) _
  have hb2 : Below W1.heap.size W1 W2 := by rw [hW2]; exact (Below.refl _ _).alloc (Nat.le_refl _) _
  have hx1 := (show W1.heap[w.heap.size]? = some (.cells #[.int .i64 s.size, .slice a.A1 s.now.length a.c1, .slice a.A2 s.snaps.length a.c2, .int .i64 s.next, .int .i64 s.fsize, .slice a.A5 s.sp.length a.c5, .slice a.A6 s.data.length a.c6] 31 (0, 0)) by rw [hW1]; exact bB w _)
  obtain ⟨b2, hb2e⟩ : ∃ k, k = w.heap.size := ⟨_, rfl⟩
  obtain ⟨b3, hb3e⟩ : ∃ k, k = w.heap.size + 1 := ⟨_, rfl⟩
  have HX2 := aa.mk (show W2.heap[b2]? = some (.cells #[.int .i64 s.size, .slice a.A1 s.now.length a.c1, .slice a.A2 s.snaps.length a.c2, .int .i64 s.next, .int .i64 s.fsize, .slice a.A5 s.sp.length a.c5, .slice a.A6 s.data.length a.c6] 31 (0, 0)) by rw [hb2e]; exact (hb2.block _ (aA hx1)).trans hx1)
  have HX3 := aa.mk (show W2.heap[b3]? = some (.cells #[.int .i64 x.what, .int .i64 x.at0, .int .i64 x.n, .int .i64 x.id, .string x.name, .slice Dx x.data.length cx] 55 (0, 0)) by rw [hW2, hb3e, (show w.heap.size + 1 = W1.heap.size by rw [hW1]; simp)]; exact bB W1 _)
  have HB := aa.mk (hb1.trans (hb2.mono hb1.size))
  have HR := aa.mk (hr.below HB.out)
  have HD := aa.mk (And.intro (Kd.bu hD HB.out) hc)
  have HN := aa.mk (And.intro hn hl)
  rw [hW1] at hW2
  clear hr hD hc hn hl hx1 hb1 hb2
  unfold aN eD
  go_enter Tryz.func10, Tryz.ntmps10
  go_wp2_with fail
  rw [← hW2, ← hb3e, ← hb2e]
  clear hW2 hW1 hb2e hb3e W1
  refine (zl W2).mono ?_
  rintro e w3 ⟨rfl, hb⟩
  have HX2' := aa.mk ((hb.block _ (aA HX2.out)).trans HX2.out)
  have HX3' := aa.mk ((hb.block _ (aA HX3.out)).trans HX3.out)
  have HR' := aa.mk (HR.out.below hb)
  have HD' := aa.mk (And.intro (Kd.bu HD.out.1 hb) HD.out.2)
  have HB' := aa.mk (HB.out.trans (hb.mono HB.out.size))
  clear hb HX2 HX3 HR HD HB
  have HX2 := HX2'
  have HX3 := HX3'
  have HR := HR'
  have HD := HD'
  have HB := HB'
  clear HX2' HX3' HR' HD' HB'
  have q0 := (ae HX2.out 0).trans rfl
  have q1 := (ae HX2.out 1).trans rfl
  have q2 := (ae HX2.out 2).trans rfl
  have q3 := (ae HX2.out 3).trans rfl
  have q4 := (ae HX2.out 4).trans rfl
  have q5 := (ae HX2.out 5).trans rfl
  have q6 := (ae HX2.out 6).trans rfl
  go_wp2_with fail
  clear q0 q1 q2 q3 q4 q5 q6
  refine (bT.calls s a (bY s) w3 HR.out (by unfold bT.f; rw [if_pos HN.out.1])).mono ?_
  rintro e w4 ⟨rfl, hb⟩
  have HX2' := aa.mk ((hb.block _ (aA HX2.out)).trans HX2.out)
  have HX3' := aa.mk ((hb.block _ (aA HX3.out)).trans HX3.out)
  have HR' := aa.mk (HR.out.below hb)
  have HD' := aa.mk (And.intro (Kd.bu HD.out.1 hb) HD.out.2)
  have HB' := aa.mk (HB.out.trans (hb.mono HB.out.size))
  clear hb HX2 HX3 HR HD HB
  have HX2 := HX2'
  have HX3 := HX3'
  have HR := HR'
  have HD := HD'
  have HB := HB'
  clear HX2' HX3' HR' HD' HB'
  rcases uj s with h0 | h0
  · rw [h0]
    clear h0
    go_wp2_with fail
    go_ret
    exact ⟨rfl, HB.out⟩
  have HBAD := aa.mk (show bY s ≠ 0 by rw [h0]; decide)
  have H9 := aa.mk h0
  rw [h0]
  clear h0
  have q0 := (ae HX2.out 0).trans rfl
  have q1 := (ae HX2.out 1).trans rfl
  have q2 := (ae HX2.out 2).trans rfl
  have q3 := (ae HX2.out 3).trans rfl
  have q4 := (ae HX2.out 4).trans rfl
  have q5 := (ae HX2.out 5).trans rfl
  have q6 := (ae HX2.out 6).trans rfl
  go_wp2_with fail
  clear q0 q1 q2 q3 q4 q5 q6
  refine (xu s a w4 HR.out HN.out.1 HBAD.out).mono ?_
  rintro e w5 ⟨rfl, hb⟩
  rw [H9.out]
  have HX2' := aa.mk ((hb.block _ (aA HX2.out)).trans HX2.out)
  have HX3' := aa.mk ((hb.block _ (aA HX3.out)).trans HX3.out)
  have HR' := aa.mk (HR.out.below hb)
  have HD' := aa.mk (And.intro (Kd.bu HD.out.1 hb) HD.out.2)
  have HB' := aa.mk (HB.out.trans (hb.mono HB.out.size))
  clear hb HX2 HX3 HR HD HB
  have HX2 := HX2'
  have HX3 := HX3'
  have HR := HR'
  have HD := HD'
  have HB := HB'
  clear HX2' HX3' HR' HD' HB'
  have q0 := (ae HX2.out 0).trans rfl
  have q1 := (ae HX2.out 1).trans rfl
  have q2 := (ae HX2.out 2).trans rfl
  have q3 := (ae HX2.out 3).trans rfl
  have q4 := (ae HX2.out 4).trans rfl
  have q5 := (ae HX2.out 5).trans rfl
  have q6 := (ae HX2.out 6).trans rfl
  go_wp2_with fail
  clear q0 q1 q2 q3 q4 q5 q6
  refine (yg s a 0 0 0 [] 9 w5 HR.out HN.out.1 (by unfold sU; rw [if_neg HBAD.out, H9.out])).mono ?_
  rintro e w6 ⟨v, rfl, hRb, hb⟩
  obtain ⟨A7, m7, rfl⟩ := Kd.bf hRb
  clear hRb
  have HX2' := aa.mk ((hb.block _ (aA HX2.out)).trans HX2.out)
  have HX3' := aa.mk ((hb.block _ (aA HX3.out)).trans HX3.out)
  have HR' := aa.mk (HR.out.below hb)
  have HD' := aa.mk (And.intro (Kd.bu HD.out.1 hb) HD.out.2)
  have HB' := aa.mk (HB.out.trans (hb.mono HB.out.size))
  clear hb HX2 HX3 HR HD HB
  have HX2 := HX2'
  have HX3 := HX3'
  have HR := HR'
  have HD := HD'
  have HB := HB'
  clear HX2' HX3' HR' HD' HB'
  go_wp2_with fail
  refine dH (n := 11) (S := fun w' => w'.cell? ⟨b2, 0, none⟩ = some (.int .i64 s.size) ∧ w'.cell? ⟨b2, 1, none⟩ = some (.slice a.A1 s.now.length a.c1) ∧ w'.cell? ⟨b2, 2, none⟩ = some (.slice a.A2 s.snaps.length a.c2) ∧ w'.cell? ⟨b2, 3, none⟩ = some (.int .i64 s.next) ∧ w'.cell? ⟨b2, 4, none⟩ = some (.int .i64 s.fsize) ∧ w'.cell? ⟨b2, 5, none⟩ = some (.slice a.A5 s.sp.length a.c5) ∧ w'.cell? ⟨b2, 6, none⟩ = some (.slice a.A6 s.data.length a.c6) ∧ w'.cell? ⟨b3, 0, none⟩ = some (.int .i64 x.what) ∧ w'.cell? ⟨b3, 1, none⟩ = some (.int .i64 x.at0) ∧ w'.cell? ⟨b3, 2, none⟩ = some (.int .i64 x.n) ∧ w'.cell? ⟨b3, 3, none⟩ = some (.int .i64 x.id) ∧ w'.cell? ⟨b3, 4, none⟩ = some (.string x.name) ∧ w'.cell? ⟨b3, 5, none⟩ = some (.slice Dx x.data.length cx)) (ds := [9, 10]) (lb 11 0) (by kernel_rfl) rfl (by kernel_rfl) ⟨(ae HX2.out 0).trans rfl, (ae HX2.out 1).trans rfl, (ae HX2.out 2).trans rfl, (ae HX2.out 3).trans rfl, (ae HX2.out 4).trans rfl, (ae HX2.out 5).trans rfl, (ae HX2.out 6).trans rfl, (ae HX3.out 0).trans rfl, (ae HX3.out 1).trans rfl, (ae HX3.out 2).trans rfl, (ae HX3.out 3).trans rfl, (ae HX3.out 4).trans rfl, (ae HX3.out 5).trans rfl⟩ (fun hHeld => ?_)
  refine bG wB tH (fun HT_ HW_ => ?_)
  have hb := aV (Below.refl w6.heap.size w6)
  generalize w6.drew = w7 at hHeld hb ⊢
  have HX2' := aa.mk ((hb.block _ (aA HX2.out)).trans HX2.out)
  have HX3' := aa.mk ((hb.block _ (aA HX3.out)).trans HX3.out)
  have HR' := aa.mk (HR.out.below hb)
  have HD' := aa.mk (And.intro (Kd.bu HD.out.1 hb) HD.out.2)
  have HB' := aa.mk (HB.out.trans (hb.mono HB.out.size))
  clear hb HX2 HX3 HR HD HB
  have HX2 := HX2'
  have HX3 := HX3'
  have HR := HR'
  have HD := HD'
  have HB := HB'
  clear HX2' HX3' HR' HD' HB'
  refine tk_ 0 29 11 1 ?_
  refine tk_ 1 30 11 3 ?_
  refine nd2_in 9 31 #[.int .i64 0, .slice none 0 0, .slice none 0 0, .int .i64 0, .int .i64 0, .slice none 0 0, .slice none 0 0] 10 58 #[.int .i64 0, .slice none 0 0, .int .i64 0, .slice none 0 0, .int .i64 0] 131 259 387 hHeld ?_
  clear hHeld
  refine qE HT_.out 2 7 8 7 135 263 391 Tryz.func28 #[.agg (eD x Dx cx)] (Nat.le_refl _) (fun _ _ hb h => ⟨aJ hb h.1, aJ hb h.2.1, aJ hb h.2.2.1, aJ hb h.2.2.2.1, aJ hb h.2.2.2.2.1, aJ hb h.2.2.2.2.2.1, aJ hb h.2.2.2.2.2.2.1, aJ hb h.2.2.2.2.2.2.2.1, aJ hb h.2.2.2.2.2.2.2.2.1, aJ hb h.2.2.2.2.2.2.2.2.2.1, aJ hb h.2.2.2.2.2.2.2.2.2.2.1, aJ hb h.2.2.2.2.2.2.2.2.2.2.2.1, aJ hb h.2.2.2.2.2.2.2.2.2.2.2.2⟩) (fun w' hb => ?_)
  refine (qQ x Dx cx w' (Kd.bu HD.out.1 hb) HD.out.2 HN.out.2).mono ?_
  rintro e w8 ⟨DO, mO, rfl, hR8, hb'⟩
  refine ⟨_, rfl, hb', ?_⟩
  have HBW := aa.mk (hb.trans (hb'.mono hb.size))
  clear hb hb' hR8 w'
  refine yj ?_
  refine qE HT_.out 3 7 8 15 143 271 399 Tryz.func27 #[.agg (aN s a), .agg (eD x DO mO)] HBW.out.size (fun _ _ hb h => ⟨aJ hb h.1, aJ hb h.2.1, aJ hb h.2.2.1, aJ hb h.2.2.2.1, aJ hb h.2.2.2.2.1, aJ hb h.2.2.2.2.2.1, aJ hb h.2.2.2.2.2.2.1, aJ hb h.2.2.2.2.2.2.2.1, aJ hb h.2.2.2.2.2.2.2.2.1, aJ hb h.2.2.2.2.2.2.2.2.2.1, aJ hb h.2.2.2.2.2.2.2.2.2.2.1, aJ hb h.2.2.2.2.2.2.2.2.2.2.2.1, aJ hb h.2.2.2.2.2.2.2.2.2.2.2.2⟩) (fun w' hb => ?_)
  have hbW := HBW.out.trans (hb.mono HBW.out.size)
  refine (Do_bad s a x DO mO w' (HR.out.below hbW) HN.out.1 HBAD.out).mono ?_
  rintro e w9 ⟨rfl, hb'⟩
  rw [H9.out]
  refine ⟨_, rfl, hb', ?_⟩
  have HBW' := aa.mk (hbW.trans (hb'.mono hbW.size))
  clear hb hb' hbW HBW
  have HBW := HBW'
  clear HBW' w'
  refine yj ?_
  refine vv HT_.out 4 31 159 287 415 ?_
  refine vv HT_.out 5 63 191 319 447 ?_
  refine vv HT_.out 6 127 255 383 511 ?_
  refine zm HT_.out 7 8 HBW.out.size (fun _ _ hb h => ⟨aJ hb h.1, aJ hb h.2.1, aJ hb h.2.2.1, aJ hb h.2.2.2.1, aJ hb h.2.2.2.2.1, aJ hb h.2.2.2.2.2.1, aJ hb h.2.2.2.2.2.2.1, aJ hb h.2.2.2.2.2.2.2.1, aJ hb h.2.2.2.2.2.2.2.2.1, aJ hb h.2.2.2.2.2.2.2.2.2.1, aJ hb h.2.2.2.2.2.2.2.2.2.2.1, aJ hb h.2.2.2.2.2.2.2.2.2.2.2.1, aJ hb h.2.2.2.2.2.2.2.2.2.2.2.2⟩) (fun b9 b10 w' hb hSw h9 h10 hB9 hB10 => ?_)
  have hbW := HBW.out.trans (hb.mono HBW.out.size)
  have HE := aa.mk (show b9 ≠ b10 from fun e => by rw [e] at h9; rw [h10] at h9; injection h9 with h9; injection h9 with _ h2 _; revert h2; decide)
  have HBW' := aa.mk hbW
  have H9b := aa.mk h9
  have H10b := aa.mk h10
  have HGE := aa.mk (show w.heap.size ≤ b9 ∧ w.heap.size ≤ b10 ∧ w7.heap.size ≤ b9 ∧ w7.heap.size ≤ b10 from ⟨by have := HB.out.size; omega, by have := HB.out.size; omega, hB9, hB10⟩)
  clear hb hSw h9 h10 hB9 hB10 hbW HBW
  refine qJ ?_
  refine fC HT_.out 9 b9 1023 NIL7 H9b.out ?_ (h1 := by simp [Value.oneCell', NIL7])
  refine fC HT_.out 10 b10 2047 #[.int .i64 9, .slice none 0 0, .int .i64 0, .slice none 0 0, .int .i64 0] ((setRow_other w' b9 b10 _ (Ne.symm HE.out)).trans H10b.out) ?_
  refine mP HT_.out ?_
  have e9 := (setRow_other (w'.setRow b9 NIL7) b10 b9 #[.int .i64 9, .slice none 0 0, .int .i64 0, .slice none 0 0, .int .i64 0] HE.out).trans (setRow_heap w' b9 _ NIL7 _ _ H9b.out)
  have e10 := setRow_heap (w'.setRow b9 NIL7) b10 _ #[.int .i64 9, .slice none 0 0, .int .i64 0, .slice none 0 0, .int .i64 0] _ _ ((setRow_other w' b9 b10 NIL7 (Ne.symm HE.out)).trans H10b.out)
  have hb : Below w7.heap.size w7 ((w'.setRow b9 NIL7).setRow b10 #[.int .i64 9, .slice none 0 0, .int .i64 0, .slice none 0 0, .int .i64 0]) := aQ (aQ HBW'.out (g := b9) HGE.out.2.2.1 _) (g := b10) HGE.out.2.2.2 _
  clear HBW' H9b H10b HT_ HW_
  generalize (w'.setRow b9 NIL7).setRow b10 #[.int .i64 9, .slice none 0 0, .int .i64 0, .slice none 0 0, .int .i64 0] = w11 at e9 e10 hb ⊢
  have HX2' := aa.mk ((hb.block _ (aA HX2.out)).trans HX2.out)
  have HX3' := aa.mk ((hb.block _ (aA HX3.out)).trans HX3.out)
  have HR' := aa.mk (HR.out.below hb)
  have HD' := aa.mk (And.intro (Kd.bu HD.out.1 hb) HD.out.2)
  have HB' := aa.mk (HB.out.trans (hb.mono HB.out.size))
  clear hb HX2 HX3 HR HD HB
  have HX2 := HX2'
  have HX3 := HX3'
  have HR := HR'
  have HD := HD'
  have HB := HB'
  clear HX2' HX3' HR' HD' HB'
  have H9b := aa.mk e9
  have H10b := aa.mk e10
  clear e9 e10
  have q0 := (ae HX2.out 0).trans rfl
  have q1 := (ae HX2.out 1).trans rfl
  have q2 := (ae HX2.out 2).trans rfl
  have q3 := (ae HX2.out 3).trans rfl
  have q4 := (ae HX2.out 4).trans rfl
  have q5 := (ae HX2.out 5).trans rfl
  have q6 := (ae HX2.out 6).trans rfl
  go_wp2_with fail
  clear q0 q1 q2 q3 q4 q5 q6
  refine (vO s a w11 HR.out HN.out.1 HBAD.out).mono ?_
  rintro e w12 ⟨rfl, hb⟩
  rw [H9.out]
  have HBF := aa.mk (HB.out.trans (hb.mono HB.out.size))
  have H9c := aa.mk ((hb.block _ (aA H9b.out)).trans H9b.out)
  have H10c := aa.mk ((hb.block _ (aA H10b.out)).trans H10b.out)
  clear hb H9b H10b HX2 HX3 HR HD HB
  go_wp2_with (refine ji (.store 98 (.tmp 11) (.tmp 38)) rfl ?_; refine jh ?_)
  refine ⟨?_⟩
  refine dm w12.heap.size NIL3 (bB w12 _) ?_ (h1 := by simp [Value.oneCell', NIL3])
  have hbl := (Below.refl w12.heap.size w12).alloc (Nat.le_refl _) (.cells #[.slice none 0 0, .slice none 0 0, .int .i64 0] 98)
  have HB := aa.mk (aQ (HBF.out.trans (hbl.mono HBF.out.size)) (g := w12.heap.size) HBF.out.size NIL3)
  have h9 := (setRow_other (w12.alloc (.cells #[.slice none 0 0, .slice none 0 0, .int .i64 0] 98)) w12.heap.size b9 NIL3 (by have := aA H9c.out; omega)).trans ((hbl.block _ (aA H9c.out)).trans H9c.out)
  have h10 := (setRow_other (w12.alloc (.cells #[.slice none 0 0, .slice none 0 0, .int .i64 0] 98)) w12.heap.size b10 NIL3 (by have := aA H10c.out; omega)).trans ((hbl.block _ (aA H10c.out)).trans H10c.out)
  clear hbl HBF H9c H10c
  generalize (w12.alloc (.cells #[.slice none 0 0, .slice none 0 0, .int .i64 0] 98)).setRow w12.heap.size NIL3 = w13 at HB h9 h10 ⊢
  have q0 : w13.cell? ⟨b10, 0, none⟩ = some (.int .i64 9) := (ae h10 0).trans rfl
  have q1 : w13.cell? ⟨b9, 6, none⟩ = some (.slice none 0 0) := (ae h9 6).trans rfl
  go_wp2_with fail
  go_ret
  exact ⟨by first | rfl | simp, HB.out⟩
end Go.Proofs.YtjeeejoelmmfmaaGreat.Fn
