/- The law VolumeRaw: for all inputs it answers true, and what came in reads as it did. No condition. -/
import Derived.Test.YtjeeejoelmmfmaaGreatRows
import Derived.WalkKit
import Derived.ProofKit
import Derived.OpenShut
import Derived.ShutString
import Derived.ChangeOld
import Derived.Below
import Derived.SizedLaws
import Derived.Carry
import Derived.Test.YtjeeejoelmmfmaaGreatR8
namespace Go.Proofs.YtjeeejoelmmfmaaGreat.volumeRaw
open Go.ChangeShapes Go.WideShapes Go.ChangeAt Go.RowKit Go.Proofs.YtjeeejoelmmfmaaGreat.Fn
theorem own : ownKnob Tryz.prog.godebug = none := by kernel_rfl
set_option maxHeartbeats 1000000 in
set_option maxRecDepth 100000 in
theorem lifted (os : Os) (started : os.Started) (H : Type) (enc : TypeId × Value → H) :
    ReturnsInHanded {} Tryz.checked os 10 .any (Rows.volumeRawSpec.pre6 enc Tryz.prog Tryz.f10 Rows.volumeRawRow.domain false) (Rows.volumeRawSpec.post enc Tryz.prog Tryz.f10 false true false false) := by
  refine returnsInHanded_of_change_sized (C := Tryz.checked) own started (by kernel_rfl) Tryz.func10
    (ChangeSpec.witness6 (enc := enc) (C := Tryz.checked) false ⟨#[], #[.agg #[.int .i64 0, .slice none 0 0, .slice none 0 0, .int .i64 0, .int .i64 0, .slice none 0 0, .slice none 0 0], .agg #[.int .i64 0, .int .i64 0, .int .i64 0, .int .i64 0, .string ⟨#[]⟩, .slice none 0 0]], []⟩ 8 (by kernel_rfl) (by kernel_rfl) (by kernel_rfl) (by kernel_rfl)) ?_
  intro W base args ds gs before hval0 hW hcnd hsz0 _
  have hsz : (DataW.weightsEach Tryz.prog (Tryz.f10.params.toList ++ Rows.volumeRawSpec.plain.varTypes Tryz.prog) (ds ++ gs)).all (· ≤ reachBytes) = true := hsz0
  have hval : ∀ (j : Nat) t v, Tryz.f10.params[j]? = some t → args[j]? = some v → Value.okWide Tryz.prog W .any base t v := hval0
  have hW' := hW
  obtain ⟨p, q, hA0, hV, rfl, hfz, hnd⟩ := hW
  have hA : DataW.TrodAll enc Tryz.prog W 0 (fun _ => true) true Tryz.f10.params.toList args.toList ds p := hA0
  rw [Tryz.params10] at hA hval hsz
  obtain ⟨v0, vs0, d0, ds0, p0, q0, hargs, rfl, rfl, h0, r0⟩ := trodAll_cons hA
  obtain ⟨v1, vs1, d1, ds1, p1, q1, rfl, rfl, rfl, h1, r1⟩ := trodAll_cons r0
  obtain ⟨rfl, rfl, rfl⟩ := trodAll_nil r1
  obtain rfl : args = #[v0, v1] := by cases args; simp_all
  obtain ⟨rfl, rfl⟩ := trodVars_none hV
  have k0 := h0
  have lt0 : ∀ x ∈ p0, x.block < W.heap.size := by obtain ⟨m, hm⟩ := k0; exact DataW.trod_lt m _ _ _ hm
  obtain ⟨s0, a0, D00, D01, D02, D03, D04, D05, rfl, hr0, hd0, hw0⟩ := Fn.xI (hval 0 31 v0 rfl rfl) h0
  subst hd0
  have y0 : s0.snaps.length * 56 ≤ 140737488351232 := Fn.r_ hsz (j := 0) rfl rfl hw0
  have k1 := h1
  have lt1 : ∀ x ∈ p1, x.block < W.heap.size := by obtain ⟨m, hm⟩ := k1; exact DataW.trod_lt m _ _ _ hm
  obtain ⟨x1_0, x1_1, x1_2, x1_3, x1_4, A1, l1, c1, D10, D11, D12, D13, D14, D15, rfl, hc1, hr1, hd1, hw1⟩ := Fn.Ac (hval 1 55 v1 rfl rfl) h1
  subst hd1
  have y1 : l1.length ≤ 140737488351232 := Fn.tX hsz (j := 1) rfl rfl hw1
  clear hA0 hval0 hsz0 hsz
  refine (Fn.raw_v s0 a0 ⟨x1_0, x1_1, x1_2, x1_3, x1_4, l1⟩ A1 c1 W hr0 hr1 hc1 (by omega) (by show l1.length < _; omega)).mono fun e W' ⟨he, bel⟩ => ?_
  subst he
  exact ⟨_, rfl, _, _, _, [], _, [], hW', trodAll_mk1 (shut_bool Tryz.underlying4 _), (trodAll_cons_mk (Below.trod Fn.laidOut (by kernel_rfl) (of_decide_eq_true (by kernel_rfl)) k0 bel lt0) (trodAll_cons_mk (Below.trod Fn.laidOut (by kernel_rfl) (of_decide_eq_true (by kernel_rfl)) k1 bel lt1) trodAll_mk0)), rfl, bel.frame _, fun h => by cases h⟩
theorem lifts1 : (Rows.volumeRawRow.lifted == Tryz.prog.liftsFinal) = true := by rw [Head.lifts0]; rfl
theorem make1 : (Tryz.prog.make == some Rows.volumeRawRow.make) = true := by rw [Head.make0]; rfl
set_option maxRecDepth 100000 in
theorem closed : joinedFacts Tryz.prog 10 Tryz.f10 Rows.volumeRawSpec Rows.volumeRawRow = true := by
  unfold joinedFacts
  simp only [Bool.and_eq_true]
  repeat' apply And.intro
  all_goals first | with_reducible exact Head.enter0 | with_reducible exact lifts1 | with_reducible exact make1 | kernel_rfl
theorem over : Rows.volumeRawRow.holds Tryz.pinned (OpenSpec.ofChange Rows.volumeRawSpec) :=
  OpenClaim.holds_of_wide 10 Tryz.f10 rfl rfl rfl rfl rfl rfl rfl ⟨rfl, rfl, rfl, rfl, rfl⟩ rfl rfl rfl rfl rfl (by kernel_rfl) Tryz.func10 closed
    (of_decide_eq_true (by kernel_rfl)) (by unfold Func.isWrapper; first | (rw [if_pos (by decide +kernel)]; kernel_rfl) | (rw [if_neg (by decide +kernel)]; exact ⟨rfl, rfl⟩))
    (fun os started H enc _ => lifted os started H enc)
theorem proved : Rows.VolumeRawSaid := over
#print axioms proved
end Go.Proofs.YtjeeejoelmmfmaaGreat.volumeRaw
namespace Go.Proofs.YtjeeejoelmmfmaaGreat
/-- The row, under a short name, for the claim. -/
theorem volumeRaw_holds : Rows.VolumeRawSaid := volumeRaw.proved
end Go.Proofs.YtjeeejoelmmfmaaGreat
