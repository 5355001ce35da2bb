/- The law RefsOwn: for all inputs it answers true, and what came in reads as it did. No condition. -/
import Derived.Test.YtkkfkdncddbaeaaRows
import Derived.WalkKit
import Derived.ProofKit
import Derived.OpenShut
import Derived.ShutString
import Derived.ChangeOld
import Derived.Below
import Derived.SizedLaws
import Derived.Carry
import Derived.Test.YtkkfkdncddbaeaaV6
namespace Go.Proofs.Ytkkfkdncddbaeaa.refsOwn
open Go.ChangeShapes Go.WideShapes Go.ChangeAt Go.RowKit Go.Proofs.Ytkkfkdncddbaeaa.Fn
theorem own : ownKnob Try.prog.godebug = none := by kernel_rfl
set_option maxHeartbeats 1000000 in
set_option maxRecDepth 100000 in
theorem lifted (os : Os) (started : os.Started) (H : Type) (enc : TypeId × Value → H) :
    ReturnsInHanded {} Try.checked os 22 .any (Rows.refsOwnSpec.pre6 enc Try.prog Try.f22 Rows.refsOwnRow.domain false) (Rows.refsOwnSpec.post enc Try.prog Try.f22 false true false false) := by
  refine returnsInHanded_of_change_sized (C := Try.checked) own started (by kernel_rfl) Try.func22
    (ChangeSpec.witness6 (enc := enc) (C := Try.checked) false ⟨#[], #[.slice none 0 0], []⟩ 8 (by kernel_rfl) (by kernel_rfl) (by kernel_rfl) (by kernel_rfl)) ?_
  intro W base args ds gs before hval0 hW hcnd hsz0 _
  have hsz : (DataW.weightsEach Try.prog (Try.f22.params.toList ++ Rows.refsOwnSpec.plain.varTypes Try.prog) (ds ++ gs)).all (· ≤ reachBytes) = true := hsz0
  have hval : ∀ (j : Nat) t v, Try.f22.params[j]? = some t → args[j]? = some v → Value.okWide Try.prog W .any base t v := hval0
  have hW' := hW
  obtain ⟨p, q, hA0, hV, rfl, hfz, hnd⟩ := hW
  have hA : DataW.TrodAll enc Try.prog W 0 (fun _ => true) true Try.f22.params.toList args.toList ds p := hA0
  rw [Try.params22] at hA hval hsz
  obtain ⟨v0, vs0, d0, ds0, p0, q0, hargs, rfl, rfl, h0, r0⟩ := trodAll_cons hA
  obtain ⟨rfl, rfl, rfl⟩ := trodAll_nil r0
  obtain rfl : args = #[v0] := by cases args; simp_all
  obtain ⟨rfl, rfl⟩ := trodVars_none hV
  have k0 := h0
  have lt0 : ∀ x ∈ p0, x.block < W.heap.size := by obtain ⟨m, hm⟩ := k0; exact DataW.trod_lt m _ _ _ hm
  obtain ⟨a0, len0, cap0, rfl⟩ := okWide_slice Try.underlying79 (hval 0 79 v0 rfl rfl)
  obtain ⟨l0, rfl, c0, hr0, hd0, hm0⟩ := Fn.open_maps h0
  have y0 : l0.length * 32 ≤ 140737488351232 := Fn.row_weight Try.underlying79 (by kernel_rfl) hsz (j := 0) (t := 79) rfl rfl hd0
  have z0 : ∀ x ∈ l0, x.f1.length * 24 ≤ 140737488351232 := fun x hx => Fn.weight_map hsz (j := 0) rfl rfl (hm0 x hx)
  clear hA0 hval0 hsz0 hsz
  have hp := Fn.refsOwn_row l0 y0 z0 
  refine (Fn.flagstonelaw09_RefsOwn.calls _ _ l0 true W hr0 c0 hp).mono fun e W' ⟨he, bel⟩ => ?_
  subst he
  exact ⟨_, rfl, _, _, _, [], _, [], hW', trodAll_mk1 (shut_bool Try.underlying4 _), (trodAll_cons_mk (Below.trod Fn.laidOut (by kernel_rfl) (of_decide_eq_true (by kernel_rfl)) k0 bel lt0) trodAll_mk0), rfl, bel.frame _, fun h => by cases h⟩
theorem lifts1 : (Rows.refsOwnRow.lifted == Try.prog.liftsFinal) = true := by rw [Head.lifts0]; rfl
theorem make1 : (Try.prog.make == some Rows.refsOwnRow.make) = true := by rw [Head.make0]; rfl
set_option maxRecDepth 100000 in
theorem closed : joinedFacts Try.prog 22 Try.f22 Rows.refsOwnSpec Rows.refsOwnRow = true := by
  unfold joinedFacts
  simp only [Bool.and_eq_true]
  repeat' apply And.intro
  all_goals first | with_reducible exact Head.enter0 | with_reducible exact lifts1 | with_reducible exact make1 | kernel_rfl
theorem over : Rows.refsOwnRow.holds Try.pinned (OpenSpec.ofChange Rows.refsOwnSpec) :=
  OpenClaim.holds_of_wide 22 Try.f22 rfl rfl rfl rfl rfl rfl rfl ⟨rfl, rfl, rfl, rfl, rfl⟩ rfl rfl rfl rfl rfl (by kernel_rfl) Try.func22 closed
    (of_decide_eq_true (by kernel_rfl)) (by unfold Func.isWrapper; first | (rw [if_pos (by decide +kernel)]; kernel_rfl) | (rw [if_neg (by decide +kernel)]; exact ⟨rfl, rfl⟩))
    (fun os started H enc _ => lifted os started H enc)
theorem proved : Rows.RefsOwnSaid := over
#print axioms proved
end Go.Proofs.Ytkkfkdncddbaeaa.refsOwn
namespace Go.Proofs.Ytkkfkdncddbaeaa
/-- The row, under a short name, for the claim. -/
theorem refsOwn_holds : Rows.RefsOwnSaid := refsOwn.proved
end Go.Proofs.Ytkkfkdncddbaeaa
