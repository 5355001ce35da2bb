-- Told by hand; its numbers filled in by a program of this session.
import Derived.Test.YtkkfkdncddbaeaaFnBase
import Derived.Test.YtkkfkdncddbaeaaHL06t
import Derived.Test.YtkkfkdncddbaeaaFn111
import Derived.Test.YtkkfkdncddbaeaaHPureT
namespace Go.Proofs.Ytkkfkdncddbaeaa.Fn
open Go.RowKit Go.Proofs.YtkkfkdncddbaeaaW.PrintWords Go.Proofs.YtkkfkdncddbaeaaW.PrintLast Go.Proofs.YtkkfkdncddbaeaaW.PrintMore
attribute [local go_sem] max2_int min2_int max_two min_two max_three min_three max_four min_four   -- for this text's walks alone
set_option linter.unusedVariables false
set_option linter.unusedSimpArgs false

/-! free.Without in plain lists. -/
def gapG (s : List S40 × Int) (x : S40) : List S40 × Int := (if s.2 < x.f0 then s.1 ++ [⟨s.2, wrap64 (x.f0 - s.2)⟩] else s.1, mx s.2 (wrap64 (x.f0 + x.f1)))
def gapL (ys : List S40) (size : Int) : List S40 := ((ys ++ [(⟨size, 0⟩ : S40)]).foldl gapG ([], 0)).1
def insG (size : Int) (x : S40) : Bool := Flag.insB size (toP x)
def withoutG (size : Int) (l : List S40) : Int × List S40 × Int := if size < 0 ∨ size > 65536 then (0, [], 4) else if (l.length : Int) > 1024 then (0, [], 3) else if l.all (insG size) = true then (if ((gapL (sortL l) size).length : Int) > 1024 then (0, [], 51) else (size, gapL (sortL l) size, 0)) else (0, [], 4)
theorem gapFold (ys : List S40) : ∀ s : List S40 × Int, 0 ≤ s.2 → s.2 ≤ 65536 → (∀ x ∈ ys, 0 ≤ x.f0 ∧ 0 ≤ x.f1 ∧ x.f0 + x.f1 ≤ 65536) → ((ys.foldl gapG s).1.map toP, (ys.foldl gapG s).2) = (ys.map toP).foldl Flag.gapStep (s.1.map toP, s.2) := by
  induction ys with
  | nil => intro s _ _ _; rfl
  | cons x t ih =>
    intro s h0 h1 h
    obtain ⟨q1, q2, q3⟩ := h x List.mem_cons_self
    have e2 : (gapG s x).2 = max s.2 (x.f0 + x.f1) := by
      show mx s.2 (wrap64 (x.f0 + x.f1)) = _
      rw [w64 (by omega), mx_max]
    have e1 : (gapG s x).1.map toP = (Flag.gapStep (s.1.map toP, s.2) (toP x)).1 := by
      unfold gapG Flag.gapStep
      show _ = if s.2 < x.f0 then s.1.map toP ++ [⟨s.2, x.f0 - s.2⟩] else s.1.map toP
      simp only []
      split
      · rw [w64 (by omega), List.map_append]; rfl
      · rfl
    rw [List.foldl_cons, List.map_cons, List.foldl_cons, ih (gapG s x) (by rw [e2]; omega) (by rw [e2]; omega) (fun y hy => h y (List.mem_cons_of_mem _ hy)), e1, e2]
    rfl
theorem gapL_toP {ys : List S40} {size : Int} (h0 : 0 ≤ size) (h1 : size ≤ 65536) (h : ∀ x ∈ ys, Flag.Ins size (toP x)) : (gapL ys size).map toP = Flag.gapS (ys.map toP) size := by
  have e := gapFold (ys ++ [(⟨size, 0⟩ : S40)]) ([], 0) (Int.le_refl _) (by decide) (fun x hx => by
    rcases List.mem_append.1 hx with hx | hx
    · have hi := h x hx
      have q1 : 0 < x.f1 := hi.n
      have q2 : 0 ≤ x.f0 := hi.a
      have q3 : x.f0 + x.f1 ≤ size := hi.e
      omega
    · have : x = ⟨size, 0⟩ := by simpa using hx
      subst this
      dsimp only; omega)
  rw [List.map_append] at e
  exact congrArg Prod.fst e
theorem gapS_same {l m : List Flag.Sp} {size : Int} (h0 : 0 ≤ size) (hl : Flag.risingS l) (hm : Flag.risingS m) (hp : ∀ x ∈ m, Flag.Ins size x) (he : ∀ x, x ∈ l ↔ x ∈ m) : Flag.gapS l size = Flag.gapS m size := by
  obtain ⟨a1, a2⟩ := Flag.gapS_spec (size := size) h0 hl fun x hx => by have h := hp x ((he x).1 hx); exact ⟨h.n, h.a, h.e⟩
  obtain ⟨b1, b2⟩ := Flag.gapS_spec (size := size) h0 hm fun x hx => by have h := hp x hx; exact ⟨h.n, h.a, h.e⟩
  refine Flag.NFs.ext a1 b1 fun i => ?_
  rw [a2, b2]
  have : Flag.memS l i ↔ Flag.memS m i := by
    rw [Flag.memS_iff, Flag.memS_iff]
    exact ⟨fun ⟨x, hx, h⟩ => ⟨x, (he x).1 hx, h⟩, fun ⟨x, hx, h⟩ => ⟨x, (he x).2 hx, h⟩⟩
  rw [this]
theorem perm_toP {l m : List S40} (hp : l.Perm m) (x : Flag.Sp) : x ∈ l.map toP ↔ x ∈ m.map toP := (hp.map toP).mem_iff
theorem gapL_of {l ys : List S40} {size : Int} (h0 : 0 ≤ size) (h1 : size ≤ 65536) (h : ∀ x ∈ l, Flag.Ins size (toP x)) (hp : ys.Perm l) (hs : ys.Pairwise fun a b => a.f0 ≤ b.f0) : gapL ys size = gapL (sortL l) size := by
  apply toP_inj
  rw [gapL_toP h0 h1 fun x hx => h x (hp.mem_iff.1 hx), gapL_toP h0 h1 fun x hx => h x ((sortL_perm l).mem_iff.1 hx)]
  exact gapS_same h0 (rising_toP hs) (rising_toP (sortL_sorted l)) (fun x hx => by
    obtain ⟨y, hy, rfl⟩ := List.mem_map.1 hx
    exact h y ((sortL_perm l).mem_iff.1 hy)) (fun x => (perm_toP (hp.trans (sortL_perm l).symm) x))
theorem all_insG {size : Int} {l : List S40} : l.all (insG size) = (l.map toP).all (Flag.insB size) := by
  rw [List.all_map]; rfl
theorem without_F (size : Int) (l : List S40) : ((withoutG size l).1, (withoutG size l).2.1.map toP, (withoutG size l).2.2) = Flag.wRef size (l.map toP) := by
  rw [← Flag.wFor_ref (l := (sortL l).map toP) (rising_toP (sortL_sorted l)) (fun x => perm_toP (sortL_perm l) x)]
  unfold withoutG Flag.wFor
  rw [List.length_map, all_insG]
  split
  · rfl
  · rename_i h0
    split
    · rfl
    · split
      · rename_i ha
        have hin : ∀ x ∈ l, Flag.Ins size (toP x) := fun x hx => Flag.insB_iff.1 (List.all_eq_true.1 ha _ (List.mem_map_of_mem hx))
        have hg := gapL_toP (ys := sortL l) (size := size) (by omega) (by omega) fun x hx => hin x ((sortL_perm l).mem_iff.1 hx)
        unfold Flag.fullF
        rw [← hg, List.length_map]
        split
        · rfl
        · rfl
      · rfl

end Go.Proofs.Ytkkfkdncddbaeaa.Fn
