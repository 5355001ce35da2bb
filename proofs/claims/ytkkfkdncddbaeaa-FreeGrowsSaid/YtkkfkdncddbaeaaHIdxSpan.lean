-- Told by hand; its numbers filled in by a program of this session.
import Derived.Test.YtkkfkdncddbaeaaFnBase
import Derived.Test.YtkkfkdncddbaeaaHNums
import Derived.Shelf.SlicesQ.IndexFunc
namespace Go.Proofs.Ytkkfkdncddbaeaa.Fn
open Go.RowKit Go.Proofs.YtkkfkdncddbaeaaW.PrintWords Go.Proofs.YtkkfkdncddbaeaaW.PrintLast Go.Proofs.YtkkfkdncddbaeaaW.PrintMore
attribute [local go_sem] max2_int min2_int max_two min_two max_three min_three max_four min_four   -- for this text's walks alone
set_option linter.unusedVariables false
set_option linter.unusedSimpArgs false

/-! slices.IndexFunc at spans, whatever the predicate (it may lay blocks of its own). -/
/-- The first place where p holds, or -1. -/
def idxF {α : Type} (p : α → Bool) (l : List α) : Int := match l.findIdx? p with
  | some i => (i : Int)
  | none => -1
theorem idxF_hit {α : Type} {p : α → Bool} {l : List α} {k : Nat} (hk : k < l.length) (h : p l[k] = true) (ha : ∀ j (hj : j < k), p (l[j]'(by omega)) = false) : idxF p l = (k : Int) := by
  have : l.findIdx? p = some k := List.findIdx?_eq_some_iff_getElem.2 ⟨hk, h, fun j hj => by simpa using ha j hj⟩
  unfold idxF; rw [this]
theorem idxF_miss {α : Type} {p : α → Bool} {l : List α} (ha : ∀ x ∈ l, p x = false) : idxF p l = -1 := by
  have : l.findIdx? p = none := List.findIdx?_eq_none_iff.2 ha
  unfold idxF; rw [this]
set_option maxHeartbeats 2000000 in
set_option maxRecDepth 100000 in
theorem idx_span (cl : Nat) (lb : Array Value) (p : S40 → Bool) (eg : ∀ args w, (callFunc cl args).run Try.prog w = .ok (.enter cl args) w)
    (A0 : Option Addr) (c0 : Nat) (l0 : List S40) (w : World) (hr0 : Kd.C k40 w A0 l0.length l0)
    (hp : ∀ (W : World) (x : S40), Below w.heap.size w W → Calls Try.prog cl (#[.agg #[.int .i64 x.f0, .int .i64 x.f1]] ++ lb) W fun e w' => e = .returned (.bool (p x)) ∧ Below w.heap.size w w') :
    Calls Try.prog 139 #[.slice A0 l0.length c0, .func (.func cl) #[] lb] w fun e w' => e = .returned (.int .i64 (idxF p l0)) ∧ Below w.heap.size w w' := by
  have hu40 := Try.underlying40
  have HR0 := Aside0.mk hr0
  have HP := Aside0.mk hp
  clear hr0 hp
  go_enter Try.func139, Try.ntmps139
  go_wp2
  go_loopg [5, 8] l0.length (fun gk _ v8 W => ∃ i : Int, v8 = .int .i64 i ∧ Aside0 (0 ≤ i ∧ i + gk = l0.length) ∧ Aside0 (Below w.heap.size w W) ∧ Aside0 (∀ j (hj : j < l0.length), (j : Int) < i → p l0[j] = false))
  case atStart => exact ⟨0, rfl, ⟨Int.le_refl _, by simp⟩, ⟨Below.refl _ w⟩, ⟨fun j hj h => by omega⟩⟩
  case round =>
    obtain ⟨i, rfl, HI, HB, HA⟩ := hrel
    cases gk with
    | zero =>
      have hi : i = l0.length := by have := HI.out.2; omega
      have hd : decide (i < (l0.length : Int)) = false := decide_eq_false (by omega)
      have hr : idxF p l0 = -1 := idxF_miss (fun x hx => by
        obtain ⟨j, hj, rfl⟩ := List.mem_iff_getElem.1 hx
        exact HA.out j hj (by omega))
      have HRES := Aside0.mk hr
      clear hi hr
      go_wp2
      go_ret
      exact ⟨by rw [HRES.out]; rfl, HB.out⟩
    | succ k1 =>
      have hp0 : 0 ≤ i := HI.out.1
      have hp1 : i < (l0.length : Int) := by have := HI.out.2; omega
      have hd : decide (i < (l0.length : Int)) = true := decide_eq_true hp1
      have hC : Kd.C k40 wr A0 l0.length l0 := Kd.C_below HR0.out HB.out
      have hlen64 : (l0.length : Int) ≤ 9223372036854775807 := by have := HR0.out.2.1; omega
      obtain ⟨ad, e3, g0, g1⟩ := at_T40 hC i hp0 hp1
      cases e3
      obtain ⟨x, hx⟩ : ∃ x, x = rd_T40 l0 i := ⟨_, rfl⟩
      rw [← hx] at g0 g1
      have hxi : x = l0[i.toNat]'(by omega) := by rw [hx]; unfold rd_T40; rw [List.getD_eq_getElem?_getD, List.getElem?_eq_getElem (by omega)]; rfl
      have hcall := HP.out wr x HB.out
      have HX := Aside0.mk hxi
      have HPI := Aside0.mk (And.intro hp0 hp1)
      clear hx hC hxi
      cases hq : p x with
      | true =>
        rw [hq] at hcall
        have hres : idxF p l0 = i := by
          have h1 := idxF_hit (p := p) (l := l0) (k := i.toNat) (by omega) (by rw [← HX.out]; exact hq) (fun j hj => HA.out j (by omega) (by omega))
          rw [h1]; omega
        have HRES := Aside0.mk hres
        clear hres
        go_wp2_with (go_at_fn cl; refine hcall.mono ?_; rintro e w' ⟨rfl, hb'⟩)
        go_ret
        exact ⟨by rw [HRES.out]; rfl, hb'⟩
      | false =>
        rw [hq] at hcall
        have HQ := Aside0.mk hq
        go_wp2_with (go_at_fn cl; refine hcall.mono ?_; rintro e w' ⟨rfl, hb'⟩)
        go_roundg k1
        case measure => omega
        case rel =>
          refine ⟨i + 1, by first | rfl | (simp; done) | go_num, ⟨by have := HPI.out.1; omega, by have := HI.out.2; omega⟩, ⟨hb'⟩, ⟨fun j hj h => ?_⟩⟩
          by_cases e : (j : Int) = i
          · have e2 : j = i.toNat := by omega
            subst e2
            rw [← HX.out]; exact HQ.out
          · exact HA.out j hj (by omega)

end Go.Proofs.Ytkkfkdncddbaeaa.Fn
