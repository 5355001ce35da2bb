-- Told by hand; its numbers filled in by a program of this session.
import Derived.Test.YtkkfkdncddbaeaaFnBase
import Derived.Test.YtkkfkdncddbaeaaHNums
import Derived.Test.YtkkfkdncddbaeaaHPureS
import Derived.Test.YtkkfkdncddbaeaaFn111
import Derived.Test.YtkkfkdncddbaeaaFn97
namespace Go.Proofs.Ytkkfkdncddbaeaa.Fn
open Go.RowKit Go.Proofs.YtkkfkdncddbaeaaW.PrintWords Go.Proofs.YtkkfkdncddbaeaaW.PrintLast Go.Proofs.YtkkfkdncddbaeaaW.PrintMore
attribute [local go_sem] max2_int min2_int max_two min_two max_three min_three max_four min_four   -- for this text's walks alone
set_option linter.unusedVariables false
set_option linter.unusedSimpArgs false

/-! Where a sector is among free spans. -/
def cmpI (a b : Int) : Int := if a < b then -1 else if b < a then 1 else 0
def keyE (x : S40) : Int := wrap64 (x.f0 + x.f1)
set_option maxHeartbeats 1000000 in
set_option maxRecDepth 100000 in
theorem at_cmp (x : S40) (v : Int) (w : World) :
    Calls Try.prog 141 #[.agg #[.int .i64 x.f0, .int .i64 x.f1], .int .i64 v] w fun e w' => e = .returned (.int .i64 (cmpI (keyE x) (wrap64 (v + 1)))) ∧ Below w.heap.size w w' := by
  have hu40 := Try.underlying40
  go_enter Try.func141, Try.ntmps141
  go_wp2_with fail
  have hf : cmp_Compare_int.f (wrap64 (x.f0 + x.f1)) (wrap64 (v + 1)) = some (cmpI (keyE x) (wrap64 (v + 1))) := cmp_f _ _
  refine (cmp_Compare_int.calls (wrap64 (x.f0 + x.f1)) (wrap64 (v + 1)) _ _ hf).mono ?_
  rintro e w1 ⟨rfl, hd⟩
  have HB := Aside0.mk (below_step ((Below.refl w.heap.size w).alloc (Nat.le_refl _) (.cells #[.int .i64 x.f0, .int .i64 x.f1] 40)) hd.below)
  clear hd hf
  go_wp2
  go_ret
  exact ⟨rfl, HB.out⟩
set_option maxHeartbeats 2000000 in
set_option maxRecDepth 100000 in
/-- slices.BinarySearchFunc at free spans: the first one that ends behind a sector. -/
theorem bsearch_span (A0 : Option Addr) (c0 : Nat) (l0 : List S40) (v : Int) (w : World) (hr0 : Kd.C k40 w A0 l0.length l0) (hlen : l0.length ≤ 1024)
    (hs : ∀ i j : Int, 0 ≤ i → i < j → j < l0.length → keyE (rd_T40 l0 i) < keyE (rd_T40 l0 j)) :
    Calls Try.prog 140 #[.slice A0 l0.length c0, .int .i64 v, .func (.func 141) #[] #[]] w fun e w' => ∃ i : Int, 0 ≤ i ∧ i ≤ l0.length ∧ (∀ j : Int, 0 ≤ j → j < i → keyE (rd_T40 l0 j) < wrap64 (v + 1)) ∧ (∀ j : Int, i ≤ j → j < l0.length → wrap64 (v + 1) ≤ keyE (rd_T40 l0 j)) ∧ e = .returned (.tuple #[.int .i64 i, .bool (decide (i < l0.length) && (keyE (rd_T40 l0 i) == wrap64 (v + 1)))]) ∧ Below w.heap.size w w' := by
  have hu40 := Try.underlying40
  have HR0 := Aside0.mk hr0
  have HS := Aside0.mk hs
  clear hr0 hs
  go_enter Try.func140, Try.ntmps140
  go_wp2_with fail
  go_loopg [9, 10] l0.length (fun gk v9 v10 W => ∃ lo hi : Int, v9 = .int .i64 lo ∧ v10 = .int .i64 hi ∧ Aside0 (0 ≤ lo ∧ lo ≤ hi ∧ hi ≤ l0.length ∧ hi - lo ≤ gk) ∧ Aside0 ((∀ j : Int, 0 ≤ j → j < lo → keyE (rd_T40 l0 j) < wrap64 (v + 1)) ∧ (∀ j : Int, hi ≤ j → j < l0.length → wrap64 (v + 1) ≤ keyE (rd_T40 l0 j))) ∧ Aside0 (Below w.heap.size w W))
  case atStart => exact ⟨0, l0.length, rfl, rfl, ⟨Int.le_refl _, by omega, Int.le_refl _, by omega⟩, ⟨fun j h1 h2 => by omega, fun j h1 h2 => by omega⟩, ⟨Below.refl _ _⟩⟩
  case round =>
    obtain ⟨lo, hi, rfl, rfl, HI, HQ, HB⟩ := hrel
    by_cases hlt : lo < hi
    · have hd : decide (lo < hi) = true := decide_eq_true hlt
      obtain ⟨h1, h2, h3, h4⟩ := HI.out
      have hlen64 : (l0.length : Int) ≤ 1024 := by omega
      obtain ⟨k1, rfl⟩ : ∃ k, gk = k + 1 := ⟨gk - 1, by omega⟩
      have m0 : lo ≤ (lo + hi) / 2 := by omega
      have m1 : (lo + hi) / 2 < hi := by omega
      have q0 : 0 ≤ (lo + hi) / 2 := by omega
      have q1 : (lo + hi) / 2 < (l0.length : Int) := by omega
      have hC : Kd.C k40 wr A0 l0.length l0 := Kd.C_below HR0.out HB.out
      obtain ⟨ad, e3, g0, g1⟩ := at_T40 hC ((lo + hi) / 2) q0 q1
      cases e3
      obtain ⟨x, hx⟩ : ∃ x, x = rd_T40 l0 ((lo + hi) / 2) := ⟨_, rfl⟩
      rw [← hx] at g0 g1
      have HX := Aside0.mk hx
      have HM := Aside0.mk (And.intro m0 m1)
      clear hx hC
      go_wp2_with fail
      refine (at_cmp x v _).mono ?_
      rintro e w1 ⟨rfl, hb1⟩
      have HB1 := Aside0.mk (below_step HB.out hb1)
      clear hb1 g0 g1
      by_cases hc : keyE x < wrap64 (v + 1)
      · have hcv : cmpI (keyE x) (wrap64 (v + 1)) = -1 := by unfold cmpI; rw [if_pos hc]
        rw [hcv]
        go_wp2
        go_roundg k1
        case measure => omega
        case rel =>
          refine ⟨(lo + hi) / 2 + 1, hi, by first | rfl | (simp; done), by first | rfl | (simp; done), ⟨by omega, by omega, by omega, by omega⟩, ⟨fun j h5 h6 => ?_, HQ.out.2⟩, HB1⟩
          by_cases h7 : j = (lo + hi) / 2
          · rw [h7, ← HX.out]; exact hc
          · have := HS.out j ((lo + hi) / 2) h5 (by omega) q1
            rw [← HX.out] at this
            omega
      · have hcv : 0 ≤ cmpI (keyE x) (wrap64 (v + 1)) := by unfold cmpI; rw [if_neg hc]; split <;> omega
        have hdc : decide (cmpI (keyE x) (wrap64 (v + 1)) < 0) = false := decide_eq_false (by omega)
        go_wp2
        go_roundg k1
        case measure => omega
        case rel =>
          refine ⟨lo, (lo + hi) / 2, by first | rfl | (simp; done), by first | rfl | (simp; done), ⟨by omega, by omega, by omega, by omega⟩, ⟨HQ.out.1, fun j h5 h6 => ?_⟩, HB1⟩
          by_cases h7 : j = (lo + hi) / 2
          · rw [h7, ← HX.out]; omega
          · have := HS.out ((lo + hi) / 2) j q0 (by omega) h6
            rw [← HX.out] at this
            omega
    · have hd : decide (lo < hi) = false := decide_eq_false hlt
      obtain ⟨h1, h2, h3, h4⟩ := HI.out
      by_cases hn : lo < (l0.length : Int)
      · have hdn : decide (lo < (l0.length : Int)) = true := decide_eq_true hn
        have hC : Kd.C k40 wr A0 l0.length l0 := Kd.C_below HR0.out HB.out
        obtain ⟨ad, e3, g0, g1⟩ := at_T40 hC lo h1 hn
        cases e3
        obtain ⟨x, hx⟩ : ∃ x, x = rd_T40 l0 lo := ⟨_, rfl⟩
        rw [← hx] at g0 g1
        have HX := Aside0.mk hx
        clear hx hC
        go_wp2_with fail
        refine (at_cmp x v _).mono ?_
        rintro e w1 ⟨rfl, hb1⟩
        have HB1 := Aside0.mk (below_step HB.out hb1)
        clear hb1 g0 g1
        have hce : (cmpI (keyE x) (wrap64 (v + 1)) == 0) = (keyE x == wrap64 (v + 1)) := by
          unfold cmpI
          rcases Int.lt_trichotomy (keyE x) (wrap64 (v + 1)) with h5 | h5 | h5
          · rw [if_pos h5]; have : ¬ keyE x = wrap64 (v + 1) := by omega
            simp [this]
          · simp [h5]
          · rw [if_neg (by omega), if_pos h5]; have : ¬ keyE x = wrap64 (v + 1) := by omega
            simp [this]
        go_wp2
        go_ret2
        refine ⟨lo, h1, by omega, HQ.out.1, fun j h5 h6 => HQ.out.2 j (by omega) h6, ?_, HB1.out⟩
        rw [hdn, ← HX.out, ← hce]
        rfl
      · have hdn : decide (lo < (l0.length : Int)) = false := decide_eq_false hn
        go_wp2
        go_ret2
        refine ⟨lo, h1, by omega, HQ.out.1, fun j h5 h6 => HQ.out.2 j (by omega) h6, ?_, HB.out⟩
        rw [hdn]
        rfl

end Go.Proofs.Ytkkfkdncddbaeaa.Fn
