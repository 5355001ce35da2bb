-- Told by hand; its numbers filled in by a program of this session.
import Derived.Test.YtkkfkdncddbaeaaFnBase
namespace Go.Proofs.Ytkkfkdncddbaeaa.Fn
open Go.RowKit Go.Proofs.YtkkfkdncddbaeaaW.PrintWords Go.Proofs.YtkkfkdncddbaeaaW.PrintLast Go.Proofs.YtkkfkdncddbaeaaW.PrintMore
attribute [local go_sem] max2_int min2_int max_two min_two max_three min_three max_four min_four   -- for this text's walks alone
set_option linter.unusedVariables false
set_option linter.unusedSimpArgs false

def extent_goesOn.f (a0_0 : Int) (a0_1 : Int) (a0_2 : Int) (a1_0 : Int) (a1_1 : Int) (a1_2 : Int) : Option (Bool) :=
  some ((wrap64 (a0_0 + a0_2) == a1_0) && ((a0_1 == -1) == (a1_1 == -1)) && ((a0_1 == -1) || (wrap64 (a0_1 + a0_2) == a1_1)))
set_option maxHeartbeats 1000000 in
set_option maxRecDepth 100000 in
theorem extent_goesOn.calls (a0_0 : Int) (a0_1 : Int) (a0_2 : Int) (a1_0 : Int) (a1_1 : Int) (a1_2 : Int) (r : Bool) (w : World) (h : extent_goesOn.f a0_0 a0_1 a0_2 a1_0 a1_1 a1_2 = some r) :
    Calls Try.prog 98 #[.agg #[.int .i64 a0_0, .int .i64 a0_1, .int .i64 a0_2], .agg #[.int .i64 a1_0, .int .i64 a1_1, .int .i64 a1_2]] w fun e w' => e = .returned (.bool r) ∧ Below w.heap.size w w' := by
  obtain rfl := Option.some.inj h
  clear h
  have hu24 := Try.underlying24
  have fin : ∀ {w' : World} {b : Bool}, b = ((wrap64 (a0_0 + a0_2) == a1_0) && ((a0_1 == -1) == (a1_1 == -1)) && ((a0_1 == -1) || (wrap64 (a0_1 + a0_2) == a1_1))) → Below w.heap.size w w' → Ending.returned (.bool b) = Ending.returned (.bool ((wrap64 (a0_0 + a0_2) == a1_0) && ((a0_1 == -1) == (a1_1 == -1)) && ((a0_1 == -1) || (wrap64 (a0_1 + a0_2) == a1_1)))) ∧ Below w.heap.size w w' := fun hb hw => ⟨by rw [hb], hw⟩
  have FIN := Aside0.mk @fin
  clear fin
  have hbel : ∀ (o1 o2 : Obj), Below w.heap.size w ((w.alloc o1).alloc o2) := fun o1 o2 => ((Below.refl _ _).alloc (Nat.le_refl _) _).alloc (by simp) _
  have HBEL := Aside0.mk hbel
  clear hbel
  by_cases h0 : wrap64 (a0_0 + a0_2) = a1_0
  · have b0 : (wrap64 (a0_0 + a0_2) == a1_0) = true := beq_iff_eq.mpr h0
    have b0' : (wrap64 (a0_0 + a0_2) != a1_0) = false := bne_eq_false_iff_eq.mpr h0
    clear h0
    by_cases h1 : a0_1 = -1
    · have b1 : (a0_1 == -1) = true := beq_iff_eq.mpr h1
      clear h1
      by_cases h2 : a1_1 = -1
      · have b2 : (a1_1 == -1) = true := beq_iff_eq.mpr h2
        clear h2
        go_enter Try.func98, Try.ntmps98
        go_wp2
        go_ret
        exact FIN.out (by simp [b0, b1, b2]) (HBEL.out _ _)
      · have b2 : (a1_1 == -1) = false := beq_eq_false_iff_ne.mpr h2
        clear h2
        go_enter Try.func98, Try.ntmps98
        go_wp2
        go_ret
        exact FIN.out (by simp [b0, b1, b2]) (HBEL.out _ _)
    · have b1 : (a0_1 == -1) = false := beq_eq_false_iff_ne.mpr h1
      clear h1
      by_cases h2 : a1_1 = -1
      · have b2 : (a1_1 == -1) = true := beq_iff_eq.mpr h2
        clear h2
        go_enter Try.func98, Try.ntmps98
        go_wp2
        go_ret
        exact FIN.out (by simp [b0, b1, b2]) (HBEL.out _ _)
      · have b2 : (a1_1 == -1) = false := beq_eq_false_iff_ne.mpr h2
        clear h2
        go_enter Try.func98, Try.ntmps98
        go_wp2
        go_ret
        exact FIN.out (by simp [b0, b1, b2]) (HBEL.out _ _)
  · have b0 : (wrap64 (a0_0 + a0_2) == a1_0) = false := beq_eq_false_iff_ne.mpr h0
    have b0' : (wrap64 (a0_0 + a0_2) != a1_0) = true := bne_iff_ne.mpr h0
    clear h0
    go_enter Try.func98, Try.ntmps98
    go_wp2
    go_ret
    exact FIN.out (by simp [b0]) (HBEL.out _ _)

end Go.Proofs.Ytkkfkdncddbaeaa.Fn
