-- Told by hand; its numbers filled in by a program of this session.
import Derived.Test.YtkkfkdncddbaeaaFnBase
import Derived.IntWalk
namespace Go.Proofs.Ytkkfkdncddbaeaa.Fn
open Go.RowKit Go.Proofs.YtkkfkdncddbaeaaW.PrintWords Go.Proofs.YtkkfkdncddbaeaaW.PrintLast Go.Proofs.YtkkfkdncddbaeaaW.PrintMore
attribute [local go_sem] max2_int min2_int max_two min_two max_three min_three max_four min_four   -- for this text's walks alone
set_option linter.unusedVariables false
set_option linter.unusedSimpArgs false

def extent_part.f (a0_0 : Int) (a0_1 : Int) (a0_2 : Int) (a1 : Int) (a2 : Int) : Option (Int × Int × Int) :=
  some (mx a1 a0_0, if a0_1 = -1 then a0_1 else wrap64 (a0_1 + wrap64 (mx a1 a0_0 - a0_0)), wrap64 (mn a2 (wrap64 (a0_0 + a0_2)) - mx a1 a0_0))
set_option maxHeartbeats 1000000 in
set_option maxRecDepth 100000 in
theorem extent_part.calls (a0_0 : Int) (a0_1 : Int) (a0_2 : Int) (a1 : Int) (a2 : Int) (r1 : Int) (r2 : Int) (r3 : Int) (w : World) (h : extent_part.f a0_0 a0_1 a0_2 a1 a2 = some (r1, r2, r3)) :
    Calls Try.prog 94 #[.agg #[.int .i64 a0_0, .int .i64 a0_1, .int .i64 a0_2], .int .i64 a1, .int .i64 a2] w fun e w' => e = .returned (.agg #[.int .i64 r1, .int .i64 r2, .int .i64 r3]) ∧ Below w.heap.size w w' := by
  have hu24 := Try.underlying24
  simp only [extent_part.f, Option.some.injEq, Prod.mk.injEq] at h
  obtain ⟨rfl, rfl, rfl⟩ := h
  by_cases h1 : a0_1 = -1
  · have b1 : (a0_1 == -1) = true := beq_iff_eq.mpr h1
    have b2 : (a0_1 != -1) = false := bne_eq_false_iff_eq.mpr h1
    rw [if_pos h1]
    clear h1
    go_enter Try.func94, Try.ntmps94
    go_wp2_with fail
    generalize hm : mx a1 a0_0 = m
    generalize hs : wrap64 (a0_0 + a0_2) = s
    generalize hn : mn a2 s = n
    have hm' : (if a1 < a0_0 then a0_0 else a1) = m := hm
    have hn' : (if s < a2 then s else a2) = n := hn
    have HM := Aside0.mk hm
    have HS := Aside0.mk hs
    have HN := Aside0.mk hn
    clear hm hn
    go_quiet (fail)
    go_wp2
    have hz : (w.alloc (.cells #[.int .i64 a0_0, .int .i64 a0_1, .int .i64 a0_2] 24)).heap.size = w.heap.size + 1 := by simp
    refine bodyPost_ret (results_cell_row rfl _ _ (w.heap.size + 1) 24 #[.int .i64 m, .int .i64 (a0_1), .int .i64 (wrap64 (n - m))] (0, 0) _ rfl ?_ Try.underlying24 rfl (by kernel_rfl)) rfl ⟨?_, ?_⟩
    · refine blk_put (cs := #[.int .i64 m, .int .i64 (a0_1), .int .i64 0]) ?_ 2 _ rfl
      refine blk_put (cs := #[.int .i64 m, .int .i64 0, .int .i64 0]) ?_ 1 _ rfl
      refine blk_put (cs := #[.int .i64 0, .int .i64 0, .int .i64 0]) ?_ 0 _ rfl
      refine blk_drewN ?_ _
      rw [← hz]
      exact blk_new _ _
    · rw [HM.out, HS.out, HN.out]
    · repeat (first | refine Below.setCell ?_ (by simp) _ | refine pw_below_drewN ?_ _ | refine Below.alloc ?_ (by simp) _ | exact Below.refl _ _)
  · have b1 : (a0_1 == -1) = false := beq_eq_false_iff_ne.mpr h1
    have b2 : (a0_1 != -1) = true := bne_iff_ne.mpr h1
    rw [if_neg h1]
    clear h1
    go_enter Try.func94, Try.ntmps94
    go_wp2_with fail
    generalize hm : mx a1 a0_0 = m
    generalize hs : wrap64 (a0_0 + a0_2) = s
    generalize hn : mn a2 s = n
    have hm' : (if a1 < a0_0 then a0_0 else a1) = m := hm
    have hn' : (if s < a2 then s else a2) = n := hn
    have HM := Aside0.mk hm
    have HS := Aside0.mk hs
    have HN := Aside0.mk hn
    clear hm hn
    go_quiet (fail)
    go_wp2
    have hz : (w.alloc (.cells #[.int .i64 a0_0, .int .i64 a0_1, .int .i64 a0_2] 24)).heap.size = w.heap.size + 1 := by simp
    refine bodyPost_ret (results_cell_row rfl _ _ (w.heap.size + 1) 24 #[.int .i64 m, .int .i64 (wrap64 (a0_1 + wrap64 (m - a0_0))), .int .i64 (wrap64 (n - m))] (0, 0) _ rfl ?_ Try.underlying24 rfl (by kernel_rfl)) rfl ⟨?_, ?_⟩
    · refine blk_put (cs := #[.int .i64 m, .int .i64 (wrap64 (a0_1 + wrap64 (m - a0_0))), .int .i64 0]) ?_ 2 _ rfl
      refine blk_put (cs := #[.int .i64 m, .int .i64 0, .int .i64 0]) ?_ 1 _ rfl
      refine blk_put (cs := #[.int .i64 0, .int .i64 0, .int .i64 0]) ?_ 0 _ rfl
      refine blk_far ?_ (by simp) _
      refine blk_drewN ?_ _
      rw [← hz]
      exact blk_new _ _
    · rw [HM.out, HS.out, HN.out]
    · repeat (first | refine Below.setCell ?_ (by simp) _ | refine pw_below_drewN ?_ _ | refine Below.alloc ?_ (by simp) _ | exact Below.refl _ _)

end Go.Proofs.Ytkkfkdncddbaeaa.Fn
