-- Told by hand; its numbers filled in by a program of this session.
import Derived.Test.YtkkfkdncddbaeaaFnBase
import Derived.Test.YtkkfkdncddbaeaaHL06
import Derived.Test.YtkkfkdncddbaeaaHDelSpan
import Derived.Test.YtkkfkdncddbaeaaHBestCl
import Derived.Test.YtkkfkdncddbaeaaFn101
namespace Go.Proofs.Ytkkfkdncddbaeaa.Fn
open Go.RowKit Go.Proofs.YtkkfkdncddbaeaaW.PrintWords Go.Proofs.YtkkfkdncddbaeaaW.PrintLast Go.Proofs.YtkkfkdncddbaeaaW.PrintMore
attribute [local go_sem] max2_int min2_int max_two min_two max_three min_three max_four min_four   -- for this text's walks alone
set_option linter.unusedVariables false
set_option linter.unusedSimpArgs false

/-- free.Best, as Go reckons. -/
def fitG (l : List S40) (n line : Int) : List S40 := l.filter fun x => !(decide (roomG line x < n))
def bestG (l : List S40) (n line : Int) : Option S40 := match fitG l n line with
  | [] => none
  | x :: t => some (minG (fun a b => cmpI (roomH line a) (roomH line b)) x t)
def bestR (l : List S40) (n line : Int) : Int × Int := match bestG l n line with
  | none => (0, 51)
  | some y => (y.f0, 0)
def free_Best.f (a0_0 : Int) (l0_1 : List (S40)) (a1 : Int) (a2 : Int) : Option (Int × Int) := some (if Flag.checkF a0_0 (l0_1.map toP) = 0 then (if a1 < 1 ∨ a2 < 0 then (0, 4) else bestR l0_1 a1 a2) else (0, 9))
set_option maxHeartbeats 4000000 in
set_option maxRecDepth 100000 in
theorem free_Best.calls (a0_0 : Int) (A0_1 : Option Addr) (c0_1 : Nat) (l0_1 : List (S40)) (a1 : Int) (a2 : Int) (r1 : Int) (r2 : Int) (w : World) (hr0_1 : Kd.C k40 w A0_1 l0_1.length l0_1) (hc0_1 : l0_1.length ≤ c0_1) (h : free_Best.f a0_0 l0_1 a1 a2 = some (r1, r2)) :
    Calls Try.prog 42 #[.agg #[.int .i64 a0_0, .slice A0_1 l0_1.length c0_1], .int .i64 a1, .int .i64 a2] w fun e w' => e = .returned (.tuple #[.int .i64 r1, .int .i64 r2]) ∧ Below w.heap.size w w' := by
  have hu40 := Try.underlying40
  have hu58 := Try.underlying58
  have hmf : ∀ (fn : Fn) (first cap : Array Value) (w : World), (Instr.makeFunc fn first cap).run Try.prog w = .ok (.func fn first cap) w := fun _ _ _ _ => rfl
  have hfd : ∀ (a b : Int) (w : World), (Instr.field 40 (.agg #[.int .i64 a, .int .i64 b]) 0).run Try.prog w = .ok (.int .i64 a) w := fun _ _ _ => by kernel_rfl
  obtain ⟨kc, hkc⟩ := check6 a0_0 l0_1
  have h := Option.some.inj h
  have HR := Aside0.mk (And.intro hr0_1 hc0_1)
  obtain ⟨W0, hW0⟩ : ∃ W, W = ((w.alloc (.cells #[.int .i64 a0_0, .slice A0_1 l0_1.length c0_1] 58)).alloc (.cells #[.int .i64 a1] 3)).alloc (.cells #[.int .i64 a2] 3) := ⟨_, rfl⟩
  have hb0 : Below w.heap.size w W0 := by
    rw [hW0]
    exact (((Below.refl w.heap.size w).alloc (Nat.le_refl _) _).alloc (by rw [alloc_sz]; omega) _).alloc (by rw [alloc_sz, alloc_sz]; omega) _
  have hS : W0.heap[w.heap.size]? = some (.cells #[.int .i64 a0_0, .slice A0_1 l0_1.length c0_1] 58 (0, 0)) := by
    rw [hW0, Below.heap_alloc _ _ _ (by rw [alloc_sz, alloc_sz]; omega), Below.heap_alloc _ _ _ (by rw [alloc_sz]; omega)]
    exact alloc_new _ _
  have hN : W0.heap[w.heap.size + 1]? = some (.cells #[.int .i64 a1] 3 (0, 0)) := by
    rw [hW0, Below.heap_alloc _ _ _ (by rw [alloc_sz, alloc_sz]; omega)]
    have := alloc_new (w.alloc (.cells #[.int .i64 a0_0, .slice A0_1 l0_1.length c0_1] 58)) (.cells #[.int .i64 a1] 3)
    rw [alloc_sz] at this
    exact this
  have hLn : W0.heap[w.heap.size + 1 + 1]? = some (.cells #[.int .i64 a2] 3 (0, 0)) := by
    rw [hW0]
    have := alloc_new ((w.alloc (.cells #[.int .i64 a0_0, .slice A0_1 l0_1.length c0_1] 58)).alloc (.cells #[.int .i64 a1] 3)) (.cells #[.int .i64 a2] 3)
    rw [alloc_sz, alloc_sz] at this
    exact this
  have HW0 := Aside0.mk hW0
  have HB0 := Aside0.mk hb0
  have HS := Aside0.mk hS
  have HN := Aside0.mk hN
  have HLn := Aside0.mk hLn
  have HH := Aside0.mk h
  have hchk := fun W hC => free_Check.calls kc a0_0 A0_1 c0_1 l0_1 _ W hC hc0_1 hkc
  have HCHK := Aside0.mk (hchk W0 (Kd.C_below hr0_1 hb0))
  clear hchk hkc hr0_1 hc0_1 hW0 hb0 hS hN hLn h
  rcases Flag.checkF_or a0_0 (l0_1.map toP) with hck | hck
  · have hlen : l0_1.length ≤ 1024 := by have := (Flag.checkF_ok.1 hck).len; simpa using this
    have HLEN := Aside0.mk hlen
    have hck2 := HCHK.out
    rw [hck] at hck2
    have hh := HH.out
    rw [if_pos hck] at hh
    have HC := Aside0.mk hck2
    have HH2 := Aside0.mk hh
    clear hck hck2 hh hlen HCHK HH
    go_enter Try.func42, Try.ntmps42
    go_wp2_with fail
    rw [← HW0.out]
    refine HC.out.mono ?_
    rintro e w1 ⟨rfl, hb⟩
    have HB1 := Aside0.mk (below_step HB0.out hb)
    have HN1 := Aside0.mk ((hb.block _ (blk_lt HN.out)).trans HN.out)
    have HL1 := Aside0.mk ((hb.block _ (blk_lt HLn.out)).trans HLn.out)
    have HS1 := Aside0.mk ((hb.block _ (blk_lt HS.out)).trans HS.out)
    have n0 : w1.cell? ⟨w.heap.size + 1, 0, none⟩ = some (.int .i64 a1) := (blk_cell HN1.out 0).trans rfl
    have n1 : w1.cell? ⟨w.heap.size + 1 + 1, 0, none⟩ = some (.int .i64 a2) := (blk_cell HL1.out 0).trans rfl
    have n2 : w1.cell? ⟨w.heap.size, 1, none⟩ = some (.slice A0_1 l0_1.length c0_1) := (blk_cell HS1.out 1).trans rfl
    clear hb
    by_cases hc1 : a1 < 1
    · have hd1 : decide (a1 < 1) = true := decide_eq_true hc1
      have hh := HH2.out
      rw [if_pos (Or.inl hc1)] at hh
      have h1 : (0 : Int) = r1 := congrArg Prod.fst hh
      have h2 : (4 : Int) = r2 := congrArg Prod.snd hh
      subst h1 h2
      clear hh
      go_wp2_with fail
      go_ret2
      exact ⟨rfl, HB1.out⟩
    · have hd1 : decide (a1 < 1) = false := decide_eq_false hc1
      by_cases hc2 : a2 < 0
      · have hd2 : decide (a2 < 0) = true := decide_eq_true hc2
        have hh := HH2.out
        rw [if_pos (Or.inr hc2)] at hh
        have h1 : (0 : Int) = r1 := congrArg Prod.fst hh
        have h2 : (4 : Int) = r2 := congrArg Prod.snd hh
        subst h1 h2
        clear hh
        go_wp2_with fail
        go_ret2
        exact ⟨rfl, HB1.out⟩
      · have hd2 : decide (a2 < 0) = false := decide_eq_false hc2
        have hh := HH2.out
        rw [if_neg (by omega)] at hh
        have HH3 := Aside0.mk hh
        clear hh HH2
        have hcl := api_Span_101.calls A0_1 c0_1 l0_1 l0_1 w1 (Kd.C_below HR.out.1 HB1.out) HR.out.2 (by unfold api_Span_101.f; rw [if_pos (by have := HLEN.out; omega)])
        have HCL := Aside0.mk hcl
        clear hcl hc1 hc2
        go_wp2_with fail
        refine HCL.out.mono ?_
        rintro e w2 ⟨s, rfl, hr2, hb2⟩
        have hdel := del_span 102 #[.pointer (some ⟨w.heap.size + 1 + 1, 0, none⟩), .pointer (some ⟨w.heap.size + 1, 0, none⟩)] (fun x => decide (roomG a2 x < a1)) (enters_of Try.func102 (by kernel_rfl) rfl) w1 w2 w1.heap.size (fun _ => True) l0_1 s hr2 hb2 hb2.size (by have := HLEN.out; omega) (fun W x hW => best_del x _ _ a2 a1 W ((hW.block _ (blk_lt HL1.out)).trans HL1.out) ((hW.block _ (blk_lt HN1.out)).trans HN1.out))
        have HDEL := Aside0.mk hdel
        clear hr2 hb2 hdel
        go_wp2_with fail
        refine HDEL.out.mono ?_
        rintro e w3 ⟨v', rfl, hr3, hb3⟩
        obtain ⟨ys, hys⟩ : ∃ ys, ys = fitG l0_1 a1 a2 := ⟨_, rfl⟩
        have hr3' : Kd.R k40 40 w3 w1.heap.size (fun _ => True) v' ys := by rw [hys]; exact hr3
        obtain ⟨A3, c3, rfl⟩ := Kd.R_slice hr3'
        have HC3 := Aside0.mk (Kd.R_reads' hr3').2.2
        have HB3 := Aside0.mk (below_step HB1.out hb3)
        have HBB := Aside0.mk hb3
        have hHH := HH3.out
        unfold bestR bestG at hHH
        rw [← hys] at hHH
        have hl1024 : ys.length ≤ 1024 := by
          rw [hys]; unfold fitG
          have h1 := List.length_filter_le (fun x => !(decide (roomG a2 x < a1))) l0_1
          have h2 := HLEN.out
          omega
        clear hr3 hr3' hb3 hys
        cases ys with
        | nil =>
          have h1 : (0 : Int) = r1 := congrArg Prod.fst hHH
          have h2 : (51 : Int) = r2 := congrArg Prod.snd hHH
          subst h1 h2
          clear hHH
          go_wp2_with fail
          go_ret2
          exact ⟨rfl, HB3.out⟩
        | cons x t =>
          have h1 : (minG (fun a b => cmpI (roomH a2 a) (roomH a2 b)) x t).f0 = r1 := congrArg Prod.fst hHH
          have h2 : (0 : Int) = r2 := congrArg Prod.snd hHH
          subst h1 h2
          obtain ⟨m, hm⟩ : ∃ m, m = (x :: t).length := ⟨_, rfl⟩
          have hm1 : 1 ≤ m := by rw [hm]; simp
          rw [← hm] at hl1024
          have hmz : ((m : Int) == 0) = false := by first | (simp; done) | (simp; omega)
          have hmz2 : ¬ ((m : Int) = 0) := by omega
          have hmin := min_span 104 #[.pointer (some ⟨w.heap.size + 1 + 1, 0, none⟩)] (fun a b => cmpI (roomH a2 a) (roomH a2 b)) (enters_of Try.func104 (by kernel_rfl) rfl) A3 c3 x t w3 HC3.out (fun W a b hW => best_cmp a b _ a2 W ((hW.block _ (Nat.lt_of_lt_of_le (blk_lt HL1.out) HBB.out.size)).trans ((HBB.out.block _ (blk_lt HL1.out)).trans HL1.out)))
          rw [← hm] at hmin
          have HMIN := Aside0.mk hmin
          rw [← hm]
          clear hHH hmin hm
          go_wp2_with fail
          refine HMIN.out.mono ?_
          rintro e w4 ⟨rfl, hb4⟩
          have HB4 := Aside0.mk (below_step HB3.out hb4)
          clear hb4
          go_wp2_with fail
          go_ret2
          exact ⟨rfl, HB4.out⟩
  · have hck2 := HCHK.out
    rw [hck] at hck2
    have hh := HH.out
    rw [if_neg (by rw [hck]; decide)] at hh
    have h1 : (0 : Int) = r1 := congrArg Prod.fst hh
    have h2 : (9 : Int) = r2 := congrArg Prod.snd hh
    subst h1 h2
    have HC := Aside0.mk hck2
    clear hck hck2 hh HCHK HH
    go_enter Try.func42, Try.ntmps42
    go_wp2_with fail
    rw [← HW0.out]
    refine HC.out.mono ?_
    rintro e w1 ⟨rfl, hb⟩
    have HB1 := Aside0.mk (below_step HB0.out hb)
    clear hb
    go_wp2_with fail
    go_ret2
    exact ⟨rfl, HB1.out⟩

end Go.Proofs.Ytkkfkdncddbaeaa.Fn
