-- Told by hand; its numbers filled in by a program of this session.
import Derived.Test.YtkkfkdncddbaeaaFnBase
import Derived.Test.YtkkfkdncddbaeaaHL06h
import Derived.Test.YtkkfkdncddbaeaaFn109
import Derived.Test.YtkkfkdncddbaeaaFn107
import Derived.Test.YtkkfkdncddbaeaaFn101
import Derived.Test.YtkkfkdncddbaeaaHRepl
import Derived.Test.YtkkfkdncddbaeaaFn108
import Derived.Laws.Tables
namespace Go.Proofs.Ytkkfkdncddbaeaa.Fn
open Go.RowKit Go.Proofs.YtkkfkdncddbaeaaW.PrintWords Go.Proofs.YtkkfkdncddbaeaaW.PrintLast Go.Proofs.YtkkfkdncddbaeaaW.PrintMore
attribute [local go_sem] max2_int min2_int max_two min_two max_three min_three max_four min_four   -- for this text's walks alone
set_option linter.unusedVariables false
set_option linter.unusedSimpArgs false

/-! free.Resize. -/
def trimG (l : List S40) (t : Int) : List S40 := match l.getLast? with
  | some u => if wrap64 (u.f0 + u.f1) > t then (if wrap64 (t - u.f0) ≤ 0 then l.dropLast else l.dropLast ++ [⟨u.f0, wrap64 (t - u.f0)⟩]) else l
  | none => l
theorem high_free {size : Int} {l : List Flag.Sp} (h : (Flag.highF size l).2 = 0) : Flag.Free6 size l := by
  rw [← Flag.checkF_ok]
  by_cases hc : Flag.checkF size l = 0
  · exact hc
  · unfold Flag.highF at h
    rw [if_neg hc] at h
    exact absurd h hc
/-- The length that was laid into a row of spans, read again. -/
theorem rd_cell {w : World} {base g n c jn : Nat} {ok : Nat → Prop} {l : List S40} {x : S40} (h : Kd.R k40 40 w base ok (.slice (some ⟨g, 0, none⟩) n c) (l.set ((jn : Int)).toNat x)) (hj : jn < n) : w.cell? ⟨g, jn * 2 + 1, none⟩ = some (.int .i64 x.f1) := by
  obtain ⟨ce, hcl, hM, hcc, hfz⟩ := Kd.R_elem h z40 (jn : Int) (by omega) (by omega)
  obtain rfl := k40_openM hM
  have hl := (Kd.R_reads' h).1
  have e : (l.set ((jn : Int)).toNat x).getD ((jn : Int)).toNat z40 = x := by
    rw [Int.toNat_natCast] at hl ⊢
    rw [List.length_set] at hl
    rw [List.getD_eq_getElem?_getD, List.getElem?_set_self (by omega)]; rfl
  have h1 := hcc 1 _ rfl
  rw [e] at h1
  exact h1
def free_Resize.f (a0_0 : Int) (l0_1 : List (S40)) (a1 : Int) : Option (Int × (List (S40)) × Int) :=
  if (Flag.highF a0_0 (l0_1.map toP)).2 = 0 then (if a1 < 0 ∨ a1 > 65536 then some (0, [], 4) else if a1 < (Flag.highF a0_0 (l0_1.map toP)).1 then some (0, [], 72) else if a1 > a0_0 then (free_in.f l0_1 a0_0 (wrap64 (a1 - a0_0))).bind fun t => free_full.f a1 t else some (a1, trimG l0_1 a1, 0)) else some (0, [], (Flag.highF a0_0 (l0_1.map toP)).2)
set_option maxHeartbeats 8000000 in
set_option maxRecDepth 100000 in
theorem free_Resize.calls (a0_0 : Int) (A0_1 : Option Addr) (c0_1 : Nat) (l0_1 : List (S40)) (a1 : Int) (r1 : Int) (r2 : List (S40)) (r3 : Int) (w : World) (hr0_1 : Kd.C k40 w A0_1 l0_1.length l0_1) (hc0_1 : l0_1.length ≤ c0_1) (h : free_Resize.f a0_0 l0_1 a1 = some (r1, r2, r3)) :
    Calls Try.prog 52 #[.agg #[.int .i64 a0_0, .slice A0_1 l0_1.length c0_1], .int .i64 a1] w fun e w' => ∃ v1_ : Value, e = .returned (.tuple #[.agg #[.int .i64 r1, v1_], .int .i64 r3]) ∧ Kd.R k40 40 w' w.heap.size (fun _ => True) v1_ r2 ∧ Below w.heap.size w w' := by
  have hu40 := Try.underlying40
  have hu58 := Try.underlying58
  obtain ⟨n, hnn⟩ : ∃ n, n = l0_1.length := ⟨_, rfl⟩
  obtain ⟨W0, hW0⟩ : ∃ W, W = (w.alloc (.cells #[.int .i64 a0_0, .slice A0_1 n c0_1] 58)).alloc (.cells #[.int .i64 0, .slice none 0 0] 58) := ⟨_, rfl⟩
  have hz1 : (w.alloc (.cells #[.int .i64 a0_0, .slice A0_1 n c0_1] 58)).heap.size = w.heap.size + 1 := by simp
  have hB0 : Below w.heap.size w W0 := by rw [hW0]; exact ((Below.refl w.heap.size w).alloc (Nat.le_refl _) _).alloc (by rw [hz1]; omega) _
  have hX2 : W0.heap[w.heap.size]? = some (.cells #[.int .i64 a0_0, .slice A0_1 n c0_1] 58 (0, 0)) := by rw [hW0]; exact blk_alloc (blk_new w _) _
  have hX4 : W0.heap[w.heap.size + 1]? = some (.cells #[.int .i64 0, .slice none 0 0] 58 (0, 0)) := by
    have h1 := blk_new (w.alloc (.cells #[.int .i64 a0_0, .slice A0_1 n c0_1] 58)) (.cells #[.int .i64 0, .slice none 0 0] 58)
    rw [hz1] at h1
    rw [hW0]; exact h1
  have x20 : ((w.alloc (.cells #[.int .i64 a0_0, .slice A0_1 n c0_1] 58)).alloc (.cells #[.int .i64 0, .slice none 0 0] 58)).cell? ⟨w.heap.size, 0, none⟩ = some (.int .i64 a0_0) := by rw [← hW0]; exact (blk_cell hX2 0).trans rfl
  have x21 : ((w.alloc (.cells #[.int .i64 a0_0, .slice A0_1 n c0_1] 58)).alloc (.cells #[.int .i64 0, .slice none 0 0] 58)).cell? ⟨w.heap.size, 1, none⟩ = some (.slice A0_1 n c0_1) := by rw [← hW0]; exact (blk_cell hX2 1).trans rfl
  obtain ⟨h1, h2, hhp⟩ : ∃ h1 h2, Flag.highF a0_0 (l0_1.map toP) = (h1, h2) := ⟨_, _, rfl⟩
  have hhi := free_Highest.calls (1030 + 0) a0_0 A0_1 c0_1 l0_1 h1 h2 W0 (Kd.C_below hr0_1 hB0) hc0_1 (by rw [high_K, hhp])
  unfold free_Resize.f at h
  rw [hhp] at h
  simp only [] at h
  rw [← hnn] at hhi
  have HR0 := Aside0.mk hr0_1
  have HC0 := Aside0.mk hc0_1
  have HNN := Aside0.mk hnn
  have HH := Aside0.mk h
  have HHP := Aside0.mk hhp
  have HB0 := Aside0.mk hB0
  have HX2 := Aside0.mk hX2
  have HX4 := Aside0.mk hX4
  have HW0 := Aside0.mk hW0
  have HHI := Aside0.mk hhi
  rw [← hnn]
  clear hr0_1 hc0_1 h hhp hB0 hX2 hX4 hW0 hz1 hhi hnn
  go_enter Try.func52, Try.ntmps52
  go_wp2_with fail
  rw [← HW0.out]
  refine HHI.out.mono ?_
  rintro e w1 ⟨rfl, hb1⟩
  have HX2' := Aside0.mk ((hb1.block _ (blk_lt HX2.out)).trans HX2.out)
  have HX4' := Aside0.mk ((hb1.block _ (blk_lt HX4.out)).trans HX4.out)
  have HB1 := Aside0.mk (below_step HB0.out hb1)
  clear hb1 x20 x21
  have x20 : w1.cell? ⟨w.heap.size, 0, none⟩ = some (.int .i64 a0_0) := (blk_cell HX2'.out 0).trans rfl
  have x21 : w1.cell? ⟨w.heap.size, 1, none⟩ = some (.slice A0_1 n c0_1) := (blk_cell HX2'.out 1).trans rfl
  have hx4 := HX4'.out
  by_cases c0 : h2 = 0
  · subst c0
    have hh := HH.out
    rw [if_pos rfl] at hh
    by_cases c1 : a1 < 0
    · have hd1 : decide (a1 < 0) = true := decide_eq_true c1
      rw [if_pos (.inl c1)] at hh
      simp only [Option.some.injEq, Prod.mk.injEq] at hh
      obtain ⟨rfl, rfl, rfl⟩ := hh
      go_wp2_with (refine wpList_store_row (P := Try.prog) rfl 58 (.tmp 4) (.tmp 27) rfl (w.heap.size + 1) #[.int .i64 0, .slice none 0 0] rfl rfl 58 #[.int .i64 0, .slice none 0 0] hx4 (by kernel_rfl) rfl (by simp [Value.oneCell']) ?_)
      (try simp only [Exit.inBlock, Exit.then])
      refine bodyPost_ret (results_ct rfl _ _ (w.heap.size + 1) 58 #[.int .i64 0, .slice none 0 0] (0, 0) _ rfl (setRow_heap _ (w.heap.size + 1) _ _ 58 (0, 0) hx4) Try.underlying58 rfl (by kernel_rfl)) rfl ?_
      exact ⟨_, rfl, Kd.R_nil _ _ _ _ _, setRow_below HB1.out (Nat.le_succ _) _⟩
    · have hd1 : decide (a1 < 0) = false := decide_eq_false c1
      by_cases c2 : a1 > 65536
      · have hd2 : decide (65536 < a1) = true := decide_eq_true (by omega)
        rw [if_pos (.inr c2)] at hh
        simp only [Option.some.injEq, Prod.mk.injEq] at hh
        obtain ⟨rfl, rfl, rfl⟩ := hh
        go_wp2_with (refine wpList_store_row (P := Try.prog) rfl 58 (.tmp 4) (.tmp 27) rfl (w.heap.size + 1) #[.int .i64 0, .slice none 0 0] rfl rfl 58 #[.int .i64 0, .slice none 0 0] hx4 (by kernel_rfl) rfl (by simp [Value.oneCell']) ?_)
        (try simp only [Exit.inBlock, Exit.then])
        refine bodyPost_ret (results_ct rfl _ _ (w.heap.size + 1) 58 #[.int .i64 0, .slice none 0 0] (0, 0) _ rfl (setRow_heap _ (w.heap.size + 1) _ _ 58 (0, 0) hx4) Try.underlying58 rfl (by kernel_rfl)) rfl ?_
        exact ⟨_, rfl, Kd.R_nil _ _ _ _ _, setRow_below HB1.out (Nat.le_succ _) _⟩
      · have hd2 : decide (65536 < a1) = false := decide_eq_false (by omega)
        rw [if_neg (by omega)] at hh
        by_cases c3 : a1 < h1
        · have hd3 : decide (a1 < h1) = true := decide_eq_true c3
          rw [if_pos c3] at hh
          simp only [Option.some.injEq, Prod.mk.injEq] at hh
          obtain ⟨rfl, rfl, rfl⟩ := hh
          go_wp2_with (refine wpList_store_row (P := Try.prog) rfl 58 (.tmp 4) (.tmp 32) rfl (w.heap.size + 1) #[.int .i64 0, .slice none 0 0] rfl rfl 58 #[.int .i64 0, .slice none 0 0] hx4 (by kernel_rfl) rfl (by simp [Value.oneCell']) ?_)
          (try simp only [Exit.inBlock, Exit.then])
          refine bodyPost_ret (results_ct rfl _ _ (w.heap.size + 1) 58 #[.int .i64 0, .slice none 0 0] (0, 0) _ rfl (setRow_heap _ (w.heap.size + 1) _ _ 58 (0, 0) hx4) Try.underlying58 rfl (by kernel_rfl)) rfl ?_
          exact ⟨_, rfl, Kd.R_nil _ _ _ _ _, setRow_below HB1.out (Nat.le_succ _) _⟩
        · have hd3 : decide (a1 < h1) = false := decide_eq_false c3
          rw [if_neg c3] at hh
          by_cases c4 : a1 > a0_0
          · have hd4 : decide (a0_0 < a1) = true := decide_eq_true (by omega)
            rw [if_pos c4] at hh
            obtain ⟨t, ht, hf⟩ := Option.bind_eq_some_iff.mp hh
            obtain ⟨s, hs⟩ : ∃ s : Int, s = wrap64 (a1 - a0_0) := ⟨_, rfl⟩
            rw [← hs] at ht
            have hsw : IntKind.i64.wrap (a1 - a0_0) = s := by rw [hs]; exact IntWalk.i64_left _
            have hsw2 : wrap64 (a1 - a0_0) = s := hs.symm
            have hin := free_in.calls A0_1 c0_1 l0_1 a0_0 s t w1 (Kd.C_below HR0.out HB1.out) HC0.out ht
            rw [← HNN.out] at hin
            have HF := Aside0.mk hf
            clear hh hs ht hf
            go_wp2_with fail
            refine hin.mono ?_
            rintro e w2 ⟨v2, rfl, hR2, hb2⟩
            obtain ⟨A2, c2', rfl⟩ := Kd.R_slice hR2
            have hfu := free_full.calls a1 (fun _ => True) (.slice A2 t.length c2') t r1 r2 r3 w w2 (below_step HB1.out hb2) (Kd.R_lower hR2 HB1.out.size) HF.out
            have hfu2 := free_full.calls a1 (fun k => w1.heap.size ≤ k) (.slice A2 t.length c2') t r1 r2 r3 w w2 (below_step HB1.out hb2) (Kd.R_mono (Kd.R_lower (Kd.R_bound hR2) HB1.out.size) (fun k hk => hk.2.1)) HF.out
            have HX2b := Aside0.mk ((hb2.block _ (blk_lt HX4'.out)).trans HX4'.out)
            have HSZ := Aside0.mk hb2.size
            clear hfu hR2 hb2 hin
            go_wp2_with fail
            refine hfu2.mono ?_
            rintro e w9 ⟨v9, rfl, hR9, hb9, hk9⟩
            obtain ⟨A9, c9, rfl⟩ := Kd.R_slice hR9
            obtain ⟨n9, hn9⟩ : ∃ n, n = r2.length := ⟨_, rfl⟩
            rw [← hn9] at hR9 ⊢
            have hlt4 := blk_lt HX4'.out
            have hx4 := blk_kept HX2b.out hk9 (fun h => by omega)
            have HR9 := Aside0.mk (show Kd.R k40 40 (w9.setRow (w.heap.size + 1) #[.int .i64 r1, .slice A9 n9 c9]) w.heap.size (fun _ => True) (.slice A9 n9 c9) r2 from Kd.R_mono (Kd.R_step hR9 (fun k hk _ => setRow_other _ (w.heap.size + 1) k _ (by
              have h4 := HSZ.out
              rcases hk with hk | hk <;> omega))) (fun _ _ => trivial))
            have HB9 := Aside0.mk hb9
            clear hR9 hb9 hk9 hn9 hlt4 hfu2
            go_wp2_with (refine wpList_store_row (P := Try.prog) rfl 58 (.tmp 4) (.tmp 50) rfl (w.heap.size + 1) #[.int .i64 r1, .slice A9 n9 c9] rfl rfl 58 #[.int .i64 0, .slice none 0 0] hx4 (by kernel_rfl) rfl (by simp [Value.oneCell']) ?_)
            (try simp only [Exit.inBlock, Exit.then])
            refine bodyPost_ret (results_ct rfl _ _ (w.heap.size + 1) 58 #[.int .i64 r1, .slice A9 n9 c9] (0, 0) _ rfl (setRow_heap _ (w.heap.size + 1) _ _ 58 (0, 0) hx4) Try.underlying58 rfl (by kernel_rfl)) rfl ?_
            exact ⟨_, rfl, HR9.out, setRow_below HB9.out (Nat.le_succ _) _⟩
          · have hd4 : decide (a0_0 < a1) = false := decide_eq_false (by omega)
            rw [if_neg c4] at hh
            simp only [Option.some.injEq, Prod.mk.injEq] at hh
            obtain ⟨rfl, hr2, rfl⟩ := hh
            have HRS := Aside0.mk hr2
            have hln : n ≤ 1024 := by
              have h6 := high_free (size := a0_0) (l := l0_1.map toP) (by rw [HHP.out])
              have := h6.len
              rw [List.length_map, ← HNN.out] at this
              exact this
            have hcl := api_Span_101.calls A0_1 c0_1 l0_1 l0_1 w1 (Kd.C_below HR0.out HB1.out) HC0.out (by unfold api_Span_101.f; rw [if_pos (by rw [← HNN.out]; omega)])
            rw [← HNN.out] at hcl
            clear hr2
            go_wp2_with fail
            refine hcl.mono ?_
            rintro e w2 ⟨v2, rfl, hR2, hb2⟩
            have HX4b := Aside0.mk ((hb2.block _ (blk_lt HX4'.out)).trans HX4'.out)
            have HB2 := Aside0.mk (below_step HB1.out hb2)
            have HR2 := Aside0.mk (show Kd.R k40 40 w2 w.heap.size (fun k => w1.heap.size ≤ k) v2 l0_1 from Kd.R_mono (Kd.R_lower (Kd.R_bound hR2) HB1.out.size) (fun k hk => hk.2.1))
            obtain ⟨j, hj⟩ : ∃ j : Int, j = (n : Int) - 1 := ⟨_, rfl⟩
            have hwj : IntKind.i64.wrap ((n : Int) - 1) = j := by rw [hj]; exact IntWalk.i64_in _ (by omega)
            have hwj2 : wrap64 ((n : Int) - 1) = j := by rw [hj]; exact w64 (by omega)
            have HJ := Aside0.mk hj
            clear hR2 hb2 hcl hx4 x20 x21 hj
            by_cases hl : l0_1 = []
            · obtain ⟨A2, c2', rfl⟩ := Kd.R_slice HR2.out
              rw [← HNN.out] at HR2 ⊢
              have hn0 : n = 0 := by rw [HNN.out, hl]; rfl
              have hdj : decide (0 ≤ j) = false := decide_eq_false (by have := HJ.out; omega)
              have hres : trimG l0_1 a1 = l0_1 := by rw [hl]; rfl
              have HRES := Aside0.mk hres
              clear hn0 hl hres
              go_wp2_with fail
              go_quiet (fail)
              obtain ⟨W3, hW3⟩ : ∃ W, W = w2.drewN nq := ⟨_, rfl⟩
              rw [← hW3]
              have HX4c := Aside0.mk (show W3.heap[w.heap.size + 1]? = some (.cells #[.int .i64 0, .slice none 0 0] 58 (0, 0)) by rw [hW3]; exact HX4b.out)
              have HR3 := Aside0.mk (show Kd.R k40 40 W3 w.heap.size (fun k => w1.heap.size ≤ k) (.slice A2 n c2') l0_1 by rw [hW3]; exact Kd.R_drewN HR2.out nq)
              have HB3 := Aside0.mk (show Below w.heap.size w W3 by rw [hW3]; exact pw_below_drewN HB2.out nq)
              clear hW3
              have hx4 := HX4c.out
              have hne4 : ∀ k, w1.heap.size ≤ k → k ≠ w.heap.size + 1 := fun k hk => fun e => absurd (Nat.lt_of_lt_of_le (blk_lt HX4'.out) hk) (by rw [e]; exact Nat.lt_irrefl _)
              have HNE := Aside0.mk hne4
              clear hne4
              go_wp2_with (refine wpList_store_row (P := Try.prog) rfl 58 (.tmp 4) (.tmp 97) rfl (w.heap.size + 1) #[.int .i64 a1, .slice A2 n c2'] rfl rfl 58 #[.int .i64 0, .slice none 0 0] hx4 (by kernel_rfl) rfl (by simp [Value.oneCell']) ?_)
              (try simp only [Exit.inBlock, Exit.then])
              refine bodyPost_ret (results_ct rfl _ _ (w.heap.size + 1) 58 #[.int .i64 a1, .slice A2 n c2'] (0, 0) _ rfl (setRow_heap _ (w.heap.size + 1) _ _ 58 (0, 0) hx4) Try.underlying58 rfl (by kernel_rfl)) rfl ?_
              refine ⟨_, rfl, ?_, setRow_below HB3.out (Nat.le_succ _) _⟩
              have hr := Kd.R_mono (ok' := fun _ => True) (Kd.R_step (w1 := W3.setRow (w.heap.size + 1) #[.int .i64 a1, .slice A2 n c2']) HR3.out (fun k hk _ => setRow_other W3 (w.heap.size + 1) k #[.int .i64 a1, .slice A2 n c2'] (HNE.out k hk))) (fun _ _ => trivial)
              rw [← HRS.out, HRES.out]; exact hr
            · obtain ⟨g, c2', cur, rfl, hL, hgb, hgo⟩ := rowL_of HR2.out hl
              have hlc := hL.2.2.1
              rw [← HNN.out] at HR2 hlc ⊢
              obtain ⟨jn, hjn⟩ : ∃ jn : Nat, n = jn + 1 := ⟨n - 1, by have := List.length_pos_iff.2 hl; rw [← HNN.out] at this; omega⟩
              obtain rfl : j = (jn : Int) := by have := HJ.out; omega
              have hdj : decide (0 ≤ (jn : Int)) = true := decide_eq_true (by omega)
              have j0 : (0 : Int) ≤ (jn : Int) := by omega
              have j1 : (jn : Int) < (n : Int) := by omega
              have jc : (jn : Int) ≤ (c2' : Int) := by omega
              have jc2 : jn ≤ c2' := by omega
              have jc3 : ¬ (c2' = 0) := by omega
              obtain ⟨ce, hcl, hM, hcc, hfz⟩ := Kd.R_elem HR2.out z40 (jn : Int) (by omega) (by omega)
              obtain rfl := k40_openM hM
              obtain ⟨u, hu⟩ : ∃ u, u = l0_1.getD jn z40 := ⟨_, rfl⟩
              have hcc' : ∀ (j_1 : Nat) (v : Value), [Value.int IntKind.i64 u.f0, Value.int IntKind.i64 u.f1][j_1]? = some v → w2.cell? ⟨g, jn * 2 + j_1, none⟩ = some v := by rw [hu]; exact hcc
              have e0 : w2.cell? ⟨g, jn * 2, none⟩ = some (.int .i64 u.f0) := hcc' 0 _ rfl
              have e1 : w2.cell? ⟨g, jn * 2 + 1, none⟩ = some (.int .i64 u.f1) := hcc' 1 _ rfl
              have hul : l0_1.getLast? = some u ∧ l0_1 = l0_1.dropLast ++ [u] := by
                obtain ⟨u', q1, q2, q3, q4⟩ := rd_last hl
                have q5 : u' = u := by
                  rw [← q2, hu, ← HNN.out]
                  have : (n : Int) - 1 = (jn : Int) := by omega
                  rw [this]; rfl
                subst q5
                exact ⟨by rw [q4]; simp, q4⟩
              have HUL := Aside0.mk hul
              have HCC := Aside0.mk hcc'
              have HJN := Aside0.mk hjn
              have HG := Aside0.mk hgo
              have HGB := Aside0.mk hgb
              have HJL := Aside0.mk (And.intro (show jn < n by omega) (show w.heap.size + 1 < g by have := blk_lt HX4'.out; omega))
              clear hM hcc hfz hcl hcc' hul hu hL hgb hgo hl hjn hlc
              obtain ⟨s1, hs1⟩ : ∃ s : Int, s = wrap64 (u.f0 + u.f1) := ⟨_, rfl⟩
              have HS1 := Aside0.mk hs1
              have hs1w : IntKind.i64.wrap (u.f0 + u.f1) = s1 := by rw [hs1]; exact IntWalk.i64_left _
              have hs1w2 : wrap64 (u.f0 + u.f1) = s1 := hs1.symm
              clear hs1
              by_cases c5 : s1 > a1
              · have hd5 : decide (a1 < s1) = true := decide_eq_true (by omega)
                have HC5 := Aside0.mk c5
                obtain ⟨s2, hs2⟩ : ∃ s : Int, s = wrap64 (a1 - u.f0) := ⟨_, rfl⟩
                have HS2 := Aside0.mk hs2
                have hs2w : IntKind.i64.wrap (a1 - u.f0) = s2 := by rw [hs2]; exact IntWalk.i64_left _
                have hs2w2 : wrap64 (a1 - u.f0) = s2 := hs2.symm
                clear hs2
                go_wp2_with fail
                go_quiet (fail)
                obtain ⟨W3, hW3⟩ : ∃ W, W = w2.drewN nq := ⟨_, rfl⟩
                rw [← hW3]
                have HX4c := Aside0.mk (show W3.heap[w.heap.size + 1]? = some (.cells #[.int .i64 0, .slice none 0 0] 58 (0, 0)) by rw [hW3]; exact HX4b.out)
                have HR3 := Aside0.mk (show Kd.R k40 40 W3 w.heap.size (fun k => w1.heap.size ≤ k) (.slice (some ⟨g, 0, none⟩) n c2') l0_1 by rw [hW3]; exact Kd.R_drewN HR2.out nq)
                have HB3 := Aside0.mk (show Below w.heap.size w W3 by rw [hW3]; exact pw_below_drewN HB2.out nq)
                have HCC3 := Aside0.mk (show ∀ (j_1 : Nat) (v : Value), [Value.int IntKind.i64 u.f0, Value.int IntKind.i64 u.f1][j_1]? = some v → W3.cell? ⟨g, jn * 2 + j_1, none⟩ = some v by rw [hW3]; exact HCC.out)
                clear hW3 e0 e1 hs1w hs1w2
                have e0 : W3.cell? ⟨g, jn * 2, none⟩ = some (.int .i64 u.f0) := HCC3.out 0 _ rfl
                have e1 : W3.cell? ⟨g, jn * 2 + 1, none⟩ = some (.int .i64 u.f1) := HCC3.out 1 _ rfl
                have htr : trimG l0_1 a1 = (if s2 ≤ 0 then l0_1.dropLast else l0_1.dropLast ++ [⟨u.f0, s2⟩]) := by
                  unfold trimG
                  rw [HUL.out.1]
                  simp only []
                  rw [← HS1.out, if_pos HC5.out, ← HS2.out]
                have HTR := Aside0.mk htr
                clear htr
                by_cases c6 : s2 ≤ 0
                · have hd6 : decide (s2 ≤ 0) = true := decide_eq_true c6
                  have HC6 := Aside0.mk c6
                  have hne4 : ∀ k, w1.heap.size ≤ k → k ≠ w.heap.size + 1 := fun k hk => fun e => absurd (Nat.lt_of_lt_of_le (blk_lt HX4'.out) hk) (by rw [e]; exact Nat.lt_irrefl _)
                  have HNE := Aside0.mk hne4
                  clear hne4
                  go_wp2_with (first | ((with_reducible refine gate_store (t := 3) (p := 85) rfl ?_); refine Kd.R_store k40 (w0 := w) (W := W3) w.heap.size rfl rfl 3 (.tmp 85) (.tmp 83) rfl 40 (jn : Int) 1 l0_1 (⟨u.f0, s2⟩ : S40) (.int .i64 s2) [.int .i64 s2] [.int .i64 u.f0, .int .i64 u.f1] (fun k => w1.heap.size ≤ k) (fun _ => False) rfl rfl rfl rfl (by kernel_rfl) (by simp [Value.oneCell']) HR3.out j0 j1 rfl (fun j u hu => HCC3.out j u hu) (Nat.le_refl 2) (k40_mkM _ _ _ (⟨u.f0, s2⟩ : S40)) (fun _ hk => hk.elim) HB3.out ?_; intro w4 hO4 hB4 hG4; have hx4 := (hG4.block (w.heap.size + 1) (blk_lt HX4c.out) (fun e => by injection e with e; exact absurd e (Nat.ne_of_lt HJL.out.2))).trans HX4c.out; have HO4 := Aside0.mk hO4; have HB4 := Aside0.mk hB4; have HX4d := Aside0.mk hx4; have hf1 := rd_cell hO4 HJL.out.1; clear hO4 hB4 hG4) | ((with_reducible refine gate_store (t := 58) (p := 4) rfl ?_); refine wpList_store_row (P := Try.prog) rfl 58 (.tmp 4) (.tmp 97) rfl (w.heap.size + 1) #[.int .i64 a1, .slice (some ⟨g, 0, none⟩) jn c2'] rfl rfl 58 #[.int .i64 0, .slice none 0 0] hx4 (by kernel_rfl) rfl (by simp [Value.oneCell']) ?_))
                  (try simp only [Exit.inBlock, Exit.then])
                  refine bodyPost_ret (results_ct rfl _ _ (w.heap.size + 1) 58 #[.int .i64 a1, .slice (some ⟨g, 0, none⟩) jn c2'] (0, 0) _ rfl (setRow_heap _ (w.heap.size + 1) _ _ 58 (0, 0) hx4) Try.underlying58 rfl (by kernel_rfl)) rfl ?_
                  refine ⟨_, rfl, ?_, setRow_below HB4.out (Nat.le_succ _) _⟩
                  clear hs2w hs2w2 hwj hwj2
                  have hr := fun {v : Value} {l : List S40} (h : Kd.R k40 40 w4 w.heap.size (fun k => w1.heap.size ≤ k) v l) => Kd.R_mono (ok' := fun _ => True) (Kd.R_step (w1 := w4.setRow (w.heap.size + 1) #[.int .i64 a1, .slice (some ⟨g, 0, none⟩) jn c2']) h (fun k hk _ => setRow_other w4 (w.heap.size + 1) k #[.int .i64 a1, .slice (some ⟨g, 0, none⟩) jn c2'] (HNE.out k hk))) (fun _ _ => trivial)
                  have hset : (l0_1.set ((jn : Int)).toNat (⟨u.f0, s2⟩ : S40)).take jn = l0_1.dropLast := by
                    rw [Int.toNat_natCast]
                    have hdl : l0_1.dropLast.length = jn := by rw [List.length_dropLast, ← HNN.out]; have := HJN.out; omega
                    have h1 : (l0_1.set jn (⟨u.f0, s2⟩ : S40)).take jn = l0_1.take jn := List.take_set_of_le (Nat.le_refl _)
                    rw [h1]
                    conv => lhs; rw [HUL.out.2]
                    rw [← hdl, List.take_left]
                  have hlen4 : n = (l0_1.set ((jn : Int)).toNat (⟨u.f0, s2⟩ : S40)).length := by rw [List.length_set]; exact HNN.out
                  rcases R_lies flatSpan HO4.out with ⟨q1, q2⟩ | ⟨g', cap', q1, q2, q3, q4⟩
                  · cases q1
                  · injection q1 with q5 _ q6
                    injection q5 with q5
                    injection q5 with q5
                    subst q5 q6
                    obtain ⟨cur', q7⟩ := q4.toL spanLen
                    have q8 := (q7.cut spanLen jn (by rw [← hlen4]; have := HJN.out; omega)).R (base := w.heap.size) (ok := fun k => w1.heap.size ≤ k) q2 q3
                    have q9 : ((l0_1.set ((jn : Int)).toNat (⟨u.f0, s2⟩ : S40)).take jn).length = jn := by rw [List.length_take, ← hlen4]; have := HJN.out; omega
                    rw [q9, hset] at q8
                    rw [← HRS.out, HTR.out, if_pos HC6.out]
                    exact hr q8
                · have hd6 : decide (s2 ≤ 0) = false := decide_eq_false c6
                  have HC6 := Aside0.mk c6
                  have hne4 : ∀ k, w1.heap.size ≤ k → k ≠ w.heap.size + 1 := fun k hk => fun e => absurd (Nat.lt_of_lt_of_le (blk_lt HX4'.out) hk) (by rw [e]; exact Nat.lt_irrefl _)
                  have HNE := Aside0.mk hne4
                  clear hne4
                  go_wp2_with (first | ((with_reducible refine gate_store (t := 3) (p := 85) rfl ?_); refine Kd.R_store k40 (w0 := w) (W := W3) w.heap.size rfl rfl 3 (.tmp 85) (.tmp 83) rfl 40 (jn : Int) 1 l0_1 (⟨u.f0, s2⟩ : S40) (.int .i64 s2) [.int .i64 s2] [.int .i64 u.f0, .int .i64 u.f1] (fun k => w1.heap.size ≤ k) (fun _ => False) rfl rfl rfl rfl (by kernel_rfl) (by simp [Value.oneCell']) HR3.out j0 j1 rfl (fun j u hu => HCC3.out j u hu) (Nat.le_refl 2) (k40_mkM _ _ _ (⟨u.f0, s2⟩ : S40)) (fun _ hk => hk.elim) HB3.out ?_; intro w4 hO4 hB4 hG4; have hx4 := (hG4.block (w.heap.size + 1) (blk_lt HX4c.out) (fun e => by injection e with e; exact absurd e (Nat.ne_of_lt HJL.out.2))).trans HX4c.out; have HO4 := Aside0.mk hO4; have HB4 := Aside0.mk hB4; have HX4d := Aside0.mk hx4; have hf1 := rd_cell hO4 HJL.out.1; clear hO4 hB4 hG4) | ((with_reducible refine gate_store (t := 58) (p := 4) rfl ?_); refine wpList_store_row (P := Try.prog) rfl 58 (.tmp 4) (.tmp 97) rfl (w.heap.size + 1) #[.int .i64 a1, .slice (some ⟨g, 0, none⟩) n c2'] rfl rfl 58 #[.int .i64 0, .slice none 0 0] hx4 (by kernel_rfl) rfl (by simp [Value.oneCell']) ?_))
                  (try simp only [Exit.inBlock, Exit.then])
                  refine bodyPost_ret (results_ct rfl _ _ (w.heap.size + 1) 58 #[.int .i64 a1, .slice (some ⟨g, 0, none⟩) n c2'] (0, 0) _ rfl (setRow_heap _ (w.heap.size + 1) _ _ 58 (0, 0) hx4) Try.underlying58 rfl (by kernel_rfl)) rfl ?_
                  refine ⟨_, rfl, ?_, setRow_below HB4.out (Nat.le_succ _) _⟩
                  clear hs2w hs2w2 hwj hwj2
                  have hr := fun {v : Value} {l : List S40} (h : Kd.R k40 40 w4 w.heap.size (fun k => w1.heap.size ≤ k) v l) => Kd.R_mono (ok' := fun _ => True) (Kd.R_step (w1 := w4.setRow (w.heap.size + 1) #[.int .i64 a1, .slice (some ⟨g, 0, none⟩) n c2']) h (fun k hk _ => setRow_other w4 (w.heap.size + 1) k #[.int .i64 a1, .slice (some ⟨g, 0, none⟩) n c2'] (HNE.out k hk))) (fun _ _ => trivial)
                  have hset : l0_1.set ((jn : Int)).toNat (⟨u.f0, s2⟩ : S40) = l0_1.dropLast ++ [⟨u.f0, s2⟩] := by
                    rw [Int.toNat_natCast]
                    have hdl : l0_1.dropLast.length = jn := by rw [List.length_dropLast, ← HNN.out]; have := HJN.out; omega
                    conv => lhs; rw [HUL.out.2]
                    rw [← hdl, List.set_append_right _ _ (Nat.le_refl _), Nat.sub_self]
                    rfl
                  rw [← HRS.out, HTR.out, if_neg (by have := HC6.out; omega), ← hset]
                  exact hr HO4.out
              · have hd5 : decide (a1 < s1) = false := decide_eq_false (by omega)
                have HC5 := Aside0.mk c5
                have hres : trimG l0_1 a1 = l0_1 := by
                  unfold trimG
                  rw [HUL.out.1]
                  simp only []
                  rw [← HS1.out, if_neg (by have := HC5.out; omega)]
                have HRES := Aside0.mk hres
                clear hres
                go_wp2_with fail
                go_quiet (fail)
                obtain ⟨W3, hW3⟩ : ∃ W, W = w2.drewN nq := ⟨_, rfl⟩
                rw [← hW3]
                have HX4c := Aside0.mk (show W3.heap[w.heap.size + 1]? = some (.cells #[.int .i64 0, .slice none 0 0] 58 (0, 0)) by rw [hW3]; exact HX4b.out)
                have HR3 := Aside0.mk (show Kd.R k40 40 W3 w.heap.size (fun k => w1.heap.size ≤ k) (.slice (some ⟨g, 0, none⟩) n c2') l0_1 by rw [hW3]; exact Kd.R_drewN HR2.out nq)
                have HB3 := Aside0.mk (show Below w.heap.size w W3 by rw [hW3]; exact pw_below_drewN HB2.out nq)
                clear hW3 e0 e1 hs1w hs1w2
                have hx4 := HX4c.out
                have hne4 : ∀ k, w1.heap.size ≤ k → k ≠ w.heap.size + 1 := fun k hk => fun e => absurd (Nat.lt_of_lt_of_le (blk_lt HX4'.out) hk) (by rw [e]; exact Nat.lt_irrefl _)
                have HNE := Aside0.mk hne4
                clear hne4
                go_wp2_with (refine wpList_store_row (P := Try.prog) rfl 58 (.tmp 4) (.tmp 97) rfl (w.heap.size + 1) #[.int .i64 a1, .slice (some ⟨g, 0, none⟩) n c2'] rfl rfl 58 #[.int .i64 0, .slice none 0 0] hx4 (by kernel_rfl) rfl (by simp [Value.oneCell']) ?_)
                (try simp only [Exit.inBlock, Exit.then])
                refine bodyPost_ret (results_ct rfl _ _ (w.heap.size + 1) 58 #[.int .i64 a1, .slice (some ⟨g, 0, none⟩) n c2'] (0, 0) _ rfl (setRow_heap _ (w.heap.size + 1) _ _ 58 (0, 0) hx4) Try.underlying58 rfl (by kernel_rfl)) rfl ?_
                refine ⟨_, rfl, ?_, setRow_below HB3.out (Nat.le_succ _) _⟩
                have hr := Kd.R_mono (ok' := fun _ => True) (Kd.R_step (w1 := W3.setRow (w.heap.size + 1) #[.int .i64 a1, .slice (some ⟨g, 0, none⟩) n c2']) HR3.out (fun k hk _ => setRow_other W3 (w.heap.size + 1) k #[.int .i64 a1, .slice (some ⟨g, 0, none⟩) n c2'] (HNE.out k hk))) (fun _ _ => trivial)
                rw [← HRS.out, HRES.out]; exact hr
  · have hb0 : (h2 == 0) = false := beq_eq_false_iff_ne.mpr c0
    have hb1 : (h2 != 0) = true := bne_iff_ne.mpr c0
    have hh := HH.out
    rw [if_neg c0] at hh
    simp only [Option.some.injEq, Prod.mk.injEq] at hh
    obtain ⟨rfl, rfl, rfl⟩ := hh
    go_wp2_with (refine wpList_store_row (P := Try.prog) rfl 58 (.tmp 4) (.tmp 18) rfl (w.heap.size + 1) #[.int .i64 0, .slice none 0 0] rfl rfl 58 #[.int .i64 0, .slice none 0 0] hx4 (by kernel_rfl) rfl (by simp [Value.oneCell']) ?_)
    (try simp only [Exit.inBlock, Exit.then])
    refine bodyPost_ret (results_ct rfl _ _ (w.heap.size + 1) 58 #[.int .i64 0, .slice none 0 0] (0, 0) _ rfl (setRow_heap _ (w.heap.size + 1) _ _ 58 (0, 0) hx4) Try.underlying58 rfl (by kernel_rfl)) rfl ?_
    exact ⟨_, rfl, Kd.R_nil _ _ _ _ _, setRow_below HB1.out (Nat.le_succ _) _⟩

end Go.Proofs.Ytkkfkdncddbaeaa.Fn
