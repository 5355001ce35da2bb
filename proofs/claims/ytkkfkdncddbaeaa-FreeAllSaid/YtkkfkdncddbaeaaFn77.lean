-- Told by hand; its numbers filled in by a program of this session.
import Derived.Test.YtkkfkdncddbaeaaFnBase
import Derived.Test.YtkkfkdncddbaeaaHWoG
import Derived.Test.YtkkfkdncddbaeaaHIdxSpan
import Derived.Test.YtkkfkdncddbaeaaHSortSpan
import Derived.Test.YtkkfkdncddbaeaaFn111
import Derived.Test.YtkkfkdncddbaeaaFn101
import Derived.Test.YtkkfkdncddbaeaaFn83
import Derived.Test.YtkkfkdncddbaeaaFn107
import Derived.Test.YtkkfkdncddbaeaaFn105
import Derived.Test.YtkkfkdncddbaeaaHRepl
import Derived.Laws.Tables
namespace Go.Proofs.Ytkkfkdncddbaeaa.Fn
open Go.RowKit Go.Proofs.YtkkfkdncddbaeaaW.PrintWords Go.Proofs.YtkkfkdncddbaeaaW.PrintLast Go.Proofs.YtkkfkdncddbaeaaW.PrintMore
attribute [local go_sem] max2_int min2_int max_two min_two max_three min_three max_four min_four   -- for this text's walks alone
set_option linter.unusedVariables false
set_option linter.unusedSimpArgs false

/-! free.Without: what is free without what is used. -/
def free_Without.f (a0 : Int) (l1 : List (S40)) : Option (Int × (List (S40)) × Int) := some (withoutG a0 l1)
set_option maxHeartbeats 1000000 in
set_option maxRecDepth 100000 in
/-- Is a span outside? -/
theorem wo_in (x : S40) (b : Nat) (size : Int) (w : World) (h0 : 0 ≤ size) (h1 : size ≤ 65536) (hb : w.heap[b]? = some (.cells #[.int .i64 size] 3 (0, 0))) :
    Calls Try.prog 131 #[.agg #[.int .i64 x.f0, .int .i64 x.f1], .pointer (some ⟨b, 0, none⟩)] w fun e w' => e = .returned (.bool (!insG size x)) ∧ Below w.heap.size w w' := by
  have hu40 := Try.underlying40
  have h2 := blk_lt hb
  have hbl := (Below.refl w.heap.size w).alloc (Nat.le_refl _) (.cells #[.int .i64 x.f0, .int .i64 x.f1] 40)
  have x0 : (w.alloc (.cells #[.int .i64 x.f0, .int .i64 x.f1] 40)).cell? ⟨b, 0, none⟩ = some (.int .i64 size) := (blk_cell ((hbl.block b h2).trans hb) 0).trans rfl
  have hin : free_inside.f x.f0 x.f1 size = some (insG size x) := insB_f x.f0 x.f1 h0 h1
  have HB := Aside0.mk hbl
  have HIN := Aside0.mk hin
  clear hbl hb hin
  go_enter Try.func131, Try.ntmps131
  go_wp2_with fail
  refine (free_inside.calls x.f0 x.f1 size (insG size x) _ HIN.out).mono ?_
  rintro e w1 ⟨rfl, hd⟩
  have HB2 := Aside0.mk (below_step HB.out hd)
  clear hd
  go_wp2
  go_ret
  exact ⟨rfl, HB2.out⟩
open Go.Proofs Go.Sort in
/-- Without's second closure, in whatever world. -/
theorem wo_cmp (x y : S40) (W : World) : Calls Try.prog 133 #[.agg #[.int .i64 x.f0, .int .i64 x.f1], .agg #[.int .i64 y.f0, .int .i64 y.f1]] W fun e w' => e = .returned (.int .i64 (cmpAt x y)) ∧ ∃ q os', w' = grow (W.drewN q) os' := by
  have hu40 := Try.underlying40
  have hf : cmp_Compare_int.f x.f0 y.f0 = some (cmpAt x y) := cmp_f x.f0 y.f0
  go_enter Try.func133, Try.ntmps133
  go_wp2_with fail
  refine (cmp_Compare_int.calls x.f0 y.f0 _ _ hf).mono ?_
  rintro e w1 ⟨rfl, ⟨q, rfl⟩⟩
  clear hf
  go_wp2
  go_ret
  exact ⟨rfl, q, _, by rw [alloc_eq_grow, alloc_eq_grow, grow_grow]; rfl⟩
set_option maxHeartbeats 1000000 in
set_option maxRecDepth 100000 in
/-- slices.ContainsFunc at spans. -/
theorem has_span (cl : Nat) (lb : Array Value) (p : S40 → Bool) (eg : ∀ args w, (callFunc cl args).run Try.prog w = .ok (.enter cl args) w)
    (A0 : Option Addr) (c0 : Nat) (l0 : List S40) (w : World) (hr0 : Kd.C k40 w A0 l0.length l0)
    (hp : ∀ (W : World) (x : S40), Below w.heap.size w W → Calls Try.prog cl (#[.agg #[.int .i64 x.f0, .int .i64 x.f1]] ++ lb) W fun e w' => e = .returned (.bool (p x)) ∧ Below w.heap.size w w') :
    Calls Try.prog 130 #[.slice A0 l0.length c0, .func (.func cl) #[] lb] w fun e w' => e = .returned (.bool (l0.any p)) ∧ Below w.heap.size w w' := by
  have hidx := idx_span cl lb p eg A0 c0 l0 w hr0 hp
  have hres : decide (0 ≤ idxF p l0) = l0.any p := by
    unfold idxF
    cases h : l0.findIdx? p with
    | some i =>
      have := List.findIdx?_eq_some_iff_getElem.1 h
      obtain ⟨h1, h2, _⟩ := this
      rw [List.any_eq_true.2 ⟨_, List.getElem_mem h1, h2⟩]
      exact decide_eq_true (by show (0 : Int) ≤ (i : Int); omega)
    | none =>
      have := List.findIdx?_eq_none_iff.1 h
      rw [List.any_eq_false.2 (fun x hx => by rw [this x hx]; decide)]
      rfl
  have HI := Aside0.mk hidx
  have HRES := Aside0.mk hres
  clear hidx hres hp hr0
  go_enter Try.func130, Try.ntmps130
  go_wp2_with fail
  refine HI.out.mono ?_
  rintro e w1 ⟨rfl, hb⟩
  have HB := Aside0.mk hb
  clear hb
  go_wp2
  go_ret
  exact ⟨by rw [← HRES.out]; rfl, HB.out⟩
/-- Without's answer for New. -/
theorem gapFold_len (ys : List S40) : ∀ s : List S40 × Int, (ys.foldl gapG s).1.length ≤ s.1.length + ys.length := by
  induction ys with
  | nil => intro s; exact Nat.le_refl _
  | cons x t ih =>
    intro s
    rw [List.foldl_cons]
    have h1 := ih (gapG s x)
    have h2 : (gapG s x).1.length ≤ s.1.length + 1 := by
      unfold gapG
      simp only []
      split
      · rw [List.length_append, List.length_singleton]; exact Nat.le_refl _
      · omega
    rw [List.length_cons]; omega
/-- What New makes. -/
def newG (size : Int) : List S40 := if size > 0 then [⟨0, size⟩] else []
theorem new_f (size : Int) : free_New.f 5 size = some (if size < 0 ∨ size > 65536 then (0, [], 4) else (size, newG size, 0)) := by
  unfold free_New.f newG
  by_cases h0 : size < 0
  · rw [if_pos h0, if_pos (.inl h0)]; rfl
  · rw [if_neg h0]
    by_cases h1 : size > 65536
    · rw [decide_eq_true h1, if_pos (.inr h1)]; rfl
    · rw [decide_eq_false h1, if_neg (by omega), free_New.j0, if_neg Bool.false_ne_true]
      split <;> rfl
set_option maxHeartbeats 8000000 in
set_option maxRecDepth 100000 in
theorem free_Without.calls (a0 : Int) (A1 : Option Addr) (c1 : Nat) (l1 : List (S40)) (r1 : Int) (r2 : List (S40)) (r3 : Int) (w : World) (hr1 : Kd.C k40 w A1 l1.length l1) (hc1 : l1.length ≤ c1) (h : free_Without.f a0 l1 = some (r1, r2, r3)) :
    Calls Try.prog 77 #[.int .i64 a0, .slice A1 l1.length c1] w fun e w' => ∃ v1_ : Value, e = .returned (.tuple #[.agg #[.int .i64 r1, v1_], .int .i64 r3]) ∧ Kd.R k40 40 w' w.heap.size (fun _ => True) v1_ r2 ∧ Below w.heap.size w w' := by
  have hu40 := Try.underlying40
  have hu58 := Try.underlying58
  have hW : withoutG a0 l1 = (r1, r2, r3) := Option.some.inj h
  obtain ⟨W0, hW0⟩ : ∃ W, W = (w.alloc (.cells #[.int .i64 a0] 3)).alloc (.cells #[.int .i64 0, .slice none 0 0] 58) := ⟨_, rfl⟩
  have hz1 : (w.alloc (.cells #[.int .i64 a0] 3)).heap.size = w.heap.size + 1 := by simp
  have hB0 : Below w.heap.size w W0 := by rw [hW0]; exact ((Below.refl w.heap.size w).alloc (Nat.le_refl _) _).alloc (by rw [hz1]; omega) _
  have hX2 : W0.heap[w.heap.size]? = some (.cells #[.int .i64 a0] 3 (0, 0)) := by rw [hW0]; exact blk_alloc (blk_new w _) _
  have hX4 : W0.heap[w.heap.size + 1]? = some (.cells #[.int .i64 0, .slice none 0 0] 58 (0, 0)) := by
    have h1 := blk_new (w.alloc (.cells #[.int .i64 a0] 3)) (.cells #[.int .i64 0, .slice none 0 0] 58)
    rw [hz1] at h1
    rw [hW0]; exact h1
  have x2 : ((w.alloc (.cells #[.int .i64 a0] 3)).alloc (.cells #[.int .i64 0, .slice none 0 0] 58)).cell? ⟨w.heap.size, 0, none⟩ = some (.int .i64 a0) := by rw [← hW0]; exact (blk_cell hX2 0).trans rfl
  have HR1 := Aside0.mk hr1
  have HC1 := Aside0.mk hc1
  have HW := Aside0.mk hW
  have HB0 := Aside0.mk hB0
  have HX2 := Aside0.mk hX2
  have HX4 := Aside0.mk hX4
  have HW0 := Aside0.mk hW0
  clear hr1 hc1 h hW hB0 hX2 hX4 hW0 hz1
  go_enter Try.func77, Try.ntmps77
  go_wp2_with fail
  rw [← HW0.out]
  by_cases hrange : a0 < 0 ∨ a0 > 65536
  · have hn : free_New.f 5 a0 = some (0, [], 4) := by rw [new_f, if_pos hrange]
    have hres : (r1, r2, r3) = (0, [], 4) := by rw [← HW.out]; unfold withoutG; rw [if_pos hrange]
    simp only [Prod.mk.injEq] at hres
    obtain ⟨rfl, rfl, rfl⟩ := hres
    refine (free_New.calls 5 a0 0 [] 4 W0 hn).mono ?_
    rintro e w1 ⟨v1, rfl, hR1, hb1⟩
    obtain ⟨An, cn, rfl⟩ := Kd.R_slice hR1
    have HX4' := Aside0.mk (show ((w1.alloc (.cells #[.int .i64 0, .slice none 0 0] 58)).setRow w1.heap.size #[.int .i64 0, .slice An 0 cn]).heap[w.heap.size + 1]? = some (.cells #[.int .i64 0, .slice none 0 0] 58 (0, 0)) by
      have h1 := blk_lt HX4.out
      have h2 := hb1.size
      rw [setRow_other _ w1.heap.size _ _ (by omega), Below.heap_alloc w1 _ _ (by omega), hb1.block _ h1]
      exact HX4.out)
    have hB1 := below_step HB0.out hb1
    have HB1 := Aside0.mk (show Below w.heap.size w ((w1.alloc (.cells #[.int .i64 0, .slice none 0 0] 58)).setRow w1.heap.size #[.int .i64 0, .slice An 0 cn]) from setRow_below (hB1.alloc hB1.size _) hB1.size _)
    have hb6 := blk_new w1 (.cells #[.int .i64 0, .slice none 0 0] 58)
    have hx4 := HX4'.out
    clear hR1 hb1 hB1 x2 hn
    go_wp2_with (first
      | (refine wpList_store_row (P := Try.prog) rfl 58 (.tmp 6) (.tmp 14) rfl w1.heap.size #[.int .i64 0, .slice An 0 cn] rfl rfl 58 #[.int .i64 0, .slice none 0 0] hb6 (by kernel_rfl) rfl (by simp [Value.oneCell']) ?_)
      | (refine wpList_store_row (P := Try.prog) rfl 58 (.tmp 4) (.tmp 18) rfl (w.heap.size + 1) #[.int .i64 0, .slice none 0 0] rfl rfl 58 #[.int .i64 0, .slice none 0 0] hx4 (by kernel_rfl) rfl (by simp [Value.oneCell']) ?_))
    (try simp only [Exit.inBlock, Exit.then])
    refine bodyPost_ret (results_ct rfl _ _ (w.heap.size + 1) 58 #[.int .i64 0, .slice none 0 0] (0, 0) _ rfl (setRow_heap _ (w.heap.size + 1) _ _ 58 (0, 0) hx4) Try.underlying58 rfl (by kernel_rfl)) rfl ?_
    exact ⟨_, rfl, Kd.R_nil _ _ _ _ _, setRow_below HB1.out (Nat.le_succ _) _⟩
  · have hn : free_New.f 5 a0 = some (a0, newG a0, 0) := by rw [new_f, if_neg hrange]
    have h0 : 0 ≤ a0 := by omega
    have h1 : a0 ≤ 65536 := by omega
    refine (free_New.calls 5 a0 a0 (newG a0) 0 W0 hn).mono ?_
    rintro e w1 ⟨v1, rfl, hR1, hb1⟩
    obtain ⟨An, cn, rfl⟩ := Kd.R_slice hR1
    obtain ⟨nn, hnn⟩ : ∃ n, n = (newG a0).length := ⟨_, rfl⟩
    rw [← hnn]
    obtain ⟨b6, hb6e⟩ : ∃ b, b = w1.heap.size := ⟨_, rfl⟩
    obtain ⟨W2, hW2⟩ : ∃ W, W = (w1.alloc (.cells #[.int .i64 0, .slice none 0 0] 58)).setRow b6 #[.int .i64 a0, .slice An nn cn] := ⟨_, rfl⟩
    have hb6 := blk_new w1 (.cells #[.int .i64 0, .slice none 0 0] 58)
    have hB1 := below_step HB0.out hb1
    have l2 := blk_lt HX2.out
    have l4 := blk_lt HX4.out
    have hs1 := hb1.size
    have HX2' := Aside0.mk (show W2.heap[w.heap.size]? = some (.cells #[.int .i64 a0] 3 (0, 0)) by
      rw [hW2, hb6e, setRow_other _ w1.heap.size _ _ (by omega), Below.heap_alloc w1 _ _ (by omega), hb1.block _ l2]
      exact HX2.out)
    have HX4' := Aside0.mk (show W2.heap[w.heap.size + 1]? = some (.cells #[.int .i64 0, .slice none 0 0] 58 (0, 0)) by
      rw [hW2, hb6e, setRow_other _ w1.heap.size _ _ (by omega), Below.heap_alloc w1 _ _ (by omega), hb1.block _ l4]
      exact HX4.out)
    have HX6 := Aside0.mk (show W2.heap[b6]? = some (.cells #[.int .i64 a0, .slice An nn cn] 58 (0, 0)) by
      rw [hW2]; rw [← hb6e] at hb6; exact setRow_heap _ b6 _ _ 58 (0, 0) hb6)
    have HB2 := Aside0.mk (show Below w.heap.size w W2 by rw [hW2, hb6e]; exact setRow_below (hB1.alloc hB1.size _) hB1.size _)
    have HN6 := Aside0.mk (show w.heap.size + 1 < b6 by omega)
    rw [← hb6e] at hb6
    have HW2 := Aside0.mk hW2
    have HB6E := Aside0.mk hb6e
    have hb6e' : w1.heap.size = b6 := hb6e.symm
    clear hR1 hb1 hB1 hn hnn hW2 l2 l4 hs1 hb6e x2
    have hmf : ∀ (fn : Fn) (first cap : Array Value) (w : World), (Instr.makeFunc fn first cap).run Try.prog w = .ok (.func fn first cap) w := fun _ _ _ _ => rfl
    by_cases hlen : (l1.length : Int) > 1024
    · have hres : (r1, r2, r3) = (0, [], 3) := by rw [← HW.out]; unfold withoutG; rw [if_neg hrange, if_pos hlen]
      simp only [Prod.mk.injEq] at hres
      obtain ⟨rfl, rfl, rfl⟩ := hres
      have hdl : decide ((1024 : Int) < (l1.length : Int)) = true := decide_eq_true (by omega)
      have hx4 : ((w1.alloc (.cells #[.int .i64 0, .slice none 0 0] 58)).setRow b6 #[.int .i64 a0, .slice An nn cn]).heap[w.heap.size + 1]? = some (.cells #[.int .i64 0, .slice none 0 0] 58 (0, 0)) := by rw [← HW2.out]; exact HX4'.out
      have HBB := Aside0.mk (show Below w.heap.size w ((w1.alloc (.cells #[.int .i64 0, .slice none 0 0] 58)).setRow b6 #[.int .i64 a0, .slice An nn cn]) by rw [← HW2.out]; exact HB2.out)
      go_wp2_with (first
        | (refine wpList_store_row (P := Try.prog) rfl 58 (.tmp 6) (.tmp 14) rfl b6 #[.int .i64 a0, .slice An nn cn] (by first | rfl | (simp only [hb6e']; done) | (simp [hb6e'])) rfl 58 #[.int .i64 0, .slice none 0 0] hb6 (by kernel_rfl) rfl (by simp [Value.oneCell']) ?_)
        | (refine wpList_store_row (P := Try.prog) rfl 58 (.tmp 4) (.tmp 23) rfl (w.heap.size + 1) #[.int .i64 0, .slice none 0 0] rfl rfl 58 #[.int .i64 0, .slice none 0 0] hx4 (by kernel_rfl) rfl (by simp [Value.oneCell']) ?_))
      (try simp only [Exit.inBlock, Exit.then])
      refine bodyPost_ret (results_ct rfl _ _ (w.heap.size + 1) 58 #[.int .i64 0, .slice none 0 0] (0, 0) _ rfl (setRow_heap _ (w.heap.size + 1) _ _ 58 (0, 0) hx4) Try.underlying58 rfl (by kernel_rfl)) rfl ?_
      exact ⟨_, rfl, Kd.R_nil _ _ _ _ _, setRow_below HBB.out (Nat.le_succ _) _⟩
    · have hdl : decide ((1024 : Int) < (l1.length : Int)) = false := decide_eq_false (by omega)
      have HLEN := Aside0.mk hlen
      go_wp2_with (first
        | (refine wpList_store_row (P := Try.prog) rfl 58 (.tmp 6) (.tmp 14) rfl b6 #[.int .i64 a0, .slice An nn cn] (by first | rfl | (simp only [hb6e']; done) | (simp [hb6e'])) rfl 58 #[.int .i64 0, .slice none 0 0] hb6 (by kernel_rfl) rfl (by simp [Value.oneCell']) ?_))
      rw [← HW2.out]
      have hhas := has_span 131 #[.pointer (some ⟨w.heap.size, 0, none⟩)] (fun x => !insG a0 x) (enters_of Try.func131 (by kernel_rfl) rfl) A1 c1 l1 W2 (Kd.C_below HR1.out HB2.out) (fun W x hW => (wo_in x w.heap.size a0 W h0 h1 ((hW.block _ (blk_lt HX2'.out)).trans HX2'.out)).mono fun e w' h => ⟨h.1, below_step hW h.2⟩)
      refine hhas.mono ?_
      rintro e w3 ⟨rfl, hb3⟩
      have hany : l1.any (fun x => !insG a0 x) = !(l1.all (insG a0)) := by rw [List.not_all_eq_any_not]
      rw [hany]
      have HX2'' := Aside0.mk ((hb3.block _ (blk_lt HX2'.out)).trans HX2'.out)
      have HX4'' := Aside0.mk ((hb3.block _ (blk_lt HX4'.out)).trans HX4'.out)
      have HX6' := Aside0.mk ((hb3.block _ (blk_lt HX6.out)).trans HX6.out)
      have HB3 := Aside0.mk (below_step HB2.out hb3)
      clear hb3 hhas hany hb6 hb6e' hdl hlen
      by_cases hall : l1.all (insG a0) = true
      · rw [hall]
        have hcl := api_Span_101.calls A1 c1 l1 l1 w3 (Kd.C_below HR1.out HB3.out) HC1.out (by unfold api_Span_101.f; rw [if_pos (by have := HLEN.out; omega)])
        go_wp2_with fail
        refine hcl.mono ?_
        rintro e w4 ⟨v4, rfl, hR4, hb4⟩
        obtain ⟨A4, c4, rfl⟩ := Kd.R_slice hR4
        have HR4 := Aside0.mk hR4
        have HB4 := Aside0.mk hb4
        clear hR4 hb4 hcl
        go_wp2_with fail
        refine (sort_span 133 (enters_of Try.func133 (by kernel_rfl) rfl) wo_cmp HR4.out HB4.out HB4.out.size (by have := HLEN.out; omega)).mono ?_
        rintro e w5 ⟨rfl, ys, hperm, hsort, hR5, hb5, hs5, hk5⟩
        have hins : ∀ x ∈ l1, Flag.Ins a0 (toP x) := fun x hx => Flag.insB_iff.1 (List.all_eq_true.1 hall x hx)
        have HRES := Aside0.mk (gapL_of h0 h1 hins hperm hsort)
        have hyl : ys.length = l1.length := hperm.length_eq
        have HYL := Aside0.mk (show (ys.length : Int) ≤ 1024 by rw [hyl]; have := HLEN.out; omega)
        have hX2 := (hb5.block _ (blk_lt HX2''.out)).trans HX2''.out
        have hX4 := (hb5.block _ (blk_lt HX4''.out)).trans HX4''.out
        have hX6 := (hb5.block _ (blk_lt HX6'.out)).trans HX6'.out
        have hlt6 := blk_lt HX6'.out
        have hlt6' := blk_lt HX6.out
        have hn6 := HN6.out
        have hs35 := hb5.size
        have hfz : w5.frozen? ⟨b6, 1, none⟩ = false := blk_frozen hX6 1
        obtain ⟨W6, hW6⟩ : ∃ W, W = w5.setCell ⟨b6, 1, none⟩ (.slice none 0 0) := ⟨_, rfl⟩
        have hz6 : W6.heap.size = w5.heap.size := by rw [hW6]; simp [World.setCell]
        have hY2 : W6.heap[w.heap.size]? = some (.cells #[.int .i64 a0] 3 (0, 0)) := by rw [hW6]; exact (Below.heap_setCell w5 ⟨b6, 1, none⟩ _ _ (by show w.heap.size ≠ b6; omega)).trans hX2
        have hY4 : W6.heap[w.heap.size + 1]? = some (.cells #[.int .i64 0, .slice none 0 0] 58 (0, 0)) := by rw [hW6]; exact (Below.heap_setCell w5 ⟨b6, 1, none⟩ _ _ (by show w.heap.size + 1 ≠ b6; omega)).trans hX4
        have hY6 : W6.heap[b6]? = some (.cells #[.int .i64 a0, .slice none 0 0] 58 (0, 0)) := by rw [hW6]; exact blk_put (cs := #[.int .i64 a0, .slice An nn cn]) hX6 1 _ rfl
        have hx2 : (w5.setCell ⟨b6, 1, none⟩ (.slice none 0 0)).cell? ⟨w.heap.size, 0, none⟩ = some (.int .i64 a0) := by rw [← hW6]; exact (blk_cell hY2 0).trans rfl
        have hy2 : w5.cell? ⟨w.heap.size, 0, none⟩ = some (.int .i64 a0) := (blk_cell hX2 0).trans rfl
        have hy6 : w5.cell? ⟨b6, 1, none⟩ = some (.slice An nn cn) := (blk_cell hX6 1).trans rfl
        have hne1 : w.heap.size ≠ b6 := by omega
        have hne2 : b6 ≠ w.heap.size := by omega
        have hR6 : Kd.R k40 40 W6 w.heap.size (fun k => w3.heap.size ≤ k) (.slice A4 l1.length c4) ys := by
          rw [hW6]
          refine Kd.R_far (p := ⟨b6, 1, none⟩) ?_ (fun k hk => by show k ≠ b6; omega) _
          refine Kd.R_mono (Kd.R_lower (Kd.R_bound hR5) HB3.out.size) (fun k hk => hk.2.1)
        have hB6 : Below w.heap.size w W6 := by rw [hW6]; exact (below_step HB3.out hb5).setCell (p := ⟨b6, 1, none⟩) (by show w.heap.size ≤ b6; omega) _
        have HR6 := Aside0.mk hR6
        have HB6 := Aside0.mk hB6
        have HY := Aside0.mk (And.intro hY2 (And.intro hY4 hY6))
        have HW6 := Aside0.mk hW6
        have HZ6 := Aside0.mk (show w3.heap.size ≤ W6.heap.size by omega)
        have HL6 := Aside0.mk hlt6
        clear hperm hsort hR5 hb5 hs5 hk5 hyl hX2 hX4 hX6 hlt6 hlt6' hn6 hs35 hz6 hY2 hY4 hY6 hR6 hB6 hW6
        obtain ⟨zs, hzs⟩ : ∃ zs, zs = ys ++ [(⟨a0, 0⟩ : S40)] := ⟨_, rfl⟩
        have hzl : (zs.length : Int) ≤ 1025 := by rw [hzs, List.length_append, List.length_singleton]; have := HYL.out; omega
        have HZS := Aside0.mk hzs
        have HZL := Aside0.mk hzl
        clear hzs hzl
        go_wp2_with (first | ((with_reducible refine gate_builtin (b := .append) (xs := #[.tmp 33, .tmp 36]) rfl ?_); at_builtin; refine Kd.R_append k40 (w0 := w) w.heap.size rfl (.tmp 33) (.tmp 36) 54 40 (.agg #[(.int .i64 0), (.int .i64 0)]) 16 rfl Try.underlying54 info40 rfl (by decide) (by omega) (.slice A4 l1.length c4) ys (⟨a0, 0⟩ : S40) [.int .i64 ((⟨a0, 0⟩ : S40) : S40).f0, .int .i64 ((⟨a0, 0⟩ : S40) : S40).f1] (fun k => w3.heap.size ≤ k) (fun _ => False) rfl (by first | (go_simp; done) | (go_simp; rfl)) ?aP (fun _ hk => hk.elim) ?aF ?aO ?aB ?aS ?aL ?_; (case aP => exact k40_mkM _ _ _ ((⟨a0, 0⟩ : S40) : S40)); (case aF => intro k hk; rw [← HW6.out] at hk; have := HZ6.out; omega); (case aO => rw [← HW6.out]; exact HR6.out); (case aB => rw [← HW6.out]; exact HB6.out); (case aS => rw [← HW6.out]; exact HB6.out.size); (case aL => have := HYL.out; omega); intro v1 w7 ho hb hg hat; rw [← HW6.out] at hg; rw [← HZS.out] at ho; obtain ⟨Az, cz, rfl⟩ := Kd.R_slice ho; have HO7 := Aside0.mk ho; have HB7 := Aside0.mk hb; have HG7 := Aside0.mk hg; clear ho hb hg hat))
        have hbk : ∀ k, k < w3.heap.size → w7.heap[k]? = W6.heap[k]? := fun k hk => HG7.out.block k (Nat.lt_of_lt_of_le hk HZ6.out) (fun e => by
          have h5 := HR6.out.1 k (by rw [← e])
          omega)
        have HX2_7 := Aside0.mk ((hbk _ (Nat.lt_of_le_of_lt (by have := HN6.out; omega) HL6.out)).trans HY.out.1)
        have HX4_7 := Aside0.mk ((hbk _ (Nat.lt_trans HN6.out HL6.out)).trans HY.out.2.1)
        have HX6_7 := Aside0.mk ((hbk _ HL6.out).trans HY.out.2.2)
        have H37 := Aside0.mk (show w3.heap.size ≤ w7.heap.size from Nat.le_trans HZ6.out HG7.out.size)
        clear hbk hx2 hy2 hy6 hfz
        go_loopg [8, 39] zs.length (fun gk v8 v39 W => ∃ (i nx : Int) (vo : Value) (o : List S40), v8 = .int .i64 nx ∧ v39 = .int .i64 i ∧ Aside0 (0 ≤ i ∧ i + gk = zs.length) ∧ Aside0 ((zs.take i.toNat).foldl gapG ([], 0) = (o, nx)) ∧ Aside0 (Kd.R k40 40 W w.heap.size (fun k => w3.heap.size ≤ k ∧ some k ≠ (Value.slice Az zs.length cz).ownBlock) vo o) ∧ Aside0 (W.heap[w.heap.size]? = some (.cells #[.int .i64 a0] 3 (0, 0)) ∧ W.heap[w.heap.size + 1]? = some (.cells #[.int .i64 0, .slice none 0 0] 58 (0, 0)) ∧ W.heap[b6]? = some (.cells #[.int .i64 a0, vo] 58 (0, 0))) ∧ Aside0 (Below w.heap.size w W ∧ w7.heap.size ≤ W.heap.size ∧ ∀ k, (Value.slice Az zs.length cz).ownBlock = some k → W.heap[k]? = w7.heap[k]?))
        case atStart => exact ⟨0, 0, _, [], rfl, rfl, ⟨Int.le_refl _, by simp⟩, ⟨rfl⟩, ⟨Kd.R_nil _ _ _ _ _⟩, ⟨⟨HX2_7.out, HX4_7.out, HX6_7.out⟩⟩, ⟨⟨HB7.out, Nat.le_refl _, fun _ _ => rfl⟩⟩⟩
        case round =>
          obtain ⟨i, nx, vo, o, rfl, rfl, HI, HF, HO, HX, HS⟩ := hrel
          obtain ⟨Ao, co, rfl⟩ := Kd.R_slice HO.out
          obtain ⟨no, hno⟩ : ∃ n, n = o.length := ⟨_, rfl⟩
          rw [← hno] at HO HX
          have hol : (no : Int) ≤ i := by
            rw [hno]
            have := gapFold_len (zs.take i.toNat) ([], 0)
            rw [HF.out] at this
            simp only [List.length_nil, List.length_take] at this
            have := HI.out.1
            omega
          have HNO := Aside0.mk hno
          have HOL := Aside0.mk hol
          clear hno hol
          cases gk with
          | zero =>
            have hi : i = zs.length := by have := HI.out.2; omega
            have hd : decide (i < (zs.length : Int)) = false := decide_eq_false (by omega)
            have hoe : o = gapL (sortL l1) a0 := by
              rw [← HRES.out]
              unfold gapL
              rw [← HZS.out]
              have h := HF.out
              rw [hi, Int.toNat_natCast, List.take_length] at h
              rw [h]
            have hfull : free_full.f a0 o = some (r1, r2, r3) := by
              have e1 : withoutG a0 l1 = (if ((gapL (sortL l1) a0).length : Int) > 1024 then (0, [], 51) else (a0, gapL (sortL l1) a0, 0)) := by
                unfold withoutG
                rw [if_neg hrange, if_neg (show ¬ (l1.length : Int) > 1024 by have := HLEN.out; omega), if_pos hall]
              rw [← HW.out, e1, hoe]
              unfold free_full.f
              split <;> rfl
            have HFU := Aside0.mk hfull
            have z2 : wr.cell? ⟨w.heap.size, 0, none⟩ = some (.int .i64 a0) := (blk_cell HX.out.1 0).trans rfl
            have z6 : wr.cell? ⟨b6, 1, none⟩ = some (.slice Ao no co) := (blk_cell HX.out.2.2 1).trans rfl
            clear hi hoe hfull
            go_wp2_with fail
            refine (free_full.calls a0 (fun k => w3.heap.size ≤ k ∧ some k ≠ (Value.slice Az zs.length cz).ownBlock) (.slice Ao no co) o r1 r2 r3 w wr HS.out.1 HO.out HFU.out).mono ?_
            rintro e w9 ⟨v9, rfl, hR9, hb9, hk9⟩
            obtain ⟨A9, c9, rfl⟩ := Kd.R_slice hR9
            obtain ⟨n9, hn9⟩ : ∃ n, n = r2.length := ⟨_, rfl⟩
            rw [← hn9] at hR9 ⊢
            have hx4 := blk_kept HX.out.2.1 hk9 (fun h => by have := h.1; have := HL6.out; have := HN6.out; omega)
            have HR9 := Aside0.mk (show Kd.R k40 40 (w9.setRow (w.heap.size + 1) #[.int .i64 r1, .slice A9 n9 c9]) w.heap.size (fun _ => True) (.slice A9 n9 c9) r2 from Kd.R_mono (Kd.R_step hR9 (fun k hk _ => setRow_other _ (w.heap.size + 1) k _ (by
              have h1 := HL6.out
              have h2 := HN6.out
              have h3 := H37.out
              have h4 := HS.out.2.1
              rcases hk with hk | hk
              · have := hk.1; omega
              · omega))) (fun _ _ => trivial))
            have HB9 := Aside0.mk hb9
            clear hR9 hb9 hk9 hn9
            go_wp2_with (refine wpList_store_row (P := Try.prog) rfl 58 (.tmp 4) (.tmp 70) rfl (w.heap.size + 1) #[.int .i64 r1, .slice A9 n9 c9] rfl rfl 58 #[.int .i64 0, .slice none 0 0] hx4 (by kernel_rfl) rfl (by simp [Value.oneCell']) ?_)
            (try simp only [Exit.inBlock, Exit.then])
            refine bodyPost_ret (results_ct rfl _ _ (w.heap.size + 1) 58 #[.int .i64 r1, .slice A9 n9 c9] (0, 0) _ rfl (setRow_heap _ (w.heap.size + 1) _ _ 58 (0, 0) hx4) Try.underlying58 rfl (by kernel_rfl)) rfl ?_
            exact ⟨_, rfl, HR9.out, setRow_below HB9.out (Nat.le_succ _) _⟩
          | succ k1 =>
            have hp0 : 0 ≤ i := HI.out.1
            have hp1 : i < (zs.length : Int) := by have := HI.out.2; omega
            have hd : decide (i < (zs.length : Int)) = true := decide_eq_true hp1
            have hC : Kd.C k40 wr Az zs.length zs := by
              rcases R_lies flatSpan HO7.out with ⟨h1, h2⟩ | ⟨g, cap, h1, h2, h3, h4⟩
              · rw [h2] at hp1; simp at hp1; omega
              · injection h1 with h5 _ h6
                subst h5 h6
                have h7 := R_of_lies (base := w.heap.size) (ok := fun _ => True) flatSpan h2 trivial (h4.far (HS.out.2.2 g rfl))
                exact (Kd.R_reads' h7).2.2
            obtain ⟨ad, e3, g0, g1⟩ := at_T40 hC i hp0 hp1
            cases e3
            obtain ⟨x, hx⟩ : ∃ x, x = rd_T40 zs i := ⟨_, rfl⟩
            rw [← hx] at g0 g1
            have hst : (zs.take (i + 1).toNat).foldl gapG ([], 0) = gapG (o, nx) x := by
              have h3 : (i + 1).toNat = i.toNat + 1 := by omega
              have h4 : i.toNat < zs.length := by omega
              have h5 : x = zs[i.toNat] := by rw [hx]; unfold rd_T40; rw [List.getD_eq_getElem?_getD, List.getElem?_eq_getElem h4]; rfl
              rw [h3, List.take_succ_eq_append_getElem h4, List.foldl_append, ← h5, HF.out]
              rfl
            have HST := Aside0.mk hst
            have HP := Aside0.mk (And.intro hp0 hp1)
            clear hx hC hst
            obtain ⟨s1, hs1⟩ : ∃ s : Int, s = wrap64 (x.f0 + x.f1) := ⟨_, rfl⟩
            have hs1w : IntKind.i64.wrap (x.f0 + x.f1) = s1 := by rw [hs1]; exact IntWalk.i64_left _
            have hs1w2 : wrap64 (x.f0 + x.f1) = s1 := hs1.symm
            obtain ⟨m, hm⟩ : ∃ m : Int, m = mx nx s1 := ⟨_, rfl⟩
            have hm' : (if nx < s1 then s1 else nx) = m := hm.symm
            have HM := Aside0.mk (show mx nx (wrap64 (x.f0 + x.f1)) = m by rw [hs1w2, hm])
            clear hs1 hm
            have hX2 := HX.out.1
            have hX4 := HX.out.2.1
            have hX6 := HX.out.2.2
            have hlt3 : w3.heap.size ≤ wr.heap.size := Nat.le_trans H37.out HS.out.2.1
            have hlt6 : b6 < wr.heap.size := blk_lt hX6
            have hl6 := HL6.out
            have hn6 := HN6.out
            obtain ⟨W1, hW1⟩ : ∃ W, W = wr.alloc (.cells #[.int .i64 x.f0, .int .i64 x.f1] 40) := ⟨_, rfl⟩
            have hb1 : Below w.heap.size w W1 := by rw [hW1]; exact HS.out.1.alloc HS.out.1.size _
            have hx1 : W1.heap[wr.heap.size]? = some (.cells #[.int .i64 x.f0, .int .i64 x.f1] 40 (0, 0)) := by rw [hW1]; exact blk_new wr _
            have hz1 : W1.heap.size = wr.heap.size + 1 := by rw [hW1]; simp
            have hk1 : ∀ k, k < wr.heap.size → W1.heap[k]? = wr.heap[k]? := fun k hk => by rw [hW1]; exact Below.heap_alloc wr _ _ hk
            have hY2 := (hk1 w.heap.size (by omega)).trans hX2
            have hY4 := (hk1 (w.heap.size + 1) (by omega)).trans hX4
            have hY6 := (hk1 b6 hlt6).trans hX6
            have hbx : wr.heap.size ≠ b6 := by omega
            have hO1 : Kd.R k40 40 W1 w.heap.size (fun k => w3.heap.size ≤ k ∧ some k ≠ (Value.slice (some ad) zs.length cz).ownBlock) (.slice Ao no co) o := by rw [hW1]; exact Kd.R_alloc HO.out _
            have hz2 : ∀ k, (Value.slice (some ad) zs.length cz).ownBlock = some k → k < wr.heap.size ∧ W1.heap[k]? = w7.heap[k]? := by
              intro k hk
              have h2 : k < w7.heap.size := Kd.R_lt HO7.out k hk
              have h3 : k < wr.heap.size := Nat.lt_of_lt_of_le h2 HS.out.2.1
              exact ⟨h3, (hk1 k h3).trans (HS.out.2.2 k hk)⟩
            have q0 : (wr.alloc (.cells #[.int .i64 x.f0, .int .i64 x.f1] 40)).cell? ⟨wr.heap.size, 0, none⟩ = some (.int .i64 x.f0) := by rw [← hW1]; exact (blk_cell hx1 0).trans rfl
            have q1 : (wr.alloc (.cells #[.int .i64 x.f0, .int .i64 x.f1] 40)).cell? ⟨wr.heap.size, 1, none⟩ = some (.int .i64 x.f1) := by rw [← hW1]; exact (blk_cell hx1 1).trans rfl
            have q6 : (wr.alloc (.cells #[.int .i64 x.f0, .int .i64 x.f1] 40)).cell? ⟨b6, 1, none⟩ = some (.slice Ao no co) := by rw [← hW1]; exact (blk_cell hY6 1).trans rfl
            have HW1 := Aside0.mk hW1
            have HB1' := Aside0.mk hb1
            have HX1' := Aside0.mk (And.intro hx1 hz1)
            have HY' := Aside0.mk (And.intro hY2 (And.intro hY4 hY6))
            have HO1 := Aside0.mk hO1
            have HZ2 := Aside0.mk hz2
            have HBX := Aside0.mk (And.intro hbx (And.intro hlt3 hlt6))
            clear hW1 hb1 hx1 hz1 hk1 hY2 hY4 hY6 hO1 hz2 hX2 hX4 hX6 hlt3 hlt6 hl6 hn6
            have hwi : IntKind.i64.wrap (i + 1) = i + 1 := IntWalk.i64_in _ (by have := HP.out; have := HZL.out; omega)
            have hwi2 : wrap64 (i + 1) = i + 1 := w64 (by have := HP.out; have := HZL.out; omega)
            have hbx1 := HBX.out.1
            have hbx2 := HBX.out.1.symm
            by_cases hc : nx < x.f0
            · have hdc : decide (nx < x.f0) = true := decide_eq_true hc
              obtain ⟨s2, hs2⟩ : ∃ s : Int, s = wrap64 (x.f0 - nx) := ⟨_, rfl⟩
              have hs2w : IntKind.i64.wrap (x.f0 - nx) = s2 := by rw [hs2]; exact IntWalk.i64_left _
              have hs2w2 : wrap64 (x.f0 - nx) = s2 := hs2.symm
              have HS2 := Aside0.mk hs2
              have HC := Aside0.mk hc
              clear hs2
              obtain ⟨os, hos⟩ : ∃ os, os = o ++ [(⟨nx, s2⟩ : S40)] := ⟨_, rfl⟩
              have HOS := Aside0.mk hos
              clear hos
              go_wp2_with (first | ((with_reducible refine gate_builtin (b := .append) (xs := #[.tmp 48, .tmp 55]) rfl ?_); at_builtin; refine Kd.R_append k40 (w0 := w) w.heap.size rfl (.tmp 48) (.tmp 55) 54 40 (.agg #[(.int .i64 0), (.int .i64 0)]) 16 rfl Try.underlying54 info40 rfl (by decide) (by omega) (.slice Ao no co) o (⟨nx, s2⟩ : S40) [.int .i64 ((⟨nx, s2⟩ : S40) : S40).f0, .int .i64 ((⟨nx, s2⟩ : S40) : S40).f1] (fun k => w3.heap.size ≤ k ∧ some k ≠ (Value.slice (some ad) zs.length cz).ownBlock) (fun _ => False) rfl (by first | (go_simp; done) | (go_simp; rfl)) ?aP (fun _ hk => hk.elim) ?aF ?aO ?aB ?aS ?aL ?_; (case aP => exact k40_mkM _ _ _ ((⟨nx, s2⟩ : S40) : S40)); (case aF => intro k hk; rw [← HW1.out] at hk; exact ⟨by have := HX1'.out.2; have := HBX.out.2.1; omega, fun e => by have h1 := (HZ2.out k e.symm).1; have := HX1'.out.2; omega⟩); (case aO => rw [← HW1.out]; exact HO1.out); (case aB => rw [← HW1.out]; exact HB1'.out); (case aS => rw [← HW1.out]; exact HB1'.out.size); (case aL => rw [← HNO.out]; have := HOL.out; have := HP.out.2; have := HZL.out; omega); intro v1 w8 ho hb hg hat; rw [← HW1.out] at hg; rw [← HOS.out] at ho; obtain ⟨A8, c8, rfl⟩ := Kd.R_slice ho; have HO8 := Aside0.mk ho; have HB8 := Aside0.mk hb; have HG8 := Aside0.mk hg; have hX1_8 := (hg.block wr.heap.size (by have := HX1'.out.2; omega) (fun e => by have h1 := Kd.R_lt HO.out wr.heap.size e.symm; omega)).trans HX1'.out.1; have hX6_8 := (hg.block b6 (by have := HX1'.out.2; have := HBX.out.2.2; omega) (fun e => by have h1 := (HO1.out.1 b6 (by rw [← e])).1; have := HL6.out; omega)).trans HY'.out.2.2; have z0 : w8.cell? ⟨wr.heap.size, 0, none⟩ = some (.int .i64 x.f0) := (blk_cell hX1_8 0).trans rfl; have z1 : w8.cell? ⟨wr.heap.size, 1, none⟩ = some (.int .i64 x.f1) := (blk_cell hX1_8 1).trans rfl; have z6 : w8.cell? ⟨b6, 1, none⟩ = some (.slice Ao no co) := (blk_cell hX6_8 1).trans rfl; have hfz8 : w8.frozen? ⟨b6, 1, none⟩ = false := blk_frozen hX6_8 1; have HX6_8 := Aside0.mk hX6_8; clear ho hb hg hat hX1_8 hX6_8))
              go_roundg k1
              case measure => omega
              case rel =>
                refine ⟨i + 1, m, .slice A8 os.length c8, os, by first | rfl | (simp; done) | go_num, by first | rfl | (simp; done) | go_num, ⟨by have := HP.out.1; omega, by have := HI.out.2; omega⟩, ⟨?_⟩, ⟨?_⟩, ⟨?_, ?_, ?_⟩, ⟨?_, ?_, ?_⟩⟩
                · rw [HST.out]
                  unfold gapG
                  simp only []
                  rw [if_pos HC.out, HM.out, ← HS2.out, ← HOS.out]
                · exact Kd.R_far (p := ⟨b6, 1, none⟩) HO8.out (fun k hk => by show k ≠ b6; have := hk.1; have := HL6.out; omega) _
                · have h1 := (HG8.out.block w.heap.size (by have := HX1'.out.2; have := HBX.out.2.2; have := HN6.out; omega) (fun e => by have h1 := (HO1.out.1 w.heap.size (by rw [← e])).1; have := HL6.out; have := HN6.out; omega)).trans HY'.out.1
                  exact (Below.heap_setCell w8 ⟨b6, 1, none⟩ _ _ (by show w.heap.size ≠ b6; have := HN6.out; omega)).trans h1
                · have h1 := (HG8.out.block (w.heap.size + 1) (by have := HX1'.out.2; have := HBX.out.2.2; have := HN6.out; omega) (fun e => by have h1 := (HO1.out.1 (w.heap.size + 1) (by rw [← e])).1; have := HL6.out; have := HN6.out; omega)).trans HY'.out.2.1
                  exact (Below.heap_setCell w8 ⟨b6, 1, none⟩ _ _ (by show w.heap.size + 1 ≠ b6; have := HN6.out; omega)).trans h1
                · exact blk_put (cs := #[.int .i64 a0, .slice Ao no co]) HX6_8.out 1 _ rfl
                · exact HB8.out.setCell (p := ⟨b6, 1, none⟩) (by show w.heap.size ≤ b6; have := HN6.out; omega) _
                · have h1 : (w8.setCell ⟨b6, 1, none⟩ (.slice A8 os.length c8)).heap.size = w8.heap.size := by simp [World.setCell]
                  have h2 := HG8.out.size
                  have h3 := HX1'.out.2
                  have h4 := HS.out.2.1
                  rw [h1]; omega
                · intro k hk
                  obtain ⟨h1, h2⟩ := HZ2.out k hk
                  have h3 := HX1'.out.2
                  have hk3 := HO7.out.1 k hk
                  rw [Below.heap_setCell w8 ⟨b6, 1, none⟩ _ _ (by show k ≠ b6; have := HL6.out; omega), HG8.out.block k (by omega) (fun e => (HO1.out.1 k (by rw [← e])).2 hk.symm)]
                  exact h2
            · have hdc : decide (nx < x.f0) = false := decide_eq_false hc
              have HC := Aside0.mk hc
              go_wp2_with fail
              go_roundg k1
              case measure => omega
              case rel =>
                refine ⟨i + 1, m, .slice Ao no co, o, by first | rfl | (simp; done) | go_num, by first | rfl | (simp; done) | go_num, ⟨by have := HP.out.1; omega, by have := HI.out.2; omega⟩, ⟨?_⟩, ⟨?_⟩, ⟨?_, ?_, ?_⟩, ⟨?_, ?_, ?_⟩⟩
                · rw [HST.out]
                  unfold gapG
                  simp only []
                  rw [if_neg (show ¬ nx < x.f0 by have := HC.out; omega), HM.out]
                · rw [← HW1.out]; exact HO1.out
                · rw [← HW1.out]; exact HY'.out.1
                · rw [← HW1.out]; exact HY'.out.2.1
                · rw [← HW1.out]; exact HY'.out.2.2
                · rw [← HW1.out]; exact HB1'.out
                · rw [← HW1.out]; have := HX1'.out.2; have := HS.out.2.1; omega
                · intro k hk
                  rw [← HW1.out]; exact (HZ2.out k hk).2
      · have hall' : l1.all (insG a0) = false := Bool.eq_false_iff.mpr hall
        rw [hall']
        have hres : (r1, r2, r3) = (0, [], 4) := by rw [← HW.out]; unfold withoutG; rw [if_neg hrange, if_neg (by have := HLEN.out; omega), if_neg hall]
        simp only [Prod.mk.injEq] at hres
        obtain ⟨rfl, rfl, rfl⟩ := hres
        have hx4 := HX4''.out
        go_wp2_with (first
          | (refine wpList_store_row (P := Try.prog) rfl 58 (.tmp 4) (.tmp 27) rfl (w.heap.size + 1) #[.int .i64 0, .slice none 0 0] rfl rfl 58 #[.int .i64 0, .slice none 0 0] hx4 (by kernel_rfl) rfl (by simp [Value.oneCell']) ?_))
        (try simp only [Exit.inBlock, Exit.then])
        refine bodyPost_ret (results_ct rfl _ _ (w.heap.size + 1) 58 #[.int .i64 0, .slice none 0 0] (0, 0) _ rfl (setRow_heap _ (w.heap.size + 1) _ _ 58 (0, 0) hx4) Try.underlying58 rfl (by kernel_rfl)) rfl ?_
        exact ⟨_, rfl, Kd.R_nil _ _ _ _ _, setRow_below HB3.out (Nat.le_succ _) _⟩

end Go.Proofs.Ytkkfkdncddbaeaa.Fn
