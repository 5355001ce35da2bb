/- Part 6 of the walk: printed by programs of this session (by way of the kit's print) or told by hand. -/
import Derived.Test.YtjeeejoelmmfmaaGreatN5
import Derived.Laws.Tables
namespace Go.Proofs.YtjeeejoelmmfmaaGreat.Fn
open Go.RowKit Go.Proofs.YtjeeejoelmmfmaaGreatW.PrintWords Go.Proofs.YtjeeejoelmmfmaaGreatW.PrintLast Go.Proofs.YtjeeejoelmmfmaaGreatW.PrintMore
attribute [local go_sem] fw eu fU fZ dY dX fu fe
set_option linter.unusedVariables false
set_option linter.unusedSimpArgs false
def gD.f (a0 : Int) (l1 : List (S93)) : Option (Int × (List (S93)) × Int) := some (bN a0 l1)
set_option maxHeartbeats 1000000 in
set_option maxRecDepth 100000 in
theorem wo_in (x : S93) (b : Nat) (size : Int) (w : World) (h0 : 0 ≤ size) (h1 : size ≤ 65536) (hb : w.heap[b]? = some (.cells #[.int .i64 size] 3 (0, 0))) :
    Calls Tryz.prog 129 #[.agg #[.int .i64 x.f0, .int .i64 x.f1], .pointer (some ⟨b, 0, none⟩)] w fun e w' => e = .returned (.bool (!insG size x)) ∧ Below w.heap.size w w' := by
  have hu93 := Tryz.underlying93
  have h2 := aA hb
  have hbl := (Below.refl w.heap.size w).alloc (Nat.le_refl _) (.cells #[.int .i64 x.f0, .int .i64 x.f1] 93)
  have x0 : (w.alloc (.cells #[.int .i64 x.f0, .int .i64 x.f1] 93)).cell? ⟨b, 0, none⟩ = some (.int .i64 size) := (ae ((hbl.block b h2).trans hb) 0).trans rfl
  have hin : dB.f x.f0 x.f1 size = some (insG size x) := insB_f x.f0 x.f1 h0 h1
  have HB := aa.mk hbl
  have HIN := aa.mk hin
  clear hbl hb hin
  go_enter Tryz.func129, Tryz.ntmps129
  go_wp2_with fail
  refine (dB.calls x.f0 x.f1 size (insG size x) _ HIN.out).mono ?_
  rintro e w1 ⟨rfl, hd⟩
  have HB2 := aa.mk (az HB.out hd)
  clear hd
  go_wp2
  go_ret
  exact ⟨rfl, HB2.out⟩
open Go.Proofs Go.Sort in
theorem wo_cmp (x y : S93) (W : World) : Calls Tryz.prog 131 #[.agg #[.int .i64 x.f0, .int .i64 x.f1], .agg #[.int .i64 y.f0, .int .i64 y.f1]] W fun e w' => e = .returned (.int .i64 (nY x y)) ∧ ∃ q os', w' = grow (W.drewN q) os' := by
  have hu93 := Tryz.underlying93
  have hf : cmp_Compare_int.f x.f0 y.f0 = some (nY x y) := qC x.f0 y.f0
  go_enter Tryz.func131, Tryz.ntmps131
  go_wp2_with fail
  refine (cmp_Compare_int.calls x.f0 y.f0 _ _ hf).mono ?_
  rintro e w1 ⟨rfl, ⟨q, rfl⟩⟩
  clear hf
  go_wp2
  go_ret
  exact ⟨rfl, q, _, by rw [alloc_eq_grow, alloc_eq_grow, grow_grow]; rfl⟩
set_option maxHeartbeats 1000000 in
set_option maxRecDepth 100000 in
theorem yj (cl : Nat) (lb : Array Value) (p : S93 → Bool) (eg : ∀ args w, (callFunc cl args).run Tryz.prog w = .ok (.enter cl args) w)
    (A0 : Option Addr) (c0 : Nat) (l0 : List S93) (w : World) (hr0 : Kd.C k93 w A0 l0.length l0)
    (hp : ∀ (W : World) (x : S93), Below w.heap.size w W → Calls Tryz.prog cl (#[.agg #[.int .i64 x.f0, .int .i64 x.f1]] ++ lb) W fun e w' => e = .returned (.bool (p x)) ∧ Below w.heap.size w w') :
    Calls Tryz.prog 128 #[.slice A0 l0.length c0, .func (.func cl) #[] lb] w fun e w' => e = .returned (.bool (l0.any p)) ∧ Below w.heap.size w w' := by
  have hidx := qK cl lb p eg A0 c0 l0 w hr0 hp
  have hres : decide (0 ≤ idxF p l0) = l0.any p := by
    unfold idxF
    cases h : l0.findIdx? p with
    | some i =>
      have := List.findIdx?_eq_some_iff_getElem.1 h
      obtain ⟨h1, h2, _⟩ := this
      rw [List.any_eq_true.2 ⟨_, List.getElem_mem h1, h2⟩]
      exact decide_eq_true (by show (0 : Int) ≤ (i : Int); omega)
    | none =>
      have := List.findIdx?_eq_none_iff.1 h
      rw [List.any_eq_false.2 (fun x hx => by rw [this x hx]; decide)]
      rfl
  have HI := aa.mk hidx
  have HRES := aa.mk hres
  clear hidx hres hp hr0
  go_enter Tryz.func128, Tryz.ntmps128
  go_wp2_with fail
  refine HI.out.mono ?_
  rintro e w1 ⟨rfl, hb⟩
  have HB := aa.mk hb
  clear hb
  go_wp2
  go_ret
  exact ⟨by rw [← HRES.out]; rfl, HB.out⟩
theorem qd (ys : List S93) : ∀ s : List S93 × Int, (ys.foldl gapG s).1.length ≤ s.1.length + ys.length := by
  induction ys with
  | nil => intro s; exact Nat.le_refl _
  | cons x t ih =>
    intro s
    rw [List.foldl_cons]
    have h1 := ih (gapG s x)
    have h2 : (gapG s x).1.length ≤ s.1.length + 1 := by
      unfold gapG
      simp only []
      split
      · rw [List.length_append, List.length_singleton]; exact Nat.le_refl _
      · omega
    rw [List.length_cons]; omega
def newG (size : Int) : List S93 := if size > 0 then [⟨0, size⟩] else []
theorem new_f (size : Int) : dw.f 5 size = some (if size < 0 ∨ size > 65536 then (0, [], 4) else (size, newG size, 0)) := by
  unfold dw.f newG
  by_cases h0 : size < 0
  · rw [if_pos h0, if_pos (.inl h0)]; rfl
  · rw [if_neg h0]
    by_cases h1 : size > 65536
    · rw [decide_eq_true h1, if_pos (.inr h1)]; rfl
    · rw [decide_eq_false h1, if_neg (by omega), dw.j0, if_neg Bool.false_ne_true]
      split <;> rfl
set_option maxHeartbeats 8000000 in
set_option maxRecDepth 100000 in
theorem gD.calls (a0 : Int) (A1 : Option Addr) (c1 : Nat) (l1 : List (S93)) (r1 : Int) (r2 : List (S93)) (r3 : Int) (w : World) (hr1 : Kd.C k93 w A1 l1.length l1) (hc1 : l1.length ≤ c1) (h : gD.f a0 l1 = some (r1, r2, r3)) :
    Calls Tryz.prog 89 #[.int .i64 a0, .slice A1 l1.length c1] w fun e w' => ∃ v1_ : Value, e = .returned (.tuple #[.agg #[.int .i64 r1, v1_], .int .i64 r3]) ∧ Kd.R k93 93 w' w.heap.size (fun _ => True) v1_ r2 ∧ Below w.heap.size w w' := by
  have hu93 := Tryz.underlying93
  have hu28 := Tryz.underlying28
  have hW : bN a0 l1 = (r1, r2, r3) := Option.some.inj h
  obtain ⟨W0, hW0⟩ : ∃ W, W = (w.alloc (.cells #[.int .i64 a0] 3)).alloc (.cells #[.int .i64 0, .slice none 0 0] 28) := ⟨_, rfl⟩
  have hz1 : (w.alloc (.cells #[.int .i64 a0] 3)).heap.size = w.heap.size + 1 := by simp
  have hB0 : Below w.heap.size w W0 := by rw [hW0]; exact ((Below.refl w.heap.size w).alloc (Nat.le_refl _) _).alloc (by rw [hz1]; omega) _
  have hX2 : W0.heap[w.heap.size]? = some (.cells #[.int .i64 a0] 3 (0, 0)) := by rw [hW0]; exact aj (bg w _) _
  have hX4 : W0.heap[w.heap.size + 1]? = some (.cells #[.int .i64 0, .slice none 0 0] 28 (0, 0)) := by
    have h1 := bg (w.alloc (.cells #[.int .i64 a0] 3)) (.cells #[.int .i64 0, .slice none 0 0] 28)
    rw [hz1] at h1
    rw [hW0]; exact h1
  have x2 : ((w.alloc (.cells #[.int .i64 a0] 3)).alloc (.cells #[.int .i64 0, .slice none 0 0] 28)).cell? ⟨w.heap.size, 0, none⟩ = some (.int .i64 a0) := by rw [← hW0]; exact (ae hX2 0).trans rfl
  have HR1 := aa.mk hr1
  have HC1 := aa.mk hc1
  have HW := aa.mk hW
  have HB0 := aa.mk hB0
  have HX2 := aa.mk hX2
  have HX4 := aa.mk hX4
  have HW0 := aa.mk hW0
  clear hr1 hc1 h hW hB0 hX2 hX4 hW0 hz1
  go_enter Tryz.func89, Tryz.ntmps89
  go_wp2_with fail
  rw [← HW0.out]
  by_cases hrange : a0 < 0 ∨ a0 > 65536
  · have hn : dw.f 5 a0 = some (0, [], 4) := by rw [new_f, if_pos hrange]
    have hres : (r1, r2, r3) = (0, [], 4) := by rw [← HW.out]; unfold bN; rw [if_pos hrange]
    simp only [Prod.mk.injEq] at hres
    obtain ⟨rfl, rfl, rfl⟩ := hres
    refine (dw.calls 5 a0 0 [] 4 W0 hn).mono ?_
    rintro e w1 ⟨v1, rfl, hR1, hb1⟩
    obtain ⟨An, cn, rfl⟩ := Kd.aZ hR1
    have HX4' := aa.mk (show ((w1.alloc (.cells #[.int .i64 0, .slice none 0 0] 28)).setRow w1.heap.size #[.int .i64 0, .slice An 0 cn]).heap[w.heap.size + 1]? = some (.cells #[.int .i64 0, .slice none 0 0] 28 (0, 0)) by
      have h1 := aA HX4.out
      have h2 := hb1.size
      rw [setRow_other _ w1.heap.size _ _ (by omega), Below.heap_alloc w1 _ _ (by omega), hb1.block _ h1]
      exact HX4.out)
    have hB1 := az HB0.out hb1
    have HB1 := aa.mk (show Below w.heap.size w ((w1.alloc (.cells #[.int .i64 0, .slice none 0 0] 28)).setRow w1.heap.size #[.int .i64 0, .slice An 0 cn]) from aJ (hB1.alloc hB1.size _) hB1.size _)
    have hb6 := bg w1 (.cells #[.int .i64 0, .slice none 0 0] 28)
    have hx4 := HX4'.out
    clear hR1 hb1 hB1 x2 hn
    go_wp2_with (first
      | (refine wpList_store_row (P := Tryz.prog) rfl 28 (.tmp 6) (.tmp 14) rfl w1.heap.size #[.int .i64 0, .slice An 0 cn] rfl rfl 28 #[.int .i64 0, .slice none 0 0] hb6 (by kernel_rfl) rfl (by simp [Value.oneCell']) ?_)
      | (refine wpList_store_row (P := Tryz.prog) rfl 28 (.tmp 4) (.tmp 18) rfl (w.heap.size + 1) #[.int .i64 0, .slice none 0 0] rfl rfl 28 #[.int .i64 0, .slice none 0 0] hx4 (by kernel_rfl) rfl (by simp [Value.oneCell']) ?_))
    (try simp only [Exit.inBlock, Exit.then])
    refine bodyPost_ret (bJ rfl _ _ (w.heap.size + 1) 28 #[.int .i64 0, .slice none 0 0] (0, 0) _ rfl (setRow_heap _ (w.heap.size + 1) _ _ 28 (0, 0) hx4) Tryz.underlying28 rfl (by kernel_rfl)) rfl ?_
    exact ⟨_, rfl, Kd.bW _ _ _ _ _, aJ HB1.out (Nat.le_succ _) _⟩
  · have hn : dw.f 5 a0 = some (a0, newG a0, 0) := by rw [new_f, if_neg hrange]
    have h0 : 0 ≤ a0 := by omega
    have h1 : a0 ≤ 65536 := by omega
    refine (dw.calls 5 a0 a0 (newG a0) 0 W0 hn).mono ?_
    rintro e w1 ⟨v1, rfl, hR1, hb1⟩
    obtain ⟨An, cn, rfl⟩ := Kd.aZ hR1
    obtain ⟨nn, hnn⟩ : ∃ n, n = (newG a0).length := ⟨_, rfl⟩
    rw [← hnn]
    obtain ⟨b6, hb6e⟩ : ∃ b, b = w1.heap.size := ⟨_, rfl⟩
    obtain ⟨W2, hW2⟩ : ∃ W, W = (w1.alloc (.cells #[.int .i64 0, .slice none 0 0] 28)).setRow b6 #[.int .i64 a0, .slice An nn cn] := ⟨_, rfl⟩
    have hb6 := bg w1 (.cells #[.int .i64 0, .slice none 0 0] 28)
    have hB1 := az HB0.out hb1
    have l2 := aA HX2.out
    have l4 := aA HX4.out
    have hs1 := hb1.size
    have HX2' := aa.mk (show W2.heap[w.heap.size]? = some (.cells #[.int .i64 a0] 3 (0, 0)) by
      rw [hW2, hb6e, setRow_other _ w1.heap.size _ _ (by omega), Below.heap_alloc w1 _ _ (by omega), hb1.block _ l2]
      exact HX2.out)
    have HX4' := aa.mk (show W2.heap[w.heap.size + 1]? = some (.cells #[.int .i64 0, .slice none 0 0] 28 (0, 0)) by
      rw [hW2, hb6e, setRow_other _ w1.heap.size _ _ (by omega), Below.heap_alloc w1 _ _ (by omega), hb1.block _ l4]
      exact HX4.out)
    have HX6 := aa.mk (show W2.heap[b6]? = some (.cells #[.int .i64 a0, .slice An nn cn] 28 (0, 0)) by
      rw [hW2]; rw [← hb6e] at hb6; exact setRow_heap _ b6 _ _ 28 (0, 0) hb6)
    have HB2 := aa.mk (show Below w.heap.size w W2 by rw [hW2, hb6e]; exact aJ (hB1.alloc hB1.size _) hB1.size _)
    have HN6 := aa.mk (show w.heap.size + 1 < b6 by omega)
    rw [← hb6e] at hb6
    have HW2 := aa.mk hW2
    have HB6E := aa.mk hb6e
    have hb6e' : w1.heap.size = b6 := hb6e.symm
    clear hR1 hb1 hB1 hn hnn hW2 l2 l4 hs1 hb6e x2
    have hmf : ∀ (fn : Fn) (first cap : Array Value) (w : World), (Instr.makeFunc fn first cap).run Tryz.prog w = .ok (.func fn first cap) w := fun _ _ _ _ => rfl
    by_cases hlen : (l1.length : Int) > 1024
    · have hres : (r1, r2, r3) = (0, [], 3) := by rw [← HW.out]; unfold bN; rw [if_neg hrange, if_pos hlen]
      simp only [Prod.mk.injEq] at hres
      obtain ⟨rfl, rfl, rfl⟩ := hres
      have hdl : decide ((1024 : Int) < (l1.length : Int)) = true := decide_eq_true (by omega)
      have hx4 : ((w1.alloc (.cells #[.int .i64 0, .slice none 0 0] 28)).setRow b6 #[.int .i64 a0, .slice An nn cn]).heap[w.heap.size + 1]? = some (.cells #[.int .i64 0, .slice none 0 0] 28 (0, 0)) := by rw [← HW2.out]; exact HX4'.out
      have HBB := aa.mk (show Below w.heap.size w ((w1.alloc (.cells #[.int .i64 0, .slice none 0 0] 28)).setRow b6 #[.int .i64 a0, .slice An nn cn]) by rw [← HW2.out]; exact HB2.out)
      go_wp2_with (first
        | (refine wpList_store_row (P := Tryz.prog) rfl 28 (.tmp 6) (.tmp 14) rfl b6 #[.int .i64 a0, .slice An nn cn] (by first | rfl | (simp only [hb6e']; done) | (simp [hb6e'])) rfl 28 #[.int .i64 0, .slice none 0 0] hb6 (by kernel_rfl) rfl (by simp [Value.oneCell']) ?_)
        | (refine wpList_store_row (P := Tryz.prog) rfl 28 (.tmp 4) (.tmp 23) rfl (w.heap.size + 1) #[.int .i64 0, .slice none 0 0] rfl rfl 28 #[.int .i64 0, .slice none 0 0] hx4 (by kernel_rfl) rfl (by simp [Value.oneCell']) ?_))
      (try simp only [Exit.inBlock, Exit.then])
      refine bodyPost_ret (bJ rfl _ _ (w.heap.size + 1) 28 #[.int .i64 0, .slice none 0 0] (0, 0) _ rfl (setRow_heap _ (w.heap.size + 1) _ _ 28 (0, 0) hx4) Tryz.underlying28 rfl (by kernel_rfl)) rfl ?_
      exact ⟨_, rfl, Kd.bW _ _ _ _ _, aJ HBB.out (Nat.le_succ _) _⟩
    · have hdl : decide ((1024 : Int) < (l1.length : Int)) = false := decide_eq_false (by omega)
      have HLEN := aa.mk hlen
      go_wp2_with (first
        | (refine wpList_store_row (P := Tryz.prog) rfl 28 (.tmp 6) (.tmp 14) rfl b6 #[.int .i64 a0, .slice An nn cn] (by first | rfl | (simp only [hb6e']; done) | (simp [hb6e'])) rfl 28 #[.int .i64 0, .slice none 0 0] hb6 (by kernel_rfl) rfl (by simp [Value.oneCell']) ?_))
      rw [← HW2.out]
      have hhas := yj 129 #[.pointer (some ⟨w.heap.size, 0, none⟩)] (fun x => !insG a0 x) (enters_of Tryz.func129 (by kernel_rfl) rfl) A1 c1 l1 W2 (Kd.aN HR1.out HB2.out) (fun W x hW => (wo_in x w.heap.size a0 W h0 h1 ((hW.block _ (aA HX2'.out)).trans HX2'.out)).mono fun e w' h => ⟨h.1, az hW h.2⟩)
      refine hhas.mono ?_
      rintro e w3 ⟨rfl, hb3⟩
      have hany : l1.any (fun x => !insG a0 x) = !(l1.all (insG a0)) := by rw [List.not_all_eq_any_not]
      rw [hany]
      have HX2'' := aa.mk ((hb3.block _ (aA HX2'.out)).trans HX2'.out)
      have HX4'' := aa.mk ((hb3.block _ (aA HX4'.out)).trans HX4'.out)
      have HX6' := aa.mk ((hb3.block _ (aA HX6.out)).trans HX6.out)
      have HB3 := aa.mk (az HB2.out hb3)
      clear hb3 hhas hany hb6 hb6e' hdl hlen
      by_cases hall : l1.all (insG a0) = true
      · rw [hall]
        have hcl := bZ.calls A1 c1 l1 l1 w3 (Kd.aN HR1.out HB3.out) HC1.out (by unfold bZ.f; rw [if_pos (by have := HLEN.out; omega)])
        go_wp2_with fail
        refine hcl.mono ?_
        rintro e w4 ⟨v4, rfl, hR4, hb4⟩
        obtain ⟨A4, c4, rfl⟩ := Kd.aZ hR4
        have HR4 := aa.mk hR4
        have HB4 := aa.mk hb4
        clear hR4 hb4 hcl
        go_wp2_with fail
        refine (oM 131 (enters_of Tryz.func131 (by kernel_rfl) rfl) wo_cmp HR4.out HB4.out HB4.out.size (by have := HLEN.out; omega)).mono ?_
        rintro e w5 ⟨rfl, ys, hperm, hsort, hR5, hb5, hs5, hk5⟩
        have hins : ∀ x ∈ l1, Flag.Ins a0 (toP x) := fun x hx => Flag.kY.1 (List.all_eq_true.1 hall x hx)
        have HRES := aa.mk (zC h0 h1 hins hperm hsort)
        have hyl : ys.length = l1.length := hperm.length_eq
        have HYL := aa.mk (show (ys.length : Int) ≤ 1024 by rw [hyl]; have := HLEN.out; omega)
        have hX2 := (hb5.block _ (aA HX2''.out)).trans HX2''.out
        have hX4 := (hb5.block _ (aA HX4''.out)).trans HX4''.out
        have hX6 := (hb5.block _ (aA HX6'.out)).trans HX6'.out
        have hlt6 := aA HX6'.out
        have hlt6' := aA HX6.out
        have hn6 := HN6.out
        have hs35 := hb5.size
        have hfz : w5.frozen? ⟨b6, 1, none⟩ = false := ai hX6 1
        obtain ⟨W6, hW6⟩ : ∃ W, W = w5.setCell ⟨b6, 1, none⟩ (.slice none 0 0) := ⟨_, rfl⟩
        have hz6 : W6.heap.size = w5.heap.size := by rw [hW6]; simp [World.setCell]
        have hY2 : W6.heap[w.heap.size]? = some (.cells #[.int .i64 a0] 3 (0, 0)) := by rw [hW6]; exact (Below.heap_setCell w5 ⟨b6, 1, none⟩ _ _ (by show w.heap.size ≠ b6; omega)).trans hX2
        have hY4 : W6.heap[w.heap.size + 1]? = some (.cells #[.int .i64 0, .slice none 0 0] 28 (0, 0)) := by rw [hW6]; exact (Below.heap_setCell w5 ⟨b6, 1, none⟩ _ _ (by show w.heap.size + 1 ≠ b6; omega)).trans hX4
        have hY6 : W6.heap[b6]? = some (.cells #[.int .i64 a0, .slice none 0 0] 28 (0, 0)) := by rw [hW6]; exact aW (cs := #[.int .i64 a0, .slice An nn cn]) hX6 1 _ rfl
        have hx2 : (w5.setCell ⟨b6, 1, none⟩ (.slice none 0 0)).cell? ⟨w.heap.size, 0, none⟩ = some (.int .i64 a0) := by rw [← hW6]; exact (ae hY2 0).trans rfl
        have hy2 : w5.cell? ⟨w.heap.size, 0, none⟩ = some (.int .i64 a0) := (ae hX2 0).trans rfl
        have hy6 : w5.cell? ⟨b6, 1, none⟩ = some (.slice An nn cn) := (ae hX6 1).trans rfl
        have hne1 : w.heap.size ≠ b6 := by omega
        have hne2 : b6 ≠ w.heap.size := by omega
        have hR6 : Kd.R k93 93 W6 w.heap.size (fun k => w3.heap.size ≤ k) (.slice A4 l1.length c4) ys := by
          rw [hW6]
          refine Kd.dE (p := ⟨b6, 1, none⟩) ?_ (fun k hk => by show k ≠ b6; omega) _
          refine Kd.aX (Kd.bH (Kd.bO hR5) HB3.out.size) (fun k hk => hk.2.1)
        have hB6 : Below w.heap.size w W6 := by rw [hW6]; exact (az HB3.out hb5).setCell (p := ⟨b6, 1, none⟩) (by show w.heap.size ≤ b6; omega) _
        have HR6 := aa.mk hR6
        have HB6 := aa.mk hB6
        have HY := aa.mk (And.intro hY2 (And.intro hY4 hY6))
        have HW6 := aa.mk hW6
        have HZ6 := aa.mk (show w3.heap.size ≤ W6.heap.size by omega)
        have HL6 := aa.mk hlt6
        clear hperm hsort hR5 hb5 hs5 hk5 hyl hX2 hX4 hX6 hlt6 hlt6' hn6 hs35 hz6 hY2 hY4 hY6 hR6 hB6 hW6
        obtain ⟨zs, hzs⟩ : ∃ zs, zs = ys ++ [(⟨a0, 0⟩ : S93)] := ⟨_, rfl⟩
        have hzl : (zs.length : Int) ≤ 1025 := by rw [hzs, List.length_append, List.length_singleton]; have := HYL.out; omega
        have HZS := aa.mk hzs
        have HZL := aa.mk hzl
        clear hzs hzl
        go_wp2_with (first | ((with_reducible refine bK (b := .append) (xs := #[.tmp 33, .tmp 36]) rfl ?_); at_builtin; refine Kd.fJ k93 (w0 := w) w.heap.size rfl (.tmp 33) (.tmp 36) 26 93 (.agg #[(.int .i64 0), (.int .i64 0)]) 16 rfl Tryz.underlying26 jh rfl (by decide) (by omega) (.slice A4 l1.length c4) ys (⟨a0, 0⟩ : S93) [.int .i64 ((⟨a0, 0⟩ : S93) : S93).f0, .int .i64 ((⟨a0, 0⟩ : S93) : S93).f1] (fun k => w3.heap.size ≤ k) (fun _ => False) rfl (by first | (go_simp; done) | (go_simp; rfl)) ?aP (fun _ hk => hk.elim) ?aF ?aO ?aB ?aS ?aL ?_; (case aP => exact ik _ _ _ ((⟨a0, 0⟩ : S93) : S93)); (case aF => intro k hk; rw [← HW6.out] at hk; have := HZ6.out; omega); (case aO => rw [← HW6.out]; exact HR6.out); (case aB => rw [← HW6.out]; exact HB6.out); (case aS => rw [← HW6.out]; exact HB6.out.size); (case aL => have := HYL.out; omega); intro v1 w7 ho hb hg hat; rw [← HW6.out] at hg; rw [← HZS.out] at ho; obtain ⟨Az, cz, rfl⟩ := Kd.aZ ho; have HO7 := aa.mk ho; have HB7 := aa.mk hb; have HG7 := aa.mk hg; clear ho hb hg hat))
        have hbk : ∀ k, k < w3.heap.size → w7.heap[k]? = W6.heap[k]? := fun k hk => HG7.out.block k (Nat.lt_of_lt_of_le hk HZ6.out) (fun e => by
          have h5 := HR6.out.1 k (by rw [← e])
          omega)
        have HX2_7 := aa.mk ((hbk _ (Nat.lt_of_le_of_lt (by have := HN6.out; omega) HL6.out)).trans HY.out.1)
        have HX4_7 := aa.mk ((hbk _ (Nat.lt_trans HN6.out HL6.out)).trans HY.out.2.1)
        have HX6_7 := aa.mk ((hbk _ HL6.out).trans HY.out.2.2)
        have H37 := aa.mk (show w3.heap.size ≤ w7.heap.size from Nat.le_trans HZ6.out HG7.out.size)
        clear hbk hx2 hy2 hy6 hfz
        go_loopg [8, 39] zs.length (fun gk v8 v39 W => ∃ (i nx : Int) (vo : Value) (o : List S93), v8 = .int .i64 nx ∧ v39 = .int .i64 i ∧ aa (0 ≤ i ∧ i + gk = zs.length) ∧ aa ((zs.take i.toNat).foldl gapG ([], 0) = (o, nx)) ∧ aa (Kd.R k93 93 W w.heap.size (fun k => w3.heap.size ≤ k ∧ some k ≠ (Value.slice Az zs.length cz).ownBlock) vo o) ∧ aa (W.heap[w.heap.size]? = some (.cells #[.int .i64 a0] 3 (0, 0)) ∧ W.heap[w.heap.size + 1]? = some (.cells #[.int .i64 0, .slice none 0 0] 28 (0, 0)) ∧ W.heap[b6]? = some (.cells #[.int .i64 a0, vo] 28 (0, 0))) ∧ aa (Below w.heap.size w W ∧ w7.heap.size ≤ W.heap.size ∧ ∀ k, (Value.slice Az zs.length cz).ownBlock = some k → W.heap[k]? = w7.heap[k]?))
        case atStart => exact ⟨0, 0, _, [], rfl, rfl, ⟨Int.le_refl _, by simp⟩, ⟨rfl⟩, ⟨Kd.bW _ _ _ _ _⟩, ⟨⟨HX2_7.out, HX4_7.out, HX6_7.out⟩⟩, ⟨⟨HB7.out, Nat.le_refl _, fun _ _ => rfl⟩⟩⟩
        case round =>
          obtain ⟨i, nx, vo, o, rfl, rfl, HI, HF, HO, HX, HS⟩ := hrel
          obtain ⟨Ao, co, rfl⟩ := Kd.aZ HO.out
          obtain ⟨no, hno⟩ : ∃ n, n = o.length := ⟨_, rfl⟩
          rw [← hno] at HO HX
          have hol : (no : Int) ≤ i := by
            rw [hno]
            have := qd (zs.take i.toNat) ([], 0)
            rw [HF.out] at this
            simp only [List.length_nil, List.length_take] at this
            have := HI.out.1
            omega
          have HNO := aa.mk hno
          have HOL := aa.mk hol
          clear hno hol
          cases gk with
          | zero =>
            have hi : i = zs.length := by have := HI.out.2; omega
            have hd : decide (i < (zs.length : Int)) = false := decide_eq_false (by omega)
            have hoe : o = gapL (jy l1) a0 := by
              rw [← HRES.out]
              unfold gapL
              rw [← HZS.out]
              have h := HF.out
              rw [hi, Int.toNat_natCast, List.take_length] at h
              rw [h]
            have hfull : ic.f a0 o = some (r1, r2, r3) := by
              have e1 : bN a0 l1 = (if ((gapL (jy l1) a0).length : Int) > 1024 then (0, [], 51) else (a0, gapL (jy l1) a0, 0)) := by
                unfold bN
                rw [if_neg hrange, if_neg (show ¬ (l1.length : Int) > 1024 by have := HLEN.out; omega), if_pos hall]
              rw [← HW.out, e1, hoe]
              unfold ic.f
              split <;> rfl
            have HFU := aa.mk hfull
            have z2 : wr.cell? ⟨w.heap.size, 0, none⟩ = some (.int .i64 a0) := (ae HX.out.1 0).trans rfl
            have z6 : wr.cell? ⟨b6, 1, none⟩ = some (.slice Ao no co) := (ae HX.out.2.2 1).trans rfl
            clear hi hoe hfull
            go_wp2_with fail
            refine (ic.calls a0 (fun k => w3.heap.size ≤ k ∧ some k ≠ (Value.slice Az zs.length cz).ownBlock) (.slice Ao no co) o r1 r2 r3 w wr HS.out.1 HO.out HFU.out).mono ?_
            rintro e w9 ⟨v9, rfl, hR9, hb9, hk9⟩
            obtain ⟨A9, c9, rfl⟩ := Kd.aZ hR9
            obtain ⟨n9, hn9⟩ : ∃ n, n = r2.length := ⟨_, rfl⟩
            rw [← hn9] at hR9 ⊢
            have hx4 := rR HX.out.2.1 hk9 (fun h => by have := h.1; have := HL6.out; have := HN6.out; omega)
            have HR9 := aa.mk (show Kd.R k93 93 (w9.setRow (w.heap.size + 1) #[.int .i64 r1, .slice A9 n9 c9]) w.heap.size (fun _ => True) (.slice A9 n9 c9) r2 from Kd.aX (Kd.bR hR9 (fun k hk _ => setRow_other _ (w.heap.size + 1) k _ (by
              have h1 := HL6.out
              have h2 := HN6.out
              have h3 := H37.out
              have h4 := HS.out.2.1
              rcases hk with hk | hk
              · have := hk.1; omega
              · omega))) (fun _ _ => trivial))
            have HB9 := aa.mk hb9
            clear hR9 hb9 hk9 hn9
            go_wp2_with (refine wpList_store_row (P := Tryz.prog) rfl 28 (.tmp 4) (.tmp 70) rfl (w.heap.size + 1) #[.int .i64 r1, .slice A9 n9 c9] rfl rfl 28 #[.int .i64 0, .slice none 0 0] hx4 (by kernel_rfl) rfl (by simp [Value.oneCell']) ?_)
            (try simp only [Exit.inBlock, Exit.then])
            refine bodyPost_ret (bJ rfl _ _ (w.heap.size + 1) 28 #[.int .i64 r1, .slice A9 n9 c9] (0, 0) _ rfl (setRow_heap _ (w.heap.size + 1) _ _ 28 (0, 0) hx4) Tryz.underlying28 rfl (by kernel_rfl)) rfl ?_
            exact ⟨_, rfl, HR9.out, aJ HB9.out (Nat.le_succ _) _⟩
          | succ k1 =>
            have hp0 : 0 ≤ i := HI.out.1
            have hp1 : i < (zs.length : Int) := by have := HI.out.2; omega
            have hd : decide (i < (zs.length : Int)) = true := decide_eq_true hp1
            have hC : Kd.C k93 wr Az zs.length zs := by
              rcases iZ fO HO7.out with ⟨h1, h2⟩ | ⟨g, cap, h1, h2, h3, h4⟩
              · rw [h2] at hp1; simp at hp1; omega
              · injection h1 with h5 _ h6
                subst h5 h6
                have h7 := gF (base := w.heap.size) (ok := fun _ => True) fO h2 trivial (h4.far (HS.out.2.2 g rfl))
                exact (Kd.bu h7).2.2
            obtain ⟨ad, e3, g0, g1⟩ := fQ hC i hp0 hp1
            cases e3
            obtain ⟨x, hx⟩ : ∃ x, x = aU zs i := ⟨_, rfl⟩
            rw [← hx] at g0 g1
            have hst : (zs.take (i + 1).toNat).foldl gapG ([], 0) = gapG (o, nx) x := by
              have h3 : (i + 1).toNat = i.toNat + 1 := by omega
              have h4 : i.toNat < zs.length := by omega
              have h5 : x = zs[i.toNat] := by rw [hx]; unfold aU; rw [List.getD_eq_getElem?_getD, List.getElem?_eq_getElem h4]; rfl
              rw [h3, List.take_succ_eq_append_getElem h4, List.foldl_append, ← h5, HF.out]
              rfl
            have HST := aa.mk hst
            have HP := aa.mk (And.intro hp0 hp1)
            clear hx hC hst
            obtain ⟨s1, hs1⟩ : ∃ s : Int, s = wrap64 (x.f0 + x.f1) := ⟨_, rfl⟩
            have hs1w : IntKind.i64.wrap (x.f0 + x.f1) = s1 := by rw [hs1]; exact IntWalk.i64_left _
            have hs1w2 : wrap64 (x.f0 + x.f1) = s1 := hs1.symm
            obtain ⟨m, hm⟩ : ∃ m : Int, m = mx nx s1 := ⟨_, rfl⟩
            have hm' : (if nx < s1 then s1 else nx) = m := hm.symm
            have HM := aa.mk (show mx nx (wrap64 (x.f0 + x.f1)) = m by rw [hs1w2, hm])
            clear hs1 hm
            have hX2 := HX.out.1
            have hX4 := HX.out.2.1
            have hX6 := HX.out.2.2
            have hlt3 : w3.heap.size ≤ wr.heap.size := Nat.le_trans H37.out HS.out.2.1
            have hlt6 : b6 < wr.heap.size := aA hX6
            have hl6 := HL6.out
            have hn6 := HN6.out
            obtain ⟨W1, hW1⟩ : ∃ W, W = wr.alloc (.cells #[.int .i64 x.f0, .int .i64 x.f1] 93) := ⟨_, rfl⟩
            have hb1 : Below w.heap.size w W1 := by rw [hW1]; exact HS.out.1.alloc HS.out.1.size _
            have hx1 : W1.heap[wr.heap.size]? = some (.cells #[.int .i64 x.f0, .int .i64 x.f1] 93 (0, 0)) := by rw [hW1]; exact bg wr _
            have hz1 : W1.heap.size = wr.heap.size + 1 := by rw [hW1]; simp
            have hk1 : ∀ k, k < wr.heap.size → W1.heap[k]? = wr.heap[k]? := fun k hk => by rw [hW1]; exact Below.heap_alloc wr _ _ hk
            have hY2 := (hk1 w.heap.size (by omega)).trans hX2
            have hY4 := (hk1 (w.heap.size + 1) (by omega)).trans hX4
            have hY6 := (hk1 b6 hlt6).trans hX6
            have hbx : wr.heap.size ≠ b6 := by omega
            have hO1 : Kd.R k93 93 W1 w.heap.size (fun k => w3.heap.size ≤ k ∧ some k ≠ (Value.slice (some ad) zs.length cz).ownBlock) (.slice Ao no co) o := by rw [hW1]; exact Kd.bQ HO.out _
            have hz2 : ∀ k, (Value.slice (some ad) zs.length cz).ownBlock = some k → k < wr.heap.size ∧ W1.heap[k]? = w7.heap[k]? := by
              intro k hk
              have h2 : k < w7.heap.size := Kd.R_lt HO7.out k hk
              have h3 : k < wr.heap.size := Nat.lt_of_lt_of_le h2 HS.out.2.1
              exact ⟨h3, (hk1 k h3).trans (HS.out.2.2 k hk)⟩
            have q0 : (wr.alloc (.cells #[.int .i64 x.f0, .int .i64 x.f1] 93)).cell? ⟨wr.heap.size, 0, none⟩ = some (.int .i64 x.f0) := by rw [← hW1]; exact (ae hx1 0).trans rfl
            have q1 : (wr.alloc (.cells #[.int .i64 x.f0, .int .i64 x.f1] 93)).cell? ⟨wr.heap.size, 1, none⟩ = some (.int .i64 x.f1) := by rw [← hW1]; exact (ae hx1 1).trans rfl
            have q6 : (wr.alloc (.cells #[.int .i64 x.f0, .int .i64 x.f1] 93)).cell? ⟨b6, 1, none⟩ = some (.slice Ao no co) := by rw [← hW1]; exact (ae hY6 1).trans rfl
            have HW1 := aa.mk hW1
            have HB1' := aa.mk hb1
            have HX1' := aa.mk (And.intro hx1 hz1)
            have HY' := aa.mk (And.intro hY2 (And.intro hY4 hY6))
            have HO1 := aa.mk hO1
            have HZ2 := aa.mk hz2
            have HBX := aa.mk (And.intro hbx (And.intro hlt3 hlt6))
            clear hW1 hb1 hx1 hz1 hk1 hY2 hY4 hY6 hO1 hz2 hX2 hX4 hX6 hlt3 hlt6 hl6 hn6
            have hwi : IntKind.i64.wrap (i + 1) = i + 1 := IntWalk.i64_in _ (by have := HP.out; have := HZL.out; omega)
            have hwi2 : wrap64 (i + 1) = i + 1 := w64 (by have := HP.out; have := HZL.out; omega)
            have hbx1 := HBX.out.1
            have hbx2 := HBX.out.1.symm
            by_cases hc : nx < x.f0
            · have hdc : decide (nx < x.f0) = true := decide_eq_true hc
              obtain ⟨s2, hs2⟩ : ∃ s : Int, s = wrap64 (x.f0 - nx) := ⟨_, rfl⟩
              have hs2w : IntKind.i64.wrap (x.f0 - nx) = s2 := by rw [hs2]; exact IntWalk.i64_left _
              have hs2w2 : wrap64 (x.f0 - nx) = s2 := hs2.symm
              have HS2 := aa.mk hs2
              have HC := aa.mk hc
              clear hs2
              obtain ⟨os, hos⟩ : ∃ os, os = o ++ [(⟨nx, s2⟩ : S93)] := ⟨_, rfl⟩
              have HOS := aa.mk hos
              clear hos
              go_wp2_with (first | ((with_reducible refine bK (b := .append) (xs := #[.tmp 48, .tmp 55]) rfl ?_); at_builtin; refine Kd.fJ k93 (w0 := w) w.heap.size rfl (.tmp 48) (.tmp 55) 26 93 (.agg #[(.int .i64 0), (.int .i64 0)]) 16 rfl Tryz.underlying26 jh rfl (by decide) (by omega) (.slice Ao no co) o (⟨nx, s2⟩ : S93) [.int .i64 ((⟨nx, s2⟩ : S93) : S93).f0, .int .i64 ((⟨nx, s2⟩ : S93) : S93).f1] (fun k => w3.heap.size ≤ k ∧ some k ≠ (Value.slice (some ad) zs.length cz).ownBlock) (fun _ => False) rfl (by first | (go_simp; done) | (go_simp; rfl)) ?aP (fun _ hk => hk.elim) ?aF ?aO ?aB ?aS ?aL ?_; (case aP => exact ik _ _ _ ((⟨nx, s2⟩ : S93) : S93)); (case aF => intro k hk; rw [← HW1.out] at hk; exact ⟨by have := HX1'.out.2; have := HBX.out.2.1; omega, fun e => by have h1 := (HZ2.out k e.symm).1; have := HX1'.out.2; omega⟩); (case aO => rw [← HW1.out]; exact HO1.out); (case aB => rw [← HW1.out]; exact HB1'.out); (case aS => rw [← HW1.out]; exact HB1'.out.size); (case aL => rw [← HNO.out]; have := HOL.out; have := HP.out.2; have := HZL.out; omega); intro v1 w8 ho hb hg hat; rw [← HW1.out] at hg; rw [← HOS.out] at ho; obtain ⟨A8, c8, rfl⟩ := Kd.aZ ho; have HO8 := aa.mk ho; have HB8 := aa.mk hb; have HG8 := aa.mk hg; have hX1_8 := (hg.block wr.heap.size (by have := HX1'.out.2; omega) (fun e => by have h1 := Kd.R_lt HO.out wr.heap.size e.symm; omega)).trans HX1'.out.1; have hX6_8 := (hg.block b6 (by have := HX1'.out.2; have := HBX.out.2.2; omega) (fun e => by have h1 := (HO1.out.1 b6 (by rw [← e])).1; have := HL6.out; omega)).trans HY'.out.2.2; have z0 : w8.cell? ⟨wr.heap.size, 0, none⟩ = some (.int .i64 x.f0) := (ae hX1_8 0).trans rfl; have z1 : w8.cell? ⟨wr.heap.size, 1, none⟩ = some (.int .i64 x.f1) := (ae hX1_8 1).trans rfl; have z6 : w8.cell? ⟨b6, 1, none⟩ = some (.slice Ao no co) := (ae hX6_8 1).trans rfl; have hfz8 : w8.frozen? ⟨b6, 1, none⟩ = false := ai hX6_8 1; have HX6_8 := aa.mk hX6_8; clear ho hb hg hat hX1_8 hX6_8))
              go_roundg k1
              case measure => omega
              case rel =>
                refine ⟨i + 1, m, .slice A8 os.length c8, os, by first | rfl | (simp; done) | go_num, by first | rfl | (simp; done) | go_num, ⟨by have := HP.out.1; omega, by have := HI.out.2; omega⟩, ⟨?_⟩, ⟨?_⟩, ⟨?_, ?_, ?_⟩, ⟨?_, ?_, ?_⟩⟩
                · rw [HST.out]
                  unfold gapG
                  simp only []
                  rw [if_pos HC.out, HM.out, ← HS2.out, ← HOS.out]
                · exact Kd.dE (p := ⟨b6, 1, none⟩) HO8.out (fun k hk => by show k ≠ b6; have := hk.1; have := HL6.out; omega) _
                · have h1 := (HG8.out.block w.heap.size (by have := HX1'.out.2; have := HBX.out.2.2; have := HN6.out; omega) (fun e => by have h1 := (HO1.out.1 w.heap.size (by rw [← e])).1; have := HL6.out; have := HN6.out; omega)).trans HY'.out.1
                  exact (Below.heap_setCell w8 ⟨b6, 1, none⟩ _ _ (by show w.heap.size ≠ b6; have := HN6.out; omega)).trans h1
                · have h1 := (HG8.out.block (w.heap.size + 1) (by have := HX1'.out.2; have := HBX.out.2.2; have := HN6.out; omega) (fun e => by have h1 := (HO1.out.1 (w.heap.size + 1) (by rw [← e])).1; have := HL6.out; have := HN6.out; omega)).trans HY'.out.2.1
                  exact (Below.heap_setCell w8 ⟨b6, 1, none⟩ _ _ (by show w.heap.size + 1 ≠ b6; have := HN6.out; omega)).trans h1
                · exact aW (cs := #[.int .i64 a0, .slice Ao no co]) HX6_8.out 1 _ rfl
                · exact HB8.out.setCell (p := ⟨b6, 1, none⟩) (by show w.heap.size ≤ b6; have := HN6.out; omega) _
                · have h1 : (w8.setCell ⟨b6, 1, none⟩ (.slice A8 os.length c8)).heap.size = w8.heap.size := by simp [World.setCell]
                  have h2 := HG8.out.size
                  have h3 := HX1'.out.2
                  have h4 := HS.out.2.1
                  rw [h1]; omega
                · intro k hk
                  obtain ⟨h1, h2⟩ := HZ2.out k hk
                  have h3 := HX1'.out.2
                  have hk3 := HO7.out.1 k hk
                  rw [Below.heap_setCell w8 ⟨b6, 1, none⟩ _ _ (by show k ≠ b6; have := HL6.out; omega), HG8.out.block k (by omega) (fun e => (HO1.out.1 k (by rw [← e])).2 hk.symm)]
                  exact h2
            · have hdc : decide (nx < x.f0) = false := decide_eq_false hc
              have HC := aa.mk hc
              go_wp2_with fail
              go_roundg k1
              case measure => omega
              case rel =>
                refine ⟨i + 1, m, .slice Ao no co, o, by first | rfl | (simp; done) | go_num, by first | rfl | (simp; done) | go_num, ⟨by have := HP.out.1; omega, by have := HI.out.2; omega⟩, ⟨?_⟩, ⟨?_⟩, ⟨?_, ?_, ?_⟩, ⟨?_, ?_, ?_⟩⟩
                · rw [HST.out]
                  unfold gapG
                  simp only []
                  rw [if_neg (show ¬ nx < x.f0 by have := HC.out; omega), HM.out]
                · rw [← HW1.out]; exact HO1.out
                · rw [← HW1.out]; exact HY'.out.1
                · rw [← HW1.out]; exact HY'.out.2.1
                · rw [← HW1.out]; exact HY'.out.2.2
                · rw [← HW1.out]; exact HB1'.out
                · rw [← HW1.out]; have := HX1'.out.2; have := HS.out.2.1; omega
                · intro k hk
                  rw [← HW1.out]; exact (HZ2.out k hk).2
      · have hall' : l1.all (insG a0) = false := Bool.eq_false_iff.mpr hall
        rw [hall']
        have hres : (r1, r2, r3) = (0, [], 4) := by rw [← HW.out]; unfold bN; rw [if_neg hrange, if_neg (by have := HLEN.out; omega), if_neg hall]
        simp only [Prod.mk.injEq] at hres
        obtain ⟨rfl, rfl, rfl⟩ := hres
        have hx4 := HX4''.out
        go_wp2_with (first
          | (refine wpList_store_row (P := Tryz.prog) rfl 28 (.tmp 4) (.tmp 27) rfl (w.heap.size + 1) #[.int .i64 0, .slice none 0 0] rfl rfl 28 #[.int .i64 0, .slice none 0 0] hx4 (by kernel_rfl) rfl (by simp [Value.oneCell']) ?_))
        (try simp only [Exit.inBlock, Exit.then])
        refine bodyPost_ret (bJ rfl _ _ (w.heap.size + 1) 28 #[.int .i64 0, .slice none 0 0] (0, 0) _ rfl (setRow_heap _ (w.heap.size + 1) _ _ 28 (0, 0) hx4) Tryz.underlying28 rfl (by kernel_rfl)) rfl ?_
        exact ⟨_, rfl, Kd.bW _ _ _ _ _, aJ HB3.out (Nat.le_succ _) _⟩
def eqS : List S93 → List S93 → Bool
  | [], [] => true
  | x :: s, y :: t => x.f0 == y.f0 && x.f1 == y.f1 && eqS s t
  | _, _ => false
def iK (s : St) : List S93 := joinL ((eO (gZ (gP s))).map spR)
def nmB (s : St) : Bool := if 8 < (fF s).length ∨ s.next < 1 ∨ 255 < s.next then false else lX s.next (fF s) 0 []
def sQ (s : St) : Bool := decide ((bN s.fsize (iK s)).2.2 = 0) && eqS (bN s.fsize (iK s)).2.1 s.sp
def nH (s : St) : Bool := decide (Flag.iD s.fsize (s.sp.map toP) = 0) && (nmB s && (decide (Flag.fT ((gP s).map toM) = 0) && ib s.now s.size))
def mP (s : St) : Bool := !s.snaps.any fun x => !ib x.f3 x.f2
def qb (s : St) : Bool := decide ((s.data.length : Int) = s.fsize) && !s.data.any fun b => (b.length : Int) != 64
def dH (s : St) : Int := if (nH s && (mP s && (qb s && sQ s))) = true then 0 else 9
def dD.f (s : St) : Option Int := if s.snaps.length < 4398046511103 then some (dH s) else none
theorem y9 (pre : List S93) (x : S93) (t : List S93) {i : Int} (h : i = pre.length) : aU (pre ++ x :: t) i = x := by
  unfold aU
  rw [h, Int.toNat_natCast, List.getD_eq_getElem?_getD, List.getElem?_append_right (Nat.le_refl _), Nat.sub_self]; rfl
theorem sJ (a b : List S93) (hl : a.length ≤ 9223372036854775807) (t : List S93) : ∀ (u pa pb : List S93) (k : Nat), a = pa ++ t → b = pb ++ u → pa.length = pb.length → t.length = u.length → t.length < k → cZ.l0 k a b (a.length : Int) (pa.length : Int) = some (eqS t u) := by
  induction t with
  | nil =>
    intro u pa pb k ha hb hp hl hk
    obtain ⟨k, rfl⟩ : ∃ k', k = k' + 1 := ⟨k - 1, by simp at hk; omega⟩
    have hu : u = [] := List.eq_nil_of_length_eq_zero hl.symm
    rw [cZ.l0, if_neg (by rw [ha]; simp), hu]
    rfl
  | cons x t ih =>
    intro u pa pb k ha hb hp hl hk
    obtain ⟨k, rfl⟩ : ∃ k', k = k' + 1 := ⟨k - 1, by simp at hk; omega⟩
    cases u with
    | nil => simp at hl
    | cons y u =>
      have hla : a.length = pa.length + t.length + 1 := by rw [ha]; simp; omega
      have hlb : b.length = pb.length + u.length + 1 := by rw [hb]; simp; omega
      have hx : aU a (pa.length : Int) = x := by rw [ha]; exact y9 pa x t rfl
      have hy : aU b (pa.length : Int) = y := by rw [hb]; exact y9 pb y u (by rw [hp])
      have e1 : wrap64 ((pa.length : Int) + 1) = ((pa ++ [x]).length : Int) := by rw [w64 (by omega)]; simp
      have hn := ih u (pa ++ [x]) (pb ++ [y]) k (by rw [ha]; simp) (by rw [hb]; simp) (by simp [hp]) (by simpa using hl) (by simp at hk; omega)
      rw [cZ.l0, if_pos (by omega), if_pos (by omega), if_pos (by omega), if_pos (by simp at hl; omega), hx, hy, e1, hn, eqS]
      cases h1 : (x.f0 == y.f0) <;> cases h2 : (x.f1 == y.f1) <;> simp
theorem um : ∀ {a b : List S93}, a.length ≠ b.length → eqS a b = false
  | [], [], h => absurd rfl h
  | [], _ :: _, _ => rfl
  | _ :: _, [], _ => rfl
  | x :: s, y :: t, h => by rw [eqS, um (fun e => h (by simp [e])), Bool.and_false]
theorem Bf (a b : List S93) (hl : a.length ≤ 9223372036854775807) : cZ.f (a.length + 1) a b = some (eqS a b) := by
  unfold cZ.f
  by_cases h : a.length = b.length
  · rw [if_pos (by omega)]
    exact sJ a b hl a b [] [] _ rfl rfl rfl h (by omega)
  · rw [if_neg (by omega), um h]
set_option maxHeartbeats 1000000 in
set_option maxRecDepth 100000 in
theorem vG (x : S69) (A : Option Addr) (c : Nat) (w : World) (hl : x.f3.length ≤ c) (hC : Kd.C k151 w A x.f3.length x.f3) :
    Calls Tryz.prog 85 (#[.agg #[.int .i64 x.f0, .string x.f1, .int .i64 x.f2, .slice A x.f3.length c]] ++ #[]) w fun e w' => e = .returned (.bool (!ib x.f3 x.f2)) ∧ Below w.heap.size w w' := by
  have hu := Tryz.underlying69
  obtain ⟨W1, hW1⟩ : ∃ W, W = w.alloc (.cells #[.int .i64 x.f0, .string x.f1, .int .i64 x.f2, .slice A x.f3.length c] 69) := ⟨_, rfl⟩
  have HB := aa.mk (show Below w.heap.size w W1 by rw [hW1]; exact (Below.refl _ _).alloc (Nat.le_refl _) _)
  have HC := aa.mk (dL.calls A c x.f3 x.f2 _ W1 (Kd.aN hC HB.out) hl (jI hC.2.1 x.f2))
  clear hC hl
  go_enter Tryz.func85, Tryz.ntmps85
  go_wp2_with fail
  rw [← hW1]
  refine HC.out.mono ?_
  rintro e w1 ⟨rfl, hd⟩
  have HB2 := aa.mk (HB.out.trans (ky (B := w.heap.size) hd))
  clear hd
  go_wp2
  go_ret
  exact ⟨rfl, HB2.out⟩
set_option maxHeartbeats 1000000 in
set_option maxRecDepth 100000 in
theorem len_cl (x : List Int) (A : Option Addr) (c : Nat) (w : World) : Calls Tryz.prog 87 (#[.slice A x.length c] ++ #[]) w fun e w' => e = .returned (.bool ((x.length : Int) != 64)) ∧ Below w.heap.size w w' := by
  go_enter Tryz.func87, Tryz.ntmps87
  go_wp2
  go_ret
  exact ⟨rfl, Below.refl _ _⟩
theorem jB {b : Nat} {v0 v1 v2 v3 v4 v5 v6 : Value} {W w' : World} (h : W.cell? ⟨b, 0, none⟩ = some v0 ∧ W.cell? ⟨b, 1, none⟩ = some v1 ∧ W.cell? ⟨b, 2, none⟩ = some v2 ∧ W.cell? ⟨b, 3, none⟩ = some v3 ∧ W.cell? ⟨b, 4, none⟩ = some v4 ∧ W.cell? ⟨b, 5, none⟩ = some v5 ∧ W.cell? ⟨b, 6, none⟩ = some v6) (hb : Below W.heap.size W w') :
    w'.cell? ⟨b, 0, none⟩ = some v0 ∧ w'.cell? ⟨b, 1, none⟩ = some v1 ∧ w'.cell? ⟨b, 2, none⟩ = some v2 ∧ w'.cell? ⟨b, 3, none⟩ = some v3 ∧ w'.cell? ⟨b, 4, none⟩ = some v4 ∧ w'.cell? ⟨b, 5, none⟩ = some v5 ∧ w'.cell? ⟨b, 6, none⟩ = some v6 := by
  obtain ⟨h0, h1, h2, h3, h4, h5, h6⟩ := h
  exact ⟨(hb.cell (World.block_lt_of_cell? W _ h0)).trans h0, (hb.cell (World.block_lt_of_cell? W _ h1)).trans h1, (hb.cell (World.block_lt_of_cell? W _ h2)).trans h2, (hb.cell (World.block_lt_of_cell? W _ h3)).trans h3, (hb.cell (World.block_lt_of_cell? W _ h4)).trans h4, (hb.cell (World.block_lt_of_cell? W _ h5)).trans h5, (hb.cell (World.block_lt_of_cell? W _ h6)).trans h6⟩
def rO : Bool × List (List Nat × List Nat) := (true, [([], []), ([0], [0]), ([1], [1]), ([2], [2]), ([3, 2], [3]), ([4], [4]), ([5, 4, 4], [4, 5]), ([4], [4]), ([7, 4], [4, 7]), ([6, 8, 6, 4], [4, 6, 8]), ([9, 4], [4, 9]), ([4, 10], [4, 10]), ([11, 9], [11]), ([12], [12]), ([13, 12, 12], [12, 13]), ([14, 14, 12], [12, 14]), ([15, 12], [12, 15]), ([12, 16], [12, 16]), ([17, 15], [17]), ([18], [18]), ([19, 18], [18, 19]), ([18], [18]), ([21, 18], [18, 21]), ([20, 22, 18, 18], [18, 20, 22]), ([23, 18], [18, 23]), ([18, 24], [18, 24]), ([25, 23, 0, 1, 2, 3, 4, 5, 6, 7, 8, 9, 10, 11, 12, 13, 14, 15, 16, 17, 18, 19, 20, 21, 22, 23, 24, 25], [25])])
def xm : List Nat := [0, 1, 3, 7, 15, 31, 63, 31, 159, 511, 1023, 2047, 4095, 8191, 16383, 32767, 65535, 131071, 262143, 524287, 1048575, 524287, 2621439, 8388607, 16777215, 33554431, 67108863]
theorem sP : rtab .any (opsOf Tryz.f41 1) = rO := by kernel_rfl
theorem qz : cB rO.2 xm = true := by kernel_rfl
set_option maxHeartbeats 16000000 in
set_option maxRecDepth 100000 in
theorem dD.calls (s : St) (a : At4) (r : Int) (w : World) (hr : Reads w s a) (h : dD.f s = some r) :
    Calls Tryz.prog 41 #[.agg (aI s a)] w fun e w' => e = .returned (.int .i64 r) ∧ Below w.heap.size w w' := by
  have hu31 := Tryz.underlying31
  have hu28 := Tryz.underlying28
  unfold dD.f at h
  split at h
  case isFalse => cases h
  rename_i hsn
  replace h := Option.some.inj h
  have HSN := aa.mk hsn
  have HCV := aa.mk h
  obtain ⟨b1, hb1⟩ : ∃ b, b = w.heap.size := ⟨_, rfl⟩
  obtain ⟨W1, hW1⟩ : ∃ W, W = w.alloc (.cells #[.int .i64 s.size, .slice a.A1 s.now.length a.c1, .slice a.A2 s.snaps.length a.c2, .int .i64 s.next, .int .i64 s.fsize, .slice a.A5 s.sp.length a.c5, .slice a.A6 s.data.length a.c6] 31) := ⟨_, rfl⟩
  have HX1 := aa.mk (show W1.heap[b1]? = some (.cells #[.int .i64 s.size, .slice a.A1 s.now.length a.c1, .slice a.A2 s.snaps.length a.c2, .int .i64 s.next, .int .i64 s.fsize, .slice a.A5 s.sp.length a.c5, .slice a.A6 s.data.length a.c6] 31 (0, 0)) by rw [hW1, hb1]; exact bg w _)
  have HB1 := aa.mk (show Below w.heap.size w W1 by rw [hW1]; exact (Below.refl _ _).alloc (Nat.le_refl _) _)
  have HR1 := aa.mk (hr.below (w1 := W1) (by have := HB1.out; exact this))
  clear h hr hsn
  unfold aI
  go_enter Tryz.func41, Tryz.ntmps41
  go_wp2_with fail
  rw [← hW1, ← hb1]
  refine dG (n := 27) (S := fun w' => w'.cell? ⟨b1, 0, none⟩ = some (.int .i64 s.size) ∧ w'.cell? ⟨b1, 1, none⟩ = some (.slice a.A1 s.now.length a.c1) ∧ w'.cell? ⟨b1, 2, none⟩ = some (.slice a.A2 s.snaps.length a.c2) ∧ w'.cell? ⟨b1, 3, none⟩ = some (.int .i64 s.next) ∧ w'.cell? ⟨b1, 4, none⟩ = some (.int .i64 s.fsize) ∧ w'.cell? ⟨b1, 5, none⟩ = some (.slice a.A5 s.sp.length a.c5) ∧ w'.cell? ⟨b1, 6, none⟩ = some (.slice a.A6 s.data.length a.c6)) (ds := []) (lb 27 0) (by kernel_rfl) rfl (by kernel_rfl) ⟨(ae HX1.out 0).trans rfl, (ae HX1.out 1).trans rfl, (ae HX1.out 2).trans rfl, (ae HX1.out 3).trans rfl, (ae HX1.out 4).trans rfl, (ae HX1.out 5).trans rfl, (ae HX1.out 6).trans rfl⟩ (fun hHeld => ?_)
  refine bG sP qz (fun HT_ HW_ => ?_)
  have HR := aa.mk (HR1.out.below (w1 := W1.drew) (aQ (Below.refl _ _)))
  have HB := aa.mk (aQ HB1.out)
  clear HR1 HB1 HX1 hW1 hb1
  generalize W1.drew = w2 at hHeld HR HB ⊢
  refine pu_ 0 8 27 1 ?_
  refine tk_ 1 9 27 3 ?_
  refine on_ 2 10 27 7 (fun K hK => ?_)
  refine dO Tryz.func60 (by kernel_rfl) rfl #[.agg #[.int .i64 s.fsize, .slice a.A5 s.sp.length a.c5]] (by rfl) rfl rfl (by (try simp only [List.map_toArray, List.map_cons, List.map_nil]); first | done | rfl) ?_
  refine (aH.calls 1030 s.fsize a.A5 a.c5 s.sp _ w2 HR.out.h5 HR.out.l5 (rD 0 s.fsize s.sp)).mono ?_
  rintro e w3 ⟨rfl, hb⟩
  refine ⟨_, rfl, ?_⟩
  have HR' := aa.mk (HR.out.below hb)
  have HB' := aa.mk (HB.out.trans (hb.mono HB.out.size))
  refine hK.out _ _ (jB hHeld hb) (fun hHeld => ?_)
  clear hK K hb HR HB
  have HR := HR'
  have HB := HB'
  clear HR' HB'
  refine nm_ 10 ?_
  obtain ⟨r1, hr1⟩ : ∃ r, r = Flag.iD s.fsize (s.sp.map toP) := ⟨_, rfl⟩
  rw [← hr1]
  by_cases c1 : r1 = 0
  case neg =>
    have hbn : (r1 != 0) = true := bne_iff_ne.mpr c1
    have HBADX : r = 9 := by rw [← HCV.out, dH, if_neg (by rw [nH, ← hr1, decide_eq_false c1]; simp)]
    clear hr1 c1
    refine pu_ 3 11 27 15 ?_
    refine pu_ 4 12 27 31 ?_
    refine pn_ 5 13 27 63 ?_
    refine pn_ 6 14 27 127 ?_
    refine pn_ 7 15 27 255 ?_
    refine pn_ 8 16 27 511 ?_
    refine pn_ 9 17 27 1023 ?_
    refine pn_ 10 18 27 2047 ?_
    refine pu_ 11 19 27 4095 ?_
    refine pu_ 12 20 27 8191 ?_
    refine pn_ 13 21 27 16383 ?_
    refine pn_ 14 22 27 32767 ?_
    refine pn_ 15 23 27 65535 ?_
    refine pn_ 16 24 27 131071 ?_
    refine pu_ 17 25 27 262143 ?_
    refine pu_ 18 26 27 524287 ?_
    refine pn_ 19 27 27 1048575 ?_
    refine pn_ 20 28 27 2097151 ?_
    refine pn_ 21 29 27 4194303 ?_
    refine pn_ 22 30 27 8388607 ?_
    refine pn_ 23 31 27 16777215 ?_
    refine pn_ 24 32 27 33554431 ?_
    refine pu_ 25 33 27 67108863 ?_
    refine pu_ 26 3 27 134217727 ?_
    refine eQ (bU HT_.out (by kernel_rfl)) ?_
    clear hHeld HT_ HW_
    go_wp2
    go_ret
    exact ⟨by rw [HBADX]; rfl, HB.out⟩
  rw [c1]
  have HC1 := aa.mk (show Flag.iD s.fsize (s.sp.map toP) = 0 by rw [← hr1]; exact c1)
  clear hr1 c1
  refine pu_ 3 11 27 15 ?_
  refine pu_ 4 12 27 31 ?_
  refine tk_ 5 13 27 63 ?_
  refine pu_ 7 15 27 191 ?_
  refine tk_ 8 16 27 447 ?_
  refine on_ 6 14 27 511 (fun K hK => ?_)
  refine dO Tryz.func67 (by kernel_rfl) rfl #[.agg (aI s a)] (by rfl) rfl rfl (by (try simp only [List.map_toArray, List.map_cons, List.map_nil]); first | done | rfl) ?_
  refine (uD HR.out HSN.out).mono ?_
  rintro e w4 ⟨A4, c4, rfl, hl4, hC4, hb⟩
  refine ⟨_, rfl, ?_⟩
  have HR' := aa.mk (HR.out.below hb)
  have HB' := aa.mk (HB.out.trans (hb.mono HB.out.size))
  refine hK.out _ _ (jB hHeld hb) (fun hHeld => ?_)
  clear hK K hb HR HB
  have HR := HR'
  have HB := HB'
  clear HR' HB'
  refine nm_ 14 ?_
  refine on_ 9 17 27 1023 (fun K hK => ?_)
  refine dO Tryz.func81 (by kernel_rfl) rfl #[.slice A4 (fF s).length c4, .int .i64 s.next] (by rfl) rfl rfl (by (try simp only [List.map_toArray, List.map_cons, List.map_nil]); first | done | rfl) ?_
  refine (gq.calls A4 c4 (fF s) s.next (nmB s) w4 hC4 hl4 rfl).mono ?_
  rintro e w5 ⟨rfl, hb⟩
  refine ⟨_, rfl, ?_⟩
  have HR' := aa.mk (HR.out.below hb)
  have HB' := aa.mk (HB.out.trans (hb.mono HB.out.size))
  refine hK.out _ _ (jB hHeld hb) (fun hHeld => ?_)
  clear hK K hb HR HB
  have HR := HR'
  have HB := HB'
  clear HR' HB'
  clear hl4 hC4
  refine nm_ 17 ?_
  obtain ⟨r2, hr2⟩ : ∃ r, r = nmB s := ⟨_, rfl⟩
  rw [← hr2]
  cases r2
  case false =>
    have HBADX : r = 9 := by rw [← HCV.out, dH, if_neg (by rw [nH, ← hr2]; simp)]
    clear hr2
    refine pu_ 10 18 27 2047 ?_
    refine pu_ 11 19 27 4095 ?_
    refine pu_ 12 20 27 8191 ?_
    refine pn_ 13 21 27 16383 ?_
    refine pn_ 14 22 27 32767 ?_
    refine pn_ 15 23 27 65535 ?_
    refine pn_ 16 24 27 131071 ?_
    refine pu_ 17 25 27 262143 ?_
    refine pu_ 18 26 27 524287 ?_
    refine pn_ 19 27 27 1048575 ?_
    refine pn_ 20 28 27 2097151 ?_
    refine pn_ 21 29 27 4194303 ?_
    refine pn_ 22 30 27 8388607 ?_
    refine pn_ 23 31 27 16777215 ?_
    refine pn_ 24 32 27 33554431 ?_
    refine pu_ 25 33 27 67108863 ?_
    refine pu_ 26 3 27 134217727 ?_
    refine eQ (bU HT_.out (by kernel_rfl)) ?_
    clear hHeld HT_ HW_
    go_wp2
    go_ret
    exact ⟨by rw [HBADX]; rfl, HB.out⟩
  have HC2 := aa.mk hr2.symm
  clear hr2
  refine pu_ 10 18 27 2047 ?_
  refine pu_ 11 19 27 4095 ?_
  refine pu_ 12 20 27 8191 ?_
  refine tk_ 13 21 27 16383 ?_
  refine on_ 14 22 27 32767 (fun K hK => ?_)
  refine dO Tryz.func72 (by kernel_rfl) rfl #[.agg (aI s a)] (by rfl) rfl rfl (by (try simp only [List.map_toArray, List.map_cons, List.map_nil]); first | done | rfl) ?_
  refine (vB HR.out HSN.out).mono ?_
  rintro e w6 ⟨A6, c6, rfl, hl6, hC6, hb⟩
  refine ⟨_, rfl, ?_⟩
  have HR' := aa.mk (HR.out.below hb)
  have HB' := aa.mk (HB.out.trans (hb.mono HB.out.size))
  refine hK.out _ _ (jB hHeld hb) (fun hHeld => ?_)
  clear hK K hb HR HB
  have HR := HR'
  have HB := HB'
  clear HR' HB'
  refine nm_ 22 ?_
  refine on_ 15 23 27 65535 (fun K hK => ?_)
  refine dO Tryz.func82 (by kernel_rfl) rfl #[.slice A6 (gP s).length c6] (by rfl) rfl rfl (by (try simp only [List.map_toArray, List.map_cons, List.map_nil]); first | done | rfl) ?_
  refine (dh.calls 1200 A6 c6 (gP s) _ w6 hC6 hl6 (yL (gP s))).mono ?_
  rintro e w7 ⟨rfl, hb⟩
  refine ⟨_, rfl, ?_⟩
  have HR' := aa.mk (HR.out.below hb)
  have HB' := aa.mk (HB.out.trans (hb.mono HB.out.size))
  refine hK.out _ _ (jB hHeld hb) (fun hHeld => ?_)
  clear hK K hb HR HB
  have HR := HR'
  have HB := HB'
  clear HR' HB'
  clear hl6 hC6
  refine nm_ 23 ?_
  obtain ⟨r3, hr3⟩ : ∃ r, r = Flag.fT ((gP s).map toM) := ⟨_, rfl⟩
  rw [← hr3]
  by_cases c3 : r3 = 0
  case neg =>
    have hbn : (r3 != 0) = true := bne_iff_ne.mpr c3
    have HBADX : r = 9 := by rw [← HCV.out, dH, if_neg (by rw [nH, ← hr3, decide_eq_false c3]; simp)]
    clear hr3 c3
    refine pu_ 16 24 27 131071 ?_
    refine pu_ 17 25 27 262143 ?_
    refine pu_ 18 26 27 524287 ?_
    refine pn_ 19 27 27 1048575 ?_
    refine pn_ 20 28 27 2097151 ?_
    refine pn_ 21 29 27 4194303 ?_
    refine pn_ 22 30 27 8388607 ?_
    refine pn_ 23 31 27 16777215 ?_
    refine pn_ 24 32 27 33554431 ?_
    refine pu_ 25 33 27 67108863 ?_
    refine pu_ 26 3 27 134217727 ?_
    refine eQ (bU HT_.out (by kernel_rfl)) ?_
    clear hHeld HT_ HW_
    go_wp2
    go_ret
    exact ⟨by rw [HBADX]; rfl, HB.out⟩
  rw [c3]
  have HC3 := aa.mk (show Flag.fT ((gP s).map toM) = 0 by rw [← hr3]; exact c3)
  clear hr3 c3
  refine pu_ 16 24 27 131071 ?_
  refine pu_ 17 25 27 262143 ?_
  refine pu_ 18 26 27 524287 ?_
  refine pu_ 19 27 27 1048575 ?_
  refine pu_ 21 29 27 3145727 ?_
  refine tk_ 20 28 27 4194303 ?_
  refine tk_ 22 30 27 8388607 ?_
  refine on_ 23 31 27 16777215 (fun K hK => ?_)
  refine dO Tryz.func83 (by kernel_rfl) rfl #[.slice a.A1 s.now.length a.c1, .int .i64 s.size] (by rfl) rfl rfl (by (try simp only [List.map_toArray, List.map_cons, List.map_nil]); first | done | rfl) ?_
  refine (dL.calls a.A1 a.c1 s.now s.size _ w7 HR.out.h1 HR.out.l1 (jI HR.out.h1.2.1 s.size)).mono ?_
  rintro e w8 ⟨rfl, hd⟩
  have hb := ky (B := w7.heap.size) hd
  clear hd
  refine ⟨_, rfl, ?_⟩
  have HR' := aa.mk (HR.out.below hb)
  have HB' := aa.mk (HB.out.trans (hb.mono HB.out.size))
  refine hK.out _ _ (jB hHeld hb) (fun hHeld => ?_)
  clear hK K hb HR HB
  have HR := HR'
  have HB := HB'
  clear HR' HB'
  refine nm_ 31 ?_
  obtain ⟨r4, hr4⟩ : ∃ r, r = ib s.now s.size := ⟨_, rfl⟩
  rw [← hr4]
  cases r4
  case false =>
    have HBADX : r = 9 := by rw [← HCV.out, dH, if_neg (by rw [nH, ← hr4]; simp)]
    clear hr4
    refine pu_ 24 32 27 33554431 ?_
    refine pu_ 25 33 27 67108863 ?_
    refine pu_ 26 3 27 134217727 ?_
    refine eQ (bU HT_.out (by kernel_rfl)) ?_
    clear hHeld HT_ HW_
    go_wp2
    go_ret
    exact ⟨by rw [HBADX]; rfl, HB.out⟩
  have HH4 := aa.mk (show nH s = true by rw [nH, HC1.out, HC2.out, HC3.out, ← hr4]; rfl)
  clear hr4 HC1 HC2
  refine pu_ 24 32 27 33554431 ?_
  refine pu_ 25 33 27 67108863 ?_
  refine pu_ 26 3 27 134217727 ?_
  refine eQ (bU HT_.out (by kernel_rfl)) ?_
  obtain ⟨q0, q1, q2, q3, q4, q5, q6⟩ := id hHeld
  clear HT_ HW_
  have HS5 := aa.mk (has_sn 85 #[] (fun x => !ib x.f3 x.f2) (fun args w => iY Tryz.func85 (by kernel_rfl) rfl args w) a.A2 a.c2 s.snaps w8 HR.out.h2 (fun W x A c hB hl hC => Calls.mono (vG x A c W hl hC) fun e w' h => ⟨h.1, az hB h.2⟩))
  have HHELD := aa.mk hHeld
  clear hHeld
  go_wp2_with fail
  refine HS5.out.mono ?_
  rintro e w9 ⟨rfl, hb⟩
  have hHeld := jB HHELD.out hb
  have HR' := aa.mk (HR.out.below hb)
  have HB' := aa.mk (HB.out.trans (hb.mono HB.out.size))
  clear q0 q1 q2 q3 q4 q5 q6 HHELD hb HR HB HS5
  have HR := HR'
  have HB := HB'
  clear HR' HB'
  obtain ⟨r5, hr5⟩ : ∃ r, r = s.snaps.any fun x => !ib x.f3 x.f2 := ⟨_, rfl⟩
  rw [← hr5]
  cases r5
  case true =>
    have HBADX : r = 9 := by rw [← HCV.out, dH, if_neg (by rw [mP, ← hr5]; simp)]
    clear hr5 hHeld
    go_wp2
    go_ret
    exact ⟨by rw [HBADX]; rfl, HB.out⟩
  have HC5 := aa.mk (show mP s = true by rw [mP, ← hr5]; rfl)
  clear hr5
  obtain ⟨q0, q1, q2, q3, q4, q5, q6⟩ := id hHeld
  have HHELD := aa.mk hHeld
  clear hHeld
  by_cases c6 : (s.data.length : Int) = s.fsize
  case neg =>
    have hbn : ((s.data.length : Int) != s.fsize) = true := bne_iff_ne.mpr c6
    have HBADX : r = 9 := by rw [← HCV.out, dH, if_neg (by rw [qb, decide_eq_false c6]; simp)]
    clear c6
    go_wp2
    go_ret
    exact ⟨by rw [HBADX]; rfl, HB.out⟩
  have hbn : ((s.data.length : Int) != s.fsize) = false := bne_eq_false_iff_eq.mpr c6
  have HC6 := aa.mk c6
  clear c6
  have HS7 := aa.mk (has_lb 87 #[] (fun b => (b.length : Int) != 64) (fun args w => iY Tryz.func87 (by kernel_rfl) rfl args w) a.A6 a.c6 s.data w9 HR.out.h6 (fun W x A c hB hl hC => Calls.mono (len_cl x A c W) fun e w' h => ⟨h.1, az hB h.2⟩))
  go_wp2_with fail
  refine HS7.out.mono ?_
  rintro e w10 ⟨rfl, hb⟩
  have hHeld := jB HHELD.out hb
  have HR' := aa.mk (HR.out.below hb)
  have HB' := aa.mk (HB.out.trans (hb.mono HB.out.size))
  clear q0 q1 q2 q3 q4 q5 q6 HHELD hb HR HB HS7 hbn
  have HR := HR'
  have HB := HB'
  clear HR' HB'
  obtain ⟨r7, hr7⟩ : ∃ r, r = s.data.any fun b => (b.length : Int) != 64 := ⟨_, rfl⟩
  rw [← hr7]
  cases r7
  case true =>
    have HBADX : r = 9 := by rw [← HCV.out, dH, if_neg (by rw [qb, ← hr7]; simp)]
    clear hr7 hHeld
    go_wp2
    go_ret
    exact ⟨by rw [HBADX]; rfl, HB.out⟩
  have HC7 := aa.mk (show qb s = true by rw [qb, ← hr7, decide_eq_true HC6.out]; rfl)
  clear hr7
  obtain ⟨q0, q1, q2, q3, q4, q5, q6⟩ := id hHeld
  have HHELD := aa.mk hHeld
  clear hHeld
  have HMP := aa.mk (show Calls Tryz.prog 72 #[.agg #[.int .i64 s.size, .slice a.A1 s.now.length a.c1, .slice a.A2 s.snaps.length a.c2, .int .i64 s.next, .int .i64 s.fsize, .slice a.A5 s.sp.length a.c5, .slice a.A6 s.data.length a.c6]] w10 _ from vB HR.out HSN.out)
  go_wp2_with fail
  refine HMP.out.mono ?_
  rintro e w11 ⟨Am, cm, rfl, hlm, hCm, hb⟩
  have HUS := aa.mk (dx.calls 9218 Am cm (gP s) (iK s) 0 w11 hCm hlm (by rw [used9 (by omega), if_pos HC3.out]; rfl))
  have hHeld := jB HHELD.out hb
  have HR' := aa.mk (HR.out.below hb)
  have HB' := aa.mk (HB.out.trans (hb.mono HB.out.size))
  clear q0 q1 q2 q3 q4 q5 q6 HHELD hb HR HB HMP hlm hCm
  have HR := HR'
  have HB := HB'
  have HHELD := aa.mk hHeld
  clear HR' HB' hHeld
  go_wp2_with fail
  refine HUS.out.mono ?_
  rintro e w12 ⟨vu, rfl, hRu, hb⟩
  obtain ⟨Au, cu, rfl⟩ := Kd.aZ hRu
  have HFW := aa.mk (gD.calls s.fsize Au cu (iK s) (bN s.fsize (iK s)).1 (bN s.fsize (iK s)).2.1 (bN s.fsize (iK s)).2.2 w12 (Kd.bu hRu).2.2 (Kd.bu hRu).2.1 rfl)
  have hHeld := jB HHELD.out hb
  have HR' := aa.mk (HR.out.below hb)
  have HB' := aa.mk (HB.out.trans (hb.mono HB.out.size))
  clear HHELD hb HR HB HUS hRu
  have HR := HR'
  have HB := HB'
  obtain ⟨q0, q1, q2, q3, q4, q5, q6⟩ := id hHeld
  have HHELD := aa.mk hHeld
  clear HR' HB' hHeld
  obtain ⟨nu, hnu⟩ : ∃ n, n = (iK s).length := ⟨_, rfl⟩
  rw [← hnu] at HFW ⊢
  clear hnu
  go_wp2_with fail
  refine HFW.out.mono ?_
  rintro e w13 ⟨vz, rfl, hRz, hb⟩
  obtain ⟨Az, cz, rfl⟩ := Kd.aZ hRz
  have hHeld := jB HHELD.out hb
  have HR' := aa.mk (HR.out.below hb)
  have HB' := aa.mk (HB.out.trans (hb.mono HB.out.size))
  clear q0 q1 q2 q3 q4 q5 q6 HHELD hb HR HB HFW
  have HR := HR'
  have HB := HB'
  clear HR' HB'
  obtain ⟨z, hz⟩ : ∃ z, z = bN s.fsize (iK s) := ⟨_, rfl⟩
  obtain ⟨z1, z2, z3⟩ := z
  rw [← hz] at hRz ⊢
  dsimp only at hRz ⊢
  have HZQ := aa.mk hz
  clear hz
  obtain ⟨W14, hW14⟩ : ∃ W, W = w13.alloc (.cells #[.int .i64 z1, .slice Az z2.length cz] 28) := ⟨_, rfl⟩
  obtain ⟨bz, hbz⟩ : ∃ b, b = w13.heap.size := ⟨_, rfl⟩
  have hb14 : Below w13.heap.size w13 W14 := by rw [hW14]; exact (Below.refl _ _).alloc (Nat.le_refl _) _
  have hHeld2 := jB hHeld hb14
  have hx14 : W14.heap[bz]? = some (.cells #[.int .i64 z1, .slice Az z2.length cz] 28 (0, 0)) := by rw [hW14, hbz]; exact bg w13 _
  have p1 : W14.cell? ⟨bz, 1, none⟩ = some (.slice Az z2.length cz) := (ae hx14 1).trans rfl
  have HB14 := aa.mk (HB.out.trans (hb14.mono HB.out.size))
  have HR14 := aa.mk (HR.out.below hb14)
  have HZ14 := aa.mk (Kd.aN (Kd.bu hRz).2.2 hb14)
  have HZL := aa.mk (Kd.bu hRz).2.1
  obtain ⟨q0, q1, q2, q3, q4, q5, q6⟩ := hHeld2
  clear hHeld hb14 hx14 hRz
  by_cases c8 : z3 = 0
  case neg =>
    have hbn : (z3 != 0) = true := bne_iff_ne.mpr c8
    have HBADX : r = 9 := by rw [← HCV.out, dH, if_neg (by rw [sQ, ← HZQ.out, decide_eq_false c8]; simp)]
    clear c8
    rw [hW14, hbz] at p1
    rw [hW14] at q0 q1 q2 q3 q4 q5 q6
    go_wp2_with fail
    rw [← hW14]
    go_ret
    exact ⟨by rw [HBADX]; rfl, HB14.out⟩
  subst c8
  have HEQ := aa.mk (show Calls Tryz.prog 90 #[.slice Az z2.length cz, .slice a.A5 s.sp.length a.c5] W14 _ from cZ.calls _ Az cz z2 a.A5 a.c5 s.sp _ W14 HZ14.out HZL.out HR14.out.h5 HR14.out.l5 (Bf z2 s.sp HZ14.out.2.1))
  rw [hW14, hbz] at p1
  rw [hW14] at q0 q1 q2 q3 q4 q5 q6
  go_wp2_with fail
  rw [← hW14]
  refine HEQ.out.mono ?_
  rintro e w15 ⟨rfl, hd⟩
  have HB15 := aa.mk (HB14.out.trans (ky (B := w.heap.size) hd))
  have hrf : sQ s = eqS z2 s.sp := by rw [sQ, ← HZQ.out]; rfl
  obtain ⟨r8, hr8⟩ : ∃ r, r = eqS z2 s.sp := ⟨_, rfl⟩
  rw [← hr8] at hrf ⊢
  have HRES := aa.mk (show r = if r8 = true then 0 else 9 by rw [← HCV.out, dH, HH4.out, HC5.out, HC7.out, hrf]; rfl)
  clear hd hrf hr8 p1 q0 q1 q2 q3 q4 q5 q6
  cases r8 with
  | true =>
    go_wp2
    go_ret
    exact ⟨by rw [HRES.out]; rfl, HB15.out⟩
  | false =>
    go_wp2
    go_ret
    exact ⟨by rw [HRES.out]; rfl, HB15.out⟩
theorem uz : ∀ {a b : List S93}, eqS a b = true ↔ a = b
  | [], [] => by simp [eqS]
  | [], _ :: _ => by simp [eqS]
  | _ :: _, [] => by simp [eqS]
  | x :: s, y :: t => by
    rw [eqS, Bool.and_eq_true, Bool.and_eq_true, uz]
    obtain ⟨a, b⟩ := x
    obtain ⟨c, d⟩ := y
    simp
structure VOk (s : St) : Prop where
  f6 : Flag.nV s.fsize (s.sp.map toP)
  nm : nmB s = true
  m9 : Flag.tF ((gP s).map toM)
  wn : ib s.now s.size = true
  ws : ∀ x ∈ s.snaps, ib x.f3 x.f2 = true
  dl : (s.data.length : Int) = s.fsize
  d64 : ∀ b ∈ s.data, b.length = 64
  fr0 : (bN s.fsize (iK s)).2.2 = 0
  fr : (bN s.fsize (iK s)).2.1 = s.sp
theorem lJ {s : St} : dH s = 0 ↔ VOk s := by
  have e : dH s = 0 ↔ (nH s && (mP s && (qb s && sQ s))) = true := by
    unfold dH; split <;> simp_all
  rw [e]
  simp only [nH, mP, qb, sQ, Bool.and_eq_true, decide_eq_true_eq, Bool.not_eq_true', List.any_eq_false, uz, bne_iff_ne, ne_eq, Decidable.not_not]
  constructor
  · rintro ⟨⟨h1, h2, h3, h4⟩, h5, ⟨h6, h7⟩, h8, h9⟩
    exact ⟨Flag.gV.1 h1, h2, Flag.gB.1 h3, h4, fun x hx => by simpa using h5 x hx, h6, fun b hb => by have := h7 b hb; omega, h8, h9⟩
  · intro h
    exact ⟨⟨Flag.gV.2 h.f6, h.nm, Flag.gB.2 h.m9, h.wn⟩, fun x hx => by simpa using h.ws x hx, ⟨h.dl, fun b hb => by have := h.d64 b hb; omega⟩, h.fr0, h.fr⟩
def pR (s : St) : List (List Flag.Ex) := s.now.map toE :: s.snaps.map fun x => x.f3.map toE
theorem qI (s : St) : ((gP s).map toM).map (·.l) = pR s := by
  unfold gP pR toM
  simp [List.map_map, Function.comp_def]
theorem pU {s : St} (h : Flag.tF ((gP s).map toM)) : Flag.NFs ((iK s).map toP) ∧ (∀ i, Flag.memS ((iK s).map toP) i ↔ ∃ l ∈ pR s, Flag.rC l i) := by
  obtain ⟨hok, _⟩ := refs9 (Flag.gB.2 h)
  obtain ⟨q, hq⟩ : ∃ q, q = eO (gZ (gP s)) := ⟨_, rfl⟩
  have hu : iK s = joinL (q.map spR) := by rw [hq]; rfl
  rw [← hq] at hok
  have h1 := o9 (uA hok)
  have e : (q.map spR).map toP = Flag.rQ (q.map toR) := by
    unfold Flag.rQ
    rw [List.map_map, List.map_map]; rfl
  have hpos : ∀ x ∈ (jy (q.map spR)).map toP, 0 < x.n := by
    intro x hx
    obtain ⟨y, hy, rfl⟩ := List.mem_map.1 hx
    exact (uA hok y ((eZ _).mem_iff.1 hy)).n
  obtain ⟨h2, h3⟩ := Flag.kz (gT (iB (q.map spR))) hpos
  rw [hu, h1]
  refine ⟨h2, fun i => ?_⟩
  rw [h3, Flag.oJ ((eZ (q.map spR)).map toP), e, Flag.sG]
  have hp : (q.map toR).Perm (Flag.qo ((gP s).map toM)) := by
    rw [hq, iw, mo]
    exact Flag.iJ _
  rw [Flag.wY hp, Flag.uK h, ← qI]
  constructor
  · rintro ⟨x, hx, hu⟩
    exact ⟨x.l, List.mem_map_of_mem hx, hu⟩
  · rintro ⟨l, hl, hu⟩
    obtain ⟨x, hx, rfl⟩ := List.mem_map.1 hl
    exact ⟨x, hx, hu⟩
theorem kR {fs : Int} {u : List S93} (h : (bN fs u).2.2 = 0) : (bN fs u).1 = fs ∧ Flag.nV fs ((bN fs u).2.1.map toP) ∧ (∀ x ∈ u.map toP, Flag.Ins fs x) ∧ ∀ i, Flag.memS ((bN fs u).2.1.map toP) i ↔ (0 ≤ i ∧ i < fs) ∧ ¬ Flag.memS (u.map toP) i := by
  have e := tT fs u
  rcases Flag.rX fs (u.map toP) with ⟨_, _, h3⟩ | ⟨m, e1, h1, h2, h3⟩
  · rw [← e] at h3
    exact absurd h h3
  · rw [e1] at e
    simp only [Prod.mk.injEq] at e
    obtain ⟨e2, e3, _⟩ := e
    rw [e3]
    exact ⟨e2, h1, h2, h3⟩
theorem VOk.free {s : St} (h : VOk s) (i : Int) : Flag.memS (s.sp.map toP) i ↔ (0 ≤ i ∧ i < s.fsize) ∧ ¬ ∃ l ∈ pR s, Flag.rC l i := by
  have := (kR h.fr0).2.2.2 i
  rw [h.fr, (pU h.m9).2] at this
  exact this
theorem VOk.used {s : St} (h : VOk s) {l : List Flag.Ex} (hl : l ∈ pR s) {v i : Int} (hv : Flag.fP l v = some i) : 0 ≤ i ∧ i < s.fsize := by
  have h1 := (kR h.fr0).2.2.1
  obtain ⟨u, hu, h2, h3⟩ := Flag.eH.1 (((pU h.m9).2 i).2 ⟨l, hl, v, hv⟩)
  have := h1 u hu
  have h4 := this.a
  have h5 := this.e
  omega
theorem within_iff {l : List S151} (hm : Flag.Map5 (l.map toE)) {size : Int} : ib l size = true ↔ (0 ≤ size ∧ size ≤ 65536) ∧ ∀ v i, Flag.fP (l.map toE) v = some i → v < size := by
  have hl : l.length ≤ 1024 := by have := hm.len; simpa using this
  have hf := jI (l := l) (by omega) size
  unfold dL.f at hf
  by_cases h0 : size ≥ 0
  rotate_left
  · rw [if_neg h0] at hf
    rw [← Option.some.inj hf]
    constructor
    · intro h; cases h
    · intro h; exact absurd h.1.1 h0
  rw [if_pos h0] at hf
  by_cases h1 : size ≤ 65536
  rotate_left
  · rw [if_neg h1] at hf
    rw [← Option.some.inj hf]
    constructor
    · intro h; cases h
    · intro h; exact absurd h.1.2 h1
  rw [if_pos h1] at hf
  rcases List.eq_nil_or_concat l with rfl | ⟨p, x, rfl⟩
  · rw [if_pos (show ((([] : List S151).length : Nat) : Int) = 0 from rfl)] at hf
    rw [← Option.some.inj hf]
    exact ⟨fun _ => ⟨⟨h0, h1⟩, fun v i hv => by cases hv⟩, fun _ => rfl⟩
  · rw [List.concat_eq_append] at hf hm hl ⊢
    have e : ((p ++ [x]).length : Int) - 1 = (p.length : Int) := by simp
    have e2 : ax (p ++ [x]) (p.length : Int) = x := zZ p x [] rfl
    have e3 : wrap64 (p.length : Int) = p.length := w64 (by simp at hl; omega)
    have hx := hm.ok (toE x) (by simp)
    obtain ⟨x1, x2, x3, _, _⟩ := hx
    simp only [toE] at x1 x2 x3
    rw [if_neg (by simp; omega), e, e3, if_pos (by omega), if_pos (by simp; omega), e2, w64 (n := x.f0 + x.f2) (by omega)] at hf
    rw [← Option.some.inj hf, decide_eq_true_eq]
    have hn := hm.nf
    have em : (p ++ [x]).map toE = p.map toE ++ [toE x] := by simp
    rw [em] at hn ⊢
    constructor
    · intro h
      refine ⟨⟨h0, h1⟩, fun v i hv => ?_⟩
      obtain ⟨y, hy, _, h3, _⟩ := Flag.gu hv
      have := Flag.zt hn y hy
      have e4 : (toE x).v + (toE x).n = x.f0 + x.f2 := rfl
      omega
    · rintro ⟨_, h⟩
      have := h (x.f0 + x.f2 - 1) _ (Flag.o_ hn (z := toE x) (by simp) (by show x.f0 ≤ _; omega) (by show _ < x.f0 + x.f2; omega))
      omega
def iR.f (l0 : List (S151)) : Option (List (S151)) := if l0.length < 5864062014805 then some l0 else none
set_option maxHeartbeats 2000000 in
set_option maxRecDepth 100000 in
theorem iR.calls (A0 : Option Addr) (c0 : Nat) (l0 : List (S151)) (r : List (S151)) (w : World) (hr0 : Kd.C k151 w A0 l0.length l0) (hc0 : l0.length ≤ c0) (h : iR.f l0 = some r) :
    Calls Tryz.prog 113 #[.slice A0 l0.length c0] w fun e w' => ∃ v0_ : Value, e = .returned (v0_) ∧ Kd.R k151 151 w' w.heap.size (fun _ => True) v0_ r ∧ Below w.heap.size w w' := by
  unfold iR.f at h
  split at h
  · rename_i hl
    obtain rfl := Option.some.inj h
    have hq : ∀ (w : World) (a : Option Addr) (n c n' c' : Nat), (binOp .eql 24 (.slice a n c) (.slice none n' c')).run Tryz.prog w = .ok (.bool a.isNone) w := fun w a n c n' c' => Lib.run_eql_slice_nil w _ _ a n c n' c' Tryz.underlying24
    have HR0 := aa.mk hr0
    have HC0 := aa.mk hc0
    have HL := aa.mk hl
    cases A0 with
    | none =>
      have hn : l0 = [] := by
        cases l0 with
        | nil => rfl
        | cons x t =>
          obtain ⟨_, _, h3⟩ := hr0
          obtain ⟨ad, h4, _⟩ := h3 (by simp)
          cases h4
      subst hn
      clear hr0 hc0 hl h
      go_enter Tryz.func113, Tryz.ntmps113
      go_wp2
      go_ret
      exact ⟨_, rfl, Kd.bW _ _ _ _ _, Below.refl _ _⟩
    | some ad =>
      have HN := aa.mk (je k151 151 w w.heap.size (fun _ => True) (Nat.le_refl _) trivial)
      have HB := aa.mk ((Below.refl w.heap.size w).alloc (Nat.le_refl _) (.cells #[] 151))
      clear hr0 hc0 hl h
      go_enter Tryz.func113, Tryz.ntmps113
      go_wp2_with (first | ((with_reducible refine bK (b := .append) (xs := #[.tmp 5, .tmp 6]) rfl ?_); at_builtin; refine Kd.ek k151 (w0 := w) w.heap.size rfl (.tmp 5) (.tmp 6) 24 151 (.agg #[(.int .i64 0), (.int .i64 0), (.int .i64 0)]) 24 rfl Tryz.underlying24 qp rfl (by decide) (by omega) (.slice (some ⟨w.heap.size, 0, none⟩) 0 0) ([] : List S151) l0 _ _ _ (fun _ => True) (fun _ => False) rfl rfl ?aO ?aR (fun _ _ h => h) (fun _ h => h.elim) ?aF ?aB ?aS ?aL ?_; (case aR => exact Kd.dA HR0.out _); (case aB => exact HB.out); (case aF => exact (fun _ _ => trivial)); (case aO => exact HN.out); (case aS => simp); (case aL => have := HL.out; simp only [List.length_nil]; omega); intro v1 w3 ho hb hg hat; have HO := aa.mk ho; have HB3 := aa.mk hb; clear ho hb hg hat))
      go_ret
      exact ⟨_, rfl, HO.out, HB3.out⟩
  · cases h
def gQ.f (l0 : List (Int)) : Option (List (Int)) := if l0.length < 140737488355328 then some l0 else none
set_option maxHeartbeats 2000000 in
set_option maxRecDepth 100000 in
theorem gQ.calls (A0 : Option Addr) (c0 : Nat) (l0 : List (Int)) (r : List (Int)) (w : World) (hr0 : Kd.C (Kd.int .u8) w A0 l0.length l0) (hc0 : l0.length ≤ c0) (h : gQ.f l0 = some r) :
    Calls Tryz.prog 117 #[.slice A0 l0.length c0] w fun e w' => ∃ v0_ : Value, e = .returned (v0_) ∧ Kd.R (Kd.int .u8) 5 w' w.heap.size (fun _ => True) v0_ r ∧ Below w.heap.size w w' := by
  unfold gQ.f at h
  split at h
  · rename_i hl
    obtain rfl := Option.some.inj h
    have hq : ∀ (w : World) (a : Option Addr) (n c n' c' : Nat), (binOp .eql 37 (.slice a n c) (.slice none n' c')).run Tryz.prog w = .ok (.bool a.isNone) w := fun w a n c n' c' => Lib.run_eql_slice_nil w _ _ a n c n' c' Tryz.underlying37
    have HR0 := aa.mk hr0
    have HC0 := aa.mk hc0
    have HL := aa.mk hl
    cases A0 with
    | none =>
      have hn : l0 = [] := by
        cases l0 with
        | nil => rfl
        | cons x t =>
          obtain ⟨_, _, h3⟩ := hr0
          obtain ⟨ad, h4, _⟩ := h3 (by simp)
          cases h4
      subst hn
      clear hr0 hc0 hl h
      go_enter Tryz.func117, Tryz.ntmps117
      go_wp2
      go_ret
      exact ⟨_, rfl, Kd.bW _ _ _ _ _, Below.refl _ _⟩
    | some ad =>
      have HN := aa.mk (je (Kd.int .u8) 5 w w.heap.size (fun _ => True) (Nat.le_refl _) trivial)
      have HB := aa.mk ((Below.refl w.heap.size w).alloc (Nat.le_refl _) (.cells #[] 5))
      clear hr0 hc0 hl h
      go_enter Tryz.func117, Tryz.ntmps117
      go_wp2_with (first | ((with_reducible refine bK (b := .append) (xs := #[.tmp 5, .tmp 6]) rfl ?_); at_builtin; refine Kd.ek (Kd.int .u8) (w0 := w) w.heap.size rfl (.tmp 5) (.tmp 6) 37 5 (.int .u8 0) 1 rfl Tryz.underlying37 (by kernel_rfl) rfl (by decide) (by omega) (.slice (some ⟨w.heap.size, 0, none⟩) 0 0) ([] : List Int) l0 _ _ _ (fun _ => True) (fun _ => False) rfl rfl ?aO ?aR (fun _ _ h => h) (fun _ h => h.elim) ?aF ?aB ?aS ?aL ?_; (case aR => exact Kd.dA HR0.out _); (case aB => exact HB.out); (case aF => exact (fun _ _ => trivial)); (case aO => exact HN.out); (case aS => simp); (case aL => have := HL.out; simp only [List.length_nil]; omega); intro v1 w3 ho hb hg hat; have HO := aa.mk ho; have HB3 := aa.mk hb; clear ho hb hg hat))
      go_ret
      exact ⟨_, rfl, HO.out, HB3.out⟩
  · cases h
structure RawS where
  f0 : Int
  f1 : ByteArray
  f2 : Int
  A : Option Addr
  n : Nat
  c : Nat
def zi (x : RawS) : List Value := [.int .i64 x.f0, .string x.f1, .int .i64 x.f2, .slice x.A x.n x.c]
abbrev kSl : Kd (Option Addr × Nat × Nat) := Kd.scalar (fun y : Option Addr × Nat × Nat => Value.slice y.1 y.2.1 y.2.2) (fun _ => rfl)
def kRS : Kd RawS := Kd.iso (Kd.pair (Kd.int .i64) (Kd.pair Kd.string (Kd.pair (Kd.int .i64) kSl))) (fun x => (x.f0, x.f1, x.f2, (x.A, x.n, x.c)))
theorem oP : Flat kRS zi :=
  ⟨fun _ => rfl, by decide, fun x v hv => by
    simp only [zi, List.mem_cons, List.not_mem_nil, or_false] at hv
    rcases hv with rfl | rfl | rfl | rfl <;> rfl, fun h => by
    obtain ⟨_, _, rfl, rfl, _, _, rfl, rfl, _, _, rfl, rfl, rfl⟩ := h
    rfl, fun w base ok x => ⟨_, _, rfl, rfl, _, _, rfl, rfl, _, _, rfl, rfl, rfl⟩⟩
structure RawB where
  A : Option Addr
  n : Nat
  c : Nat
def zq (x : RawB) : List Value := [.slice x.A x.n x.c]
def kRB : Kd RawB := Kd.iso kSl (fun x => (x.A, x.n, x.c))
theorem pG : Flat kRB zq :=
  ⟨fun _ => rfl, by decide, fun x v hv => by
    simp only [zq, List.mem_cons, List.not_mem_nil, or_false] at hv
    rw [hv]; rfl, fun h => h, fun w base ok x => rfl⟩
def Ak (w : World) (p : RawS × S69) : Prop := p.1.f0 = p.2.f0 ∧ p.1.f1 = p.2.f1 ∧ p.1.f2 = p.2.f2 ∧ p.1.n = p.2.f3.length ∧ p.1.n ≤ p.1.c ∧ Kd.C k151 w p.1.A p.2.f3.length p.2.f3
def Bc (w : World) (p : RawB × List Int) : Prop := p.1.n = p.2.length ∧ p.1.n ≤ p.1.c ∧ Kd.C (Kd.int .u8) w p.1.A p.2.length p.2
theorem qU {α β : Type} {d : Kd α} {e : Kd β} {enc : β → List Value} (hsz : e.sz = d.sz) (hK : ∀ w b, e.K w b (enc b)) {w : World} {A : Option Addr} {n : Nat} {xs : List α} {F : β × α → Prop} (h : Kd.C d w A n xs) (hf : ∀ x cs, d.K w x cs → ∃ b, cs = enc b ∧ F (b, x)) :
    ∃ ps : List (β × α), ps.map (·.2) = xs ∧ Kd.C e w A n (ps.map (·.1)) ∧ ∀ p ∈ ps, F p := by
  obtain ⟨h1, h2, h3⟩ := h
  have key : ∃ ps : List (β × α), ps.map (·.2) = xs ∧ (∀ p ∈ ps, F p) ∧ ∀ ad, A = some ad → 0 < n → ∀ j p, ps[j]? = some p → ∀ i u, (enc p.1)[i]? = some u → w.cell? (ad.add (j * d.sz + i)) = some u := by
    rcases Nat.eq_zero_or_pos n with h0 | hp
    · have : xs = [] := List.eq_nil_of_length_eq_zero (by omega)
      subst this
      exact ⟨[], rfl, fun p hp => by (cases hp), fun ad _ hp => by omega⟩
    · obtain ⟨ad, rfl, hc⟩ := h3 hp
      have hex : ∀ j : Fin xs.length, ∃ b, F (b, xs[j]) ∧ ∀ i u, (enc b)[i]? = some u → w.cell? (ad.add (j.1 * d.sz + i)) = some u := fun j => by
        obtain ⟨cs, _, h5, h6⟩ := hc j.1 xs[j] (List.getElem?_eq_getElem j.2)
        obtain ⟨b, rfl, h7⟩ := hf _ _ h5
        exact ⟨b, h7, h6⟩
      let f : Fin xs.length → β × α := fun j => (Classical.choose (hex j), xs[j])
      refine ⟨List.ofFn f, ?_, fun p hp => ?_, fun ad' he _ j p hj i u hu => ?_⟩
      · rw [List.map_ofFn]
        exact List.ofFn_getElem
      · obtain ⟨j, rfl⟩ := List.mem_ofFn.1 hp
        exact (Classical.choose_spec (hex j)).1
      · injection he with he
        subst he
        have hjl : j < xs.length := by have := (List.getElem?_eq_some_iff.1 hj).1; simpa using this
        rw [List.getElem?_ofFn, dif_pos hjl] at hj
        have hp2 := Option.some.inj hj
        subst hp2
        exact (Classical.choose_spec (hex ⟨j, hjl⟩)).2 i u hu
  obtain ⟨ps, k1, k2, k3⟩ := key
  have hl : ps.length = n := by have := congrArg List.length k1; rw [List.length_map] at this; omega
  refine ⟨ps, k1, ⟨by rw [List.length_map]; exact hl, h2, fun hp => ?_⟩, k2⟩
  obtain ⟨ad, rfl, _⟩ := h3 hp
  refine ⟨ad, rfl, fun j p hj => ?_⟩
  rw [List.getElem?_map] at hj
  obtain ⟨q, hq, rfl⟩ := Option.map_eq_some_iff.1 hj
  refine ⟨enc q.1, by rw [← e.K_len (hK w q.1)], hK w q.1, fun i u hu => ?_⟩
  rw [hsz]
  exact k3 ad rfl hp j q hq i u hu
theorem pairsS {w : World} {A : Option Addr} {n : Nat} {xs : List S69} (h : Kd.C k69 w A n xs) : ∃ ps : List (RawS × S69), ps.map (·.2) = xs ∧ Kd.C kRS w A n (ps.map (·.1)) ∧ ∀ p ∈ ps, Ak w p :=
  qU (d := k69) (e := kRS) (enc := zi) (F := Ak w) rfl (fun w b => kRS.K_of_M (oP.mkM w 0 (fun _ => True) b)) h fun x cs hk => by
    obtain ⟨A3, c3, rfl, hl, hC⟩ := lv hk
    exact ⟨⟨x.f0, x.f1, x.f2, A3, x.f3.length, c3⟩, rfl, rfl, rfl, rfl, rfl, hl, hC⟩
theorem pairsB {w : World} {A : Option Addr} {n : Nat} {xs : List (List Int)} (h : Kd.C kLB w A n xs) : ∃ ps : List (RawB × List Int), ps.map (·.2) = xs ∧ Kd.C kRB w A n (ps.map (·.1)) ∧ ∀ p ∈ ps, Bc w p :=
  qU (d := kLB) (e := kRB) (enc := zq) (F := Bc w) rfl (fun w b => kRB.K_of_M (pG.mkM w 0 (fun _ => True) b)) h fun x cs hk => by
    obtain ⟨A3, c3, rfl, hl, hC⟩ := hk
    exact ⟨⟨A3, x.length, c3⟩, rfl, rfl, hl, hC⟩
def jZ.f (l0 : List (RawS)) : Option (List (RawS)) := if l0.length < 2513169434916 then some l0 else none
set_option maxHeartbeats 2000000 in
set_option maxRecDepth 100000 in
theorem jZ.calls (A0 : Option Addr) (c0 : Nat) (l0 : List (RawS)) (r : List (RawS)) (w : World) (hr0 : Kd.C kRS w A0 l0.length l0) (hc0 : l0.length ≤ c0) (h : jZ.f l0 = some r) :
    Calls Tryz.prog 114 #[.slice A0 l0.length c0] w fun e w' => ∃ v0_ : Value, e = .returned (v0_) ∧ Kd.R kRS 69 w' w.heap.size (fun _ => True) v0_ r ∧ Below w.heap.size w w' := by
  unfold jZ.f at h
  split at h
  · rename_i hl
    obtain rfl := Option.some.inj h
    have hq : ∀ (w : World) (a : Option Addr) (n c n' c' : Nat), (binOp .eql 25 (.slice a n c) (.slice none n' c')).run Tryz.prog w = .ok (.bool a.isNone) w := fun w a n c n' c' => Lib.run_eql_slice_nil w _ _ a n c n' c' Tryz.underlying25
    have HR0 := aa.mk hr0
    have HC0 := aa.mk hc0
    have HL := aa.mk hl
    cases A0 with
    | none =>
      have hn : l0 = [] := by
        cases l0 with
        | nil => rfl
        | cons x t =>
          obtain ⟨_, _, h3⟩ := hr0
          obtain ⟨ad, h4, _⟩ := h3 (by simp)
          cases h4
      subst hn
      clear hr0 hc0 hl h
      go_enter Tryz.func114, Tryz.ntmps114
      go_wp2
      go_ret
      exact ⟨_, rfl, Kd.bW _ _ _ _ _, Below.refl _ _⟩
    | some ad =>
      have HN := aa.mk (je kRS 69 w w.heap.size (fun _ => True) (Nat.le_refl _) trivial)
      have HB := aa.mk ((Below.refl w.heap.size w).alloc (Nat.le_refl _) (.cells #[] 69))
      clear hr0 hc0 hl h
      go_enter Tryz.func114, Tryz.ntmps114
      go_wp2_with (first | ((with_reducible refine bK (b := .append) (xs := #[.tmp 5, .tmp 6]) rfl ?_); at_builtin; refine Kd.ek kRS (w0 := w) w.heap.size rfl (.tmp 5) (.tmp 6) 25 69 (.agg #[(.int .i64 0), (.string ⟨#[]⟩), (.int .i64 0), (.slice none 0 0)]) 56 rfl Tryz.underlying25 (by kernel_rfl) rfl (by decide) (by omega) (.slice (some ⟨w.heap.size, 0, none⟩) 0 0) ([] : List RawS) l0 _ _ _ (fun _ => True) (fun _ => False) rfl rfl ?aO ?aR (fun _ _ h => h) (fun _ h => h.elim) ?aF ?aB ?aS ?aL ?_; (case aR => exact Kd.dA HR0.out _); (case aB => exact HB.out); (case aF => exact (fun _ _ => trivial)); (case aO => exact HN.out); (case aS => simp); (case aL => have := HL.out; simp only [List.length_nil]; omega); intro v1 w3 ho hb hg hat; have HO := aa.mk ho; have HB3 := aa.mk hb; clear ho hb hg hat))
      go_ret
      exact ⟨_, rfl, HO.out, HB3.out⟩
  · cases h
def jU.f (l0 : List (RawB)) : Option (List (RawB)) := if l0.length < 5864062014805 then some l0 else none
set_option maxHeartbeats 2000000 in
set_option maxRecDepth 100000 in
theorem jU.calls (A0 : Option Addr) (c0 : Nat) (l0 : List (RawB)) (r : List (RawB)) (w : World) (hr0 : Kd.C kRB w A0 l0.length l0) (hc0 : l0.length ≤ c0) (h : jU.f l0 = some r) :
    Calls Tryz.prog 116 #[.slice A0 l0.length c0] w fun e w' => ∃ v0_ : Value, e = .returned (v0_) ∧ Kd.R kRB 37 w' w.heap.size (fun _ => True) v0_ r ∧ Below w.heap.size w w' := by
  unfold jU.f at h
  split at h
  · rename_i hl
    obtain rfl := Option.some.inj h
    have hq : ∀ (w : World) (a : Option Addr) (n c n' c' : Nat), (binOp .eql 29 (.slice a n c) (.slice none n' c')).run Tryz.prog w = .ok (.bool a.isNone) w := fun w a n c n' c' => Lib.run_eql_slice_nil w _ _ a n c n' c' Tryz.underlying29
    have HR0 := aa.mk hr0
    have HC0 := aa.mk hc0
    have HL := aa.mk hl
    cases A0 with
    | none =>
      have hn : l0 = [] := by
        cases l0 with
        | nil => rfl
        | cons x t =>
          obtain ⟨_, _, h3⟩ := hr0
          obtain ⟨ad, h4, _⟩ := h3 (by simp)
          cases h4
      subst hn
      clear hr0 hc0 hl h
      go_enter Tryz.func116, Tryz.ntmps116
      go_wp2
      go_ret
      exact ⟨_, rfl, Kd.bW _ _ _ _ _, Below.refl _ _⟩
    | some ad =>
      have HN := aa.mk (je kRB 37 w w.heap.size (fun _ => True) (Nat.le_refl _) trivial)
      have HB := aa.mk ((Below.refl w.heap.size w).alloc (Nat.le_refl _) (.cells #[] 37))
      clear hr0 hc0 hl h
      go_enter Tryz.func116, Tryz.ntmps116
      go_wp2_with (first | ((with_reducible refine bK (b := .append) (xs := #[.tmp 5, .tmp 6]) rfl ?_); at_builtin; refine Kd.ek kRB (w0 := w) w.heap.size rfl (.tmp 5) (.tmp 6) 29 37 (.slice none 0 0) 24 rfl Tryz.underlying29 (by kernel_rfl) rfl (by decide) (by omega) (.slice (some ⟨w.heap.size, 0, none⟩) 0 0) ([] : List RawB) l0 _ _ _ (fun _ => True) (fun _ => False) rfl rfl ?aO ?aR (fun _ _ h => h) (fun _ h => h.elim) ?aF ?aB ?aS ?aL ?_; (case aR => exact Kd.dA HR0.out _); (case aB => exact HB.out); (case aF => exact (fun _ _ => trivial)); (case aO => exact HN.out); (case aS => simp); (case aL => have := HL.out; simp only [List.length_nil]; omega); intro v1 w3 ho hb hg hat; have HO := aa.mk ho; have HB3 := aa.mk hb; clear ho hb hg hat))
      go_ret
      exact ⟨_, rfl, HO.out, HB3.out⟩
  · cases h
structure Owns (w : World) (base : Nat) (ok : Nat → Prop) (s : St) (a : At4) : Prop where
  o1 : Kd.R k151 151 w base ok (.slice a.A1 s.now.length a.c1) s.now
  o2 : Kd.R k69 69 w base ok (.slice a.A2 s.snaps.length a.c2) s.snaps
  o5 : Kd.R k93 93 w base ok (.slice a.A5 s.sp.length a.c5) s.sp
  o6 : Kd.R kLB 37 w base ok (.slice a.A6 s.data.length a.c6) s.data
theorem Owns.reads {w : World} {base : Nat} {ok : Nat → Prop} {s : St} {a : At4} (h : Owns w base ok s a) : Reads w s a :=
  ⟨(Kd.bu h.o1).2.2, (Kd.bu h.o1).2.1, (Kd.bu h.o2).2.2, (Kd.bu h.o2).2.1, (Kd.bu h.o5).2.2, (Kd.bu h.o5).2.1, (Kd.bu h.o6).2.2, (Kd.bu h.o6).2.1⟩
theorem Owns.below {w w1 : World} {base : Nat} {ok : Nat → Prop} {s : St} {a : At4} (h : Owns w base ok s a) (hb : Below w.heap.size w w1) : Owns w1 base ok s a :=
  ⟨Kd.bA h.o1 hb, Kd.bA h.o2 hb, Kd.bA h.o5 hb, Kd.bA h.o6 hb⟩
structure Small (s : St) : Prop where
  n1 : s.now.length ≤ 1024
  n2 : s.snaps.length ≤ 8
  n3 : ∀ x ∈ s.snaps, x.f3.length ≤ 1024
  n5 : s.sp.length ≤ 1024
  n6 : s.data.length ≤ 65536
  n7 : ∀ b ∈ s.data, b.length ≤ 64
theorem nU {α : Type} {d : Kd α} {e B L : Nat} {w w1 : World} {v : Value} {xs : List α} (h : d.R e w1 w.heap.size (fun _ => True) v xs) (hB : B ≤ w.heap.size) (hL : L ≤ w.heap.size) : d.R e w1 B (fun k => L ≤ k) v xs :=
  Kd.bH (Kd.aX (Kd.bO h) (fun k hk => Nat.le_trans hL hk.2.1)) hB
theorem p_ {α β : Type} {d : Kd α} {dr : Kd β} {enc : β → List Value} (F : Flat dr enc) (hsz : dr.sz = d.sz) {e : Nat} {w : World} {base : Nat} {ok : Nat → Prop} {v : Value} {ps : List (β × α)} (h : dr.R e w base ok v (ps.map (·.1)))
    (hM : ∀ p ∈ ps, d.M w base (fun k => ok k ∧ some k ≠ v.ownBlock) p.2 (enc p.1)) : d.R e w base ok v (ps.map (·.2)) := by
  obtain ⟨hok, inner, hown, hr⟩ := h
  rw [List.length_map] at hown
  refine ⟨hok, inner, ?_, ?_, fun j p hj => ?_⟩
  · rw [List.length_map, ← hsz]; exact hown
  · rw [List.length_map, ← hsz]
    have := hr.1
    rw [List.length_map] at this
    exact this
  · rw [List.getElem?_map] at hj
    obtain ⟨q, hq, rfl⟩ := Option.map_eq_some_iff.1 hj
    have h1 := F.openM (hr.2 j q.1 (by rw [List.getElem?_map, hq]; rfl))
    rw [← hsz, h1]
    exact hM q (List.mem_of_getElem? hq)
def yM (base : Nat) (ok : Nat → Prop) (w : World) (p : RawS × S69) : Prop := p.1.f0 = p.2.f0 ∧ p.1.f1 = p.2.f1 ∧ p.1.f2 = p.2.f2 ∧ Kd.R k151 151 w base ok (.slice p.1.A p.1.n p.1.c) p.2.f3
def yG (base : Nat) (ok : Nat → Prop) (w : World) (p : RawB × List Int) : Prop := Kd.R (Kd.int .u8) 5 w base ok (.slice p.1.A p.1.n p.1.c) p.2
theorem rows_S {w : World} {base : Nat} {ok : Nat → Prop} {v : Value} {ps : List (RawS × S69)} (h : kRS.R 69 w base ok v (ps.map (·.1))) (hf : ∀ p ∈ ps, yM base (fun k => ok k ∧ some k ≠ v.ownBlock) w p) : Kd.R k69 69 w base ok v (ps.map (·.2)) :=
  p_ (d := k69) oP rfl h fun p hp => by
    obtain ⟨h1, h2, h3, h4⟩ := hf p hp
    have hn := (Kd.bu h4).1
    obtain ⟨⟨f0, f1, f2, A, n, c⟩, x⟩ := p
    simp only at h1 h2 h3 h4 hn
    subst h1 h2 h3 hn
    exact vX w base _ x h4
theorem rows_B {w : World} {base : Nat} {ok : Nat → Prop} {v : Value} {ps : List (RawB × List Int)} (h : kRB.R 37 w base ok v (ps.map (·.1))) (hf : ∀ p ∈ ps, yG base (fun k => ok k ∧ some k ≠ v.ownBlock) w p) : Kd.R kLB 37 w base ok v (ps.map (·.2)) :=
  p_ (d := kLB) pG rfl h fun p hp => by
    have h4 := hf p hp
    exact ⟨_, rfl, h4⟩
def NIL7 : Array Value := #[.int .i64 0, .slice none 0 0, .slice none 0 0, .int .i64 0, .int .i64 0, .slice none 0 0, .slice none 0 0]
def ok2 (B : Nat) (v2 v6 : Value) (k : Nat) : Prop := B + 2 ≤ k ∧ some k ≠ v2.ownBlock ∧ some k ≠ v6.ownBlock
structure Mid (w0 : World) (s : St) (v1 v2 v5 v6 : Value) (qs : List (RawS × S69)) (rs : List (RawB × List Int)) (i j : Nat) (w : World) : Prop where
  hx : w.heap[w0.heap.size]? = some (.cells #[.int .i64 s.size, v1, v2, .int .i64 s.next, .int .i64 s.fsize, v5, v6] 31 (0, 0))
  hy : w.heap[w0.heap.size + 1]? = some (.cells NIL7 31 (0, 0))
  hb : Below w0.heap.size w0 w
  r1 : Kd.R k151 151 w w0.heap.size (ok2 w0.heap.size v2 v6) v1 s.now
  r2 : Kd.R kRS 69 w w0.heap.size (fun k => w0.heap.size + 2 ≤ k ∧ some k ≠ v6.ownBlock) v2 (qs.map (·.1))
  r5 : Kd.R k93 93 w w0.heap.size (ok2 w0.heap.size v2 v6) v5 s.sp
  r6 : Kd.R kRB 37 w w0.heap.size (fun k => w0.heap.size + 2 ≤ k ∧ some k ≠ v2.ownBlock) v6 (rs.map (·.1))
  q2 : qs.map (·.2) = s.snaps
  q6 : rs.map (·.2) = s.data
  fs : ∀ t p, qs[t]? = some p → t < i → yM w0.heap.size (ok2 w0.heap.size v2 v6) w p
  cs : ∀ t p, qs[t]? = some p → i ≤ t → Ak w0 p
  fb : ∀ t p, rs[t]? = some p → t < j → yG w0.heap.size (ok2 w0.heap.size v2 v6) w p
  cb : ∀ t p, rs[t]? = some p → j ≤ t → Bc w0 p
section
variable {w0 w w1 : World} {s : St} {v1 v2 v5 v6 : Value} {qs : List (RawS × S69)} {rs : List (RawB × List Int)} {i j : Nat}
theorem Mid.below (h : Mid w0 s v1 v2 v5 v6 qs rs i j w) (hb : Below w.heap.size w w1) : Mid w0 s v1 v2 v5 v6 qs rs i j w1 where
  hx := (hb.block _ (aA h.hx)).trans h.hx
  hy := (hb.block _ (aA h.hy)).trans h.hy
  hb := h.hb.trans (hb.mono h.hb.size)
  r1 := Kd.bA h.r1 hb
  r2 := Kd.bA h.r2 hb
  r5 := Kd.bA h.r5 hb
  r6 := Kd.bA h.r6 hb
  q2 := h.q2
  q6 := h.q6
  fs := fun t p hp ht => by
    obtain ⟨h1, h2, h3, h4⟩ := h.fs t p hp ht
    exact ⟨h1, h2, h3, Kd.bA h4 hb⟩
  cs := h.cs
  fb := fun t p hp ht => Kd.bA (h.fb t p hp ht) hb
  cb := h.cb
theorem qL {α β : Type} (l : List (α × β)) (i : Nat) (x : α) (y : β) (h : (l.map (·.2))[i]? = some y) : (l.set i (x, y)).map (·.2) = l.map (·.2) := by
  rw [List.map_set]
  apply List.ext_getElem?
  intro t
  rw [List.getElem?_set]
  split
  · rename_i h1
    subst h1
    split
    · exact h.symm
    · rename_i h2; rw [List.getElem?_eq_none (by omega)]
  · rfl
theorem Mid.putS (h : Mid w0 s v1 v2 v5 v6 qs rs i j w) {g n c : Nat} (hv : v2 = .slice (some ⟨g, 0, none⟩) n c) (x : RawS) (y : S69) (hi : qs[i]? = some (x, y)) (A : Option Addr) (m cc : Nat)
    (hR : Kd.R k151 151 w w0.heap.size (ok2 w0.heap.size v2 v6) (.slice A m cc) y.f3) :
    Mid w0 s v1 v2 v5 v6 (qs.set i (⟨x.f0, x.f1, x.f2, A, m, cc⟩, y)) rs (i + 1) j (w.setCell ⟨g, i * 4 + 3, none⟩ (.slice A m cc)) := by
  have hil := (List.getElem?_eq_some_iff.1 hi).1
  have hown : v2.ownBlock = some g := by rw [hv]; rfl
  have hr2 := h.r2
  rw [hv] at hr2
  have hg1 := hr2.1 g rfl
  have hn := (Kd.bu hr2).1
  rw [List.length_map] at hn
  rcases iZ oP hr2 with ⟨h1, _⟩ | ⟨g', cap, h1, hbg, _, hL⟩
  · cases h1
  injection h1 with ha _ hcc
  injection ha with ha
  injection ha with ha
  subst ha; subst hcc
  have hgx : g ≠ w0.heap.size := by omega
  have hgy : g ≠ w0.heap.size + 1 := by omega
  have hCi := h.cs i _ hi (Nat.le_refl _)
  obtain ⟨cur, k1, k2, k3, k4, k5⟩ := hL
  have hfar : ∀ k, k ≠ g → (w.setCell ⟨g, i * 4 + 3, none⟩ (.slice A m cc)).heap[k]? = w.heap[k]? := fun k hk => Below.heap_setCell w ⟨g, i * 4 + 3, none⟩ _ k hk
  have hok : ∀ k, ok2 w0.heap.size v2 v6 k → k < w.heap.size → (w.setCell ⟨g, i * 4 + 3, none⟩ (.slice A m cc)).heap[k]? = w.heap[k]? := fun k hk _ => hfar k fun he => hk.2.1 (by rw [hown, he])
  have hnew : (w.setCell ⟨g, i * 4 + 3, none⟩ (.slice A m cc)).heap[g]? = some (.cells (cur.setIfInBounds (i * 4 + 3) (.slice A m cc)) 69 (0, 0)) := jL k1 _ _
  exact {
    hx := (hfar _ (Ne.symm hgx)).trans h.hx
    hy := (hfar _ (Ne.symm hgy)).trans h.hy
    hb := h.hb.setCell (p := ⟨g, i * 4 + 3, none⟩) hbg _
    r1 := Kd.bR h.r1 hok
    r2 := by
      have e1 : (qs.set i (⟨x.f0, x.f1, x.f2, A, m, cc⟩, y)).map (·.1) = (qs.map (·.1)).set i ⟨x.f0, x.f1, x.f2, A, m, cc⟩ := by rw [List.map_set]
      have hl1 : ((qs.set i (⟨x.f0, x.f1, x.f2, A, m, cc⟩, y)).map (·.1)).length = qs.length := by simp
      rw [hv, hn, ← hl1]
      refine gF oP hbg hg1 ⟨_, hnew, by rw [Array.size_setIfInBounds]; exact k2, by rw [hl1]; rw [List.length_map] at k3; exact k3, k4, fun t z hz q u hu => ?_⟩
      rw [e1, List.getElem?_set, List.length_map] at hz
      have hq : q < 4 := by have := (List.getElem?_eq_some_iff.1 hu).1; exact this
      split at hz
      · rename_i hti
        subst hti
        (try rw [if_pos hil] at hz)
        replace hz := Option.some.inj hz
        subst hz
        have hold := k5 i x (by rw [List.getElem?_map, hi]; rfl)
        have hcs : i * 4 + 3 < cur.size := by
          rw [k2, List.length_map] at *
          have : (i + 1) * 4 ≤ c * 4 := Nat.mul_le_mul_right _ (by omega)
          show _ < c * 4
          omega
        rw [Array.getElem?_setIfInBounds]
        have hsz : kRS.sz = 4 := rfl
        rw [hsz]
        match q, hq with
        | 0, _ => rw [if_neg (by omega)]; exact (hold 0 _ rfl).trans hu
        | 1, _ => rw [if_neg (by omega)]; exact (hold 1 _ rfl).trans hu
        | 2, _ => rw [if_neg (by omega)]; exact (hold 2 _ rfl).trans hu
        | 3, _ => rw [if_pos rfl, if_pos hcs]; exact hu
      · rename_i hti
        rw [Array.getElem?_setIfInBounds, if_neg (by show i * 4 + 3 ≠ t * 4 + q; omega)]
        exact k5 t z hz q u hu
    r5 := Kd.bR h.r5 hok
    r6 := Kd.bR h.r6 fun k hk _ => hfar k fun he => hk.2 (by rw [hown, he])
    q2 := by rw [qL _ _ _ _ (by rw [List.getElem?_map, hi]; rfl)]; exact h.q2
    q6 := h.q6
    fs := fun t p hp ht => by
      rw [List.getElem?_set] at hp
      split at hp
      · rename_i hti
        (try rw [if_pos hil] at hp)
        replace hp := Option.some.inj hp
        subst hp
        exact ⟨hCi.1, hCi.2.1, hCi.2.2.1, Kd.bR hR hok⟩
      · rename_i hti
        obtain ⟨h1, h2, h3, h4⟩ := h.fs t p hp (by omega)
        exact ⟨h1, h2, h3, Kd.bR h4 hok⟩
    cs := fun t p hp ht => by
      rw [List.getElem?_set, if_neg (by omega)] at hp
      exact h.cs t p hp (by omega)
    fb := fun t p hp ht => Kd.bR (h.fb t p hp ht) hok
    cb := h.cb }
theorem Mid.putB (h : Mid w0 s v1 v2 v5 v6 qs rs i j w) {g n c : Nat} (hv : v6 = .slice (some ⟨g, 0, none⟩) n c) (x : RawB) (y : List Int) (hi : rs[j]? = some (x, y)) (A : Option Addr) (m cc : Nat)
    (hR : Kd.R (Kd.int .u8) 5 w w0.heap.size (ok2 w0.heap.size v2 v6) (.slice A m cc) y) :
    Mid w0 s v1 v2 v5 v6 qs (rs.set j (⟨A, m, cc⟩, y)) i (j + 1) (w.setCell ⟨g, j, none⟩ (.slice A m cc)) := by
  have hil := (List.getElem?_eq_some_iff.1 hi).1
  have hown : v6.ownBlock = some g := by rw [hv]; rfl
  have hr2 := h.r6
  rw [hv] at hr2
  have hg1 := hr2.1 g rfl
  have hn := (Kd.bu hr2).1
  rw [List.length_map] at hn
  rcases iZ pG hr2 with ⟨h1, _⟩ | ⟨g', cap, h1, hbg, _, hL⟩
  · cases h1
  injection h1 with ha _ hcc
  injection ha with ha
  injection ha with ha
  subst ha; subst hcc
  have hgx : g ≠ w0.heap.size := by omega
  have hgy : g ≠ w0.heap.size + 1 := by omega
  obtain ⟨cur, k1, k2, k3, k4, k5⟩ := hL
  have hfar : ∀ k, k ≠ g → (w.setCell ⟨g, j, none⟩ (.slice A m cc)).heap[k]? = w.heap[k]? := fun k hk => Below.heap_setCell w ⟨g, j, none⟩ _ k hk
  have hok : ∀ k, ok2 w0.heap.size v2 v6 k → k < w.heap.size → (w.setCell ⟨g, j, none⟩ (.slice A m cc)).heap[k]? = w.heap[k]? := fun k hk _ => hfar k fun he => hk.2.2 (by rw [hown, he])
  have hnew : (w.setCell ⟨g, j, none⟩ (.slice A m cc)).heap[g]? = some (.cells (cur.setIfInBounds j (.slice A m cc)) 37 (0, 0)) := jL k1 _ _
  exact {
    hx := (hfar _ (Ne.symm hgx)).trans h.hx
    hy := (hfar _ (Ne.symm hgy)).trans h.hy
    hb := h.hb.setCell (p := ⟨g, j, none⟩) hbg _
    r1 := Kd.bR h.r1 hok
    r2 := Kd.bR h.r2 fun k hk _ => hfar k fun he => hk.2 (by rw [hown, he])
    r5 := Kd.bR h.r5 hok
    r6 := by
      have e1 : (rs.set j (⟨A, m, cc⟩, y)).map (·.1) = (rs.map (·.1)).set j ⟨A, m, cc⟩ := by rw [List.map_set]
      have hl1 : ((rs.set j (⟨A, m, cc⟩, y)).map (·.1)).length = rs.length := by simp
      rw [hv, hn, ← hl1]
      refine gF pG hbg hg1 ⟨_, hnew, by rw [Array.size_setIfInBounds]; exact k2, by rw [hl1]; rw [List.length_map] at k3; exact k3, k4, fun t z hz q u hu => ?_⟩
      rw [e1, List.getElem?_set, List.length_map] at hz
      have hq : q < 1 := by have := (List.getElem?_eq_some_iff.1 hu).1; exact this
      have hq0 : q = 0 := by omega
      subst hq0
      have hsz : kRB.sz = 1 := rfl
      rw [hsz, Nat.mul_one, Nat.add_zero]
      split at hz
      · rename_i hti
        subst hti
        (try rw [if_pos hil] at hz)
        replace hz := Option.some.inj hz
        subst hz
        have hcs : j < cur.size := by
          rw [List.length_map] at k3
          rw [k2]
          show j < c * 1
          omega
        rw [Array.getElem?_setIfInBounds, if_pos rfl, if_pos hcs]
        exact hu
      · rename_i hti
        rw [Array.getElem?_setIfInBounds, if_neg hti]
        have := k5 t z hz 0 u hu
        rw [hsz, Nat.mul_one, Nat.add_zero] at this
        exact this
    q2 := h.q2
    q6 := by rw [qL _ _ _ _ (by rw [List.getElem?_map, hi]; rfl)]; exact h.q6
    fs := fun t p hp ht => by
      obtain ⟨h1, h2, h3, h4⟩ := h.fs t p hp ht
      exact ⟨h1, h2, h3, Kd.bR h4 hok⟩
    cs := h.cs
    fb := fun t p hp ht => by
      rw [List.getElem?_set] at hp
      split at hp
      · rename_i hti
        (try rw [if_pos hil] at hp)
        replace hp := Option.some.inj hp
        subst hp
        exact Kd.bR hR hok
      · rename_i hti
        exact Kd.bR (h.fb t p hp (by omega)) hok
    cb := fun t p hp ht => by
      rw [List.getElem?_set, if_neg (by omega)] at hp
      exact h.cb t p hp (by omega) }
theorem Mid.done (h : Mid w0 s v1 v2 v5 v6 qs rs qs.length rs.length w) : ∃ a : At4, v1 = .slice a.A1 s.now.length a.c1 ∧ v2 = .slice a.A2 s.snaps.length a.c2 ∧ v5 = .slice a.A5 s.sp.length a.c5 ∧ v6 = .slice a.A6 s.data.length a.c6 ∧ Owns w w0.heap.size (fun k => w0.heap.size + 2 ≤ k) s a := by
  have f2 := rows_S (Kd.aX h.r2 (ok' := fun k => w0.heap.size + 2 ≤ k) (fun k hk => hk.1)) fun p hp => by
    obtain ⟨t, ht⟩ := List.mem_iff_getElem?.1 hp
    obtain ⟨h1, h2, h3, h4⟩ := h.fs t p ht (List.getElem?_eq_some_iff.1 ht).1
    exact ⟨h1, h2, h3, Kd.aX h4 fun k hk => ⟨hk.1, hk.2.1⟩⟩
  have f6 := rows_B (Kd.aX h.r6 (ok' := fun k => w0.heap.size + 2 ≤ k) (fun k hk => hk.1)) fun p hp => by
    obtain ⟨t, ht⟩ := List.mem_iff_getElem?.1 hp
    exact Kd.aX (h.fb t p ht (List.getElem?_eq_some_iff.1 ht).1) fun k hk => ⟨hk.1, hk.2.2⟩
  rw [h.q2] at f2
  rw [h.q6] at f6
  obtain ⟨A1, c1, rfl⟩ := Kd.aZ h.r1
  obtain ⟨A5, c5, rfl⟩ := Kd.aZ h.r5
  obtain ⟨A2, c2, rfl⟩ := Kd.aZ f2
  obtain ⟨A6, c6, rfl⟩ := Kd.aZ f6
  exact ⟨⟨A1, c1, A2, c2, A5, c5, A6, c6⟩, rfl, rfl, rfl, rfl, Kd.aX h.r1 fun k hk => hk.1, f2, Kd.aX h.r5 fun k hk => hk.1, f6⟩
end
section
variable {w0 w w1 : World} {s : St} {v1 v2 v5 v6 : Value} {qs : List (RawS × S69)} {rs : List (RawB × List Int)} {i j : Nat}
theorem Mid.atS (h : Mid w0 s v1 v2 v5 v6 qs rs i j w) {t : Nat} {x : RawS} {y : S69} (hi : qs[t]? = some (x, y)) : ∃ g c, v2 = .slice (some ⟨g, 0, none⟩) qs.length c ∧ w.cell? ⟨g, t * 4, none⟩ = some (.int .i64 x.f0) ∧ w.cell? ⟨g, t * 4 + 1, none⟩ = some (.string x.f1) ∧ w.cell? ⟨g, t * 4 + 2, none⟩ = some (.int .i64 x.f2) ∧ w.cell? ⟨g, t * 4 + 3, none⟩ = some (.slice x.A x.n x.c) ∧ ∃ cs, w.heap[g]? = some (.cells cs 69 (0, 0)) := by
  rcases iZ oP h.r2 with ⟨_, h1⟩ | ⟨g, cap, h1, hbg, _, hL⟩
  · rw [List.map_eq_nil_iff] at h1; subst h1; cases hi
  · rw [List.length_map] at h1
    obtain ⟨cur, k1, k2, k3, k4, k5⟩ := hL
    have h5 := k5 t x (by rw [List.getElem?_map, hi]; rfl)
    have c0 := h5 0 _ rfl
    have c1 := h5 1 _ rfl
    have c2 := h5 2 _ rfl
    have c3 := h5 3 _ rfl
    exact ⟨g, cap, h1, (ae k1 _).trans c0, (ae k1 _).trans c1, (ae k1 _).trans c2, (ae k1 _).trans c3, cur, k1⟩
theorem Mid.atB (h : Mid w0 s v1 v2 v5 v6 qs rs i j w) {t : Nat} {x : RawB} {y : List Int} (hi : rs[t]? = some (x, y)) : ∃ g c, v6 = .slice (some ⟨g, 0, none⟩) rs.length c ∧ w.cell? ⟨g, t, none⟩ = some (.slice x.A x.n x.c) ∧ ∃ cs, w.heap[g]? = some (.cells cs 37 (0, 0)) := by
  rcases iZ pG h.r6 with ⟨_, h1⟩ | ⟨g, cap, h1, hbg, _, hL⟩
  · rw [List.map_eq_nil_iff] at h1; subst h1; cases hi
  · rw [List.length_map] at h1
    obtain ⟨cur, k1, k2, k3, k4, k5⟩ := hL
    have c0 := k5 t x (by rw [List.getElem?_map, hi]; rfl) 0 _ rfl
    rw [(show kRB.sz = 1 from rfl), Nat.mul_one, Nat.add_zero] at c0
    exact ⟨g, cap, h1, (ae k1 _).trans c0, cur, k1⟩
theorem Mid.own2 (h : Mid w0 s v1 v2 v5 v6 qs rs i j w) {k : Nat} (hk : w.heap.size ≤ k) : ok2 w0.heap.size v2 v6 k :=
  ⟨by have := aA h.hy; omega, fun e => by have := Kd.R_lt h.r2 k e.symm; omega, fun e => by have := Kd.R_lt h.r6 k e.symm; omega⟩
end
theorem gm {α β : Type} {l : List (α × β)} {m : List β} (h : l.map (·.2) = m) : l.length = m.length := by rw [← h, List.length_map]
theorem Owns.step {w wf : World} {base : Nat} {ok : Nat → Prop} {s : St} {a : At4} (h : Owns w base ok s a) (hf : ∀ k, ok k → k < w.heap.size → wf.heap[k]? = w.heap[k]?) : Owns wf base ok s a :=
  ⟨Kd.bR h.o1 hf, Kd.bR h.o2 hf, Kd.bR h.o5 hf, Kd.bR h.o6 hf⟩
theorem Owns.mono {w : World} {base : Nat} {ok ok' : Nat → Prop} {s : St} {a : At4} (h : Owns w base ok s a) (hf : ∀ k, ok k → ok' k) : Owns w base ok' s a :=
  ⟨Kd.aX h.o1 hf, Kd.aX h.o2 hf, Kd.aX h.o5 hf, Kd.aX h.o6 hf⟩
theorem Mid.owns {w0 w wf : World} {s : St} {B1 B2 B5 B6 : Option Addr} {d1 d2 d5 d6 : Nat} {qs : List (RawS × S69)} {rs : List (RawB × List Int)}
    (h : Mid w0 s (.slice B1 s.now.length d1) (.slice B2 s.snaps.length d2) (.slice B5 s.sp.length d5) (.slice B6 s.data.length d6) qs rs s.snaps.length s.data.length w) (hf : ∀ k, w0.heap.size + 2 ≤ k → wf.heap[k]? = w.heap[k]?) : Owns wf w0.heap.size (fun _ => True) s ⟨B1, d1, B2, d2, B5, d5, B6, d6⟩ := by
  have h' := h
  rw [← gm h.q2, ← gm h.q6] at h'
  have h2 : Mid w0 s (.slice B1 s.now.length d1) (.slice B2 s.snaps.length d2) (.slice B5 s.sp.length d5) (.slice B6 s.data.length d6) qs rs qs.length rs.length w := by rw [gm h.q2, gm h.q6]; exact h
  obtain ⟨⟨a1, a2, a3, a4, a5, a6, a7, a8⟩, e1, e2, e5, e6, hO⟩ := h2.done
  injection e1 with e1 _ e1'
  injection e2 with e2 _ e2'
  injection e5 with e5 _ e5'
  injection e6 with e6 _ e6'
  subst e1 e1' e2 e2' e5 e5' e6 e6'
  exact (hO.step fun k hk _ => hf k hk).mono fun _ _ => trivial
structure Sits (w0 : World) (b : Nat) (s : St) (a : At4) (w : World) : Prop where
  hx : w.heap[b]? = some (.cells (aI s a) 31 (0, 0))
  hb : Below w0.heap.size w0 w
  hbb : w0.heap.size ≤ b
  own : Owns w w0.heap.size (fun k => k ≠ b) s a
theorem Sits.below {w0 w w1 : World} {b : Nat} {s : St} {a : At4} (h : Sits w0 b s a w) (hb : Below w.heap.size w w1) : Sits w0 b s a w1 :=
  ⟨(hb.block _ (aA h.hx)).trans h.hx, h.hb.trans (hb.mono h.hb.size), h.hbb, h.own.below hb⟩
theorem Sits.reads {w0 w : World} {b : Nat} {s : St} {a : At4} (h : Sits w0 b s a w) : Reads w s a := h.own.reads
theorem Sits.upd {w0 w w1 : World} {b : Nat} {s s' : St} {a a' : At4} (h : Sits w0 b s a w) (hfar : ∀ k, k ≠ b → w1.heap[k]? = w.heap[k]?) (hbel : Below w0.heap.size w0 w1)
    (hnew : w1.heap[b]? = some (.cells (aI s' a') 31 (0, 0))) (hown : Owns w w0.heap.size (fun k => k ≠ b) s' a') : Sits w0 b s' a' w1 :=
  ⟨hnew, hbel, h.hbb, hown.step fun k hk _ => hfar k hk⟩
theorem Sits.uf {w0 w : World} {b : Nat} {s : St} {a : At4} (h : Sits w0 b s a w) (fz : Int) (sp : List S93) (A : Option Addr) (c : Nat) (hR : Kd.R k93 93 w w0.heap.size (fun k => k ≠ b) (.slice A sp.length c) sp) (row : Array Value)
    (hrow : row = #[.int .i64 s.size, .slice a.A1 s.now.length a.c1, .slice a.A2 s.snaps.length a.c2, .int .i64 s.next, .int .i64 fz, .slice A sp.length c, .slice a.A6 s.data.length a.c6]) :
    Sits w0 b { s with fsize := fz, sp := sp } { a with A5 := A, c5 := c } (w.setRow b row) := by
  subst hrow
  exact h.upd (fun k hk => setRow_other w b k _ hk) (aJ h.hb h.hbb _) (setRow_heap w b _ _ _ _ h.hx) ⟨h.own.o1, h.own.o2, hR, h.own.o6⟩
theorem Sits.setNow {w0 w : World} {b : Nat} {s : St} {a : At4} (h : Sits w0 b s a w) (l : List S151) (A : Option Addr) (c : Nat) (hR : Kd.R k151 151 w w0.heap.size (fun k => k ≠ b) (.slice A l.length c) l) :
    Sits w0 b { s with now := l } { a with A1 := A, c1 := c } (w.setCell ⟨b, 1, none⟩ (.slice A l.length c)) :=
  h.upd (fun k hk => Below.heap_setCell w ⟨b, 1, none⟩ _ k hk) (h.hb.setCell (p := ⟨b, 1, none⟩) h.hbb _) (aW h.hx 1 _ rfl) ⟨hR, h.own.o2, h.own.o5, h.own.o6⟩
theorem setCells_one (w : World) (g o : Nat) (v : Value) : w.setCells g o [v] = w.setCell ⟨g, o, none⟩ v := rfl
theorem Owns.qD {w : World} {base : Nat} {ok : Nat → Prop} {s : St} {a : At4} (h : Owns w base ok s a) {g : Nat} (hg : a.A6 = some ⟨g, 0, none⟩) (j : Nat) (hj : j < s.data.length) (x' : List Int) (N : Option Addr) (c : Nat)
    (hR : Kd.R (Kd.int .u8) 5 w base (fun k => ok k ∧ k ≠ g) (.slice N x'.length c) x') : Owns (w.setCell ⟨g, j, none⟩ (.slice N x'.length c)) base ok { s with data := s.data.set j x' } a := by
  have h6 := h.o6
  rw [hg] at h6
  obtain ⟨ce, hcl, hM, hcc, _⟩ := Kd.kU h6 [] (j : Int) (by omega) (by omega)
  have hseg := Kd.Aw h6 (j : Int) (by omega) (by omega) (seg := [.slice N x'.length c]) (j := 0) hcl hcc (by show 0 + 1 ≤ kLB.sz; exact Nat.le_refl 1) (x' := x') (okp := fun k => ok k ∧ k ≠ g) ⟨_, (by
    have : kLB.sz = 1 := rfl
    rw [this] at hcl
    match ce, hcl with
    | [_], _ => rfl), hR⟩ (fun k hk => hk)
  have hs := hseg.1
  rw [setCells_one] at hs
  have ej : (j : Int).toNat * kLB.sz + 0 = j := by show j * 1 + 0 = j; omega
  rw [ej] at hs
  have hfar : ∀ k, k ≠ g → (w.setCell ⟨g, j, none⟩ (.slice N x'.length c)).heap[k]? = w.heap[k]? := fun k hk => Below.heap_setCell w ⟨g, j, none⟩ _ k hk
  have hne : ∀ k, (ok k ∧ some k ≠ (Value.slice (some ⟨g, 0, none⟩) s.data.length a.c6).ownBlock) → k < w.heap.size → (w.setCell ⟨g, j, none⟩ (.slice N x'.length c)).heap[k]? = w.heap[k]? := fun k hk _ => hfar k fun e => hk.2 (by rw [e]; rfl)
  refine ⟨Kd.aX (Kd.bR (Kd.dV h.o1 h6 (by decide)) hne) fun k hk => hk.1, Kd.aX (Kd.bR (Kd.dV h.o2 h6 (by decide)) hne) fun k hk => hk.1, Kd.aX (Kd.bR (Kd.dV h.o5 h6 (by decide)) hne) fun k hk => hk.1, ?_⟩
  show Kd.R kLB _ _ _ _ (.slice a.A6 (s.data.set j x').length a.c6) (s.data.set j x')
  rw [hg, List.length_set]
  exact hs
theorem Sits.qD {w0 w : World} {b : Nat} {s : St} {a : At4} (h : Sits w0 b s a w) {g : Nat} (hg : a.A6 = some ⟨g, 0, none⟩) (j : Nat) (hj : j < s.data.length) (x' : List Int) (N : Option Addr) (c : Nat)
    (hR : Kd.R (Kd.int .u8) 5 w w0.heap.size (fun k => k ≠ b ∧ k ≠ g) (.slice N x'.length c) x') : Sits w0 b { s with data := s.data.set j x' } a (w.setCell ⟨g, j, none⟩ (.slice N x'.length c)) := by
  have h6 := h.own.o6
  rw [hg] at h6
  have hgb : g ≠ b := h6.1 g rfl
  have hgw : w0.heap.size ≤ g := Kd.o8 h6 g rfl
  refine ⟨?_, h.hb.setCell (p := ⟨g, j, none⟩) hgw _, h.hbb, h.own.qD hg j hj x' N c hR⟩
  rw [Below.heap_setCell w ⟨g, j, none⟩ _ b (Ne.symm hgb)]
  have := h.hx
  unfold aI at this ⊢
  rw [List.length_set]
  exact this
theorem Owns.yQ {w : World} {base : Nat} {ok : Nat → Prop} {s : St} {a : At4} (h : Owns w base ok s a) {j : Nat} (hj : j < s.data.length) : ∃ g, a.A6 = some ⟨g, 0, none⟩ ∧ ok g ∧ base ≤ g ∧ ∃ cs A c, w.heap[g]? = some (.cells cs 37 (0, 0)) ∧ w.cell? ⟨g, j, none⟩ = some (.slice A (s.data.getD j []).length c) ∧ (s.data.getD j []).length ≤ c ∧ Kd.C (Kd.int .u8) w A (s.data.getD j []).length (s.data.getD j []) := by
  obtain ⟨g, c, h1, _⟩ := Kd.oz h.o6 (by omega)
  injection h1 with h1
  have h6 := h.o6
  rw [h1] at h6
  obtain ⟨ce, hcl, hM, hcc, _⟩ := Kd.kU h6 [] (j : Int) (by omega) (by omega)
  obtain ⟨v, rfl, hR⟩ := hM
  obtain ⟨A1, c1, rfl⟩ := Kd.aZ hR
  have hr := Kd.bu hR
  have h0 := hcc 0 _ rfl
  have ej : (j : Int).toNat * kLB.sz + 0 = j := by show j * 1 + 0 = j; omega
  rw [ej] at h0
  have hlt : g < w.heap.size := Kd.R_lt h6 g rfl
  obtain ⟨_, inner, ⟨_, hown⟩, _⟩ := h6
  rcases hown with ⟨h2, _⟩ | ⟨g', cap, cur, h2, hb, hh, _⟩
  · cases h2
  · injection h2 with h2
    injection h2 with h2
    injection h2 with h2
    subst h2
    exact ⟨g, h1, (Kd.aX h.o6 (fun _ x => x)).1 g (by rw [h1]; rfl), hb, cur, A1, c1, hh, h0, hr.2.1, hr.2.2⟩
theorem cut_lo {P : Program} (t e : TypeId) (kl : IntKind) {i : TypeInfo} (ht : P.underlying t = some (.slice e)) (hi : P.info? e = some i) (size : Nat) (hsz : i.size = size) (A : Option Addr) (n c : Nat) (lo : Int) (h0 : 0 ≤ lo) (h1 : lo ≤ n) (hc : n ≤ c) :
    ∀ W : World, (Instr.slice t (.slice A n c) (some (.int kl lo)) none none).run P W = .ok (.slice (if c = lo.toNat then A else A.map (·.add (lo.toNat * size))) (n - lo.toNat) (c - lo.toNat)) W := by
  intro W
  have hel : P.elem t = e := by simp [Program.elem, ht]
  have hu : P.underlying t = some (.slice (P.elem t)) := by rw [hel]; exact ht
  rw [run_slice_l W t A n c hu kl lo h0 (by omega), hel]
  simp [sizeOf, typeInfo, hi, hsz, sliced, Result.andThen]
theorem Owns.lL {w : World} {base : Nat} {ok : Nat → Prop} {s : St} {a : At4} (h : Owns w base ok s a) {g t : Nat} {cs : Array Value} {fr : Nat × Nat} (hb : w.heap[g]? = some (.cells cs t fr)) (h1 : ∀ q, q ∈ 151 :: k151.E → q ≠ t) (h2 : ∀ q, q ∈ 69 :: k69.E → q ≠ t) (h5 : ∀ q, q ∈ 93 :: k93.E → q ≠ t) (h6 : ∀ q, q ∈ 37 :: kLB.E → q ≠ t) :
    Owns w base (fun k => ok k ∧ k ≠ g) s a := ⟨bS h.o1 hb h1, bS h.o2 hb h2, bS h.o5 hb h5, bS h.o6 hb h6⟩
theorem Sits.other {w0 w w1 : World} {b : Nat} {s : St} {a : At4} (h : Sits w0 b s a w) {g t : Nat} {cs : Array Value} {fr : Nat × Nat} (hb : w.heap[g]? = some (.cells cs t fr)) (h1 : ∀ q, q ∈ 151 :: k151.E → q ≠ t) (h2 : ∀ q, q ∈ 69 :: k69.E → q ≠ t) (h5 : ∀ q, q ∈ 93 :: k93.E → q ≠ t) (h6 : ∀ q, q ∈ 37 :: kLB.E → q ≠ t)
    (hgb : g ≠ b) (hfar : ∀ k, k ≠ g → w1.heap[k]? = w.heap[k]?) (hbel : Below w0.heap.size w0 w1) : Sits w0 b s a w1 :=
  ⟨(hfar b (Ne.symm hgb)).trans h.hx, hbel, h.hbb, ((h.own.lL hb h1 h2 h5 h6).step fun k hk _ => hfar k hk.2).mono fun _ hk => hk.1⟩
theorem cut_by (A : Option Addr) (n c lo hi : Nat) (h1 : lo ≤ hi) (h2 : hi ≤ n) (hc : n ≤ c) :
    ∀ W : World, (Instr.slice 37 (.slice A n c) (some (.int .i64 (lo : Int))) (some (.int .i64 (hi : Int))) none).run Tryz.prog W = .ok (.slice (if c = lo then A else A.map (·.add (lo * 1))) (hi - lo) (c - lo)) W := by
  obtain ⟨i0, hi0, hz⟩ := Option.map_eq_some_iff.1 info5
  simp only [Prod.mk.injEq] at hz
  have h := AX (P := Tryz.prog) 37 5 .i64 .i64 Tryz.underlying37 hi0 1 hz.2.1 A n c (lo : Int) (hi : Int) (by omega) (by omega) (by omega) hc
  simpa only [Int.toNat_natCast] using h
theorem pF (A : Option Addr) (n c lo : Nat) (h2 : lo ≤ n) (hc : n ≤ c) :
    ∀ W : World, (Instr.slice 37 (.slice A n c) (some (.int .i64 (lo : Int))) none none).run Tryz.prog W = .ok (.slice (if c = lo then A else A.map (·.add (lo * 1))) (n - lo) (c - lo)) W := by
  obtain ⟨i0, hi0, hz⟩ := Option.map_eq_some_iff.1 info5
  simp only [Prod.mk.injEq] at hz
  have h := cut_lo (P := Tryz.prog) 37 5 .i64 Tryz.underlying37 hi0 1 hz.2.1 A n c (lo : Int) (by omega) (by omega) hc
  simpa only [Int.toNat_natCast] using h
theorem Sits.zK {w0 w : World} {b : Nat} {s : St} {a : At4} (h : Sits w0 b s a w) (n : Int) : Sits w0 b { s with next := n } a (w.setCell ⟨b, 3, none⟩ (.int .i64 n)) :=
  h.upd (fun k hk => Below.heap_setCell w ⟨b, 3, none⟩ _ k hk) (h.hb.setCell (p := ⟨b, 3, none⟩) h.hbb _) (aW h.hx 3 _ rfl) ⟨h.own.o1, h.own.o2, h.own.o5, h.own.o6⟩
theorem Sits.yn {w0 w w1 : World} {b : Nat} {s : St} {a : At4} (h : Sits w0 b s a w) (l : List S69) (A : Option Addr) (c : Nat) (hR : Kd.R k69 69 w1 w0.heap.size (fun k => k ≠ b) (.slice A l.length c) l) (hB : Below w0.heap.size w0 w1)
    (hg : w.grownBy w1 (Value.slice a.A2 s.snaps.length a.c2).ownBlock) : Sits w0 b { s with snaps := l } { a with A2 := A, c2 := c } (w1.setCell ⟨b, 2, none⟩ (.slice A l.length c)) := by
  have h2 := h.own.o2
  have hb2 : some b ≠ (Value.slice a.A2 s.snaps.length a.c2).ownBlock := fun e => h2.1 b e.symm rfl
  have hx1 : w1.heap[b]? = some (.cells (aI s a) 31 (0, 0)) := (hg.block b (aA h.hx) hb2).trans h.hx
  have o1 := Kd.aX (ok' := fun k => k ≠ b) (Kd.jM (Kd.dV h.own.o1 h2 (by decide)) hg (fun k hk => hk.2)) (fun k hk => hk.1)
  have o5 := Kd.aX (ok' := fun k => k ≠ b) (Kd.jM (Kd.dV h.own.o5 h2 (by decide)) hg (fun k hk => hk.2)) (fun k hk => hk.1)
  have o6 := Kd.aX (ok' := fun k => k ≠ b) (Kd.jM (Kd.dV h.own.o6 h2 (by decide)) hg (fun k hk => hk.2)) (fun k hk => hk.1)
  have hf : ∀ k, k ≠ b → k < w1.heap.size → (w1.setCell ⟨b, 2, none⟩ (.slice A l.length c)).heap[k]? = w1.heap[k]? := fun k hk _ => Below.heap_setCell w1 ⟨b, 2, none⟩ _ k hk
  exact ⟨aW hx1 2 _ rfl, hB.setCell (p := ⟨b, 2, none⟩) h.hbb _, h.hbb, ⟨Kd.bR o1 hf, Kd.bR hR hf, Kd.bR o5 hf, Kd.bR o6 hf⟩⟩
def gH (b : Nat) (a : At4) (w w' : World) : Prop := w.heap.size ≤ w'.heap.size ∧ ∀ k, k < w.heap.size → k ≠ b → (∀ g, a.A6 = some ⟨g, 0, none⟩ → k ≠ g) → w'.heap[k]? = w.heap[k]?
theorem gH.refl (b : Nat) (a : At4) (w : World) : gH b a w w := ⟨Nat.le_refl _, fun _ _ _ _ => rfl⟩
theorem gH.below {b : Nat} {a : At4} {w w1 w2 : World} (h : gH b a w w1) (hb : Below w1.heap.size w1 w2) : gH b a w w2 := ⟨Nat.le_trans h.1 hb.size, fun k h1 h2 h3 => (hb.block k (Nat.lt_of_lt_of_le h1 h.1)).trans (h.2 k h1 h2 h3)⟩
theorem gH.row {b : Nat} {a : At4} {w w1 : World} (h : gH b a w w1) (cs : Array Value) : gH b a w (w1.setRow b cs) := ⟨by rw [setRow_size]; exact h.1, fun k h1 h2 h3 => (setRow_other w1 b k cs h2).trans (h.2 k h1 h2 h3)⟩
theorem gH.cell {b : Nat} {a : At4} {w w1 : World} (h : gH b a w w1) (o : Nat) (v : Value) : gH b a w (w1.setCell ⟨b, o, none⟩ v) := ⟨by simpa [World.setCell] using h.1, fun k h1 h2 h3 => (Below.heap_setCell w1 ⟨b, o, none⟩ v k h2).trans (h.2 k h1 h2 h3)⟩
theorem gH.data {b g : Nat} {a : At4} {w w1 : World} (h : gH b a w w1) (hg : a.A6 = some ⟨g, 0, none⟩) (o : Nat) (v : Value) : gH b a w (w1.setCell ⟨g, o, none⟩ v) := ⟨by simpa [World.setCell] using h.1, fun k h1 h2 h3 => (Below.heap_setCell w1 ⟨g, o, none⟩ v k (h3 g hg)).trans (h.2 k h1 h2 h3)⟩
theorem gH.trans {b : Nat} {a a' : At4} {w w1 w2 : World} (h : gH b a w w1) (h2 : gH b a' w1 w2) (ha : a'.A6 = a.A6) : gH b a w w2 := ⟨Nat.le_trans h.1 h2.1, fun k k1 k2 k3 => (h2.2 k (Nat.lt_of_lt_of_le k1 h.1) k2 (by rw [ha]; exact k3)).trans (h.2 k k1 k2 k3)⟩
def gK (K : Nat) (s : St) : Option (St × Bool) := (dx.f K (gP s)).bind fun u => if u.2 = 0 then (if (bN s.fsize u.1).2.2 = 0 then some ({ s with fsize := (bN s.fsize u.1).1, sp := (bN s.fsize u.1).2.1 }, true) else some (s, false)) else some (s, false)
set_option maxHeartbeats 4000000 in
set_option maxRecDepth 100000 in
theorem j4.calls (K b : Nat) (s : St) (a : At4) (s' : St) (ok : Bool) (w0 w : World) (hs : Sits w0 b s a w) (hn : s.snaps.length < 4398046511103) (h : gK K s = some (s', ok)) :
    Calls Tryz.prog 121 #[.pointer (some ⟨b, 0, none⟩)] w fun e w' => ∃ a' : At4, e = .returned (.bool ok) ∧ Sits w0 b s' a' w' ∧ gH b a w w' ∧ a'.A6 = a.A6 := by
  have hu31 := Tryz.underlying31
  have hu28 := Tryz.underlying28
  have HS := aa.mk hs
  have HMV := aa.mk (vB hs.reads hn)
  unfold gK at h
  obtain ⟨⟨u, e1⟩, hu, h⟩ := Option.bind_eq_some_iff.1 h
  have HU := aa.mk hu
  have HG := aa.mk h
  have hx := hs.hx
  unfold aI at hx
  have q0 := (ae hx 0).trans rfl
  have q1 := (ae hx 1).trans rfl
  have q2 := (ae hx 2).trans rfl
  have q3 := (ae hx 3).trans rfl
  have q4 := (ae hx 4).trans rfl
  have q5 := (ae hx 5).trans rfl
  have q6 := (ae hx 6).trans rfl
  clear hs hn h hu hx
  go_enter Tryz.func121, Tryz.ntmps121
  go_wp2_with fail
  refine HMV.out.mono ?_
  rintro e w1 ⟨A1, c1, rfl, hl1, hC1, hb1⟩
  have HS1 := aa.mk (HS.out.below hb1)
  have HK1 := aa.mk ((gH.refl b a w).below hb1)
  have HUS := aa.mk (dx.calls K A1 c1 (gP s) u e1 w1 hC1 hl1 HU.out)
  clear q0 q1 q2 q3 q4 q5 q6 HMV hb1 hl1 hC1 HS HU
  go_wp2_with fail
  refine HUS.out.mono ?_
  rintro e w2 ⟨v, rfl, hR, hb2⟩
  obtain ⟨A2, c2, rfl⟩ := Kd.aZ hR
  have hr := Kd.bu hR
  have HS2 := aa.mk (HS1.out.below hb2)
  have HK2 := aa.mk (HK1.out.below hb2)
  obtain ⟨⟨z, sp, e3⟩, hz⟩ : ∃ q, q = bN s.fsize u := ⟨_, rfl⟩
  have HWO := aa.mk (gD.calls s.fsize A2 c2 u z sp e3 w2 hr.2.2 hr.2.1 (by unfold gD.f; rw [← hz]))
  have HZ := aa.mk hz
  clear HUS HS1 HK1 hR hr hb2 hz
  by_cases he : e1 = 0
  case neg =>
    have hbn : (e1 != 0) = true := bne_iff_ne.mpr he
    have hg := HG.out
    rw [if_neg he] at hg
    obtain ⟨rfl, rfl⟩ := Prod.mk.inj (Option.some.inj hg)
    clear hg he
    go_wp2_with fail
    go_ret
    exact ⟨a, rfl, HS2.out, HK2.out, rfl⟩
  subst he
  have hg := HG.out
  rw [if_pos rfl] at hg
  rw [← HZ.out] at hg
  have HG2 := aa.mk hg
  have hx := HS2.out.hx
  unfold aI at hx
  have q0 := (ae hx 0).trans rfl
  have q4 := (ae hx 4).trans rfl
  have q5 := (ae hx 5).trans rfl
  clear hg hx HG
  go_wp2_with fail
  refine HWO.out.mono ?_
  rintro e w3 ⟨v, rfl, hR, hb3⟩
  obtain ⟨A3, c3, rfl⟩ := Kd.aZ hR
  have HS3 := aa.mk (HS2.out.below hb3)
  have HK3 := aa.mk (HK2.out.below hb3)
  have HBW := aa.mk (show b < w2.heap.size from aA HS2.out.hx)
  have HN := aa.mk (show Kd.R k93 93 w3 w0.heap.size (fun k => k ≠ b) (.slice A3 sp.length c3) sp from Kd.bH (Kd.aX (Kd.bO hR) (fun k hk => by have := HBW.out; omega)) HS2.out.hb.size)
  clear HWO HS2 HK2 hR hb3 q0 q4 q5 HBW
  obtain ⟨W4, hW4⟩ : ∃ W, W = w3.alloc (.cells #[.int .i64 z, .slice A3 sp.length c3] 28) := ⟨_, rfl⟩
  have hb4 : Below w3.heap.size w3 W4 := by rw [hW4]; exact (Below.refl _ _).alloc (Nat.le_refl _) _
  obtain ⟨bx, hbx⟩ : ∃ k, k = w3.heap.size := ⟨_, rfl⟩
  have hx4 : W4.heap[bx]? = some (.cells #[.int .i64 z, .slice A3 sp.length c3] 28 (0, 0)) := by rw [hW4, hbx]; exact bg w3 _
  have p0 := (ae hx4 0).trans rfl
  have p1 := (ae hx4 1).trans rfl
  have HS4 := aa.mk (HS3.out.below hb4)
  have HK4 := aa.mk (HK3.out.below hb4)
  have HN4 := aa.mk (Kd.bA HN.out hb4)
  clear HS3 HK3 HN hb4 hx4
  by_cases he : e3 = 0
  case neg =>
    have hbn : (e3 == 0) = false := by simpa using he
    have hg := HG2.out
    rw [if_neg he] at hg
    obtain ⟨rfl, rfl⟩ := Prod.mk.inj (Option.some.inj hg)
    clear hg he
    go_wp2_with fail
    rw [← hW4]
    go_ret
    exact ⟨a, rfl, HS4.out, HK4.out, rfl⟩
  subst he
  have hg := HG2.out
  rw [if_pos rfl] at hg
  obtain ⟨rfl, rfl⟩ := Prod.mk.inj (Option.some.inj hg)
  clear hg HG2
  rw [hW4, hbx] at p0 p1
  go_wp2_with (refine gI (.store 28 (.tmp 31) (.tmp 29)) rfl ?_; refine gG ?_)
  rw [← hW4]
  refine ⟨?_⟩
  refine eD (P := Tryz.prog) rfl 28 (.tmp 31) (.tmp 29) rfl _ b 4 rfl #[.int .i64 z, .slice A3 sp.length c3] rfl rfl 31 (aI s a) HS4.out.hx (by kernel_rfl) (show 4 + 2 ≤ 7 by decide) (by simp [Value.oneCell']) ?_
  have HS5 := aa.mk (HS4.out.uf z sp A3 c3 HN4.out _ rfl)
  have HK5 := aa.mk (HK4.out.row (#[.int .i64 s.size, .slice a.A1 s.now.length a.c1, .slice a.A2 s.snaps.length a.c2, .int .i64 s.next, .int .i64 z, .slice A3 sp.length c3, .slice a.A6 s.data.length a.c6]))
  obtain ⟨row, hrow⟩ : ∃ r, r = ((aI s a).toList.take 4 ++ (#[.int .i64 z, .slice A3 sp.length c3] : Array Value).toList ++ (aI s a).toList.drop (4 + (#[.int .i64 z, .slice A3 sp.length c3] : Array Value).toList.length)).toArray := ⟨_, rfl⟩
  rw [← hrow]
  rw [(show row = #[.int .i64 s.size, .slice a.A1 s.now.length a.c1, .slice a.A2 s.snaps.length a.c2, .int .i64 s.next, .int .i64 z, .slice A3 sp.length c3, .slice a.A6 s.data.length a.c6] from hrow)]
  clear hrow p0 p1 hbx hW4
  go_wp2
  go_ret
  exact ⟨{ a with A5 := A3, c5 := c3 }, rfl, HS5.out, HK5.out, rfl⟩
def uh (line : Int) (x : S93) : Int := wrap64 (mn (wrap64 (x.f0 + x.f1)) line - x.f0)
def gN (line : Int) (x : S93) : Int := mn x.f1 (wrap64 (line - x.f0))
set_option maxHeartbeats 1000000 in
set_option maxRecDepth 100000 in
theorem w_ (x : S93) (bl bn : Nat) (line n : Int) (w : World) (hl : w.heap[bl]? = some (.cells #[.int .i64 line] 3 (0, 0))) (hn : w.heap[bn]? = some (.cells #[.int .i64 n] 3 (0, 0))) :
    Calls Tryz.prog 187 #[.agg #[.int .i64 x.f0, .int .i64 x.f1], .pointer (some ⟨bl, 0, none⟩), .pointer (some ⟨bn, 0, none⟩)] w fun e w' => e = .returned (.bool (decide (uh line x < n))) ∧ Below w.heap.size w w' := by
  have hu93 := Tryz.underlying93
  have h1 := aA hl
  have h2 := aA hn
  have hb := (Below.refl w.heap.size w).alloc (Nat.le_refl _) (.cells #[.int .i64 x.f0, .int .i64 x.f1] 93)
  have x0 : (w.alloc (.cells #[.int .i64 x.f0, .int .i64 x.f1] 93)).cell? ⟨bl, 0, none⟩ = some (.int .i64 line) := (ae ((hb.block bl h1).trans hl) 0).trans rfl
  have x1 : (w.alloc (.cells #[.int .i64 x.f0, .int .i64 x.f1] 93)).cell? ⟨bn, 0, none⟩ = some (.int .i64 n) := (ae ((hb.block bn h2).trans hn) 0).trans rfl
  have HB := aa.mk hb
  clear hb hl hn
  go_enter Tryz.func187, Tryz.ntmps187
  go_wp2_with fail
  all_goals go_ret
  all_goals refine ⟨?_, HB.out⟩
  all_goals unfold uh mn
  all_goals first | (rw [if_pos (by omega)]; rfl) | (rw [if_neg (by omega)]; rfl)
set_option maxHeartbeats 1000000 in
set_option maxRecDepth 100000 in
theorem yl (x y : S93) (bl : Nat) (line : Int) (w : World) (hl : w.heap[bl]? = some (.cells #[.int .i64 line] 3 (0, 0))) :
    Calls Tryz.prog 189 #[.agg #[.int .i64 x.f0, .int .i64 x.f1], .agg #[.int .i64 y.f0, .int .i64 y.f1], .pointer (some ⟨bl, 0, none⟩)] w fun e w' => e = .returned (.int .i64 (cmpI (gN line x) (gN line y))) ∧ Below w.heap.size w w' := by
  have hu93 := Tryz.underlying93
  have h1 := aA hl
  have hb := ((Below.refl w.heap.size w).alloc (Nat.le_refl _) (.cells #[.int .i64 x.f0, .int .i64 x.f1] 93)).alloc ((Below.refl w.heap.size w).alloc (Nat.le_refl _) (.cells #[.int .i64 x.f0, .int .i64 x.f1] 93)).size (.cells #[.int .i64 y.f0, .int .i64 y.f1] 93)
  have x0 : ((w.alloc (.cells #[.int .i64 x.f0, .int .i64 x.f1] 93)).alloc (.cells #[.int .i64 y.f0, .int .i64 y.f1] 93)).cell? ⟨bl, 0, none⟩ = some (.int .i64 line) := (ae ((hb.block bl h1).trans hl) 0).trans rfl
  have HB := aa.mk hb
  clear hb hl
  go_enter Tryz.func189, Tryz.ntmps189
  go_wp2_with fail
  · have ea : gN line x = (wrap64 (line - x.f0)) := by unfold gN mn; first | (rw [if_pos (by omega)]; done) | (rw [if_neg (by omega)]; done)
    have eb : gN line y = (wrap64 (line - y.f0)) := by unfold gN mn; first | (rw [if_pos (by omega)]; done) | (rw [if_neg (by omega)]; done)
    have EA := aa.mk (And.intro ea eb)
    have hf : cmp_Compare_int.f (wrap64 (line - x.f0)) (wrap64 (line - y.f0)) = some (cmpI (wrap64 (line - x.f0)) (wrap64 (line - y.f0))) := qC _ _
    clear ea eb
    refine (cmp_Compare_int.calls (wrap64 (line - x.f0)) (wrap64 (line - y.f0)) _ _ hf).mono ?_
    rintro e w1 ⟨rfl, hd⟩
    have HB2 := aa.mk (az HB.out hd.below)
    clear hd hf
    go_wp2
    go_ret
    exact ⟨by rw [EA.out.1, EA.out.2]; rfl, HB2.out⟩
  · have ea : gN line x = (wrap64 (line - x.f0)) := by unfold gN mn; first | (rw [if_pos (by omega)]; done) | (rw [if_neg (by omega)]; done)
    have eb : gN line y = y.f1 := by unfold gN mn; first | (rw [if_pos (by omega)]; done) | (rw [if_neg (by omega)]; done)
    have EA := aa.mk (And.intro ea eb)
    have hf : cmp_Compare_int.f (wrap64 (line - x.f0)) y.f1 = some (cmpI (wrap64 (line - x.f0)) y.f1) := qC _ _
    clear ea eb
    refine (cmp_Compare_int.calls (wrap64 (line - x.f0)) y.f1 _ _ hf).mono ?_
    rintro e w1 ⟨rfl, hd⟩
    have HB2 := aa.mk (az HB.out hd.below)
    clear hd hf
    go_wp2
    go_ret
    exact ⟨by rw [EA.out.1, EA.out.2]; rfl, HB2.out⟩
  · have ea : gN line x = x.f1 := by unfold gN mn; first | (rw [if_pos (by omega)]; done) | (rw [if_neg (by omega)]; done)
    have eb : gN line y = (wrap64 (line - y.f0)) := by unfold gN mn; first | (rw [if_pos (by omega)]; done) | (rw [if_neg (by omega)]; done)
    have EA := aa.mk (And.intro ea eb)
    have hf : cmp_Compare_int.f x.f1 (wrap64 (line - y.f0)) = some (cmpI x.f1 (wrap64 (line - y.f0))) := qC _ _
    clear ea eb
    refine (cmp_Compare_int.calls x.f1 (wrap64 (line - y.f0)) _ _ hf).mono ?_
    rintro e w1 ⟨rfl, hd⟩
    have HB2 := aa.mk (az HB.out hd.below)
    clear hd hf
    go_wp2
    go_ret
    exact ⟨by rw [EA.out.1, EA.out.2]; rfl, HB2.out⟩
  · have ea : gN line x = x.f1 := by unfold gN mn; first | (rw [if_pos (by omega)]; done) | (rw [if_neg (by omega)]; done)
    have eb : gN line y = y.f1 := by unfold gN mn; first | (rw [if_pos (by omega)]; done) | (rw [if_neg (by omega)]; done)
    have EA := aa.mk (And.intro ea eb)
    have hf : cmp_Compare_int.f x.f1 y.f1 = some (cmpI x.f1 y.f1) := qC _ _
    clear ea eb
    refine (cmp_Compare_int.calls x.f1 y.f1 _ _ hf).mono ?_
    rintro e w1 ⟨rfl, hd⟩
    have HB2 := aa.mk (az HB.out hd.below)
    clear hd hf
    go_wp2
    go_ret
    exact ⟨by rw [EA.out.1, EA.out.2]; rfl, HB2.out⟩
theorem eP (w : World) (o : Obj) : (w.alloc o).heap.size = w.heap.size + 1 := Array.size_push _
theorem iL (w : World) (o : Obj) : (w.alloc o).heap[w.heap.size]? = some o := Array.getElem?_push_size
def minG {α : Type} (q : α → α → Int) (m : α) (l : List α) : α := l.foldl (fun m x => if q x m < 0 then x else m) m
set_option maxHeartbeats 2000000 in
set_option maxRecDepth 100000 in
theorem wC (cl : Nat) (lb : Array Value) (q : S93 → S93 → Int) (eg : ∀ args w, (callFunc cl args).run Tryz.prog w = .ok (.enter cl args) w)
    (A0 : Option Addr) (c0 : Nat) (x0 : S93) (t0 : List S93) (w : World) (hr0 : Kd.C k93 w A0 (x0 :: t0).length (x0 :: t0))
    (hp : ∀ (W : World) (x y : S93), Below w.heap.size w W → Calls Tryz.prog cl (#[.agg #[.int .i64 x.f0, .int .i64 x.f1], .agg #[.int .i64 y.f0, .int .i64 y.f1]] ++ lb) W fun e w' => e = .returned (.int .i64 (q x y)) ∧ Below W.heap.size W w') :
    Calls Tryz.prog 188 #[.slice A0 (x0 :: t0).length c0, .func (.func cl) #[] lb] w fun e w' => e = .returned (.agg #[.int .i64 (minG q x0 t0).f0, .int .i64 (minG q x0 t0).f1]) ∧ Below w.heap.size w w' := by
  have hu93 := Tryz.underlying93
  have HR0 := aa.mk hr0
  have HP := aa.mk hp
  obtain ⟨n, hn⟩ : ∃ n, n = (x0 :: t0).length := ⟨_, rfl⟩
  have hn1 : 1 ≤ n := by rw [hn]; simp
  have hn9 : (n : Int) ≤ 9223372036854775807 := by have := hr0.2.1; omega
  have hd0 : decide ((n : Int) < 1) = false := decide_eq_false (by omega)
  obtain ⟨ad, e3, g0, g1⟩ := fQ hr0 0 (by omega) (by rw [← hn]; omega)
  rw [← hn]
  cases e3
  have HN := aa.mk hn
  have hx0 : aU (x0 :: t0) 0 = x0 := rfl
  rw [hx0] at g0 g1
  clear hr0 hp hn hx0
  have hb0 : Below w.heap.size w (w.alloc (.cells #[.int .i64 0, .int .i64 0] 93)) := (Below.refl w.heap.size w).alloc (Nat.le_refl _) _
  have g0' : (w.alloc (.cells #[.int .i64 0, .int .i64 0] 93)).cell? ad = some (.int .i64 x0.f0) := ed hb0 g0
  have g1' : (w.alloc (.cells #[.int .i64 0, .int .i64 0] 93)).cell? ⟨ad.block, ad.off + 1, none⟩ = some (.int .i64 x0.f1) := ed hb0 g1
  clear g0 g1
  go_enter Tryz.func188, Tryz.ntmps188
  go_wp2_with fail
  obtain ⟨b4, hb4⟩ : ∃ b, b = w.heap.size := ⟨_, rfl⟩
  have hs0 : ((w.alloc (.cells #[.int .i64 0, .int .i64 0] 93)).alloc (.cells #[.int .i64 x0.f0, .int .i64 x0.f1] 93)).heap[b4]? = some (.cells #[.int .i64 0, .int .i64 0] 93 (0, 0)) := by
    rw [hb4, Below.heap_alloc _ _ _ (by rw [eP]; exact Nat.lt_succ_self _)]
    exact iL w _
  have hs1 : ((w.alloc (.cells #[.int .i64 0, .int .i64 0] 93)).alloc (.cells #[.int .i64 x0.f0, .int .i64 x0.f1] 93)).heap[b4 + 1]? = some (.cells #[.int .i64 x0.f0, .int .i64 x0.f1] 93 (0, 0)) := by
    have := iL (w.alloc (.cells #[.int .i64 0, .int .i64 0] 93)) (.cells #[.int .i64 x0.f0, .int .i64 x0.f1] 93)
    have e : (w.alloc (.cells #[.int .i64 0, .int .i64 0] 93)).heap.size = b4 + 1 := by rw [eP, hb4]
    rw [e] at this
    exact this
  have hB0 : Below b4 w ((w.alloc (.cells #[.int .i64 0, .int .i64 0] 93)).alloc (.cells #[.int .i64 x0.f0, .int .i64 x0.f1] 93)) := by
    rw [hb4]
    exact hb0.alloc hb0.size _
  have HP2 := aa.mk (show ∀ (W : World) (x y : S93), Below b4 w W → Calls Tryz.prog cl (#[.agg #[.int .i64 x.f0, .int .i64 x.f1], .agg #[.int .i64 y.f0, .int .i64 y.f1]] ++ lb) W fun e w' => e = .returned (.int .i64 (q x y)) ∧ Below W.heap.size W w' by rw [hb4]; exact HP.out)
  have HB4 := aa.mk hb4
  rw [← hb4]
  clear HP hb0 g0' g1' hb4
  go_loopg [6] n (fun gk v6 W => ∃ (i : Nat) (m : S93), v6 = .int .i64 i ∧ aa (1 ≤ i ∧ i + gk = n + 1) ∧ aa (Below b4 w W) ∧ aa (W.heap[b4]? = some (.cells #[.int .i64 0, .int .i64 0] 93 (0, 0))) ∧ aa (W.heap[b4 + 1]? = some (.cells #[.int .i64 m.f0, .int .i64 m.f1] 93 (0, 0))) ∧ aa (minG q m (t0.drop (i - 1)) = minG q x0 t0))
  case atStart => exact ⟨1, x0, rfl, ⟨Nat.le_refl _, Nat.add_comm _ _⟩, ⟨hB0⟩, ⟨hs0⟩, ⟨hs1⟩, ⟨rfl⟩⟩
  case round =>
    obtain ⟨i, m, rfl, HI, HB, HX4, HX5, HM⟩ := hrel
    by_cases hlt : i < n
    · have hd : decide ((i : Int) < (n : Int)) = true := decide_eq_true (by omega)
      have hp0 : (0 : Int) ≤ (i : Int) := by omega
      have hp1 : (i : Int) < (n : Int) := by omega
      have hC : Kd.C k93 wr (some ad) (x0 :: t0).length (x0 :: t0) := Kd.aN HR0.out (by rw [← HB4.out]; exact HB.out)
      obtain ⟨ad', e3, g0, g1⟩ := fQ hC (i : Int) hp0 (by rw [← HN.out]; exact hp1)
      cases e3
      obtain ⟨k1, rfl⟩ : ∃ k, gk = k + 1 := ⟨gk - 1, by have := HI.out.2; omega⟩
      obtain ⟨x, hx⟩ : ∃ x, x = aU (x0 :: t0) (i : Int) := ⟨_, rfl⟩
      rw [← hx] at g0 g1
      have hdr : t0.drop (i - 1) = x :: t0.drop i := by
        have hil : i - 1 < t0.length := by have := HN.out; have := HI.out.1; simp at *; omega
        rw [hx]
        obtain ⟨j, rfl⟩ : ∃ j, i = j + 1 := ⟨i - 1, by have := HI.out.1; omega⟩
        have e : t0.drop (j + 1 - 1) = t0[j]'(by simpa using hil) :: t0.drop (j + 1) := by
          rw [Nat.add_sub_cancel]; exact (List.getElem_cons_drop (by simpa using hil)).symm
        rw [e]
        congr 1
        rw [j5 _ _ (by omega) (by simp; simp at hil; omega)]
        simp
      have y0 : wr.cell? ⟨b4 + 1, 0, none⟩ = some (.int .i64 m.f0) := (ae HX5.out 0).trans rfl
      have y1 : wr.cell? ⟨b4 + 1, 1, none⟩ = some (.int .i64 m.f1) := (ae HX5.out 1).trans rfl
      have hcall := HP2.out wr.drew x m (aQ HB.out)
      have HX := aa.mk hdr
      rw [Int.toNat_natCast] at g0 g1
      have HG := aa.mk (And.intro g0 g1)
      clear hx hC hdr
      have gd0 : ({ heap := wr.heap, tape := wr.tape, drawn := wr.drawn + 1, os := wr.os, output := wr.output } : World).cell? (ad.add (i * 2)) = some (.int .i64 x.f0) := HG.out.1
      have gd1 : ({ heap := wr.heap, tape := wr.tape, drawn := wr.drawn + 1, os := wr.os, output := wr.output } : World).cell? ⟨(ad.add (i * 2)).block, (ad.add (i * 2)).off + 1, none⟩ = some (.int .i64 x.f1) := HG.out.2
      have yd0 : ({ heap := wr.heap, tape := wr.tape, drawn := wr.drawn + 1, os := wr.os, output := wr.output } : World).cell? ⟨b4 + 1, 0, none⟩ = some (.int .i64 m.f0) := y0
      have yd1 : ({ heap := wr.heap, tape := wr.tape, drawn := wr.drawn + 1, os := wr.os, output := wr.output } : World).cell? ⟨b4 + 1, 1, none⟩ = some (.int .i64 m.f1) := y1
      by_cases hq : q x m < 0
      · have hdq : decide (q x m < 0) = true := decide_eq_true hq
        go_wp2_with fail
        go_still_tail 6, (by kernel_rfl)
        change wpList _ _ _ _ _ wr.drew
        go_wp2_with (first
          | (refine wpList_store_row (P := Tryz.prog) rfl 93 (.tmp 5) (.tmp 31) rfl (b4 + 1) #[.int .i64 x.f0, .int .i64 x.f1] rfl rfl 93 #[.int .i64 m.f0, .int .i64 m.f1] hx5 (by kernel_rfl) rfl (by simp [Value.oneCell']) ?_)
          | (go_at_fn cl; refine hcall.mono ?_; rintro e w' ⟨rfl, hb'⟩; have z0 := ed hb' HG.out.1; have z1 := ed hb' HG.out.2; have hx5 : w'.heap[b4 + 1]? = some (.cells #[.int .i64 m.f0, .int .i64 m.f1] 93 (0, 0)) := (hb'.block _ (aA HX5.out)).trans HX5.out))
        go_roundg k1
        case measure => omega
        case rel =>
          refine ⟨i + 1, x, by first | rfl | (simp; done) | go_num, ⟨by omega, by have := HI.out.2; omega⟩, ⟨aJ (dM (aQ HB.out) (Nat.le_trans (Nat.le_of_eq HB4.out) (aQ HB.out).size) hb') (Nat.le_succ _) _⟩, ⟨(setRow_other _ (b4 + 1) b4 _ (by omega)).trans ((hb'.block _ (aA HX4.out)).trans HX4.out)⟩, ⟨setRow_heap _ (b4 + 1) _ _ 93 (0, 0) hx5⟩, ⟨?_⟩⟩
          have h := HM.out
          rw [HX.out] at h
          have e : minG q m (x :: t0.drop i) = minG q (if q x m < 0 then x else m) (t0.drop i) := rfl
          rw [e, if_pos hq] at h
          exact h
      · have hdq : decide (q x m < 0) = false := decide_eq_false hq
        go_wp2_with fail
        go_still_tail 6, (by kernel_rfl)
        change wpList _ _ _ _ _ wr.drew
        go_wp2_with (go_at_fn cl; refine hcall.mono ?_; rintro e w' ⟨rfl, hb'⟩)
        go_roundg k1
        case measure => omega
        case rel =>
          refine ⟨i + 1, m, by first | rfl | (simp; done) | go_num, ⟨by omega, by have := HI.out.2; omega⟩, ⟨dM (aQ HB.out) (Nat.le_trans (Nat.le_of_eq HB4.out) (aQ HB.out).size) hb'⟩, ⟨(hb'.block _ (aA HX4.out)).trans HX4.out⟩, ⟨(hb'.block _ (aA HX5.out)).trans HX5.out⟩, ⟨?_⟩⟩
          have h := HM.out
          rw [HX.out] at h
          have e : minG q m (x :: t0.drop i) = minG q (if q x m < 0 then x else m) (t0.drop i) := rfl
          rw [e, if_neg (by omega)] at h
          exact h
    · have hd : decide ((i : Int) < (n : Int)) = false := decide_eq_false (by omega)
      have hres : m = minG q x0 t0 := by
        have h := HM.out
        rw [List.drop_eq_nil_of_le (by have := HN.out; simp at this; omega)] at h
        exact h
      have HRES := aa.mk hres
      have y0 : wr.cell? ⟨b4 + 1, 0, none⟩ = some (.int .i64 m.f0) := (ae HX5.out 0).trans rfl
      have y1 : wr.cell? ⟨b4 + 1, 1, none⟩ = some (.int .i64 m.f1) := (ae HX5.out 1).trans rfl
      have hx4 := HX4.out
      clear hres
      have hst := setRow_heap wr b4 #[.int .i64 0, .int .i64 0] #[.int .i64 m.f0, .int .i64 m.f1] 93 (0, 0) hx4
      have q0 : (wr.setRow b4 #[.int .i64 m.f0, .int .i64 m.f1]).cell? ⟨b4, 0, none⟩ = some (.int .i64 m.f0) := (ae hst 0).trans rfl
      have q1 : (wr.setRow b4 #[.int .i64 m.f0, .int .i64 m.f1]).cell? ⟨b4, 1, none⟩ = some (.int .i64 m.f1) := (ae hst 1).trans rfl
      have hbe : Below b4 w (wr.setRow b4 #[.int .i64 m.f0, .int .i64 m.f1]) := aJ HB.out (Nat.le_refl _) _
      have HBE := aa.mk hbe
      have HST := aa.mk hst
      clear hbe hst
      go_wp2_with (refine wpList_store_row (P := Tryz.prog) rfl 93 (.tmp 4) (.tmp 32) rfl b4 #[.int .i64 m.f0, .int .i64 m.f1] rfl rfl 93 #[.int .i64 0, .int .i64 0] hx4 (by kernel_rfl) rfl (by simp [Value.oneCell']) ?_)
      (try simp only [Exit.inBlock, Exit.then])
      trace_state
      refine bodyPost_ret (results_cell_row rfl _ _ b4 93 #[.int .i64 m.f0, .int .i64 m.f1] (0, 0) _ rfl HST.out Tryz.underlying93 rfl (by kernel_rfl)) rfl ?_
      refine ⟨?_, by rw [← HB4.out]; exact HBE.out⟩
      rw [← HRES.out]
section
variable {P : Program}
theorem lS (w : World) (g o : Nat) (t ty : TypeId) (cur cells : Array Value) (hg : w.heap[g]? = some (.cells cur t (0, 0))) (hi : (P.info? ty).map (·.size) = some cells.size)
    (hf : o + cells.size ≤ cur.size) (h1 : ∀ v ∈ cells.toList, v.oneCell' = true) :
    (storeVar ty ⟨g, o, none⟩ (.agg cells)).run P w = .ok () (w.setRow g (cur.toList.take o ++ cells.toList ++ cur.toList.drop (o + cells.toList.length)).toArray) := by
  have hst := run_storeCells_at P g o t cells.toList 0 cur w hg (by simpa using hf) h1
  simp only [Nat.add_zero] at hst
  cases hq : P.info? ty with
  | none => simp [hq] at hi
  | some i =>
    have hs : cells.size = i.size := by simp [hq] at hi; omega
    simp [storeVar, sizeOf, typeInfo, hq, Value.cells, hs, hst]
theorem lU {ops : Array Oper} {rest : List Oper} {o : Oper} {a : Act} {w : World} {Q : Exit → Act → World → Prop} (hgd : o.guard = none) (ty : TypeId) (x y : Operand) (ho : o.op = .store ty x y)
    (A : Addr) (g k : Nat) (hA : A = ⟨g, k, none⟩) (cells : Array Value) (hx : a.eval x = .pointer (some A)) (hy : a.eval y = .agg cells)
    (t : TypeId) (cur : Array Value) (hg : w.heap[g]? = some (.cells cur t (0, 0))) (hi : (P.info? ty).map (·.size) = some cells.size)
    (hf : k + cells.size ≤ cur.size) (h1 : ∀ v ∈ cells.toList, v.oneCell' = true)
    (h : wpList P ops Q rest (a.put o.dst undef) (w.setRow g (cur.toList.take k ++ cells.toList ++ cur.toList.drop (k + cells.toList.length)).toArray)) : wpList P ops Q (o :: rest) a w := by
  subst hA
  refine wpList_plain hgd fun K hK => ?_
  unfold Oper.wp execOp
  simp only [ho, hx, hy, Instr.storeAt, Instr.sureAddr, Sem.run_bind, Sem.run_pure, Result.andThen_ok, lS w g k t ty cur cells hg hi hf h1]
  exact hK _ _ h
end
set_option maxHeartbeats 4000000 in
set_option maxRecDepth 100000 in
theorem wS (cl : Nat) (lb : Array Value) (p : S93 → Bool) (eg : ∀ args w, (callFunc cl args).run Tryz.prog w = .ok (.enter cl args) w)
    (w0 w : World) (base : Nat) (ok : Nat → Prop) (xs : List S93) (v : Value) (hR : Kd.R k93 93 w base ok v xs) (hB : Below base w0 w) (hbw : base ≤ w.heap.size) (hn : xs.length ≤ 4096)
    (hp : ∀ (W : World) (x : S93), Below base w0 W → Calls Tryz.prog cl (#[.agg #[.int .i64 x.f0, .int .i64 x.f1]] ++ lb) W fun e w' => e = .returned (.bool (p x)) ∧ Below W.heap.size W w') :
    Calls Tryz.prog 186 #[v, .func (.func cl) #[] lb] w fun e w' => ∃ v', e = .returned v' ∧ Kd.R k93 93 w' base ok v' (xs.filter fun x => !p x) ∧ Below base w0 w' := by
  have hu93 := Tryz.underlying93
  obtain ⟨A0, c0, rfl⟩ := Kd.aZ hR
  obtain ⟨h1, h2, hC⟩ := Kd.bu hR
  have hidx := qK cl lb p eg A0 c0 xs w hC (fun W x hW => (hp W x (dM hB hbw hW)).mono fun e w' ⟨h1, h2⟩ => ⟨h1, dM hW hW.size h2⟩)
  have HR := aa.mk hR
  have HB := aa.mk (And.intro hB hbw)
  have HP := aa.mk hp
  obtain ⟨n, hnn⟩ : ∃ n, n = xs.length := ⟨_, rfl⟩
  rw [← hnn] at hn hidx HR
  rw [← hnn]
  have HNN := aa.mk hnn
  clear hR hB hbw hp hC h1 h2 hnn
  by_cases hm : idxF p xs = -1
  · have hq : xs.filter (fun x => !p x) = xs := by
      refine List.filter_eq_self.2 fun x hx => ?_
      have : xs.findIdx? p = none := by
        unfold idxF at hm
        split at hm
        · rename_i i hi; omega
        · rename_i hi; exact hi
      have := List.findIdx?_eq_none_iff.1 this x hx
      simp [this]
    have HQ := aa.mk hq
    have hmi : idxF p xs = -1 := hm
    rw [hmi] at hidx
    have HI := aa.mk hidx
    clear hq hm hmi hidx
    go_enter Tryz.func186, Tryz.ntmps186
    go_wp2_with fail
    refine HI.out.mono ?_
    rintro e w1 ⟨rfl, hb⟩
    have HB1 := aa.mk hb
    clear hb
    go_wp2_with fail
    go_ret
    exact ⟨_, rfl, by rw [HQ.out]; exact Kd.bA HR.out HB1.out, dM HB.out.1 HB.out.2 HB1.out⟩
  · obtain ⟨k, hk, hki⟩ : ∃ k : Nat, xs.findIdx? p = some k ∧ idxF p xs = (k : Int) := by
      unfold idxF at hm ⊢
      cases hq : xs.findIdx? p with
      | none => rw [hq] at hm; exact absurd rfl hm
      | some k => exact ⟨k, rfl, rfl⟩
    obtain ⟨hkn, hkp, hka⟩ := List.findIdx?_eq_some_iff_getElem.1 hk
    rw [hki] at hidx
    have HI := aa.mk hidx
    have hne : xs ≠ [] := by intro h; rw [h] at hkn; simp at hkn
    have hR2 := HR.out
    rw [HNN.out] at hR2
    obtain ⟨g, c, cur, hv, hL, hbg, hok⟩ := uj hR2 hne
    injection hv with hv1 hv2 hv3
    subst hv1 hv3
    have hf0 : (xs.take (k + 1)).filter (fun x => !p x) = xs.take k := by
      rw [List.take_succ_eq_append_getElem hkn, List.filter_append]
      have e1 : (xs.take k).filter (fun x => !p x) = xs.take k := List.filter_eq_self.2 fun x hx => by
        obtain ⟨j, hj, rfl⟩ := List.mem_iff_getElem.1 hx
        rw [List.length_take] at hj
        have := hka j (by omega)
        rw [List.getElem_take]
        simpa using this
      have e2 : [xs[k]].filter (fun x => !p x) = [] := by simp [hkp]
      rw [e1, e2, List.append_nil]
    have hkn' : k < n := by rw [HNN.out]; exact hkn
    have HL := aa.mk hL
    have HK := aa.mk (And.intro hbg (And.intro hok hf0))
    have hnc : n ≤ c0 := by have := hL.2.2.1; rw [HNN.out]; exact this
    have hcm : c0 ≤ 9223372036854775807 := by have := hL.2.2.2.1; unfold maxLen at this; omega
    have hw1 : IntKind.i64.wrap ((k : Int) + 1) = (k : Int) + 1 := IntWalk.i64_in _ (by omega)
    have hw2 : ((k : Int) == -1) = false := by first | (simp; done) | (simp; omega)
    have hw3 : ¬ ((k : Int) = -1) := by omega
    clear hk hki hkp hka hidx hne hR2 hL hbg hok hf0 hm hkn
    go_enter Tryz.func186, Tryz.ntmps186
    go_wp2_with fail
    refine HI.out.mono ?_
    rintro e w1 ⟨rfl, hb⟩
    have HB1 := aa.mk (dM HB.out.1 HB.out.2 hb)
    have HL1 := aa.mk (HL.out.same (hb.block _ (aA HL.out.1)))
    clear hb
    go_wp2_with fail
    go_loopg [5, 6] (n - (k + 1)) (fun gk v5 v6 W => ∃ (i j : Nat) (cu : Array Value) (ys : List S93), v5 = .int .i64 i ∧ v6 = .int .i64 j ∧ aa (i < j ∧ j + gk = n) ∧ aa (Below base w0 W) ∧ aa (LieL bq 2 93 W g c0 cu ys) ∧ aa (ys.length = n ∧ ys.take i = (xs.take j).filter (fun x => !p x) ∧ ys.drop j = xs.drop j))
    case atStart => exact ⟨k, k + 1, cur, xs, rfl, rfl, ⟨by omega, by omega⟩, ⟨HB1.out⟩, ⟨HL1.out⟩, ⟨HNN.out.symm, HK.out.2.2.symm, rfl⟩⟩
    case round =>
      obtain ⟨i, j, cu, ys, rfl, rfl, HIJ, HBW, HLW, HY⟩ := hrel
      by_cases hlt : j < n
      · have hd : decide ((j : Int) < (n : Int)) = true := decide_eq_true (by omega)
        obtain ⟨k1, rfl⟩ : ∃ k, gk = k + 1 := ⟨gk - 1, by have := HIJ.out.2; omega⟩
        have hC : Kd.C k93 wr (some ⟨g, 0, none⟩) ys.length ys := (Kd.bu (HLW.out.R (base := base) (ok := ok) HK.out.1 HK.out.2.1)).2.2
        have hp0 : (0 : Int) ≤ (j : Int) := by omega
        have hp1 : (j : Int) < (n : Int) := by omega
        have hi0 : (0 : Int) ≤ (i : Int) := by omega
        have hi1 : (i : Int) < (n : Int) := by have := HIJ.out.1; omega
        obtain ⟨ad', e3, g0, g1⟩ := fQ hC (j : Int) hp0 (by rw [HY.out.1]; exact hp1)
        cases e3
        obtain ⟨x, hx⟩ : ∃ x, x = aU ys (j : Int) := ⟨_, rfl⟩
        rw [← hx] at g0 g1
        rw [Int.toNat_natCast, yE, Nat.zero_add] at g0 g1
        have g0' : wr.cell? ⟨g, j * 2, none⟩ = some (.int .i64 x.f0) := g0
        have g1' : wr.cell? ⟨g, j * 2 + 1, none⟩ = some (.int .i64 x.f1) := g1
        clear g0 g1
        have hjx : j < xs.length := by rw [← HNN.out]; exact hlt
        have hjy : j < ys.length := by rw [HY.out.1]; exact hlt
        have hxx : x = xs[j] := by
          have h1 : ys[j] = xs[j] := by
            have h2 := HY.out.2.2
            rw [← List.getElem_cons_drop hjy, ← List.getElem_cons_drop hjx] at h2
            exact (List.cons.inj h2).1
          rw [hx, j5 ys (j : Int) hp0 (by omega)]
          simpa using h1
        have htk : (xs.take (j + 1)).filter (fun x => !p x) = ys.take i ++ [x].filter (fun x => !p x) := by
          rw [List.take_succ_eq_append_getElem hjx, List.filter_append, ← HY.out.2.1, ← hxx]
        have hdj : ys.drop (j + 1) = xs.drop (j + 1) := by
          have h2 := HY.out.2.2
          rw [← List.getElem_cons_drop hjy, ← List.getElem_cons_drop hjx] at h2
          exact (List.cons.inj h2).2
        have HT := aa.mk (And.intro htk hdj)
        have hba : Below wr.heap.size wr (wr.alloc (.cells #[.int .i64 x.f0, .int .i64 x.f1] 93)) := (Below.refl _ _).alloc (Nat.le_refl _) _
        have HBA := aa.mk (dM HBW.out (Nat.le_trans HK.out.1 (Nat.le_of_lt (aA HLW.out.1))) hba)
        have HBAS := aa.mk (show base ≤ (wr.alloc (.cells #[.int .i64 x.f0, .int .i64 x.f1] 93)).heap.size by rw [eP]; have h1 := HK.out.1; have h2 := aA HLW.out.1; omega)
        have HLA := aa.mk (HLW.out.same (hba.block _ (aA HLW.out.1)))
        have hbx : (wr.alloc (.cells #[.int .i64 x.f0, .int .i64 x.f1] 93)).heap[wr.heap.size]? = some (.cells #[.int .i64 x.f0, .int .i64 x.f1] 93 (0, 0)) := iL _ _
        have HGB := aa.mk (show g < wr.heap.size from aA HLW.out.1)
        have HBX := aa.mk hbx
        have HFIT := aa.mk (show i * 2 + 2 ≤ cu.size by have h1 := HLW.out.2.1; have h2 := HIJ.out.1; rw [h1]; omega)
        have hcall := HP.out _ x HBA.out
        clear hx hxx htk hdj hjx hjy hba hbx hC
        cases hq : p x with
        | true =>
          rw [hq] at hcall
          have HQ := aa.mk hq
          go_wp2_with (go_at_fn cl; refine hcall.mono ?_; rintro e w' ⟨rfl, hb'⟩)
          go_roundg k1
          case measure => omega
          case rel =>
            refine ⟨i, j + 1, cu, ys, rfl, by first | rfl | (simp; done) | go_num, ⟨by have := HIJ.out.1; omega, by have := HIJ.out.2; omega⟩, ⟨dM HBA.out HBAS.out hb'⟩, ⟨HLA.out.same (hb'.block _ (aA HLA.out.1))⟩, ⟨HY.out.1, ?_, HT.out.2⟩⟩
            rw [HT.out.1]; simp [HQ.out]
        | false =>
          rw [hq] at hcall
          have HQ := aa.mk hq
          go_wp2_with (first
            | (refine lU (P := Tryz.prog) rfl 93 (.tmp 33) (.tmp 32) rfl _ g (i * 2) rfl #[.int .i64 x.f0, .int .i64 x.f1] rfl rfl 93 cu hlw (by kernel_rfl) hfit (by simp [Value.oneCell']) ?_)
            | (go_at_fn cl; refine hcall.mono ?_; rintro e w' ⟨rfl, hb'⟩; have hlw := (hb'.block _ (aA HLA.out.1)).trans HLA.out.1; have hfit := HFIT.out; have z0 : w'.cell? ⟨wr.heap.size, 0, none⟩ = some (.int .i64 x.f0) := (ae ((hb'.block _ (aA HBX.out)).trans HBX.out) 0).trans rfl; have z1 : w'.cell? ⟨wr.heap.size, 1, none⟩ = some (.int .i64 x.f1) := (ae ((hb'.block _ (aA HBX.out)).trans HBX.out) 1).trans rfl))
          go_roundg k1
          case measure => omega
          case rel =>
            have hput := (HLA.out.same (w1 := w') (hb'.block _ (aA HLA.out.1))).nC dm (ys := [x]) (i := i) (by rw [HY.out.1]; simp; omega)
            have hrow : (cu.toList.take (i * 2) ++ [x].flatMap bq ++ cu.toList.drop (i * 2 + ([x].flatMap bq).length)).toArray = (cu.toList.take (i * 2) ++ .int .i64 x.f0 :: .int .i64 x.f1 :: cu.toList.drop (i * 2 + 2)).toArray := by rw [List.append_assoc]; rfl
            rw [hrow] at hput
            refine ⟨i + 1, j + 1, _, ys.take i ++ [x] ++ ys.drop (i + [x].length), by first | rfl | (simp; done) | go_num, by first | rfl | (simp; done) | go_num, ⟨by have := HIJ.out.1; omega, by have := HIJ.out.2; omega⟩, ⟨aJ (dM HBA.out HBAS.out hb') HK.out.1 _⟩, ⟨hput⟩, ⟨?_, ?_, ?_⟩⟩
            · have h1 := HY.out.1
              have h2 := HIJ.out.1
              simp; omega
            · have hl : (ys.take i).length = i := by rw [List.length_take, HY.out.1]; omega
              rw [d_ _ _ _ (by rw [List.length_append, hl]; rfl), HT.out.1]
              simp [HQ.out]
            · have hl : (ys.take i).length = i := by rw [List.length_take, HY.out.1]; omega
              have h2 := HIJ.out.1
              rw [List.drop_append, List.drop_of_length_le (by rw [List.length_append, hl]; simp; omega), List.nil_append, List.drop_drop, ← HT.out.2, List.length_append, hl]
              congr 1
              simp; omega
      · have hd : decide ((j : Int) < (n : Int)) = false := decide_eq_false (by omega)
        have hjn : j = n := by have := HIJ.out.2; omega
        have hi0 : (0 : Int) ≤ (i : Int) := by omega
        have hi1 : (i : Int) ≤ (n : Int) := by have := HIJ.out.1; omega
        have hin : i < n := by have := HIJ.out.1; omega
        have hb7 : ¬ (c0 = i) := by omega
        have hi2 : (i : Int) ≤ (c0 : Int) := by omega
        have hres : ys.take i = xs.filter (fun x => !p x) := by
          rw [HY.out.2.1, hjn, List.take_of_length_le (by rw [← HNN.out]; exact Nat.le_refl _)]
        obtain ⟨zs, hzl, hclr⟩ := jH (P := Tryz.prog) wr 26 93 0 (.agg #[.int .i64 0, .int .i64 0]) Tryz.underlying26 Tryz.zeroValue93 g (i * 2) (n - i) (c0 - i) cu 93 HLW.out.1 (by rw [HLW.out.2.1]; show i * 2 + (n - i) * 2 ≤ c0 * 2; omega) (by intro u hu; simp [Value.cells] at hu; rw [hu]; rfl) (by omega)
        obtain ⟨cur3, hcur3⟩ : ∃ R : Array Value, R = (cu.toList.take (i * 2) ++ zs ++ cu.toList.drop (i * 2 + zs.length)).toArray := ⟨_, rfl⟩
        rw [← hcur3] at hclr
        have hc2l : (cu.toList.take (i * 2)).length = i * 2 := by
          rw [List.length_take, (show cu.toList.length = cu.size from Array.length_toList), HLW.out.2.1]
          omega
        have hzl2 : zs.length = (n - i) * 2 := hzl
        have hli : (ys.take i).length = i := by rw [List.length_take, HY.out.1]; omega
        have hL5 := (HLW.out.cut dm i (by rw [HY.out.1]; omega)).behind (cur' := cur3) (i * 2) (by rw [hli]; exact Nat.le_refl _) (by rw [hcur3, List.size_toArray, List.length_append, List.length_append, hc2l, List.length_drop, (show cu.toList.length = cu.size from Array.length_toList), HLW.out.2.1, hzl2]; omega) (by rw [hcur3, List.append_assoc]; exact d_ _ _ _ hc2l)
        have hr := hL5.R (base := base) (ok := ok) HK.out.1 HK.out.2.1
        rw [hli, hres] at hr
        have HRES := aa.mk (And.intro hr (aJ HBW.out HK.out.1 cur3))
        clear hcur3 hc2l hzl hzl2 hli hL5 hr hres hjn
        go_wp2_with (at_builtin; refine wpList_clear_run _ rfl _ 26 rfl _ rfl hclr ?_)
        go_ret
        exact ⟨_, rfl, HRES.out.1, HRES.out.2⟩
def fitG (l : List S93) (n line : Int) : List S93 := l.filter fun x => !(decide (uh line x < n))
def bestG (l : List S93) (n line : Int) : Option S93 := match fitG l n line with
  | [] => none
  | x :: t => some (minG (fun a b => cmpI (gN line a) (gN line b)) x t)
def bestR (l : List S93) (n line : Int) : Int × Int := match bestG l n line with
  | none => (0, 51)
  | some y => (y.f0, 0)
def gU.f (a0_0 : Int) (l0_1 : List (S93)) (a1 : Int) (a2 : Int) : Option (Int × Int) := some (if Flag.iD a0_0 (l0_1.map toP) = 0 then (if a1 < 1 ∨ a2 < 0 then (0, 4) else bestR l0_1 a1 a2) else (0, 9))
set_option maxHeartbeats 4000000 in
set_option maxRecDepth 100000 in
theorem gU.calls (a0_0 : Int) (A0_1 : Option Addr) (c0_1 : Nat) (l0_1 : List (S93)) (a1 : Int) (a2 : Int) (r1 : Int) (r2 : Int) (w : World) (hr0_1 : Kd.C k93 w A0_1 l0_1.length l0_1) (hc0_1 : l0_1.length ≤ c0_1) (h : gU.f a0_0 l0_1 a1 a2 = some (r1, r2)) :
    Calls Tryz.prog 166 #[.agg #[.int .i64 a0_0, .slice A0_1 l0_1.length c0_1], .int .i64 a1, .int .i64 a2] w fun e w' => e = .returned (.tuple #[.int .i64 r1, .int .i64 r2]) ∧ Below w.heap.size w w' := by
  have hu93 := Tryz.underlying93
  have hu58 := Tryz.underlying58
  have hmf : ∀ (fn : Fn) (first cap : Array Value) (w : World), (Instr.makeFunc fn first cap).run Tryz.prog w = .ok (.func fn first cap) w := fun _ _ _ _ => rfl
  have hfd : ∀ (a b : Int) (w : World), (Instr.field 93 (.agg #[.int .i64 a, .int .i64 b]) 0).run Tryz.prog w = .ok (.int .i64 a) w := fun _ _ _ => by kernel_rfl
  obtain ⟨kc, hkc⟩ := check6 a0_0 l0_1
  have h := Option.some.inj h
  have HR := aa.mk (And.intro hr0_1 hc0_1)
  obtain ⟨W0, hW0⟩ : ∃ W, W = ((w.alloc (.cells #[.int .i64 a0_0, .slice A0_1 l0_1.length c0_1] 28)).alloc (.cells #[.int .i64 a1] 3)).alloc (.cells #[.int .i64 a2] 3) := ⟨_, rfl⟩
  have hb0 : Below w.heap.size w W0 := by
    rw [hW0]
    exact (((Below.refl w.heap.size w).alloc (Nat.le_refl _) _).alloc (by rw [eP]; omega) _).alloc (by rw [eP, eP]; omega) _
  have hS : W0.heap[w.heap.size]? = some (.cells #[.int .i64 a0_0, .slice A0_1 l0_1.length c0_1] 28 (0, 0)) := by
    rw [hW0, Below.heap_alloc _ _ _ (by rw [eP, eP]; omega), Below.heap_alloc _ _ _ (by rw [eP]; omega)]
    exact iL _ _
  have hN : W0.heap[w.heap.size + 1]? = some (.cells #[.int .i64 a1] 3 (0, 0)) := by
    rw [hW0, Below.heap_alloc _ _ _ (by rw [eP, eP]; omega)]
    have := iL (w.alloc (.cells #[.int .i64 a0_0, .slice A0_1 l0_1.length c0_1] 28)) (.cells #[.int .i64 a1] 3)
    rw [eP] at this
    exact this
  have hLn : W0.heap[w.heap.size + 1 + 1]? = some (.cells #[.int .i64 a2] 3 (0, 0)) := by
    rw [hW0]
    have := iL ((w.alloc (.cells #[.int .i64 a0_0, .slice A0_1 l0_1.length c0_1] 28)).alloc (.cells #[.int .i64 a1] 3)) (.cells #[.int .i64 a2] 3)
    rw [eP, eP] at this
    exact this
  have HW0 := aa.mk hW0
  have HB0 := aa.mk hb0
  have HS := aa.mk hS
  have HN := aa.mk hN
  have HLn := aa.mk hLn
  have HH := aa.mk h
  have hchk := fun W hC => aH.calls kc a0_0 A0_1 c0_1 l0_1 _ W hC hc0_1 hkc
  have HCHK := aa.mk (hchk W0 (Kd.aN hr0_1 hb0))
  clear hchk hkc hr0_1 hc0_1 hW0 hb0 hS hN hLn h
  rcases Flag.vU a0_0 (l0_1.map toP) with hck | hck
  · have hlen : l0_1.length ≤ 1024 := by have := (Flag.gV.1 hck).len; simpa using this
    have HLEN := aa.mk hlen
    have hck2 := HCHK.out
    rw [hck] at hck2
    have hh := HH.out
    rw [if_pos hck] at hh
    have HC := aa.mk hck2
    have HH2 := aa.mk hh
    clear hck hck2 hh hlen HCHK HH
    go_enter Tryz.func166, Tryz.ntmps166
    go_wp2_with fail
    rw [← HW0.out]
    refine HC.out.mono ?_
    rintro e w1 ⟨rfl, hb⟩
    have HB1 := aa.mk (az HB0.out hb)
    have HN1 := aa.mk ((hb.block _ (aA HN.out)).trans HN.out)
    have HL1 := aa.mk ((hb.block _ (aA HLn.out)).trans HLn.out)
    have HS1 := aa.mk ((hb.block _ (aA HS.out)).trans HS.out)
    have n0 : w1.cell? ⟨w.heap.size + 1, 0, none⟩ = some (.int .i64 a1) := (ae HN1.out 0).trans rfl
    have n1 : w1.cell? ⟨w.heap.size + 1 + 1, 0, none⟩ = some (.int .i64 a2) := (ae HL1.out 0).trans rfl
    have n2 : w1.cell? ⟨w.heap.size, 1, none⟩ = some (.slice A0_1 l0_1.length c0_1) := (ae HS1.out 1).trans rfl
    clear hb
    by_cases hc1 : a1 < 1
    · have hd1 : decide (a1 < 1) = true := decide_eq_true hc1
      have hh := HH2.out
      rw [if_pos (Or.inl hc1)] at hh
      have h1 : (0 : Int) = r1 := congrArg Prod.fst hh
      have h2 : (4 : Int) = r2 := congrArg Prod.snd hh
      subst h1 h2
      clear hh
      go_wp2_with fail
      go_ret2
      exact ⟨rfl, HB1.out⟩
    · have hd1 : decide (a1 < 1) = false := decide_eq_false hc1
      by_cases hc2 : a2 < 0
      · have hd2 : decide (a2 < 0) = true := decide_eq_true hc2
        have hh := HH2.out
        rw [if_pos (Or.inr hc2)] at hh
        have h1 : (0 : Int) = r1 := congrArg Prod.fst hh
        have h2 : (4 : Int) = r2 := congrArg Prod.snd hh
        subst h1 h2
        clear hh
        go_wp2_with fail
        go_ret2
        exact ⟨rfl, HB1.out⟩
      · have hd2 : decide (a2 < 0) = false := decide_eq_false hc2
        have hh := HH2.out
        rw [if_neg (by omega)] at hh
        have HH3 := aa.mk hh
        clear hh HH2
        have hcl := bZ.calls A0_1 c0_1 l0_1 l0_1 w1 (Kd.aN HR.out.1 HB1.out) HR.out.2 (by unfold bZ.f; rw [if_pos (by have := HLEN.out; omega)])
        have HCL := aa.mk hcl
        clear hcl hc1 hc2
        go_wp2_with fail
        refine HCL.out.mono ?_
        rintro e w2 ⟨s, rfl, hr2, hb2⟩
        have hdel := wS 187 #[.pointer (some ⟨w.heap.size + 1 + 1, 0, none⟩), .pointer (some ⟨w.heap.size + 1, 0, none⟩)] (fun x => decide (uh a2 x < a1)) (enters_of Tryz.func187 (by kernel_rfl) rfl) w1 w2 w1.heap.size (fun _ => True) l0_1 s hr2 hb2 hb2.size (by have := HLEN.out; omega) (fun W x hW => w_ x _ _ a2 a1 W ((hW.block _ (aA HL1.out)).trans HL1.out) ((hW.block _ (aA HN1.out)).trans HN1.out))
        have HDEL := aa.mk hdel
        clear hr2 hb2 hdel
        go_wp2_with fail
        refine HDEL.out.mono ?_
        rintro e w3 ⟨v', rfl, hr3, hb3⟩
        obtain ⟨ys, hys⟩ : ∃ ys, ys = fitG l0_1 a1 a2 := ⟨_, rfl⟩
        have hr3' : Kd.R k93 93 w3 w1.heap.size (fun _ => True) v' ys := by rw [hys]; exact hr3
        obtain ⟨A3, c3, rfl⟩ := Kd.aZ hr3'
        have HC3 := aa.mk (Kd.bu hr3').2.2
        have HB3 := aa.mk (az HB1.out hb3)
        have HBB := aa.mk hb3
        have hHH := HH3.out
        unfold bestR bestG at hHH
        rw [← hys] at hHH
        have hl1024 : ys.length ≤ 1024 := by
          rw [hys]; unfold fitG
          have h1 := List.length_filter_le (fun x => !(decide (uh a2 x < a1))) l0_1
          have h2 := HLEN.out
          omega
        clear hr3 hr3' hb3 hys
        cases ys with
        | nil =>
          have h1 : (0 : Int) = r1 := congrArg Prod.fst hHH
          have h2 : (51 : Int) = r2 := congrArg Prod.snd hHH
          subst h1 h2
          clear hHH
          go_wp2_with fail
          go_ret2
          exact ⟨rfl, HB3.out⟩
        | cons x t =>
          have h1 : (minG (fun a b => cmpI (gN a2 a) (gN a2 b)) x t).f0 = r1 := congrArg Prod.fst hHH
          have h2 : (0 : Int) = r2 := congrArg Prod.snd hHH
          subst h1 h2
          obtain ⟨m, hm⟩ : ∃ m, m = (x :: t).length := ⟨_, rfl⟩
          have hm1 : 1 ≤ m := by rw [hm]; simp
          rw [← hm] at hl1024
          have hmz : ((m : Int) == 0) = false := by first | (simp; done) | (simp; omega)
          have hmz2 : ¬ ((m : Int) = 0) := by omega
          have hmin := wC 189 #[.pointer (some ⟨w.heap.size + 1 + 1, 0, none⟩)] (fun a b => cmpI (gN a2 a) (gN a2 b)) (enters_of Tryz.func189 (by kernel_rfl) rfl) A3 c3 x t w3 HC3.out (fun W a b hW => yl a b _ a2 W ((hW.block _ (Nat.lt_of_lt_of_le (aA HL1.out) HBB.out.size)).trans ((HBB.out.block _ (aA HL1.out)).trans HL1.out)))
          rw [← hm] at hmin
          have HMIN := aa.mk hmin
          rw [← hm]
          clear hHH hmin hm
          go_wp2_with fail
          refine HMIN.out.mono ?_
          rintro e w4 ⟨rfl, hb4⟩
          have HB4 := aa.mk (az HB3.out hb4)
          clear hb4
          go_wp2_with fail
          go_ret2
          exact ⟨rfl, HB4.out⟩
  · have hck2 := HCHK.out
    rw [hck] at hck2
    have hh := HH.out
    rw [if_neg (by rw [hck]; decide)] at hh
    have h1 : (0 : Int) = r1 := congrArg Prod.fst hh
    have h2 : (9 : Int) = r2 := congrArg Prod.snd hh
    subst h1 h2
    have HC := aa.mk hck2
    clear hck hck2 hh HCHK HH
    go_enter Tryz.func166, Tryz.ntmps166
    go_wp2_with fail
    rw [← HW0.out]
    refine HC.out.mono ?_
    rintro e w1 ⟨rfl, hb⟩
    have HB1 := aa.mk (az HB0.out hb)
    clear hb
    go_wp2_with fail
    go_ret2
    exact ⟨rfl, HB1.out⟩
def iG.f (k : Nat) (a0_0 : Int) (l0_1 : List (S93)) (a1 : Int) (a2 : Int) : Option (Int × (List (S93)) × Int × Int) := (gU.f a0_0 l0_1 a1 a2).bind fun bt103 => (if bt103.2 = 0 then ((dP.f k a0_0 l0_1 bt103.1 a1).bind fun bt105 => (if bt105.2.2 = 0 then (some (bt105.1, bt105.2.1, bt103.1, 0)) else (some (0, ([] : List (S93)), 0, bt105.2.2)))) else (some (0, ([] : List (S93)), 0, bt103.2)))
set_option maxHeartbeats 8000000 in
set_option maxRecDepth 100000 in
theorem iG.calls (k : Nat) (a0_0 : Int) (A0_1 : Option Addr) (c0_1 : Nat) (l0_1 : List (S93)) (a1 : Int) (a2 : Int) (r1 : Int) (r2 : List (S93)) (r3 : Int) (r4 : Int) (w : World) (hr0_1 : Kd.C k93 w A0_1 l0_1.length l0_1) (hc0_1 : l0_1.length ≤ c0_1) (h : iG.f k a0_0 l0_1 a1 a2 = some (r1, r2, r3, r4)) :
 Calls Tryz.prog 145 #[.agg #[.int .i64 a0_0, .slice A0_1 l0_1.length c0_1], .int .i64 a1, .int .i64 a2] w fun e w' => ∃ v1_ : Value, e = .returned (.tuple #[.agg #[.int .i64 r1, v1_], .int .i64 r3, .int .i64 r4]) ∧ Kd.R k93 93 w' w.heap.size (fun _ => True) v1_ r2 ∧ Below w.heap.size w w' := by
 have hu28 := Tryz.underlying28
 have hu93 := Tryz.underlying93
 have HR0_1 := aa.mk hr0_1
 have HC0_1 := aa.mk hc0_1
 clear hr0_1 hc0_1
 have HB := aa.mk (Below.refl w.heap.size w)
 have H : ((gU.f a0_0 l0_1 a1 a2).bind fun bt103 => (if bt103.2 = 0 then ((dP.f k a0_0 l0_1 bt103.1 a1).bind fun bt105 => (if bt105.2.2 = 0 then (some (bt105.1, bt105.2.1, bt103.1, 0)) else (some (0, ([] : List (S93)), 0, bt105.2.2)))) else (some (0, ([] : List (S93)), 0, bt103.2)))) = some (r1, r2, r3, r4) := h
 clear h
 replace H := Option.bind_eq_some_iff.mp H
 obtain ⟨⟨t103, t104⟩, A40, H⟩ := H
 replace H : (if t104 = 0 then ((dP.f k a0_0 l0_1 t103 a1).bind fun bt105 => (if bt105.2.2 = 0 then (some (bt105.1, bt105.2.1, t103, 0)) else (some (0, ([] : List (S93)), 0, bt105.2.2)))) else (some (0, ([] : List (S93)), 0, t104))) = some (r1, r2, r3, r4) := H
 have A4 := aa.mk A40
 clear A40
 by_cases c5 : t104 = 0
 ·rw [if_pos c5] at H
  have c5b0 : (t104 == 0) = true := beq_iff_eq.mpr c5
  have c5b1 : (t104 != 0) = false := bne_eq_false_iff_eq.mpr c5
  clear c5
  replace H := Option.bind_eq_some_iff.mp H
  obtain ⟨⟨t105, t106, t109⟩, A60, H⟩ := H
  replace H : (if t109 = 0 then (some (t105, t106, t103, 0)) else (some (0, ([] : List (S93)), 0, t109))) = some (r1, r2, r3, r4) := H
  have A6 := aa.mk A60
  clear A60
  by_cases c7 : t109 = 0
  ·rw [if_pos c7] at H
   have c7b0 : (t109 == 0) = true := beq_iff_eq.mpr c7
   have c7b1 : (t109 != 0) = false := bne_eq_false_iff_eq.mpr c7
   clear c7
   simp only [Option.some.injEq, Prod.mk.injEq] at H
   obtain ⟨rfl, rfl, rfl, rfl⟩ := H
   go_enter Tryz.func145, Tryz.ntmps145
   go_wp2_with (first | ((with_reducible refine bf (N := 3) rfl ?_); refine aY ?hg (N := 3) ?hd (cs := #[.int .i64 a0_0, .slice A0_1 l0_1.length c0_1]) (t := 28) ?hr ?_; (case hd => rfl); (case hg => rfl); (case hr => first | (go_simp; done) | (go_simp; rfl)); intro gb101 hg w8 hbox hb; have n0_ := aa.mk (az (by repeat (first | (with_reducible first | exact HB.out | apply ah | apply af | apply ag) | exact HB.out)) hb); have n1_ := aa.mk (hbox); have n2_ := aa.mk ((by rw [hg]; exact (ay (by repeat (first | (with_reducible first | exact HB.out | apply ah | apply af | apply ag) | exact HB.out))) : w.heap.size ≤ gb101)); have n3_ := aa.mk ((by rw [hg]; exact (ay (by repeat (first | (with_reducible first | exact HB.out | apply ah | apply af | apply ag) | exact HB.out))) : w.heap.size ≤ gb101)); clear HB; have HB := n0_; have BK101 := n1_; have GW101 := n2_; have GE101 := n3_; clear n0_ n1_ n2_ n3_; clear hb hbox hg) | ((with_reducible refine bf (N := 6) rfl ?_); refine aY ?hg (N := 6) ?hd (cs := #[.int .i64 0, .slice none 0 0]) (t := 28) ?hr ?_; (case hd => rfl); (case hg => rfl); (case hr => first | (go_simp; done) | (go_simp; rfl)); intro gb102 hg w9 hbox hb; have n0_ := aa.mk (aK (g := gb101) (o := .cells #[.int .i64 a0_0, .slice A0_1 l0_1.length c0_1] 28 (0, 0)) (by (with_reducible repeat (first | refine ak ?_ _ | refine au ?_ | refine aj ?_ _)); exact BK101.out) hb); have n1_ := aa.mk (az (by repeat (first | (with_reducible first | exact HB.out | apply ah | apply af | apply ag | refine av ?_ GE101.out) | exact HB.out)) hb); have n2_ := aa.mk (hbox); have n3_ := aa.mk ((by rw [hg]; exact (ay (by repeat (first | (with_reducible first | exact HB.out | apply ah | apply af | apply ag | refine av ?_ GE101.out) | exact HB.out))) : w.heap.size ≤ gb102)); have n4_ := aa.mk ((by rw [hg]; exact (ay (by repeat (first | (with_reducible first | exact HB.out | apply ah | apply af | apply ag | refine av ?_ GE101.out) | exact HB.out))) : w.heap.size ≤ gb102)); have n5_ := aa.mk ((by rw [hg]; exact Nat.ne_of_lt (aA (g := gb101) (o := .cells #[.int .i64 a0_0, .slice A0_1 l0_1.length c0_1] 28 (0, 0)) (by (with_reducible repeat (first | refine ak ?_ _ | refine au ?_ | refine aj ?_ _)); exact BK101.out)) : gb101 ≠ gb102)); have n6_ := aa.mk ((by rw [hg]; exact Nat.ne_of_gt (aA (g := gb101) (o := .cells #[.int .i64 a0_0, .slice A0_1 l0_1.length c0_1] 28 (0, 0)) (by (with_reducible repeat (first | refine ak ?_ _ | refine au ?_ | refine aj ?_ _)); exact BK101.out)) : gb102 ≠ gb101)); clear BK101; clear HB; have BK101 := n0_; have HB := n1_; have BK102 := n2_; have GW102 := n3_; have GE102 := n4_; have NB101_102 := n5_; have NB102_101 := n6_; clear n0_ n1_ n2_ n3_ n4_ n5_ n6_; clear hb hbox hg; have hnb10 := NB101_102.out; have hnc10 := NB102_101.out; have hcz11_0 : w9.cell? ⟨gb101, 0, none⟩ = some (.int .i64 a0_0) := (ae BK101.out 0).trans rfl; have hcz11_1 : w9.cell? ⟨gb101, 1, none⟩ = some (.slice A0_1 l0_1.length c0_1) := (ae BK101.out 1).trans rfl; have hfz11_0 := ai BK101.out 0; have hfz11_1 := ai BK101.out 1) | ((with_reducible refine bB (f := 166) rfl ?_); refine dN (some 16) rfl rfl Tryz.func166 (by kernel_rfl) rfl #[.agg #[.int .i64 a0_0, .slice A0_1 l0_1.length c0_1], .int .i64 a1, .int .i64 a2] rfl (by (try simp only [List.map_toArray, List.map_cons, List.map_nil]); first | done | rfl | (simp only [List.length_drop, List.length_take]; rfl)) ?_; (with_reducible refine (gU.calls a0_0 _ _ l0_1 a1 a2 t103 t104 _ ?side1 ?side2 A4.out).mono ?_); (case side1 => repeat (first | exact (Kd.aN HR0_1.out HB.out) | (with_reducible refine Kd.dA ?_ _) | (with_reducible refine Kd.C_drewN ?_ _) | (with_reducible refine Kd.C_drew ?_))); (case side2 => exact HC0_1.out); rintro e w12 ⟨rfl, hb⟩; refine ⟨_, rfl, ?_⟩; have n0_ := aa.mk (aK (g := gb101) (o := .cells #[.int .i64 a0_0, .slice A0_1 l0_1.length c0_1] 28 (0, 0)) (by (with_reducible repeat (first | refine ak ?_ _ | refine au ?_ | refine aj ?_ _)); exact BK101.out) hb); have n1_ := aa.mk (aK (g := gb102) (o := .cells #[.int .i64 0, .slice none 0 0] 28 (0, 0)) (by (with_reducible repeat (first | refine ak ?_ _ | refine au ?_ | refine aj ?_ _)); exact BK102.out) hb); have n2_ := aa.mk (az (by repeat (first | (with_reducible first | exact HB.out | apply ah | apply af | apply ag | refine av ?_ GE101.out | refine av ?_ GE102.out) | exact HB.out)) hb); clear BK101; clear BK102; clear HB; have BK101 := n0_; have BK102 := n1_; have HB := n2_; clear n0_ n1_ n2_; (try clear hb); (try clear hb2); (try clear hk); (try clear hi); have hcz13_0 : w12.cell? ⟨gb101, 0, none⟩ = some (.int .i64 a0_0) := (ae BK101.out 0).trans rfl; have hcz13_1 : w12.cell? ⟨gb101, 1, none⟩ = some (.slice A0_1 l0_1.length c0_1) := (ae BK101.out 1).trans rfl; have hfz13_0 := ai BK101.out 0; have hfz13_1 := ai BK101.out 1) | ((with_reducible refine bB (f := 92) rfl ?_); refine dN (some 28) rfl rfl Tryz.func92 (by kernel_rfl) rfl #[.agg #[.int .i64 a0_0, .slice A0_1 l0_1.length c0_1], .agg #[.int .i64 t103, .int .i64 a1]] rfl (by (try simp only [List.map_toArray, List.map_cons, List.map_nil]); first | done | rfl | (simp only [List.length_drop, List.length_take]; rfl)) ?_; (with_reducible refine (dP.calls k a0_0 _ _ l0_1 t103 a1 t105 t106 t109 _ ?side1 ?side2 A6.out).mono ?_); (case side1 => repeat (first | exact (Kd.aN HR0_1.out HB.out) | (with_reducible refine Kd.dA ?_ _) | (with_reducible refine Kd.C_drewN ?_ _) | (with_reducible refine Kd.C_drew ?_))); (case side2 => exact HC0_1.out); rintro e w14 ⟨v107, rfl, ho0, hb⟩; refine ⟨_, rfl, ?_⟩; have n0_ := aa.mk (Kd.bH ho0 (ay (by repeat (first | (with_reducible first | exact HB.out | apply ah | apply af | apply ag | refine av ?_ GE101.out | refine av ?_ GE102.out) | exact HB.out)))); have n1_ := aa.mk (aK (g := gb101) (o := .cells #[.int .i64 a0_0, .slice A0_1 l0_1.length c0_1] 28 (0, 0)) (by (with_reducible repeat (first | refine ak ?_ _ | refine au ?_ | refine aj ?_ _)); exact BK101.out) hb); have n2_ := aa.mk (aK (g := gb102) (o := .cells #[.int .i64 0, .slice none 0 0] 28 (0, 0)) (by (with_reducible repeat (first | refine ak ?_ _ | refine au ?_ | refine aj ?_ _)); exact BK102.out) hb); have n3_ := aa.mk (az (by repeat (first | (with_reducible first | exact HB.out | apply ah | apply af | apply ag | refine av ?_ GE101.out | refine av ?_ GE102.out) | exact HB.out)) hb); clear BK101; clear BK102; clear HB; have HO108 := n0_; have BK101 := n1_; have BK102 := n2_; have HB := n3_; clear n0_ n1_ n2_ n3_; (try clear hb); (try clear hb2); (try clear hk); (try clear hi); (try clear ho0)) | ((with_reducible refine bf (N := 11) rfl ?_); refine aY ?hg (N := 11) ?hd (cs := #[.int .i64 0, .slice none 0 0]) (t := 28) ?hr ?_; (case hd => rfl); (case hg => rfl); (case hr => first | (go_simp; done) | (go_simp; rfl)); intro gb110 hg w15 hbox hb; have n0_ := aa.mk (Kd.bA (by (with_reducible repeat (first | apply Kd.bQ | apply Kd.bT | apply Kd.dC)); exact HO108.out) hb); have n1_ := aa.mk (aK (g := gb101) (o := .cells #[.int .i64 a0_0, .slice A0_1 l0_1.length c0_1] 28 (0, 0)) (by (with_reducible repeat (first | refine ak ?_ _ | refine au ?_ | refine aj ?_ _)); exact BK101.out) hb); have n2_ := aa.mk (aK (g := gb102) (o := .cells #[.int .i64 0, .slice none 0 0] 28 (0, 0)) (by (with_reducible repeat (first | refine ak ?_ _ | refine au ?_ | refine aj ?_ _)); exact BK102.out) hb); have n3_ := aa.mk (az (by repeat (first | (with_reducible first | exact HB.out | apply ah | apply af | apply ag | refine av ?_ GE101.out | refine av ?_ GE102.out) | exact HB.out)) hb); have n4_ := aa.mk (hbox); have n5_ := aa.mk ((by rw [hg]; exact (ay (by repeat (first | (with_reducible first | exact HB.out | apply ah | apply af | apply ag | refine av ?_ GE101.out | refine av ?_ GE102.out) | exact HB.out))) : w.heap.size ≤ gb110)); have n6_ := aa.mk ((by rw [hg]; exact (ay (by repeat (first | (with_reducible first | exact HB.out | apply ah | apply af | apply ag | refine av ?_ GE101.out | refine av ?_ GE102.out) | exact HB.out))) : w.heap.size ≤ gb110)); have n7_ := aa.mk ((by rw [hg]; exact Nat.ne_of_lt (aA (g := gb101) (o := .cells #[.int .i64 a0_0, .slice A0_1 l0_1.length c0_1] 28 (0, 0)) (by (with_reducible repeat (first | refine ak ?_ _ | refine au ?_ | refine aj ?_ _)); exact BK101.out)) : gb101 ≠ gb110)); have n8_ := aa.mk ((by rw [hg]; exact Nat.ne_of_gt (aA (g := gb101) (o := .cells #[.int .i64 a0_0, .slice A0_1 l0_1.length c0_1] 28 (0, 0)) (by (with_reducible repeat (first | refine ak ?_ _ | refine au ?_ | refine aj ?_ _)); exact BK101.out)) : gb110 ≠ gb101)); have n9_ := aa.mk ((by rw [hg]; exact Nat.ne_of_lt (aA (g := gb102) (o := .cells #[.int .i64 0, .slice none 0 0] 28 (0, 0)) (by (with_reducible repeat (first | refine ak ?_ _ | refine au ?_ | refine aj ?_ _)); exact BK102.out)) : gb102 ≠ gb110)); have n10_ := aa.mk ((by rw [hg]; exact Nat.ne_of_gt (aA (g := gb102) (o := .cells #[.int .i64 0, .slice none 0 0] 28 (0, 0)) (by (with_reducible repeat (first | refine ak ?_ _ | refine au ?_ | refine aj ?_ _)); exact BK102.out)) : gb110 ≠ gb102)); clear HO108; clear BK101; clear BK102; clear HB; have HO108 := n0_; have BK101 := n1_; have BK102 := n2_; have HB := n3_; have BK110 := n4_; have GW110 := n5_; have GE110 := n6_; have NB101_110 := n7_; have NB110_101 := n8_; have NB102_110 := n9_; have NB110_102 := n10_; clear n0_ n1_ n2_ n3_ n4_ n5_ n6_ n7_ n8_ n9_ n10_; clear hb hbox hg; have hnb16 := NB110_101.out; have hnc16 := NB101_110.out; have hnb17 := NB110_102.out; have hnc17 := NB102_110.out; have hcz18_0 : w15.cell? ⟨gb110, 0, none⟩ = some (.int .i64 0) := (ae BK110.out 0).trans rfl; have hcz18_1 : w15.cell? ⟨gb110, 1, none⟩ = some (.slice none 0 0) := (ae BK110.out 1).trans rfl; have hfz18_0 := ai BK110.out 0; have hfz18_1 := ai BK110.out 1; obtain ⟨Ao19, co19, eo19⟩ := Kd.aZ HO108.out; subst eo19; have hcz20_0 : w15.cell? ⟨gb102, 0, none⟩ = some (.int .i64 0) := (ae BK102.out 0).trans rfl; have hcz20_1 : w15.cell? ⟨gb102, 1, none⟩ = some (.slice none 0 0) := (ae BK102.out 1).trans rfl; have hfz20_0 := ai BK102.out 0; have hfz20_1 := ai BK102.out 1))
   refine bodyPost_ret (jK rfl _ _ gb102 28 #[.int .i64 t105, .slice Ao19 t106.length co19] (0, 0) _ rfl (by (with_reducible repeat (first | refine ak ?_ _ | refine au ?_ | refine aj ?_ _)); refine aW (cs := #[.int .i64 t105, .slice none 0 0]) ?_ 1 _ rfl; (with_reducible repeat (first | refine ak ?_ _ | refine au ?_ | refine aj ?_ _)); refine aW (cs := #[.int .i64 0, .slice none 0 0]) ?_ 0 _ rfl; (with_reducible repeat (first | refine ak ?_ _ | refine au ?_ | refine aj ?_ _)); refine bX ?_ NB102_110.out _; (with_reducible repeat (first | refine ak ?_ _ | refine au ?_ | refine aj ?_ _)); refine bX ?_ NB102_110.out _; (with_reducible repeat (first | refine ak ?_ _ | refine au ?_ | refine aj ?_ _)); exact BK102.out) Tryz.underlying28 rfl (by kernel_rfl)) rfl ?_
   exact ⟨_, by first | rfl | (simp [aD, aC] <;> rfl) | (simp [*, aD, aC] <;> rfl), by (with_reducible repeat (first | apply Kd.bQ | apply Kd.bT | apply Kd.dC)); exact Kd.aX (Kd.dE (p := ⟨gb102, 1, none⟩) (Kd.dE (p := ⟨gb102, 0, none⟩) (Kd.dE (p := ⟨gb110, 1, none⟩) (Kd.dE (p := ⟨gb110, 0, none⟩) (Kd.iE (Kd.iE HO108.out BK110.out (by decide)) BK102.out (by decide)) (fun _ hk => hk.1.2) (.int .i64 t105)) (fun _ hk => hk.1.2) (.slice Ao19 t106.length co19)) (fun _ hk => hk.2) (.int .i64 t105)) (fun _ hk => hk.2) (.slice Ao19 t106.length co19)) (fun _ hk => trivial), by repeat (first | (with_reducible first | exact HB.out | apply ah | apply af | apply ag | refine av ?_ GE101.out | refine av ?_ GE102.out | refine av ?_ GE110.out) | exact HB.out)⟩
  ·rw [if_neg c7] at H
   have c7b0 : (t109 == 0) = false := beq_eq_false_iff_ne.mpr c7
   have c7b1 : (t109 != 0) = true := bne_iff_ne.mpr c7
   simp only [Option.some.injEq, Prod.mk.injEq] at H
   obtain ⟨rfl, rfl, rfl, rfl⟩ := H
   go_enter Tryz.func145, Tryz.ntmps145
   go_wp2_with (first | ((with_reducible refine bf (N := 3) rfl ?_); refine aY ?hg (N := 3) ?hd (cs := #[.int .i64 a0_0, .slice A0_1 l0_1.length c0_1]) (t := 28) ?hr ?_; (case hd => rfl); (case hg => rfl); (case hr => first | (go_simp; done) | (go_simp; rfl)); intro gb101 hg w21 hbox hb; have n0_ := aa.mk (az (by repeat (first | (with_reducible first | exact HB.out | apply ah | apply af | apply ag) | exact HB.out)) hb); have n1_ := aa.mk (hbox); have n2_ := aa.mk ((by rw [hg]; exact (ay (by repeat (first | (with_reducible first | exact HB.out | apply ah | apply af | apply ag) | exact HB.out))) : w.heap.size ≤ gb101)); have n3_ := aa.mk ((by rw [hg]; exact (ay (by repeat (first | (with_reducible first | exact HB.out | apply ah | apply af | apply ag) | exact HB.out))) : w.heap.size ≤ gb101)); clear HB; have HB := n0_; have BK101 := n1_; have GW101 := n2_; have GE101 := n3_; clear n0_ n1_ n2_ n3_; clear hb hbox hg) | ((with_reducible refine bf (N := 6) rfl ?_); refine aY ?hg (N := 6) ?hd (cs := #[.int .i64 0, .slice none 0 0]) (t := 28) ?hr ?_; (case hd => rfl); (case hg => rfl); (case hr => first | (go_simp; done) | (go_simp; rfl)); intro gb102 hg w22 hbox hb; have n0_ := aa.mk (aK (g := gb101) (o := .cells #[.int .i64 a0_0, .slice A0_1 l0_1.length c0_1] 28 (0, 0)) (by (with_reducible repeat (first | refine ak ?_ _ | refine au ?_ | refine aj ?_ _)); exact BK101.out) hb); have n1_ := aa.mk (az (by repeat (first | (with_reducible first | exact HB.out | apply ah | apply af | apply ag | refine av ?_ GE101.out) | exact HB.out)) hb); have n2_ := aa.mk (hbox); have n3_ := aa.mk ((by rw [hg]; exact (ay (by repeat (first | (with_reducible first | exact HB.out | apply ah | apply af | apply ag | refine av ?_ GE101.out) | exact HB.out))) : w.heap.size ≤ gb102)); have n4_ := aa.mk ((by rw [hg]; exact (ay (by repeat (first | (with_reducible first | exact HB.out | apply ah | apply af | apply ag | refine av ?_ GE101.out) | exact HB.out))) : w.heap.size ≤ gb102)); have n5_ := aa.mk ((by rw [hg]; exact Nat.ne_of_lt (aA (g := gb101) (o := .cells #[.int .i64 a0_0, .slice A0_1 l0_1.length c0_1] 28 (0, 0)) (by (with_reducible repeat (first | refine ak ?_ _ | refine au ?_ | refine aj ?_ _)); exact BK101.out)) : gb101 ≠ gb102)); have n6_ := aa.mk ((by rw [hg]; exact Nat.ne_of_gt (aA (g := gb101) (o := .cells #[.int .i64 a0_0, .slice A0_1 l0_1.length c0_1] 28 (0, 0)) (by (with_reducible repeat (first | refine ak ?_ _ | refine au ?_ | refine aj ?_ _)); exact BK101.out)) : gb102 ≠ gb101)); clear BK101; clear HB; have BK101 := n0_; have HB := n1_; have BK102 := n2_; have GW102 := n3_; have GE102 := n4_; have NB101_102 := n5_; have NB102_101 := n6_; clear n0_ n1_ n2_ n3_ n4_ n5_ n6_; clear hb hbox hg; have hnb23 := NB101_102.out; have hnc23 := NB102_101.out; have hcz24_0 : w22.cell? ⟨gb101, 0, none⟩ = some (.int .i64 a0_0) := (ae BK101.out 0).trans rfl; have hcz24_1 : w22.cell? ⟨gb101, 1, none⟩ = some (.slice A0_1 l0_1.length c0_1) := (ae BK101.out 1).trans rfl; have hfz24_0 := ai BK101.out 0; have hfz24_1 := ai BK101.out 1) | ((with_reducible refine bB (f := 166) rfl ?_); refine dN (some 16) rfl rfl Tryz.func166 (by kernel_rfl) rfl #[.agg #[.int .i64 a0_0, .slice A0_1 l0_1.length c0_1], .int .i64 a1, .int .i64 a2] rfl (by (try simp only [List.map_toArray, List.map_cons, List.map_nil]); first | done | rfl | (simp only [List.length_drop, List.length_take]; rfl)) ?_; (with_reducible refine (gU.calls a0_0 _ _ l0_1 a1 a2 t103 t104 _ ?side1 ?side2 A4.out).mono ?_); (case side1 => repeat (first | exact (Kd.aN HR0_1.out HB.out) | (with_reducible refine Kd.dA ?_ _) | (with_reducible refine Kd.C_drewN ?_ _) | (with_reducible refine Kd.C_drew ?_))); (case side2 => exact HC0_1.out); rintro e w25 ⟨rfl, hb⟩; refine ⟨_, rfl, ?_⟩; have n0_ := aa.mk (aK (g := gb101) (o := .cells #[.int .i64 a0_0, .slice A0_1 l0_1.length c0_1] 28 (0, 0)) (by (with_reducible repeat (first | refine ak ?_ _ | refine au ?_ | refine aj ?_ _)); exact BK101.out) hb); have n1_ := aa.mk (aK (g := gb102) (o := .cells #[.int .i64 0, .slice none 0 0] 28 (0, 0)) (by (with_reducible repeat (first | refine ak ?_ _ | refine au ?_ | refine aj ?_ _)); exact BK102.out) hb); have n2_ := aa.mk (az (by repeat (first | (with_reducible first | exact HB.out | apply ah | apply af | apply ag | refine av ?_ GE101.out | refine av ?_ GE102.out) | exact HB.out)) hb); clear BK101; clear BK102; clear HB; have BK101 := n0_; have BK102 := n1_; have HB := n2_; clear n0_ n1_ n2_; (try clear hb); (try clear hb2); (try clear hk); (try clear hi); have hcz26_0 : w25.cell? ⟨gb101, 0, none⟩ = some (.int .i64 a0_0) := (ae BK101.out 0).trans rfl; have hcz26_1 : w25.cell? ⟨gb101, 1, none⟩ = some (.slice A0_1 l0_1.length c0_1) := (ae BK101.out 1).trans rfl; have hfz26_0 := ai BK101.out 0; have hfz26_1 := ai BK101.out 1) | ((with_reducible refine bB (f := 92) rfl ?_); refine dN (some 28) rfl rfl Tryz.func92 (by kernel_rfl) rfl #[.agg #[.int .i64 a0_0, .slice A0_1 l0_1.length c0_1], .agg #[.int .i64 t103, .int .i64 a1]] rfl (by (try simp only [List.map_toArray, List.map_cons, List.map_nil]); first | done | rfl | (simp only [List.length_drop, List.length_take]; rfl)) ?_; (with_reducible refine (dP.calls k a0_0 _ _ l0_1 t103 a1 t105 t106 t109 _ ?side1 ?side2 A6.out).mono ?_); (case side1 => repeat (first | exact (Kd.aN HR0_1.out HB.out) | (with_reducible refine Kd.dA ?_ _) | (with_reducible refine Kd.C_drewN ?_ _) | (with_reducible refine Kd.C_drew ?_))); (case side2 => exact HC0_1.out); rintro e w27 ⟨v107, rfl, ho0, hb⟩; refine ⟨_, rfl, ?_⟩; have n0_ := aa.mk (Kd.bH ho0 (ay (by repeat (first | (with_reducible first | exact HB.out | apply ah | apply af | apply ag | refine av ?_ GE101.out | refine av ?_ GE102.out) | exact HB.out)))); have n1_ := aa.mk (aK (g := gb101) (o := .cells #[.int .i64 a0_0, .slice A0_1 l0_1.length c0_1] 28 (0, 0)) (by (with_reducible repeat (first | refine ak ?_ _ | refine au ?_ | refine aj ?_ _)); exact BK101.out) hb); have n2_ := aa.mk (aK (g := gb102) (o := .cells #[.int .i64 0, .slice none 0 0] 28 (0, 0)) (by (with_reducible repeat (first | refine ak ?_ _ | refine au ?_ | refine aj ?_ _)); exact BK102.out) hb); have n3_ := aa.mk (az (by repeat (first | (with_reducible first | exact HB.out | apply ah | apply af | apply ag | refine av ?_ GE101.out | refine av ?_ GE102.out) | exact HB.out)) hb); clear BK101; clear BK102; clear HB; have HO108 := n0_; have BK101 := n1_; have BK102 := n2_; have HB := n3_; clear n0_ n1_ n2_ n3_; (try clear hb); (try clear hb2); (try clear hk); (try clear hi); (try clear ho0)) | ((with_reducible refine bf (N := 11) rfl ?_); refine aY ?hg (N := 11) ?hd (cs := #[.int .i64 0, .slice none 0 0]) (t := 28) ?hr ?_; (case hd => rfl); (case hg => rfl); (case hr => first | (go_simp; done) | (go_simp; rfl)); intro gb110 hg w28 hbox hb; have n0_ := aa.mk (Kd.bA (by (with_reducible repeat (first | apply Kd.bQ | apply Kd.bT | apply Kd.dC)); exact HO108.out) hb); have n1_ := aa.mk (aK (g := gb101) (o := .cells #[.int .i64 a0_0, .slice A0_1 l0_1.length c0_1] 28 (0, 0)) (by (with_reducible repeat (first | refine ak ?_ _ | refine au ?_ | refine aj ?_ _)); exact BK101.out) hb); have n2_ := aa.mk (aK (g := gb102) (o := .cells #[.int .i64 0, .slice none 0 0] 28 (0, 0)) (by (with_reducible repeat (first | refine ak ?_ _ | refine au ?_ | refine aj ?_ _)); exact BK102.out) hb); have n3_ := aa.mk (az (by repeat (first | (with_reducible first | exact HB.out | apply ah | apply af | apply ag | refine av ?_ GE101.out | refine av ?_ GE102.out) | exact HB.out)) hb); have n4_ := aa.mk (hbox); have n5_ := aa.mk ((by rw [hg]; exact (ay (by repeat (first | (with_reducible first | exact HB.out | apply ah | apply af | apply ag | refine av ?_ GE101.out | refine av ?_ GE102.out) | exact HB.out))) : w.heap.size ≤ gb110)); have n6_ := aa.mk ((by rw [hg]; exact (ay (by repeat (first | (with_reducible first | exact HB.out | apply ah | apply af | apply ag | refine av ?_ GE101.out | refine av ?_ GE102.out) | exact HB.out))) : w.heap.size ≤ gb110)); have n7_ := aa.mk ((by rw [hg]; exact Nat.ne_of_lt (aA (g := gb101) (o := .cells #[.int .i64 a0_0, .slice A0_1 l0_1.length c0_1] 28 (0, 0)) (by (with_reducible repeat (first | refine ak ?_ _ | refine au ?_ | refine aj ?_ _)); exact BK101.out)) : gb101 ≠ gb110)); have n8_ := aa.mk ((by rw [hg]; exact Nat.ne_of_gt (aA (g := gb101) (o := .cells #[.int .i64 a0_0, .slice A0_1 l0_1.length c0_1] 28 (0, 0)) (by (with_reducible repeat (first | refine ak ?_ _ | refine au ?_ | refine aj ?_ _)); exact BK101.out)) : gb110 ≠ gb101)); have n9_ := aa.mk ((by rw [hg]; exact Nat.ne_of_lt (aA (g := gb102) (o := .cells #[.int .i64 0, .slice none 0 0] 28 (0, 0)) (by (with_reducible repeat (first | refine ak ?_ _ | refine au ?_ | refine aj ?_ _)); exact BK102.out)) : gb102 ≠ gb110)); have n10_ := aa.mk ((by rw [hg]; exact Nat.ne_of_gt (aA (g := gb102) (o := .cells #[.int .i64 0, .slice none 0 0] 28 (0, 0)) (by (with_reducible repeat (first | refine ak ?_ _ | refine au ?_ | refine aj ?_ _)); exact BK102.out)) : gb110 ≠ gb102)); clear HO108; clear BK101; clear BK102; clear HB; have HO108 := n0_; have BK101 := n1_; have BK102 := n2_; have HB := n3_; have BK110 := n4_; have GW110 := n5_; have GE110 := n6_; have NB101_110 := n7_; have NB110_101 := n8_; have NB102_110 := n9_; have NB110_102 := n10_; clear n0_ n1_ n2_ n3_ n4_ n5_ n6_ n7_ n8_ n9_ n10_; clear hb hbox hg; have hnb29 := NB110_101.out; have hnc29 := NB101_110.out; have hnb30 := NB110_102.out; have hnc30 := NB102_110.out; have hcz31_0 : w28.cell? ⟨gb110, 0, none⟩ = some (.int .i64 0) := (ae BK110.out 0).trans rfl; have hcz31_1 : w28.cell? ⟨gb110, 1, none⟩ = some (.slice none 0 0) := (ae BK110.out 1).trans rfl; have hfz31_0 := ai BK110.out 0; have hfz31_1 := ai BK110.out 1; obtain ⟨Ao32, co32, eo32⟩ := Kd.aZ HO108.out; subst eo32; have hcz33_0 : w28.cell? ⟨gb102, 0, none⟩ = some (.int .i64 0) := (ae BK102.out 0).trans rfl; have hcz33_1 : w28.cell? ⟨gb102, 1, none⟩ = some (.slice none 0 0) := (ae BK102.out 1).trans rfl; have hfz33_0 := ai BK102.out 0; have hfz33_1 := ai BK102.out 1))
   refine bodyPost_ret (jK rfl _ _ gb102 28 #[.int .i64 0, .slice none 0 0] (0, 0) _ rfl (by (with_reducible repeat (first | refine ak ?_ _ | refine au ?_ | refine aj ?_ _)); refine aW (cs := #[.int .i64 0, .slice none 0 0]) ?_ 1 _ rfl; (with_reducible repeat (first | refine ak ?_ _ | refine au ?_ | refine aj ?_ _)); refine aW (cs := #[.int .i64 0, .slice none 0 0]) ?_ 0 _ rfl; (with_reducible repeat (first | refine ak ?_ _ | refine au ?_ | refine aj ?_ _)); refine bX ?_ NB102_110.out _; (with_reducible repeat (first | refine ak ?_ _ | refine au ?_ | refine aj ?_ _)); refine bX ?_ NB102_110.out _; (with_reducible repeat (first | refine ak ?_ _ | refine au ?_ | refine aj ?_ _)); exact BK102.out) Tryz.underlying28 rfl (by kernel_rfl)) rfl ?_
   exact ⟨_, by first | rfl | (simp [aD, aC] <;> rfl) | (simp [*, aD, aC] <;> rfl), by first | exact Kd.bW _ _ _ _ _ | exact Kd.N_nil _ _ _ _ _ | exact Kd.V_nil _ _ _ _ _ | exact Kd.Q_nil _ _ _ _ _ | exact Kd.jv _ _ _ _ _, by repeat (first | (with_reducible first | exact HB.out | apply ah | apply af | apply ag | refine av ?_ GE101.out | refine av ?_ GE102.out | refine av ?_ GE110.out) | exact HB.out)⟩
 ·rw [if_neg c5] at H
  have c5b0 : (t104 == 0) = false := beq_eq_false_iff_ne.mpr c5
  have c5b1 : (t104 != 0) = true := bne_iff_ne.mpr c5
  simp only [Option.some.injEq, Prod.mk.injEq] at H
  obtain ⟨rfl, rfl, rfl, rfl⟩ := H
  go_enter Tryz.func145, Tryz.ntmps145
  go_wp2_with (first | ((with_reducible refine bf (N := 3) rfl ?_); refine aY ?hg (N := 3) ?hd (cs := #[.int .i64 a0_0, .slice A0_1 l0_1.length c0_1]) (t := 28) ?hr ?_; (case hd => rfl); (case hg => rfl); (case hr => first | (go_simp; done) | (go_simp; rfl)); intro gb101 hg w34 hbox hb; have n0_ := aa.mk (az (by repeat (first | (with_reducible first | exact HB.out | apply ah | apply af | apply ag) | exact HB.out)) hb); have n1_ := aa.mk (hbox); have n2_ := aa.mk ((by rw [hg]; exact (ay (by repeat (first | (with_reducible first | exact HB.out | apply ah | apply af | apply ag) | exact HB.out))) : w.heap.size ≤ gb101)); have n3_ := aa.mk ((by rw [hg]; exact (ay (by repeat (first | (with_reducible first | exact HB.out | apply ah | apply af | apply ag) | exact HB.out))) : w.heap.size ≤ gb101)); clear HB; have HB := n0_; have BK101 := n1_; have GW101 := n2_; have GE101 := n3_; clear n0_ n1_ n2_ n3_; clear hb hbox hg) | ((with_reducible refine bf (N := 6) rfl ?_); refine aY ?hg (N := 6) ?hd (cs := #[.int .i64 0, .slice none 0 0]) (t := 28) ?hr ?_; (case hd => rfl); (case hg => rfl); (case hr => first | (go_simp; done) | (go_simp; rfl)); intro gb102 hg w35 hbox hb; have n0_ := aa.mk (aK (g := gb101) (o := .cells #[.int .i64 a0_0, .slice A0_1 l0_1.length c0_1] 28 (0, 0)) (by (with_reducible repeat (first | refine ak ?_ _ | refine au ?_ | refine aj ?_ _)); exact BK101.out) hb); have n1_ := aa.mk (az (by repeat (first | (with_reducible first | exact HB.out | apply ah | apply af | apply ag | refine av ?_ GE101.out) | exact HB.out)) hb); have n2_ := aa.mk (hbox); have n3_ := aa.mk ((by rw [hg]; exact (ay (by repeat (first | (with_reducible first | exact HB.out | apply ah | apply af | apply ag | refine av ?_ GE101.out) | exact HB.out))) : w.heap.size ≤ gb102)); have n4_ := aa.mk ((by rw [hg]; exact (ay (by repeat (first | (with_reducible first | exact HB.out | apply ah | apply af | apply ag | refine av ?_ GE101.out) | exact HB.out))) : w.heap.size ≤ gb102)); have n5_ := aa.mk ((by rw [hg]; exact Nat.ne_of_lt (aA (g := gb101) (o := .cells #[.int .i64 a0_0, .slice A0_1 l0_1.length c0_1] 28 (0, 0)) (by (with_reducible repeat (first | refine ak ?_ _ | refine au ?_ | refine aj ?_ _)); exact BK101.out)) : gb101 ≠ gb102)); have n6_ := aa.mk ((by rw [hg]; exact Nat.ne_of_gt (aA (g := gb101) (o := .cells #[.int .i64 a0_0, .slice A0_1 l0_1.length c0_1] 28 (0, 0)) (by (with_reducible repeat (first | refine ak ?_ _ | refine au ?_ | refine aj ?_ _)); exact BK101.out)) : gb102 ≠ gb101)); clear BK101; clear HB; have BK101 := n0_; have HB := n1_; have BK102 := n2_; have GW102 := n3_; have GE102 := n4_; have NB101_102 := n5_; have NB102_101 := n6_; clear n0_ n1_ n2_ n3_ n4_ n5_ n6_; clear hb hbox hg; have hnb36 := NB101_102.out; have hnc36 := NB102_101.out; have hcz37_0 : w35.cell? ⟨gb101, 0, none⟩ = some (.int .i64 a0_0) := (ae BK101.out 0).trans rfl; have hcz37_1 : w35.cell? ⟨gb101, 1, none⟩ = some (.slice A0_1 l0_1.length c0_1) := (ae BK101.out 1).trans rfl; have hfz37_0 := ai BK101.out 0; have hfz37_1 := ai BK101.out 1) | ((with_reducible refine bB (f := 166) rfl ?_); refine dN (some 16) rfl rfl Tryz.func166 (by kernel_rfl) rfl #[.agg #[.int .i64 a0_0, .slice A0_1 l0_1.length c0_1], .int .i64 a1, .int .i64 a2] rfl (by (try simp only [List.map_toArray, List.map_cons, List.map_nil]); first | done | rfl | (simp only [List.length_drop, List.length_take]; rfl)) ?_; (with_reducible refine (gU.calls a0_0 _ _ l0_1 a1 a2 t103 t104 _ ?side1 ?side2 A4.out).mono ?_); (case side1 => repeat (first | exact (Kd.aN HR0_1.out HB.out) | (with_reducible refine Kd.dA ?_ _) | (with_reducible refine Kd.C_drewN ?_ _) | (with_reducible refine Kd.C_drew ?_))); (case side2 => exact HC0_1.out); rintro e w38 ⟨rfl, hb⟩; refine ⟨_, rfl, ?_⟩; have n0_ := aa.mk (aK (g := gb101) (o := .cells #[.int .i64 a0_0, .slice A0_1 l0_1.length c0_1] 28 (0, 0)) (by (with_reducible repeat (first | refine ak ?_ _ | refine au ?_ | refine aj ?_ _)); exact BK101.out) hb); have n1_ := aa.mk (aK (g := gb102) (o := .cells #[.int .i64 0, .slice none 0 0] 28 (0, 0)) (by (with_reducible repeat (first | refine ak ?_ _ | refine au ?_ | refine aj ?_ _)); exact BK102.out) hb); have n2_ := aa.mk (az (by repeat (first | (with_reducible first | exact HB.out | apply ah | apply af | apply ag | refine av ?_ GE101.out | refine av ?_ GE102.out) | exact HB.out)) hb); clear BK101; clear BK102; clear HB; have BK101 := n0_; have BK102 := n1_; have HB := n2_; clear n0_ n1_ n2_; (try clear hb); (try clear hb2); (try clear hk); (try clear hi); have hcz39_0 : w38.cell? ⟨gb102, 0, none⟩ = some (.int .i64 0) := (ae BK102.out 0).trans rfl; have hcz39_1 : w38.cell? ⟨gb102, 1, none⟩ = some (.slice none 0 0) := (ae BK102.out 1).trans rfl; have hfz39_0 := ai BK102.out 0; have hfz39_1 := ai BK102.out 1))
  refine bodyPost_ret (jK rfl _ _ gb102 28 #[.int .i64 0, .slice none 0 0] (0, 0) _ rfl (by (with_reducible repeat (first | refine ak ?_ _ | refine au ?_ | refine aj ?_ _)); refine aW (cs := #[.int .i64 0, .slice none 0 0]) ?_ 1 _ rfl; (with_reducible repeat (first | refine ak ?_ _ | refine au ?_ | refine aj ?_ _)); refine aW (cs := #[.int .i64 0, .slice none 0 0]) ?_ 0 _ rfl; (with_reducible repeat (first | refine ak ?_ _ | refine au ?_ | refine aj ?_ _)); exact BK102.out) Tryz.underlying28 rfl (by kernel_rfl)) rfl ?_
  exact ⟨_, by first | rfl | (simp [aD, aC] <;> rfl) | (simp [*, aD, aC] <;> rfl), by first | exact Kd.bW _ _ _ _ _ | exact Kd.N_nil _ _ _ _ _ | exact Kd.V_nil _ _ _ _ _ | exact Kd.Q_nil _ _ _ _ _ | exact Kd.jv _ _ _ _ _, by repeat (first | (with_reducible first | exact HB.out | apply ah | apply af | apply ag | refine av ?_ GE101.out | refine av ?_ GE102.out) | exact HB.out)⟩
def putD (d : List (List Int)) (tz : Nat) (data : List Int) : Nat → List (List Int)
  | 0 => d
  | n + 1 => (putD d tz data n).set (tz + n) ((data.take ((n + 1) * 64)).drop (n * 64))
theorem nJ (d : List (List Int)) (tz : Nat) (data : List Int) : ∀ n, (putD d tz data n).length = d.length
  | 0 => rfl
  | n + 1 => by rw [putD, List.length_set, nJ d tz data n]
def jP (K : Nat) : Nat → St → Int → List Int → Option (St × Bool)
  | 0, _, _, _ => none
  | m + 1, s, at0, data =>
    if data.length / 64 = 0 then some (s, true) else
    (bY.f K s.fsize s.sp).bind fun r =>
    if r.1 < (data.length / 64 : Nat) then some (s, false) else
    (iG.f K s.fsize s.sp (if r.2.1 < (data.length / 64 : Nat) then r.2.1 else (data.length / 64 : Nat)) s.fsize).bind fun q =>
    if q.2.2.2 = 0 then
      (if 0 < r.2.1 ∧ 0 ≤ q.2.2.1 ∧ q.2.2.1 + (if r.2.1 < (data.length / 64 : Nat) then r.2.1 else (data.length / 64 : Nat)) ≤ s.data.length ∧ s.data.length ≤ 65536 then
        (jo.f K s.now at0 q.2.2.1 (if r.2.1 < (data.length / 64 : Nat) then r.2.1 else (data.length / 64 : Nat))).bind fun p =>
        if p.2 = 0 then jP K m { s with fsize := q.1, sp := q.2.1, data := putD s.data q.2.2.1.toNat data (if r.2.1 < (data.length / 64 : Nat) then r.2.1 else (data.length / 64 : Nat)).toNat, now := p.1 } (wrap64 (at0 + (if r.2.1 < (data.length / 64 : Nat) then r.2.1 else (data.length / 64 : Nat)))) (data.drop ((if r.2.1 < (data.length / 64 : Nat) then r.2.1 else (data.length / 64 : Nat)).toNat * 64))
        else some ({ s with fsize := q.1, sp := q.2.1, data := putD s.data q.2.2.1.toNat data (if r.2.1 < (data.length / 64 : Nat) then r.2.1 else (data.length / 64 : Nat)).toNat }, false)
      else none)
    else some (s, false)
def wr_T8 : Bool × List (List Nat × List Nat) := (true, [([], []), ([0], [0]), ([1], [1]), ([2], [2]), ([], []), ([], []), ([5], [5]), ([6], [6]), ([7], [7]), ([8], [8]), ([3, 4, 9], [3, 4, 9]), ([10], [10]), ([11], [11]), ([11], [11]), ([11], [11]), ([], []), ([15, 12, 10, 0, 1, 2, 3, 4, 5, 6, 7, 8, 9, 10, 11, 12, 15], [12, 15]), ([13, 16, 0, 1, 2, 3, 4, 5, 6, 7, 8, 9, 10, 11, 12, 13, 15, 16], [13]), ([14, 17, 0, 1, 2, 3, 4, 5, 6, 7, 8, 9, 10, 11, 12, 13, 14, 15, 16, 17], [14])])
def wr_B8 : List Nat := [0, 1, 3, 7, 0, 0, 32, 96, 224, 480, 1023, 2047, 4095, 4095, 4095, 0, 40959, 114687, 262143]
theorem zl : rtab .any (opsOf Tryz.f118 8) = wr_T8 := by kernel_rfl
theorem xN : cB wr_T8.2 wr_B8 = true := by kernel_rfl
def yR : Bool × List (List Nat × List Nat) := (true, [([], []), ([0], [0]), ([1], [1]), ([2], [2]), ([], []), ([], []), ([4, 5], [4, 5]), ([], []), ([], []), ([8], [8]), ([], []), ([10], [10]), ([11], [11]), ([7, 9, 12], [7, 9, 12]), ([13], [13]), ([3, 6, 0, 1, 2, 3, 4, 5, 6, 7, 8, 9, 10, 11, 12, 13, 14], [3, 6]), ([15, 14, 14, 0, 1, 2, 3, 4, 5, 6, 7, 8, 9, 10, 11, 12, 13, 14], [14, 15])])
def wr_B15 : List Nat := [0, 1, 3, 7, 0, 0, 48, 0, 0, 256, 0, 1024, 3072, 8064, 16256, 32767, 65535]
theorem xE : rtab .any (opsOf Tryz.f118 15) = yR := by kernel_rfl
theorem vF : cB yR.2 wr_B15 = true := by kernel_rfl
def yX : Bool × List (List Nat × List Nat) := (true, [([], []), ([], []), ([0, 1], [0, 1]), ([], []), ([], []), ([4], [4]), ([3, 5], [3, 5]), ([2, 0, 1, 2], [0, 2]), ([6, 7, 0, 1, 2, 3, 4, 5, 6, 7], [3, 6])])
def wr_B21 : List Nat := [0, 0, 3, 0, 0, 16, 56, 7, 255]
theorem xh : rtab .any (opsOf Tryz.f118 21) = yX := by kernel_rfl
theorem uC : cB yX.2 wr_B21 = true := by kernel_rfl
set_option maxHeartbeats 16000000 in
set_option maxRecDepth 100000 in
attribute [-go_sem] eu in
theorem jO.calls (KK M b : Nat) (s : St) (a : At4) (at0 : Int) (D : Option Addr) (c : Nat) (data : List Int) (s' : St) (ok : Bool) (w0 w : World) (hs : Sits w0 b s a w) (hD : Kd.C (Kd.int .u8) w0 D data.length data) (hc : data.length ≤ c) (h : jP KK M s at0 data = some (s', ok)) :
    Calls Tryz.prog 118 #[.pointer (some ⟨b, 0, none⟩), .int .i64 at0, .slice D data.length c] w fun e w' => ∃ a' : At4, e = .returned (.bool ok) ∧ Sits w0 b s' a' w' ∧ gH b a w w' ∧ a'.A6 = a.A6 := by
  have hu31 := Tryz.underlying31
  have hu28 := Tryz.underlying28
  have hu151 := Tryz.underlying151
  have HQ := aa.mk (show ∀ l : List Int, l.length ≤ 9223372036854775807 → wrap64 ((l.length : Int) / 64) = ((l.length / 64 : Nat) : Int) from fun l hl => by rw [w64 (by omega)]; omega)
  have HS := aa.mk hs
  have HD := aa.mk (And.intro hD hc)
  have HG := aa.mk h
  clear hs hD hc h
  go_enter Tryz.func118, Tryz.ntmps118
  go_wp2_with fail
  go_loopg [1, 2, 7] M (fun gk v1 v2 v7 W => ∃ (at1 : Int) (dt : List Int) (D1 : Option Addr) (c1 : Nat) (s1 : St) (a1 : At4), v1 = .int .i64 at1 ∧ v2 = .slice D1 dt.length c1 ∧ v7 = .int .i64 ((dt.length / 64 : Nat) : Int) ∧ aa (jP KK gk s1 at1 dt = some (s', ok)) ∧ aa (Sits w0 b s1 a1 W) ∧ aa (gH b a w W ∧ a1.A6 = a.A6) ∧ aa (Kd.C (Kd.int .u8) w0 D1 dt.length dt ∧ dt.length ≤ c1))
  case atStart => exact ⟨at0, data, D, c, s, a, rfl, rfl, by rw [HQ.out data HD.out.1.2.1], HG, HS, ⟨gH.refl _ _ _, rfl⟩, HD⟩
  case round =>
    obtain ⟨at1, dt, D1, c1, s1, a1, rfl, rfl, rfl, HG, HS, HK, HD⟩ := hrel
    cases gk with
    | zero => have := HG.out; rw [jP] at this; cases this
    | succ m =>
      have hg := HG.out
      rw [jP] at hg
      obtain ⟨n, hn⟩ : ∃ n, n = dt.length / 64 := ⟨_, rfl⟩
      rw [← hn] at hg ⊢
      have HN := aa.mk hn
      clear hn HG
      by_cases hz : n = 0
      · rw [if_pos hz] at hg
        obtain ⟨rfl, rfl⟩ := Prod.mk.inj (Option.some.inj hg)
        have hd : decide ((0 : Int) < (n : Int)) = false := decide_eq_false (by omega)
        have hd2 : decide (0 < n) = false := decide_eq_false (by omega)
        clear hg hz
        go_wp2_with fail
        go_ret
        exact ⟨a1, rfl, HS.out, HK.out.1, HK.out.2⟩
      rw [if_neg hz] at hg
      have hd : decide ((0 : Int) < (n : Int)) = true := decide_eq_true (by omega)
      have hd2 : decide (0 < n) = true := decide_eq_true (by omega)
      have HNZ := aa.mk hz
      obtain ⟨⟨r1, r2, r3⟩, hrm, hg⟩ := Option.bind_eq_some_iff.1 hg
      have hx := HS.out.hx
      unfold aI at hx
      have q4 := (ae hx 4).trans rfl
      have q5 := (ae hx 5).trans rfl
      have HRM := aa.mk (bY.calls KK s1.fsize a1.A5 a1.c5 s1.sp r1 r2 r3 wr HS.out.reads.h5 HS.out.reads.l5 hrm)
      have HG := aa.mk hg
      clear hrm hg hz hx
      go_wp2_with fail
      refine HRM.out.mono ?_
      rintro e w1 ⟨rfl, hb1⟩
      have HS1 := aa.mk (HS.out.below hb1)
      have HK1 := aa.mk (And.intro (HK.out.1.below hb1) HK.out.2)
      clear HRM hb1 q4 q5 HS HK hd hd2
      have hg := HG.out
      by_cases ha : r1 < (n : Int)
      · rw [if_pos ha] at hg
        obtain ⟨rfl, rfl⟩ := Prod.mk.inj (Option.some.inj hg)
        have hd : decide (r1 < (n : Int)) = true := decide_eq_true ha
        clear hg ha
        go_wp2_with fail
        go_ret
        exact ⟨a1, rfl, HS1.out, HK1.out.1, HK1.out.2⟩
      rw [if_neg ha] at hg
      have hd : decide (r1 < (n : Int)) = false := decide_eq_false ha
      clear HG
      obtain ⟨z, hz⟩ : ∃ z : Int, z = (if r2 < (n : Int) then r2 else (n : Int)) := ⟨_, rfl⟩
      have hmin : Builtin.min2 (.int .i64 (n : Int)) (.int .i64 r2) = pure (.int .i64 z) := by rw [eu, ← hz]
      rw [← hz] at hg
      have HZ := aa.mk hz
      obtain ⟨⟨fz, sp, tz, e4⟩, ham, hg⟩ := Option.bind_eq_some_iff.1 hg
      have HAM := aa.mk ham
      have HG := aa.mk hg
      clear hg ha hz ham
      go_wp2_with fail
      have hx := HS1.out.hx
      unfold aI at hx
      refine dG (n := 19) (S := fun w' => w'.cell? ⟨b, 4, none⟩ = some (.int .i64 s1.fsize) ∧ w'.cell? ⟨b, 5, none⟩ = some (.slice a1.A5 s1.sp.length a1.c5)) (ds := [16]) (lb 19 0) (by kernel_rfl) rfl (by kernel_rfl) ⟨(ae hx 4).trans rfl, (ae hx 5).trans rfl⟩ (fun hHeld => ?_)
      refine bG zl xN (fun HT_ HW_ => ?_)
      have HS2 := aa.mk (HS1.out.below (aQ (Below.refl _ _)))
      have HK2 := aa.mk (And.intro (HK1.out.1.below (aQ (Below.refl _ _))) HK1.out.2)
      clear hx HS1 HK1 hmin hd
      generalize w1.drew = w2 at hHeld HS2 HK2 ⊢
      refine pu_ 0 40 19 1 ?_
      refine pu_ 1 41 19 3 ?_
      refine pu_ 2 42 19 7 ?_
      refine tk_ 3 43 19 15 ?_
      refine pu_ 4 44 19 31 ?_
      refine pu_ 5 45 19 63 ?_
      refine pu_ 6 46 19 127 ?_
      refine pu_ 7 47 19 255 ?_
      refine pu_ 8 48 19 511 ?_
      refine tk_ 9 49 19 1023 ?_
      refine join_ (σ := Nat × Option Addr × Nat) 3 #[yT,yT,yT,yT,yT,yT,yT,yT,yT,yT,yT,yT,yT,yT,yT,yT,yF,yF,yF] (fun s_ => [(50, .tuple #[.agg #[.int .i64 fz, .slice s_.2.1 sp.length s_.2.2], .int .i64 tz, .int .i64 e4]), (39, .tuple #[.agg #[.int .i64 fz, .slice s_.2.1 sp.length s_.2.2], .int .i64 tz, .int .i64 e4]), (51, .agg #[.int .i64 fz, .slice s_.2.1 sp.length s_.2.2]), (52, .int .i64 tz), (53, .int .i64 e4), (11, .pointer (some ⟨s_.1, 0, none⟩))]) (fun s_ w' => Sits w0 b s1 a1 w' ∧ (gH b a w w' ∧ a1.A6 = a.A6) ∧ w'.heap[s_.1]? = some (.cells #[.int .i64 0, .slice none 0 0] 28 (0, 0)) ∧ w.heap.size ≤ s_.1 ∧ s_.1 ≠ b ∧ w0.heap.size ≤ s_.1 ∧ Kd.R k93 93 w' w0.heap.size (fun k => k ≠ b ∧ k ≠ s_.1) (.slice s_.2.1 sp.length s_.2.2) sp) ?_ ?_
      rotate_left
      · intro hCont
        have HC := aa.mk hCont
        clear hCont
        refine two_ (i := 10) (j := 15) (Ni := some 50) (Nj := some 11) #[yT,yT,yT,yT,yT,yT,yT,yT,yT,yT,yT,yF,yF,yF,yF,yF,yF,yF,yF] #[yT,yT,yT,yT,yT,yT,yT,yT,yT,yT,yF,yF,yF,yF,yF,yT,yF,yF,yF] rfl rfl rfl rfl (two_of HT_.out (by kernel_rfl)) (by decide) (by decide) (fun K hK => ?_) (fun K hK => ?_)
        · refine dO Tryz.func145 (by kernel_rfl) rfl #[.agg #[.int .i64 s1.fsize, .slice a1.A5 s1.sp.length a1.c5], .int .i64 z, .int .i64 s1.fsize] (by rfl) rfl rfl (by (try simp only [List.map_toArray, List.map_cons, List.map_nil]); first | done | rfl) ?_
          refine (iG.calls KK s1.fsize a1.A5 a1.c5 s1.sp z s1.fsize fz sp tz e4 w2 HS2.out.reads.h5 HS2.out.reads.l5 HAM.out).mono ?_
          rintro e w3 ⟨v, rfl, hR, hb⟩
          obtain ⟨A3, c3, rfl⟩ := Kd.aZ hR
          refine ⟨_, rfl, ?_⟩
          have HS3 := aa.mk (HS2.out.below hb)
          have HK3 := aa.mk (And.intro (HK2.out.1.below hb) HK2.out.2)
          have HN := aa.mk (Kd.bO (Kd.bH (Kd.aX (Kd.bO hR) (fun k hk => show w2.heap.size ≤ k from hk.2.1)) HS2.out.hb.size))
          refine hK.out _ _ ⟨(hb.cell (World.block_lt_of_cell? _ _ hHeld.1)).trans hHeld.1, (hb.cell (World.block_lt_of_cell? _ _ hHeld.2)).trans hHeld.2⟩ (fun hHeld => ?_)
          have HBW := aa.mk (aA HS2.out.hx)
          clear hK K hR hb HS2 HK2
          refine nm_ 50 ?_
          refine pu_ 11 39 19 4095 ?_
          refine pu_ 12 51 19 8191 ?_
          refine pu_ 13 52 19 16383 ?_
          refine pu_ 14 53 19 32767 ?_
          refine on_ 15 11 19 65535 (fun K hK => ?_)
          refine nO ?hg (N := 11) ?hd (cs := #[.int .i64 0, .slice none 0 0]) (t := 28) ?hr ?_; (case hd => rfl); (case hg => rfl); (case hr => first | (go_simp; done) | (go_simp; rfl))
          intro bx hg w4 hbox hb
          refine hK.out _ _ ⟨(hb.cell (World.block_lt_of_cell? _ _ hHeld.1)).trans hHeld.1, (hb.cell (World.block_lt_of_cell? _ _ hHeld.2)).trans hHeld.2⟩ (fun hHeld => ?_)
          have hsz := HK3.out.1.1
          have hsw := HS3.out.hb.size
          have hlt := aA HS3.out.hx
          refine nm_ 11 ?_
          exact AA (by simp only [mK, Act.put, List.setIfInBounds_toArray, List.set_cons_zero, List.set_cons_succ]) (HC.out (bx, A3, c3) _ ⟨HS3.out.below hb, ⟨HK3.out.1.below hb, HK3.out.2⟩, hbox, by rw [hg]; omega, by rw [hg]; omega, by rw [hg]; omega, Kd.aX (Kd.bA HN.out hb) (fun k hk => ⟨fun e => by have := hk.1; have := HBW.out; omega, fun e => by have := hk.2.2.1; omega⟩)⟩)
        · refine nO ?hg (N := 11) ?hd (cs := #[.int .i64 0, .slice none 0 0]) (t := 28) ?hr ?_; (case hd => rfl); (case hg => rfl); (case hr => first | (go_simp; done) | (go_simp; rfl))
          intro bx hg w3 hbox hb
          have hsz := HK2.out.1.1
          have hsw := HS2.out.hb.size
          have hlt := aA HS2.out.hx
          have HBX := aa.mk (show w3.heap[bx]? = some (.cells #[.int .i64 0, .slice none 0 0] 28 (0, 0)) ∧ w.heap.size ≤ bx ∧ bx ≠ b ∧ w0.heap.size ≤ bx from ⟨hbox, by rw [hg]; omega, by rw [hg]; omega, by rw [hg]; omega⟩)
          have HS3 := aa.mk (HS2.out.below hb)
          have HK3 := aa.mk (And.intro (HK2.out.1.below hb) HK2.out.2)
          refine hK.out _ _ ⟨(hb.cell (World.block_lt_of_cell? _ _ hHeld.1)).trans hHeld.1, (hb.cell (World.block_lt_of_cell? _ _ hHeld.2)).trans hHeld.2⟩ (fun hHeld => ?_)
          clear hK K hg hbox hb HS2 HK2 hsz hsw hlt
          have HS2 := HS3
          have HK2 := HK3
          clear HS3 HK3
          refine nm_ 11 ?_
          refine on_ 10 50 19 34815 (fun K hK => ?_)
          refine dO Tryz.func145 (by kernel_rfl) rfl #[.agg #[.int .i64 s1.fsize, .slice a1.A5 s1.sp.length a1.c5], .int .i64 z, .int .i64 s1.fsize] (by rfl) rfl rfl (by (try simp only [List.map_toArray, List.map_cons, List.map_nil]); first | done | rfl) ?_
          refine (iG.calls KK s1.fsize a1.A5 a1.c5 s1.sp z s1.fsize fz sp tz e4 w3 HS2.out.reads.h5 HS2.out.reads.l5 HAM.out).mono ?_
          rintro e w4 ⟨v, rfl, hR, hb⟩
          obtain ⟨A3, c3, rfl⟩ := Kd.aZ hR
          refine ⟨_, rfl, ?_⟩
          have HS3 := aa.mk (HS2.out.below hb)
          have HK3 := aa.mk (And.intro (HK2.out.1.below hb) HK2.out.2)
          have HN := aa.mk (Kd.bH (Kd.aX (Kd.bO hR) (fun k hk => show w3.heap.size ≤ k from hk.2.1)) HS2.out.hb.size)
          refine hK.out _ _ ⟨(hb.cell (World.block_lt_of_cell? _ _ hHeld.1)).trans hHeld.1, (hb.cell (World.block_lt_of_cell? _ _ hHeld.2)).trans hHeld.2⟩ (fun hHeld => ?_)
          have HBW := aa.mk (aA HS2.out.hx)
          have HBX' := aa.mk ((hb.block _ (aA HBX.out.1)).trans HBX.out.1)
          clear hK K hR hb HS2 HK2
          refine nm_ 50 ?_
          refine pu_ 11 39 19 36863 ?_
          refine pu_ 12 51 19 40959 ?_
          refine pu_ 13 52 19 49151 ?_
          refine pu_ 14 53 19 65535 ?_
          exact AA (by simp only [mK, Act.put, List.setIfInBounds_toArray, List.set_cons_zero, List.set_cons_succ]) (HC.out (bx, A3, c3) _ ⟨HS3.out, HK3.out, HBX'.out, HBX.out.2.1, HBX.out.2.2.1, HBX.out.2.2.2, Kd.aX HN.out (fun k hk => ⟨fun e => by have := HBW.out; omega, fun e => by have := aA HBX.out.1; omega⟩)⟩)
      rintro ⟨bx, A3, c3⟩ w4 ⟨hS, hK4, hbox, hbw, hbn, hb0, hN⟩
      have HS4 := aa.mk hS
      have HK4 := aa.mk hK4
      have HBX := aa.mk hbox
      have HBN := aa.mk (And.intro hbw (And.intro hbn hb0))
      have HN4 := aa.mk hN
      clear hS hK4 hbox hbw hbn hb0 hN HS2 HK2 hHeld
      simp only [mK, Act.put, List.setIfInBounds_toArray, List.set_cons_zero, List.set_cons_succ]
      have HR5 := aa.mk (show ∃ W, W = w4.setRow bx #[.int .i64 fz, .slice A3 sp.length c3] from ⟨_, rfl⟩)
      refine jr (i := 16) (N := none) #[yT,yT,yT,yT,yT,yT,yT,yT,yT,yT,yT,yT,yT,yT,yT,yT,yT,yF,yF] rfl rfl (fA HT_.out (by kernel_rfl)) (by decide) (fun K hK => ?_)
      refine iV (w1 := w4.setRow bx #[.int .i64 fz, .slice A3 sp.length c3]) (by rfl) rfl (fB 28 (.tmp 11) (.tmp 51) rfl _ bx 0 rfl #[.int .i64 fz, .slice A3 sp.length c3] rfl rfl 28 _ HBX.out (by kernel_rfl) (Nat.le_refl 2) (by simp [Value.oneCell'])) ?_
      refine hK.out _ _ ?_
      clear hK K
      obtain ⟨w5, hw5⟩ := HR5.out
      rw [← hw5]
      have hfar : ∀ k, k ≠ bx → w5.heap[k]? = w4.heap[k]? := fun k hk => by rw [hw5]; exact setRow_other w4 bx k _ hk
      have hbx5 : w5.heap[bx]? = some (.cells #[.int .i64 fz, .slice A3 sp.length c3] 28 (0, 0)) := by rw [hw5]; exact setRow_heap w4 bx _ _ _ _ HBX.out
      have HN5 := aa.mk (Kd.bR HN4.out (fun k hk _ => hfar k hk.2))
      have HS5 := aa.mk (HS4.out.other (w1 := w5) HBX.out (by decide) (by decide) (by decide) (by decide) HBN.out.2.1 hfar (by rw [hw5]; exact aJ HS4.out.hb HBN.out.2.2 _))
      have HK5 := aa.mk (show gH b a w w5 ∧ a1.A6 = a.A6 from ⟨⟨by rw [hw5, setRow_size]; exact HK4.out.1.1, fun k h1 h2 h3 => (hfar k (by have := HBN.out.1; omega)).trans (HK4.out.1.2 k h1 h2 h3)⟩, HK4.out.2⟩)
      have HBX5 := aa.mk hbx5
      clear hfar hbx5 hw5 HR5 HN4 HS4 HK4 HBX
      refine pu_ 17 12 19 262143 ?_
      refine pu_ 18 13 19 524287 ?_
      refine eQ (bU HT_.out (by kernel_rfl)) ?_
      clear HT_ HW_
      by_cases he : e4 = 0
      case neg =>
        have hbn : (e4 != 0) = true := bne_iff_ne.mpr he
        have hg := HG.out
        rw [if_neg he] at hg
        obtain ⟨rfl, rfl⟩ := Prod.mk.inj (Option.some.inj hg)
        clear hg he
        go_wp2_with fail
        go_ret
        first | exact ⟨a1, rfl, HS5.out, HK5.out.1, HK5.out.2⟩ | exact ⟨rfl, a1, HS5.out, HK5.out.1, HK5.out.2⟩
      subst he
      have hg := HG.out
      rw [if_pos rfl] at hg
      split at hg
      case isFalse => cases hg
      rename_i hcond
      have HCO := aa.mk hcond
      clear HG
      have HG := aa.mk hg
      clear hg hcond
      have hbx5 := HBX5.out
      have p0 := (ae hbx5 0).trans rfl
      have p1 := (ae hbx5 1).trans rfl
      clear hbx5
      go_wp2_with (refine gI (.store 28 (.tmp 59) (.tmp 57)) rfl ?_; refine gG ?_)
      refine ⟨?_⟩
      refine eD (P := Tryz.prog) rfl 28 (.tmp 59) (.tmp 57) rfl _ b 4 rfl #[.int .i64 fz, .slice A3 sp.length c3] rfl rfl 31 (aI s1 a1) HS5.out.hx (by kernel_rfl) (show 4 + 2 ≤ 7 by decide) (by simp [Value.oneCell']) ?_
      have HS6 := aa.mk (HS5.out.uf fz sp A3 c3 (Kd.aX HN5.out (fun k hk => hk.1)) _ rfl)
      have HK6 := aa.mk (HK5.out.1.row (#[.int .i64 s1.size, .slice a1.A1 s1.now.length a1.c1, .slice a1.A2 s1.snaps.length a1.c2, .int .i64 s1.next, .int .i64 fz, .slice A3 sp.length c3, .slice a1.A6 s1.data.length a1.c6]))
      obtain ⟨row, hrow⟩ : ∃ r, r = ((aI s1 a1).toList.take 4 ++ (#[.int .i64 fz, .slice A3 sp.length c3] : Array Value).toList ++ (aI s1 a1).toList.drop (4 + (#[.int .i64 fz, .slice A3 sp.length c3] : Array Value).toList.length)).toArray := ⟨_, rfl⟩
      rw [← hrow]
      rw [(show row = #[.int .i64 s1.size, .slice a1.A1 s1.now.length a1.c1, .slice a1.A2 s1.snaps.length a1.c2, .int .i64 s1.next, .int .i64 fz, .slice A3 sp.length c3, .slice a1.A6 s1.data.length a1.c6] from hrow)]
      clear hrow p0 p1 HBX5 HS5 HN5
      have HA6 := aa.mk HK5.out.2
      clear HK5
      generalize w5.setRow b #[.int .i64 s1.size, .slice a1.A1 s1.now.length a1.c1, .slice a1.A2 s1.snaps.length a1.c2, .int .i64 s1.next, .int .i64 fz, .slice A3 sp.length c3, .slice a1.A6 s1.data.length a1.c6] = w6 at HS6 HK6 ⊢
      obtain ⟨t0, rfl⟩ := Int.eq_ofNat_of_zero_le HCO.out.2.1
      have hzp : 0 < z := by have h1 := HCO.out.1; have h2 := HZ.out; have h3 := HNZ.out; rw [h2]; split <;> omega
      have hzn : z ≤ n := by rw [HZ.out]; split <;> omega
      obtain ⟨zn, rfl⟩ := Int.eq_ofNat_of_zero_le (Int.le_of_lt hzp)
      have HZN := aa.mk (show 0 < zn ∧ zn ≤ n ∧ t0 + zn ≤ s1.data.length ∧ s1.data.length ≤ 65536 ∧ zn * 64 ≤ dt.length from ⟨by omega, by omega, by have := HCO.out.2.2.1; omega, HCO.out.2.2.2, by have := HN.out; omega⟩)
      clear hzp hzn HZ HCO
      go_wp2_with fail
      go_loopg [61] zn (fun gk v61 W => ∃ i : Nat, v61 = .int .i64 (i : Int) ∧ aa (i + gk = zn) ∧ aa (Sits w0 b { s1 with fsize := fz, sp := sp, data := putD s1.data t0 dt i } { a1 with A5 := A3, c5 := c3 } W) ∧ aa (gH b a w W))
      case atStart => exact ⟨0, rfl, ⟨by simp⟩, HS6, ⟨⟨HK6.out.1, HK6.out.2⟩⟩⟩
      case round =>
        obtain ⟨i, rfl, HI, HS, HK⟩ := hrel
        cases gk with
        | zero =>
          have hi2 : i = zn := by have := HI.out; omega
          subst hi2
          have hd : decide ((i : Int) < (i : Int)) = false := decide_eq_false (by omega)
          have hx6 := HS.out.hx
          unfold aI at hx6
          have q1 := (ae hx6 1).trans rfl
          dsimp only at q1
          obtain ⟨⟨l, e2⟩, hpm, hg⟩ := Option.bind_eq_some_iff.1 HG.out
          have HPT := aa.mk (jo.calls KK a1.A1 a1.c1 s1.now at1 (t0 : Int) (i : Int) l e2 wr HS.out.reads.h1 HS.out.reads.l1 hpm)
          have HG2 := aa.mk hg
          clear hpm hg hx6 HG HK6 HS6 HI
          go_wp2_with fail
          refine HPT.out.mono ?_
          rintro e w8 ⟨v, rfl, hR, hb⟩
          obtain ⟨A4, c4, rfl⟩ := Kd.aZ hR
          have hltb := aA HS.out.hx
          have HNB := aa.mk (show Kd.R k151 151 w8 w0.heap.size (fun k => k ≠ b) (.slice A4 l.length c4) l from Kd.bH (Kd.aX (Kd.bO hR) (fun k hk => by have := hk.2.1; omega)) HS.out.hb.size)
          have HS8 := aa.mk (HS.out.below hb)
          have HK8 := aa.mk (HK.out.below hb)
          clear hR hb hltb HS HK HPT q1 hd
          by_cases he : e2 = 0
          case neg =>
            have hbn : (e2 != 0) = true := bne_iff_ne.mpr he
            have hg := HG2.out
            rw [if_neg he] at hg
            obtain ⟨rfl, rfl⟩ := Prod.mk.inj (Option.some.inj hg)
            clear hg he
            go_wp2_with fail
            go_ret
            first | exact ⟨_, rfl, HS8.out, HK8.out, HA6.out⟩ | exact ⟨rfl, _, HS8.out, HK8.out, HA6.out⟩
          subst he
          have hg := HG2.out
          rw [if_pos rfl] at hg
          clear HG2
          have HG := aa.mk hg
          have hx8 := HS8.out.hx
          unfold aI at hx8
          have q1 := (ae hx8 1).trans rfl
          have hfz := ai hx8 1
          have HS9 := aa.mk (HS8.out.setNow l A4 c4 HNB.out)
          have HK9 := aa.mk (HK8.out.cell 1 (.slice A4 l.length c4))
          clear hg hx8 HNB HS8 HK8
          dsimp only at q1
          go_wp2_with fail
          clear q1 hfz
          generalize w8.setCell ⟨b, 1, none⟩ (.slice A4 l.length c4) = w9 at HS9 HK9 ⊢
          obtain ⟨lo, hlo⟩ : ∃ k, k = i * 64 := ⟨_, rfl⟩
          have hll : lo ≤ dt.length := by have := HZN.out; omega
          have hdl := HD.out.1.2.1
          have HW1 := aa.mk (show wrap64 ((i : Int) * 64) = (lo : Int) by have := HZN.out; rw [w64 (by omega)]; omega)
          obtain ⟨x, hx⟩ : ∃ x, x = dt.drop lo := ⟨_, rfl⟩
          have hxl : dt.length - lo = x.length := by rw [hx, List.length_drop]
          have hC := Kd.yO (c := c1) HD.out.1 hll HD.out.2
          obtain ⟨D2, hD2⟩ : ∃ A, A = (if c1 = lo then D1 else D1.map (·.add (lo * (Kd.int .u8).sz))) := ⟨_, rfl⟩
          have hcut := pF D1 dt.length c1 lo hll HD.out.2
          rw [(show (if c1 = lo then D1 else D1.map (·.add (lo * 1))) = D2 from hD2.symm), hxl] at hcut
          rw [← hD2, ← hx] at hC
          have HC := aa.mk (And.intro hC (show x.length ≤ c1 - lo by have := HD.out.2; omega))
          have hg := HG.out
          rw [(show ((i : Int)).toNat * 64 = lo by rw [hlo]; rfl), ← hx] at hg
          have HG2 := aa.mk hg
          clear hC hx hxl hdl hD2 hlo hg HG hll
          refine dG (n := 9) (S := fun _ => True) (ds := []) (lb 9 0) (by kernel_rfl) rfl (by kernel_rfl) trivial (fun hHeld => ?_)
          refine bG xh uC (fun HT_ HW_ => ?_)
          have HS10 := aa.mk (HS9.out.below (aQ (Below.refl _ _)))
          have HK10 := aa.mk (HK9.out.below (aQ (Below.refl _ _)))
          clear HS9 HK9
          generalize w9.drew = w10 at hHeld HS10 HK10 ⊢
          refine pu_ 0 99 9 1 ?_
          refine pu_ 1 100 9 3 ?_
          refine pu_ 2 101 9 7 ?_
          refine pu_ 3 102 9 15 ?_
          refine pu_ 4 103 9 31 ?_
          refine pu_ 5 104 9 63 ?_
          rw [HW1.out]
          refine pu_ 6 105 9 127 ?_
          refine pu_ 7 1 9 255 ?_
          refine pu_ 8 2 9 511 ?_
          refine eQ (bU HT_.out (by kernel_rfl)) ?_
          clear HT_ HW_ hcut
          go_wp2_with fail
          go_roundg m
          case measure => omega
          case rel => exact ⟨_, x, D2, _, _, _, rfl, rfl, by rw [HQ.out x HC.out.1.2.1], HG2, HS10, ⟨HK10.out, HA6.out⟩, HC⟩
        | succ k1 =>
          have hi2 : i < zn := by have := HI.out; omega
          have hd : decide ((i : Int) < (zn : Int)) = true := decide_eq_true (by omega)
          have hd2 : decide (i < zn) = true := decide_eq_true hi2
          obtain ⟨tt, htt⟩ : ∃ k, k = t0 + i := ⟨_, rfl⟩
          obtain ⟨lo, hlo⟩ : ∃ k, k = i * 64 := ⟨_, rfl⟩
          obtain ⟨i1, hi1⟩ : ∃ k, k = i + 1 := ⟨_, rfl⟩
          obtain ⟨hi, hhi⟩ : ∃ k, k = (i + 1) * 64 := ⟨_, rfl⟩
          have hdl := HD.out.1.2.1
          have HW1 := aa.mk (show wrap64 ((t0 : Int) + (i : Int)) = (tt : Int) by have := HZN.out; rw [w64 (by omega)]; omega)
          have HW2 := aa.mk (show wrap64 ((i : Int) * 64) = (lo : Int) by have := HZN.out; rw [w64 (by omega)]; omega)
          have HW3 := aa.mk (show wrap64 ((i : Int) + 1) = (i1 : Int) by have := HZN.out; rw [w64 (by omega)]; omega)
          have HW4 := aa.mk (show wrap64 ((i1 : Int) * 64) = (hi : Int) by have := HZN.out; rw [w64 (by omega)]; omega)
          have hlh : lo ≤ hi := by omega
          have hhl : hi ≤ dt.length := by have := HZN.out; omega
          obtain ⟨x, hx⟩ : ∃ x, x = (dt.take hi).drop lo := ⟨_, rfl⟩
          have hxl : hi - lo = x.length := by rw [hx, List.length_drop, List.length_take]; omega
          have hC := Kd.C_mid (c := c1) HD.out.1 hlh hhl HD.out.2
          obtain ⟨D2, hD2⟩ : ∃ A, A = (if c1 = lo then D1 else D1.map (·.add (lo * (Kd.int .u8).sz))) := ⟨_, rfl⟩
          have hcut := cut_by D1 dt.length c1 lo hi hlh hhl HD.out.2
          rw [(show (if c1 = lo then D1 else D1.map (·.add (lo * 1))) = D2 from hD2.symm), hxl] at hcut
          rw [← hD2, ← hx] at hC
          have HC := aa.mk hC
          have HXL := aa.mk (show x.length = 64 by omega)
          have HXE := aa.mk (And.intro htt (And.intro hlo (And.intro hhi hx)))
          have hcx := HD.out.2
          have HCX := aa.mk (show x.length ≤ c1 - lo by omega)
          obtain ⟨g, hA6, -, hg0, _⟩ := HS.out.own.yQ (j := tt) (by show tt < (putD s1.data t0 dt i).length; rw [nJ]; have := HZN.out; omega)
          have HTT := aa.mk (show tt < (putD s1.data t0 dt i).length by rw [nJ]; have := HZN.out; omega)
          obtain ⟨len6, hl6⟩ : ∃ k, k = (putD s1.data t0 dt i).length := ⟨_, rfl⟩
          have hx6 := HS.out.hx
          unfold aI at hx6
          dsimp only at hx6
          rw [hA6, ← hl6] at hx6
          have HG6 := aa.mk (And.intro hA6 hl6)
          clear hC hx hxl hcx hdl hD2 hhi hi1 hlo htt hA6 hl6 hg0
          go_wp2_with fail
          refine dG (n := 17) (S := fun w' => w'.cell? ⟨b, 6, none⟩ = some (.slice (some ⟨g, 0, none⟩) len6 a1.c6)) (ds := [16]) (lb 17 0) (by kernel_rfl) rfl (by kernel_rfl) ((ae hx6 6).trans rfl) (fun hHeld => ?_)
          refine bG xE vF (fun HT_ HW_ => ?_)
          have HS7 := aa.mk (HS.out.below (aQ (Below.refl _ _)))
          have HK7 := aa.mk (HK.out.below (aQ (Below.refl _ _)))
          clear hx6 HS HK
          generalize wr.drew = w7 at hHeld HS7 HK7 ⊢
          refine pu_ 0 64 17 1 ?_
          refine pu_ 1 65 17 3 ?_
          refine pu_ 2 66 17 7 ?_
          refine tk_ 3 67 17 15 ?_
          refine pu_ 4 68 17 31 ?_
          refine pu_ 5 69 17 63 ?_
          refine pu_ 6 70 17 127 ?_
          rw [HW1.out]
          refine pu_ 7 71 17 255 ?_
          refine pu_ 8 72 17 511 ?_
          refine pu_ 9 73 17 1023 ?_
          rw [HW2.out]
          refine pu_ 10 74 17 2047 ?_
          refine pu_ 11 75 17 4095 ?_
          rw [HW3.out]
          refine pu_ 12 76 17 8191 ?_
          rw [HW4.out]
          refine pu_ 13 77 17 16383 ?_
          refine on_ 14 78 17 32767 (fun K hK => ?_)
          refine dO Tryz.func117 (by kernel_rfl) rfl #[.slice D2 x.length (c1 - lo)] (by rfl) rfl rfl (by (try simp only [List.map_toArray, List.map_cons, List.map_nil]); first | done | rfl) ?_
          have HCL := aa.mk (gQ.calls D2 (c1 - lo) x x w7 (Kd.aN HC.out HS7.out.hb) HCX.out (by unfold gQ.f; rw [if_pos (by rw [HXL.out]; decide)]))
          refine HCL.out.mono ?_
          rintro e w8 ⟨v, rfl, hR, hb⟩
          obtain ⟨N, dn, rfl⟩ := Kd.aZ hR
          refine ⟨_, rfl, ?_⟩
          have hltb := aA HS7.out.hx
          have HNB := aa.mk (show Kd.R (Kd.int .u8) 5 w8 w0.heap.size (fun k => k ≠ b ∧ k ≠ g) (.slice N x.length dn) x from Kd.bH (Kd.aX (Kd.bO hR) (fun k hk => ⟨by have := hk.2.1; omega, by
            have h6 := HS7.out.own.o6
            have := Kd.R_lt h6 g (by show (Value.slice a1.A6 _ _).ownBlock = some g; rw [HG6.out.1]; rfl)
            have := hk.2.1
            omega⟩)) HS7.out.hb.size)
          have HS' := aa.mk (HS7.out.below hb)
          have HK' := aa.mk (HK7.out.below hb)
          refine hK.out _ _ ((hb.cell (World.block_lt_of_cell? _ _ hHeld)).trans hHeld) (fun hHeld => ?_)
          clear hK K hb hR HS7 HK7 HCL hltb
          refine nm_ 78 ?_
          have hj0 : (0 : Int) ≤ (tt : Int) := by omega
          have hj1 : (tt : Int) < (len6 : Int) := by have := HTT.out; have := HG6.out.2; omega
          have hj2 : tt < len6 := by omega
          refine pu_ 15 79 17 65535 ?_
          obtain ⟨g', hA6, -, hg0, cs, A0, c0, hcs, c3', -, -⟩ := HS'.out.own.yQ HTT.out
          rw [HG6.out.1] at hA6
          injection hA6 with hA6
          injection hA6 with hA6
          subst hA6
          have hfz := ai hcs tt
          have HS8 := aa.mk (HS'.out.qD HG6.out.1 tt HTT.out x N dn HNB.out)
          have HK8 := aa.mk (HK'.out.data (g := g) (by rw [← HA6.out]; exact HG6.out.1) tt (.slice N x.length dn))
          refine jr (i := 16) (N := none) #[yT,yT,yT,yT,yT,yT,yT,yT,yT,yT,yT,yT,yT,yT,yT,yT,yT] rfl rfl (fA HT_.out (by kernel_rfl)) (by decide) (fun K hK => ?_)
          refine iV (w1 := w8.setCell ⟨g, tt, none⟩ (.slice N x.length dn)) (by rfl) rfl ?_ ?_
          · go_simp
          refine hK.out _ _ ?_
          clear hK K hfz c3' hcs HS' HK' HNB hHeld hg0
          refine eQ (bU HT_.out (by kernel_rfl)) ?_
          clear HT_ HW_
          have HS9 := aa.mk (show Sits w0 b { s1 with fsize := fz, sp := sp, data := putD s1.data t0 dt (i + 1) } { a1 with A5 := A3, c5 := c3 } (w8.setCell ⟨g, tt, none⟩ (.slice N x.length dn)) by
            have h := HS8.out
            obtain ⟨e1, e2, e3, e4⟩ := HXE.out
            rw [putD, ← e1, ← e2, ← e3, ← e4]
            exact h)
          clear HS8
          generalize w8.setCell ⟨g, tt, none⟩ (.slice N x.length dn) = w9 at HS9 HK8 ⊢
          have hw3 := HW3.out
          have hi3 : (i : Int) ≤ 65536 := by have := HZN.out; omega
          have he1 : (i1 : Int) = ((i + 1 : Nat) : Int) := by have := HW3.out; rw [w64 (by omega)] at this; omega
          have HE1 := aa.mk he1
          clear he1 hcut
          go_wp2_with fail
          go_roundg k1
          case measure => omega
          case rel => exact ⟨i + 1, by first | rfl | (simp; done) | go_num | (rw [HE1.out]), ⟨by have := HI.out; omega⟩, HS9, HK8⟩
end Go.Proofs.YtjeeejoelmmfmaaGreat.Fn
namespace Go.Proofs.YtjeeejoelmmfmaaGreat.Fn
open Go.RowKit Go.Proofs.YtjeeejoelmmfmaaGreatW.PrintWords Go.Proofs.YtjeeejoelmmfmaaGreatW.PrintLast Go.Proofs.YtjeeejoelmmfmaaGreatW.PrintMore
attribute [local go_sem] fw eu fU fZ dY dX fu fe
set_option linter.unusedVariables false
set_option linter.unusedSimpArgs false
def encI (x : Int) : List Value := [.int .u8 x]
theorem zI : Flat (Kd.int .u8) encI :=
  ⟨fun _ => rfl, by decide, fun x v hv => by
    simp only [encI, List.mem_cons, List.not_mem_nil, or_false] at hv
    rw [hv]; rfl, fun h => h, fun w base ok x => rfl⟩
theorem jY (x : Int) : (encI x).length = 1 := rfl
theorem uF (l : List Int) : ∀ v ∈ l.flatMap encI, v.oneCell' = true := by
  intro v hv
  obtain ⟨x, _, hx⟩ := List.mem_flatMap.1 hv
  exact zI.one x v hx
theorem srcI {w : World} {ad : Addr} {n : Nat} {y : List Int} (h : Kd.C (Kd.int .u8) w (some ad) n y) : ∀ t u, (y.flatMap encI)[t]? = some u → w.cell? (ad.add t) = some u := by
  intro t u hu
  have he : y.flatMap encI = y.map (Value.int .u8) := by
    clear h hu
    induction y with
    | nil => rfl
    | cons x l ih => rw [List.flatMap_cons, ih]; rfl
  rw [he, List.getElem?_map] at hu
  obtain ⟨z, hz, rfl⟩ := Option.map_eq_some_iff.1 hu
  have htl := (List.getElem?_eq_some_iff.1 hz).1
  obtain ⟨h1, h2, h3⟩ := h
  obtain ⟨ad', e, hc⟩ := h3 (by omega)
  injection e with e
  subst e
  obtain ⟨cs, _, h5, h6⟩ := hc t z hz
  have h5 : cs = [.int .u8 z] := h5
  subst h5
  have := h6 0 _ rfl
  rwa [(show t * (Kd.int .u8).sz + 0 = t by show t * 1 + 0 = t; omega)] at this
def octI (d : List (List Int)) (v p at0 : Int) : Nat → Int → List Int → Option (List Int)
  | 0, _, out => some out
  | k + 1, i, out => if p = -1 then octI d v p at0 k (i + 1) out else
    if 0 ≤ wrap64 (wrap64 (wrap64 (v - at0) + i) * 64) ∧ wrap64 (wrap64 (wrap64 (v - at0) + i) * 64) + 64 ≤ out.length ∧ 0 ≤ wrap64 (p + i) ∧ wrap64 (p + i) < d.length ∧ (d.getD (wrap64 (p + i)).toNat []).length = 64 then
      octI d v p at0 k (i + 1) (out.take (wrap64 (wrap64 (wrap64 (v - at0) + i) * 64)).toNat ++ d.getD (wrap64 (p + i)).toNat [] ++ out.drop ((wrap64 (wrap64 (wrap64 (v - at0) + i) * 64)).toNat + (d.getD (wrap64 (p + i)).toNat []).length))
    else none
def octO (d : List (List Int)) (at0 : Int) : List S151 → List Int → Option (List Int)
  | [], out => some out
  | x :: t, out => if x.f2 ≤ 65536 then (octI d x.f0 x.f1 at0 x.f2.toNat 0 out).bind (octO d at0 t) else none
def octV (d : List (List Int)) (l : List S151) (at0 n : Int) : Option (List Int) := if 0 ≤ n ∧ n ≤ 65536 then octO d at0 (pO l at0 n).1 (List.replicate (n * 64).toNat 0) else none
def vI : Bool × List (List Nat × List Nat) := (true, [([], []), ([], []), ([1], [1]), ([], []), ([2, 3], [2, 3]), ([], []), ([4, 5], [4, 5]), ([6], [6]), ([0, 7], [0, 7]), ([], []), ([9], [9]), ([], []), ([11], [11]), ([], []), ([12, 13], [12, 13]), ([10, 14], [10, 14]), ([15], [15]), ([8, 16], [8, 16])])
def Bg : List Nat := [0, 0, 2, 0, 14, 0, 62, 126, 255, 0, 512, 0, 2048, 0, 14336, 32256, 65024, 131071]
theorem uw : rtab .any (opsOf Tryz.f59 10) = vI := by kernel_rfl
theorem sF : cB vI.2 Bg = true := by kernel_rfl
set_option maxHeartbeats 16000000 in
set_option maxRecDepth 100000 in
theorem q9 (s : St) (a : At4) (A : Option Addr) (c : Nat) (l : List S151) (at0 n : Int) (res : List Int) (w : World) (hr : Reads w s a) (hl : Kd.C k151 w A l.length l) (hc : l.length ≤ c) (h : octV s.data l at0 n = some res) :
    Calls Tryz.prog 59 #[.agg (aI s a), .slice A l.length c, .int .i64 at0, .int .i64 n] w fun e w' => ∃ v : Value, e = .returned v ∧ Kd.R (Kd.int .u8) 5 w' w.heap.size (fun _ => True) v res ∧ Below w.heap.size w w' := by
  have hu31 := Tryz.underlying31
  have hu151 := Tryz.underlying151
  unfold octV at h
  split at h
  case isFalse => cases h
  rename_i hn
  have HG0 := aa.mk h
  have HN := aa.mk hn
  have hw1 : wrap64 (n * 64) = n * 64 := by rw [w64 (by omega)]
  obtain ⟨b, hb⟩ : ∃ k, k = w.heap.size := ⟨_, rfl⟩
  obtain ⟨W1, hW1⟩ : ∃ W, W = w.alloc (.cells #[.int .i64 s.size, .slice a.A1 s.now.length a.c1, .slice a.A2 s.snaps.length a.c2, .int .i64 s.next, .int .i64 s.fsize, .slice a.A5 s.sp.length a.c5, .slice a.A6 s.data.length a.c6] 31) := ⟨_, rfl⟩
  have HX1 := aa.mk (show W1.heap[b]? = some (.cells #[.int .i64 s.size, .slice a.A1 s.now.length a.c1, .slice a.A2 s.snaps.length a.c2, .int .i64 s.next, .int .i64 s.fsize, .slice a.A5 s.sp.length a.c5, .slice a.A6 s.data.length a.c6] 31 (0, 0)) by rw [hW1, hb]; exact bg w _)
  have HB1 := aa.mk (show Below w.heap.size w W1 by rw [hW1]; exact (Below.refl _ _).alloc (Nat.le_refl _) _)
  have HL := aa.mk (And.intro hl hc)
  have HR0 := aa.mk hr
  have HBB := aa.mk hb
  clear h hn hr hl hc
  unfold aI
  go_enter Tryz.func59, Tryz.ntmps59
  go_wp2_with (refine gI (.makeSlice 37 (.tmp 16) (.tmp 16)) rfl ?_; refine gG ?_)
  rw [← hW1, ← hb]
  refine ⟨?_⟩
  refine Kd.rf (Kd.int .u8) (w0 := w) w.heap.size 5 rfl (N := 17) rfl 37 (.tmp 16) (.tmp 16) rfl (n * 64) (by first | rfl | (simp only [hw1]; rfl)) (by first | rfl | (simp only [hw1]; rfl)) Tryz.underlying37 (.int .u8 0) 1 info5 rfl (by decide) (by decide) 0 (ok := fun _ => True) (okp := fun _ => True) rfl (fun _ _ => trivial) trivial (by have := HN.out; omega) (by have := HN.out; omega) HB1.out HB1.out.size ?_
  intro v w2 hR hB hg hat
  clear hW1 hb
  obtain ⟨g, hvg, hgs⟩ := hat
  rcases iZ zI hR with ⟨h1, _⟩ | ⟨g', cap, h1, hg0, _, hL⟩
  · rw [h1] at hvg; cases hvg
  have hgg : g' = g := by rw [h1] at hvg; exact Option.some.inj hvg
  subst hgg
  obtain ⟨cur, hLL⟩ := hL.toL jY
  subst h1
  obtain ⟨L, hLn⟩ : ∃ k, k = (List.replicate (n * 64).toNat (0 : Int)).length := ⟨_, rfl⟩
  rw [← hLn]
  have HLL := aa.mk hLL
  have HLN := aa.mk hLn
  have HX2 := aa.mk ((hg.block b (aA HX1.out) (by simp)).trans HX1.out)
  have HB2 := aa.mk hB
  have HGB := aa.mk (show g' ≠ b ∧ w.heap.size ≤ g' from ⟨by have := aA HX1.out; omega, hg0⟩)
  have HLK := aa.mk (iN.calls A c l at0 n (pO l at0 n).1 (pO l at0 n).2 w2 (Kd.aN HL.out.1 hB) HL.out.2 rfl)
  clear hLL hLn hR hB hg hvg hgs hg0 hL HX1 HB1
  go_wp2_with fail
  refine HLK.out.mono ?_
  rintro e w3 ⟨v, rfl, hR, hb⟩
  obtain ⟨A3, c3, rfl⟩ := Kd.aZ hR
  have HX3 := aa.mk ((hb.block b (aA HX2.out)).trans HX2.out)
  have HB3 := aa.mk (HB2.out.trans (hb.mono HB2.out.size))
  have HL3 := aa.mk (HLL.out.same (w1 := w3) (hb.block _ (aA HLL.out.1)))
  have HP3 := aa.mk (show Kd.R k151 151 w3 w.heap.size (fun k => k ≠ g') (.slice A3 (pO l at0 n).1.length c3) (pO l at0 n).1 from Kd.bH (Kd.aX (Kd.bO hR) (fun k hk => by have := hk.2.1; have := aA HLL.out.1; omega)) HB2.out.size)
  obtain ⟨ps, hps⟩ : ∃ q, q = (pO l at0 n).1 := ⟨_, rfl⟩
  rw [← hps] at HP3 HG0 ⊢
  clear hR hb hps HX2 HB2 HLL HLK
  have hpl : ps.length ≤ 9223372036854775807 := (Kd.bu HP3.out).2.2.2.1
  go_wp2_with fail
  go_loopg [27] ps.length (fun gk v27 W => ∃ (i : Nat) (out : List Int) (cur : Array Value), v27 = .int .i64 (i : Int) ∧ aa (i + gk = ps.length) ∧ aa (octO s.data at0 (ps.drop i) out = some res) ∧ aa (LieL encI 1 5 W g' cap cur out ∧ out.length = L) ∧ aa (Kd.R k151 151 W w.heap.size (fun k => k ≠ g') (.slice A3 ps.length c3) ps) ∧ aa (W.heap[b]? = some (.cells #[.int .i64 s.size, .slice a.A1 s.now.length a.c1, .slice a.A2 s.snaps.length a.c2, .int .i64 s.next, .int .i64 s.fsize, .slice a.A5 s.sp.length a.c5, .slice a.A6 s.data.length a.c6] 31 (0, 0))) ∧ aa (Below w.heap.size w W))
  case atStart => exact ⟨0, _, _, rfl, ⟨by simp⟩, ⟨HG0.out⟩, ⟨HL3.out, HLN.out.symm⟩, HP3, HX3, HB3⟩
  case round =>
    obtain ⟨i, out, cur, rfl, HI, HG, HO, HP, HX, HB⟩ := hrel
    cases gk with
    | zero =>
      have hi : i = ps.length := by have := HI.out; omega
      subst hi
      have hd : decide ((ps.length : Int) < (ps.length : Int)) = false := decide_eq_false (by omega)
      have hg := HG.out
      rw [List.drop_length, octO] at hg
      obtain rfl := Option.some.inj hg
      clear hg
      go_wp2_with fail
      go_ret
      have hR := gF (base := w.heap.size) (ok := fun _ => True) zI HGB.out.2 trivial (HO.out.1.to jY)
      rw [HO.out.2] at hR
      exact ⟨_, rfl, hR, HB.out⟩
    | succ k1 =>
      have hj2 : i < ps.length := by have := HI.out; omega
      have hj1 : (i : Int) < (ps.length : Int) := by omega
      have hj0 : (0 : Int) ≤ (i : Int) := by omega
      have hd : decide ((i : Int) < (ps.length : Int)) = true := decide_eq_true hj1
      have hd2 : decide (i < ps.length) = true := decide_eq_true hj2
      obtain ⟨ad, e3, g0, g1, g2⟩ := dS (Kd.bu HP.out).2.2 (i : Int) hj0 hj1
      obtain ⟨x, hx⟩ : ∃ x, x = ax ps (i : Int) := ⟨_, rfl⟩
      rw [← hx] at g0 g1 g2
      simp only [Int.toNat_natCast] at g0 g1 g2
      have hst : ps.drop i = x :: ps.drop (i + 1) := by
        have h5 : x = ps[i] := by rw [hx]; unfold ax; rw [Int.toNat_natCast, List.getD_eq_getElem?_getD, List.getElem?_eq_getElem hj2]; rfl
        rw [h5, List.getElem_cons_drop]
      have hg := HG.out
      rw [hst, octO] at hg
      split at hg
      case isFalse => cases hg
      rename_i hf2
      have HF2 := aa.mk hf2
      obtain ⟨out1, hin, hout⟩ := Option.bind_eq_some_iff.1 hg
      have HIN := aa.mk hin
      have HOUT := aa.mk hout
      subst e3
      obtain ⟨bx, hbx⟩ : ∃ k, k = wr.heap.size := ⟨_, rfl⟩
      obtain ⟨W4, hW4⟩ : ∃ W, W = wr.alloc (.cells #[.int .i64 x.f0, .int .i64 x.f1, .int .i64 x.f2] 151) := ⟨_, rfl⟩
      have hb4 : Below wr.heap.size wr W4 := by rw [hW4]; exact (Below.refl _ _).alloc (Nat.le_refl _) _
      have hxx : W4.heap[bx]? = some (.cells #[.int .i64 x.f0, .int .i64 x.f1, .int .i64 x.f2] 151 (0, 0)) := by rw [hW4, hbx]; exact bg wr _
      have hlt := aA HO.out.1.1
      have HXX := aa.mk hxx
      have HGX := aa.mk (show bx ≠ g' ∧ w.heap.size ≤ bx from ⟨by omega, by rw [hbx]; exact HB.out.size⟩)
      have HL4 := aa.mk (And.intro (HO.out.1.same (w1 := W4) (hb4.block _ hlt)) HO.out.2)
      have HP4 := aa.mk (Kd.bA HP.out hb4)
      have HX4 := aa.mk ((hb4.block b (aA HX.out)).trans HX.out)
      have HB4 := aa.mk (HB.out.trans (hb4.mono HB.out.size))
      have y2 := (ae hxx 2).trans rfl
      rw [hW4, hbx] at y2
      have HST := aa.mk hj2
      clear hf2 hx hst hg hin hout hb4 hxx hlt HO HP HX HB HG
      go_wp2_with fail
      rw [← hW4, ← hbx]
      clear hW4 hbx g0 g1 g2 y2 hj0 hd hd2 hj1 hj2
      go_loopg [33] x.f2.toNat (fun gk v33 W => ∃ (j : Nat) (out : List Int) (cur : Array Value), v33 = .int .i64 (j : Int) ∧ aa (j + gk = x.f2.toNat) ∧ aa (octI s.data x.f0 x.f1 at0 gk (j : Int) out = some out1) ∧ aa (LieL encI 1 5 W g' cap cur out ∧ out.length = L) ∧ aa (Kd.R k151 151 W w.heap.size (fun k => k ≠ g') (.slice (some ad) ps.length c3) ps) ∧ aa (W.heap[b]? = some (.cells #[.int .i64 s.size, .slice a.A1 s.now.length a.c1, .slice a.A2 s.snaps.length a.c2, .int .i64 s.next, .int .i64 s.fsize, .slice a.A5 s.sp.length a.c5, .slice a.A6 s.data.length a.c6] 31 (0, 0)) ∧ W.heap[bx]? = some (.cells #[.int .i64 x.f0, .int .i64 x.f1, .int .i64 x.f2] 151 (0, 0))) ∧ aa (Below w.heap.size w W))
      case atStart => exact ⟨0, _, _, rfl, ⟨by simp⟩, HIN, HL4, HP4, ⟨HX4.out, HXX.out⟩, HB4⟩
      case round =>
        obtain ⟨j, out, cur, rfl, HJ, HG, HO, HP, HX, HB⟩ := hrel
        cases gk with
        | zero =>
          have hj : decide ((j : Int) < x.f2) = false := decide_eq_false (by have := HJ.out; omega)
          have hg := HG.out
          rw [octI] at hg
          obtain rfl := Option.some.inj hg
          have hi3 : (i : Int) < 9223372036854775807 := by have := HST.out; have := (Kd.bu HP.out).2.2.2.1; omega
          clear hg
          go_wp2_with fail
          go_roundg k1
          case measure => omega
          case rel => exact ⟨i + 1, _, _, by first | rfl | (simp; done) | go_num, ⟨by have := HI.out; omega⟩, HOUT, HO, HP, ⟨HX.out.1⟩, HB⟩
        | succ j1 =>
          have hd : decide ((j : Int) < x.f2) = true := decide_eq_true (by have := HJ.out; omega)
          have z1 := (ae HX.out.2 1).trans rfl
          have hjw : wrap64 ((j : Int) + 1) = ((j + 1 : Nat) : Int) := by rw [w64 (by have := HJ.out; have := HF2.out; omega)]; omega
          have HJW := aa.mk hjw
          clear hjw
          by_cases hp : x.f1 = -1
          · have hb1 : (x.f1 != -1) = false := by simpa using hp
            have hg := HG.out
            rw [octI, if_pos hp] at hg
            have HG2 := aa.mk hg
            clear hg hp
            go_wp2_with fail
            go_roundg j1
            case measure => omega
            case rel => exact ⟨j + 1, out, cur, by first | rfl | (simp; done) | (rw [HJW.out]), ⟨by have := HJ.out; omega⟩, ⟨by have := HG2.out; rwa [Int.natCast_add, Int.natCast_one]⟩, HO, HP, HX, HB⟩
          · have hb1 : (x.f1 != -1) = true := by simpa using hp
            have hg := HG.out
            rw [octI, if_neg hp] at hg
            split at hg
            case isFalse => cases hg
            rename_i hc5
            clear hp
            obtain ⟨off, hoff⟩ := Int.eq_ofNat_of_zero_le hc5.1
            obtain ⟨k, hk⟩ := Int.eq_ofNat_of_zero_le hc5.2.2.1
            rw [hoff, hk] at hc5 hg
            simp only [Int.toNat_natCast] at hc5 hg
            obtain ⟨y, hy⟩ : ∃ l, l = s.data.getD k [] := ⟨_, rfl⟩
            rw [← hy] at hc5 hg
            have hr6 := (HR0.out.below HB.out).h6
            have hkl : k < s.data.length := by have := hc5.2.2.2.1; omega
            obtain ⟨adD, A0, c0, hA6, hcell, hl0, hC0⟩ := lF hr6 (k : Int) (by omega) (by omega)
            rw [Int.toNat_natCast] at hcell hl0 hC0
            rw [← hy] at hcell hl0 hC0
            have hyl : y.length = 64 := hc5.2.2.2.2
            obtain ⟨ad0, hA0, _⟩ := hC0.2.2 (by omega)
            subst hA0
            have HSRC := aa.mk (srcI hC0)
            have hofl : off + 64 ≤ L := by have := hc5.2.1; have := HO.out.2; omega
            have hLc : L ≤ cap := by have := HO.out.1.2.2.1; have := HO.out.2; omega
            have hcut := pF (some ⟨g', 0, none⟩) L cap off (by omega) hLc
            rw [if_neg (by omega), (show (some (⟨g', 0, none⟩ : Addr)).map (·.add (off * 1)) = some ⟨g', off, none⟩ by rw [Nat.mul_one, Option.map_some, add_plain])] at hcut
            have HG2 := aa.mk (And.intro hg (And.intro hyl (And.intro hofl hLc)))
            have HW := aa.mk (And.intro hoff hk)
            have hkl1 : (k : Int) < (s.data.length : Int) := by omega
            have hkl0 : (0 : Int) ≤ (k : Int) := by omega
            have HX6 := aa.mk (show wr.cell? ⟨b, 6, none⟩ = some (.slice (some adD) s.data.length a.c6) by rw [← hA6]; exact (ae HX.out.1 6).trans rfl)
            have HCE := aa.mk hcell
            clear hg hc5 hoff hk hy hr6 hA6 hcell hl0 hC0 hyl hofl hLc HG
            go_wp2_with fail
            refine dG (n := 18) (S := fun w' => w'.cell? ⟨bx, 0, none⟩ = some (.int .i64 x.f0) ∧ w'.cell? ⟨bx, 1, none⟩ = some (.int .i64 x.f1) ∧ w'.cell? ⟨b, 6, none⟩ = some (.slice (some adD) s.data.length a.c6) ∧ w'.cell? (adD.add k) = some (.slice (some ad0) y.length c0)) (ds := [17]) (lb 18 0) (by kernel_rfl) rfl (by kernel_rfl) ⟨(ae HX.out.2 0).trans rfl, (ae HX.out.2 1).trans rfl, HX6.out, HCE.out⟩ (fun hHeld => ?_)
            refine bG uw sF (fun HT_ HW_ => ?_)
            have HX7 := aa.mk (show wr.drew.heap[b]? = _ ∧ wr.drew.heap[bx]? = _ from HX.out)
            have HO7 := aa.mk (show LieL encI 1 5 wr.drew g' cap cur out ∧ out.length = L from ⟨HO.out.1.same rfl, HO.out.2⟩)
            have HP7 := aa.mk (Kd.bA HP.out (aQ (Below.refl _ _)))
            have HB7 := aa.mk (HB.out.trans ((aQ (Below.refl wr.heap.size wr)).mono HB.out.size))
            have hS7 := HSRC.out
            have HS7 := aa.mk (show ∀ (t : Nat) (u : Value), (y.flatMap encI)[t]? = some u → wr.drew.cell? (ad0.add t) = some u from HSRC.out)
            clear HX HO HP HB HX6 HCE HSRC hS7 z1
            generalize wr.drew = w7 at hHeld HX7 HO7 HP7 HB7 HS7 ⊢
            refine pu_ 0 39 18 1 ?_
            refine pu_ 1 40 18 3 ?_
            refine tk_ 2 41 18 7 ?_
            refine pu_ 3 42 18 15 ?_
            refine pu_ 4 43 18 31 ?_
            refine pu_ 5 44 18 63 ?_
            refine pu_ 6 45 18 127 ?_
            refine pu_ 7 46 18 255 ?_
            rw [HW.out.1]
            refine pu_ 8 47 18 511 ?_
            refine pu_ 9 48 18 1023 ?_
            refine tk_ 10 49 18 2047 ?_
            refine pu_ 11 50 18 4095 ?_
            refine tk_ 12 51 18 8191 ?_
            refine pu_ 13 52 18 16383 ?_
            refine pu_ 14 53 18 32767 ?_
            rw [HW.out.2]
            refine pu_ 15 54 18 65535 ?_
            refine tk_ 16 55 18 131071 ?_
            have hcp := fG (P := Tryz.prog) w7 37 37 3 5 g' off (L - off) (cap - off) ad0 y.length c0 cur 5 (y.flatMap encI) 1 Tryz.underlying37 Tryz.sizeOf5 HO7.out.1.1 (by rw [fq (enc := encI) jY, (show Nat.min y.length (L - off) = y.length from Nat.min_eq_left (by have := HG2.out; omega))]) HS7.out (by rw [fq (enc := encI) jY, HO7.out.1.2.1]; have := HG2.out; omega) (uF y)
            have hput := HO7.out.1.nC jY (ys := y) (i := off) (by have := HG2.out; have := HO7.out.2; omega)
            rw [Nat.mul_one] at hput
            obtain ⟨cur2, hcur2⟩ : ∃ c, c = (cur.toList.take off ++ y.flatMap encI ++ cur.toList.drop (off + (y.flatMap encI).length)).toArray := ⟨_, rfl⟩
            rw [← hcur2] at hcp hput
            refine jr (i := 17) (N := some 56) #[yT,yT,yT,yT,yT,yT,yT,yT,yT,yT,yT,yT,yT,yT,yT,yT,yT,yT] rfl rfl (fA HT_.out (by kernel_rfl)) (by decide) (fun K hK => ?_)
            refine mZ (N := some 56) (v := goInt (Nat.min y.length (L - off))) (w1 := w7.setRow g' cur2) (by rfl) rfl (by first | (go_simp; done) | (go_simp; rfl)) ?_
            refine hK.out _ _ ?_
            clear hK K hcp hcut hcur2
            have hfar : ∀ k, k ≠ g' → (w7.setRow g' cur2).heap[k]? = w7.heap[k]? := fun k hk => setRow_other w7 g' k _ hk
            have HX8 := aa.mk (show (w7.setRow g' cur2).heap[b]? = _ ∧ (w7.setRow g' cur2).heap[bx]? = _ from ⟨(hfar b (Ne.symm HGB.out.1)).trans HX7.out.1, (hfar bx HGX.out.1).trans HX7.out.2⟩)
            have HP8 := aa.mk (Kd.bR HP7.out (fun k hk _ => hfar k hk))
            have HB8 := aa.mk (aJ HB7.out HGB.out.2 cur2)
            have HO8 := aa.mk (show LieL encI 1 5 (w7.setRow g' cur2) g' cap cur2 (out.take off ++ y ++ out.drop (off + y.length)) ∧ (out.take off ++ y ++ out.drop (off + y.length)).length = L from ⟨hput, by have := HG2.out; have := HO7.out.2; simp only [List.length_append, List.length_take, List.length_drop]; omega⟩)
            clear hfar hput hHeld HX7 HO7 HP7 HB7 HS7
            refine eQ (bU HT_.out (by kernel_rfl)) ?_
            clear HT_ HW_
            generalize w7.setRow g' cur2 = w8 at HX8 HP8 HB8 HO8 ⊢
            go_wp2_with fail
            go_roundg j1
            case measure => omega
            case rel => exact ⟨j + 1, _, cur2, by first | rfl | (simp; done) | (rw [HJW.out]), ⟨by have := HJ.out; omega⟩, ⟨by have := HG2.out.1; rwa [Int.natCast_add, Int.natCast_one]⟩, HO8, HP8, HX8, HB8⟩
def qJ (s : St) (id : Int) : Int := idxF (fun x : S69 => x.f0 == id) s.snaps
set_option maxHeartbeats 1000000 in
set_option maxRecDepth 100000 in
theorem AY (x : S69) (A : Option Addr) (c b : Nat) (id : Int) (w : World) (hb : w.heap[b]? = some (.cells #[.int .i64 id] 3 (0, 0))) :
    Calls Tryz.prog 102 (#[.agg #[.int .i64 x.f0, .string x.f1, .int .i64 x.f2, .slice A x.f3.length c]] ++ #[.pointer (some ⟨b, 0, none⟩)]) w fun e w' => e = .returned (.bool (x.f0 == id)) ∧ Below w.heap.size w w' := by
  have hu := Tryz.underlying69
  obtain ⟨W1, hW1⟩ : ∃ W, W = w.alloc (.cells #[.int .i64 x.f0, .string x.f1, .int .i64 x.f2, .slice A x.f3.length c] 69) := ⟨_, rfl⟩
  have HB := aa.mk (show Below w.heap.size w W1 by rw [hW1]; exact (Below.refl _ _).alloc (Nat.le_refl _) _)
  have u0 : W1.cell? ⟨b, 0, none⟩ = some (.int .i64 id) := (ae (show W1.heap[b]? = some (.cells #[.int .i64 id] 3 (0, 0)) by rw [HB.out.block b (aA hb)]; exact hb) 0).trans rfl
  rw [hW1] at u0
  clear hb
  go_enter Tryz.func102, Tryz.ntmps102
  go_wp2_with fail
  rw [← hW1]
  go_ret
  exact ⟨rfl, HB.out⟩
set_option maxHeartbeats 2000000 in
set_option maxRecDepth 100000 in
theorem find_v (s : St) (a : At4) (id : Int) (w : World) (hr : Reads w s a) :
    Calls Tryz.prog 58 #[.agg (aI s a), .int .i64 id] w fun e w' => e = .returned (.int .i64 (qJ s id)) ∧ Below w.heap.size w w' := by
  have hu31 := Tryz.underlying31
  obtain ⟨W1, hW1⟩ : ∃ W, W = w.alloc (.cells #[.int .i64 s.size, .slice a.A1 s.now.length a.c1, .slice a.A2 s.snaps.length a.c2, .int .i64 s.next, .int .i64 s.fsize, .slice a.A5 s.sp.length a.c5, .slice a.A6 s.data.length a.c6] 31) := ⟨_, rfl⟩
  obtain ⟨W2, hW2⟩ : ∃ W, W = W1.alloc (.cells #[.int .i64 id] 3) := ⟨_, rfl⟩
  have hs1 : W1.heap.size = w.heap.size + 1 := by rw [hW1]; simp
  have hb1 : Below w.heap.size w W1 := by rw [hW1]; exact (Below.refl _ _).alloc (Nat.le_refl _) _
  have HB := aa.mk (show Below w.heap.size w W2 by rw [hW2]; exact hb1.alloc hb1.size _)
  have hx2 : W2.heap[w.heap.size + 1]? = some (.cells #[.int .i64 id] 3 (0, 0)) := by rw [hW2, ← hs1]; exact bg W1 _
  have HH := aa.mk (yC 102 #[.pointer (some ⟨w.heap.size + 1, 0, none⟩)] (fun x => x.f0 == id) (fun args w => iY Tryz.func102 (by kernel_rfl) rfl args w) a.A2 a.c2 s.snaps W2 (hr.below HB.out).h2 (fun W x A c hB hl hC => Calls.mono (AY x A c _ id W ((hB.block _ (aA hx2)).trans hx2)) fun e w' h => ⟨h.1, az hB h.2⟩))
  clear hr hs1 hb1 hx2
  unfold aI
  go_enter Tryz.func58, Tryz.ntmps58
  go_wp2_with fail
  rw [← hW1, ← hW2]
  refine HH.out.mono ?_
  rintro e w3 ⟨rfl, hb⟩
  have HB3 := aa.mk (HB.out.trans (hb.mono HB.out.size))
  clear hb HH
  go_wp2
  go_ret
  exact ⟨rfl, HB3.out⟩
def cutV (d : List (List Int)) (l : List S151) (size at0 n : Int) : Option (List Int × Int) := if at0 < 0 ∨ n < 0 ∨ size < at0 ∨ wrap64 (size - at0) < n then some ([], 4) else (octV d l at0 n).bind fun r => some (r, 0)
def xW (s : St) (owner at0 n : Int) : Option (List Int × Int) :=
  if dH s = 0 then
    (if owner = 0 then cutV s.data s.now s.size at0 n
     else if qJ s owner < 0 then some ([], 71)
     else cutV s.data (a_ s.snaps (qJ s owner)).f3 (a_ s.snaps (qJ s owner)).f2 at0 n)
  else some ([], dH s)
theorem xJ (s : St) (id : Int) : qJ s id < (s.snaps.length : Int) := by
  unfold qJ idxF
  cases h : s.snaps.findIdx? (fun x => x.f0 == id) with
  | none => simp only []; omega
  | some k =>
    have := (List.findIdx?_eq_some_iff_getElem.1 h).1
    simp only []; omega
def za : Bool × List (List Nat × List Nat) := (true, [([], []), ([0], [0]), ([], []), ([2], [2]), ([1, 0, 1], [1]), ([3, 4, 0, 1, 2, 3, 4], [3])])
def rdv_B4 : List Nat := [0, 1, 0, 4, 3, 31]
theorem wZ : rtab .any (opsOf Tryz.f21 4) = za := by kernel_rfl
theorem uM : cB za.2 rdv_B4 = true := by kernel_rfl
def yV : Bool × List (List Nat × List Nat) := (true, [([], []), ([0], [0]), ([], []), ([1, 2], [1, 2]), ([3], [3]), ([4], [4]), ([], []), ([6], [6]), ([], []), ([7, 8], [7, 8]), ([9], [9]), ([10], [10]), ([5, 0, 1, 2, 3, 4, 5], [5]), ([11, 12, 0, 1, 2, 3, 4, 5, 6, 7, 8, 9, 10, 11, 12], [11])])
def rdv_B9 : List Nat := [0, 1, 0, 7, 15, 31, 0, 64, 0, 448, 960, 1984, 63, 8191]
theorem xA : rtab .any (opsOf Tryz.f21 9) = yV := by kernel_rfl
theorem ve : cB yV.2 rdv_B9 = true := by kernel_rfl
set_option maxHeartbeats 16000000 in
set_option maxRecDepth 100000 in
theorem read_v (s : St) (a : At4) (owner at0 n : Int) (r : List Int) (er : Int) (w : World) (hr : Reads w s a) (hn : s.snaps.length < 4398046511103) (h : xW s owner at0 n = some (r, er)) :
    Calls Tryz.prog 21 #[.agg (aI s a), .int .i64 owner, .int .i64 at0, .int .i64 n] w fun e w' => ∃ v : Value, e = .returned (.tuple #[v, .int .i64 er]) ∧ Kd.R (Kd.int .u8) 5 w' w.heap.size (fun _ => True) v r ∧ Below w.heap.size w w' := by
  have hu31 := Tryz.underlying31
  have hu69 := Tryz.underlying69
  obtain ⟨b, hb⟩ : ∃ k, k = w.heap.size := ⟨_, rfl⟩
  obtain ⟨W1, hW1⟩ : ∃ W, W = w.alloc (.cells #[.int .i64 s.size, .slice a.A1 s.now.length a.c1, .slice a.A2 s.snaps.length a.c2, .int .i64 s.next, .int .i64 s.fsize, .slice a.A5 s.sp.length a.c5, .slice a.A6 s.data.length a.c6] 31) := ⟨_, rfl⟩
  have HX1 := aa.mk (show W1.heap[b]? = some (.cells #[.int .i64 s.size, .slice a.A1 s.now.length a.c1, .slice a.A2 s.snaps.length a.c2, .int .i64 s.next, .int .i64 s.fsize, .slice a.A5 s.sp.length a.c5, .slice a.A6 s.data.length a.c6] 31 (0, 0)) by rw [hW1, hb]; exact bg w _)
  have HB1 := aa.mk (show Below w.heap.size w W1 by rw [hW1]; exact (Below.refl _ _).alloc (Nat.le_refl _) _)
  have HR1 := aa.mk (hr.below HB1.out)
  have HCK := aa.mk (dD.calls s a (dH s) W1 HR1.out (by unfold dD.f; rw [if_pos hn]))
  have HG := aa.mk h
  have q0 := (ae HX1.out 0).trans rfl
  have q1 := (ae HX1.out 1).trans rfl
  have q2 := (ae HX1.out 2).trans rfl
  have q3 := (ae HX1.out 3).trans rfl
  have q4 := (ae HX1.out 4).trans rfl
  have q5 := (ae HX1.out 5).trans rfl
  have q6 := (ae HX1.out 6).trans rfl
  rw [hW1, hb] at q0 q1 q2 q3 q4 q5 q6
  clear hr hn h
  unfold aI
  go_enter Tryz.func21, Tryz.ntmps21
  go_wp2_with fail
  rw [← hW1, ← hb]
  clear hW1 hb q0 q1 q2 q3 q4 q5 q6
  obtain ⟨ck, hck⟩ : ∃ c, c = dH s := ⟨_, rfl⟩
  rw [← hck] at HCK
  refine HCK.out.mono ?_
  rintro e w2 ⟨rfl, hb⟩
  have HX2 := aa.mk ((hb.block b (aA HX1.out)).trans HX1.out)
  have HB2 := aa.mk (HB1.out.trans (hb.mono HB1.out.size))
  have HR2 := aa.mk (HR1.out.below hb)
  have hg := HG.out
  rw [xW, ← hck] at hg
  clear hb HCK HX1 HB1 HR1 HG hck
  by_cases h0 : ck = 0
  case neg =>
    have hbn : (ck != 0) = true := bne_iff_ne.mpr h0
    rw [if_neg h0] at hg
    obtain ⟨rfl, rfl⟩ := Prod.mk.inj (Option.some.inj hg)
    clear hg h0
    go_wp2_with fail
    go_ret2
    exact ⟨_, rfl, Kd.bW _ _ _ _ _, HB2.out⟩
  subst h0
  rw [if_pos rfl] at hg
  have HG := aa.mk hg
  clear hg
  go_wp2_with fail
  refine dG (n := 6) (S := fun w' => w'.cell? ⟨b, 0, none⟩ = some (.int .i64 s.size) ∧ w'.cell? ⟨b, 1, none⟩ = some (.slice a.A1 s.now.length a.c1)) (ds := []) (lb 6 0) (by kernel_rfl) rfl (by kernel_rfl) ⟨(ae HX2.out 0).trans rfl, (ae HX2.out 1).trans rfl⟩ (fun hHeld => ?_)
  refine bG wZ uM (fun HT_ HW_ => ?_)
  have HX3 := aa.mk (show w2.drew.heap[b]? = _ from HX2.out)
  have HB3 := aa.mk (HB2.out.trans ((aQ (Below.refl w2.heap.size w2)).mono HB2.out.size))
  have HR3 := aa.mk (HR2.out.below (aQ (Below.refl _ _)))
  clear HX2 HB2 HR2
  generalize w2.drew = w3 at hHeld HX3 HB3 HR3 ⊢
  refine pu_ 0 19 6 1 ?_
  refine tk_ 1 20 6 3 ?_
  refine pu_ 2 21 6 7 ?_
  refine tk_ 3 22 6 15 ?_
  refine pu_ 4 11 6 31 ?_
  refine pu_ 5 12 6 63 ?_
  refine eQ (bU HT_.out (by kernel_rfl)) ?_
  clear HT_ HW_ hHeld
  have hg := HG.out
  by_cases ho : owner = 0
  · rw [if_pos ho] at hg
    have hbo : (owner != 0) = false := by simpa using ho
    have HCL := aa.mk (And.intro HR3.out.h1 HR3.out.l1)
    have HXw := HX3
    have HBw := HB3
    have HRw := HR3
    clear ho HG
    rw [cutV] at hg
    by_cases h1 : at0 < 0
    · rw [if_pos (.inl h1)] at hg
      obtain ⟨rfl, rfl⟩ := Prod.mk.inj (Option.some.inj hg)
      have d1 : decide (at0 < 0) = true := decide_eq_true h1
      clear hg h1
      go_wp2_with fail
      go_ret2
      exact ⟨_, rfl, Kd.bW _ _ _ _ _, HBw.out⟩
    have d1 : decide (at0 < 0) = false := decide_eq_false h1
    by_cases h2 : n < 0
    · rw [if_pos (.inr (.inl h2))] at hg
      obtain ⟨rfl, rfl⟩ := Prod.mk.inj (Option.some.inj hg)
      have d2 : decide (n < 0) = true := decide_eq_true h2
      clear hg h1 h2
      go_wp2_with fail
      go_ret2
      exact ⟨_, rfl, Kd.bW _ _ _ _ _, HBw.out⟩
    have d2 : decide (n < 0) = false := decide_eq_false h2
    by_cases h3 : s.size < at0
    · rw [if_pos (.inr (.inr (.inl h3)))] at hg
      obtain ⟨rfl, rfl⟩ := Prod.mk.inj (Option.some.inj hg)
      have d3 : decide (s.size < at0) = true := decide_eq_true h3
      clear hg h1 h2 h3
      go_wp2_with fail
      go_ret2
      exact ⟨_, rfl, Kd.bW _ _ _ _ _, HBw.out⟩
    have d3 : decide (s.size < at0) = false := decide_eq_false h3
    by_cases h4 : wrap64 (s.size - at0) < n
    · rw [if_pos (.inr (.inr (.inr h4)))] at hg
      obtain ⟨rfl, rfl⟩ := Prod.mk.inj (Option.some.inj hg)
      have d4 : decide (wrap64 (s.size - at0) < n) = true := decide_eq_true h4
      clear hg h1 h2 h3 h4
      go_wp2_with fail
      go_ret2
      exact ⟨_, rfl, Kd.bW _ _ _ _ _, HBw.out⟩
    have d4 : decide (wrap64 (s.size - at0) < n) = false := decide_eq_false h4
    rw [if_neg (by rintro (h | h | h | h); exact h1 h; exact h2 h; exact h3 h; exact h4 h)] at hg
    obtain ⟨r9, hoc, hg⟩ := Option.bind_eq_some_iff.1 hg
    obtain ⟨rfl, rfl⟩ := Prod.mk.inj (Option.some.inj hg)
    have HOC := aa.mk (q9 s a a.A1 a.c1 s.now at0 n r9 w3 HRw.out HCL.out.1 HCL.out.2 hoc)
    have q0 := (ae HXw.out 0).trans rfl
    have q1 := (ae HXw.out 1).trans rfl
    have q2 := (ae HXw.out 2).trans rfl
    have q3 := (ae HXw.out 3).trans rfl
    have q4 := (ae HXw.out 4).trans rfl
    have q5 := (ae HXw.out 5).trans rfl
    have q6 := (ae HXw.out 6).trans rfl
    clear hg h1 h2 h3 h4 hoc
    go_wp2_with fail
    refine HOC.out.mono ?_
    rintro e w9 ⟨v, rfl, hR, hb⟩
    have HR9 := aa.mk (Kd.bH hR HBw.out.size)
    have HB9 := aa.mk (HBw.out.trans (hb.mono HBw.out.size))
    clear HOC hR hb q0 q1 q2 q3 q4 q5 q6
    go_wp2_with fail
    go_ret2
    exact ⟨v, rfl, Kd.aX HR9.out (fun _ _ => trivial), HB9.out⟩
  rw [if_neg ho] at hg
  have hbo : (owner != 0) = true := bne_iff_ne.mpr ho
  have HFI := aa.mk (find_v s a owner w3 HR3.out)
  have HG2 := aa.mk hg
  have q0 := (ae HX3.out 0).trans rfl
  have q1 := (ae HX3.out 1).trans rfl
  have q2 := (ae HX3.out 2).trans rfl
  have q3 := (ae HX3.out 3).trans rfl
  have q4 := (ae HX3.out 4).trans rfl
  have q5 := (ae HX3.out 5).trans rfl
  have q6 := (ae HX3.out 6).trans rfl
  clear hg ho HG
  unfold aI at HFI
  go_wp2_with fail
  clear q0 q1 q2 q3 q4 q5 q6
  refine HFI.out.mono ?_
  rintro e w4 ⟨rfl, hb⟩
  have HX4 := aa.mk ((hb.block b (aA HX3.out)).trans HX3.out)
  have HB4 := aa.mk (HB3.out.trans (hb.mono HB3.out.size))
  have HR4 := aa.mk (HR3.out.below hb)
  have hg := HG2.out
  obtain ⟨i, hi⟩ : ∃ i, i = qJ s owner := ⟨_, rfl⟩
  rw [← hi] at hg ⊢
  have HFV := aa.mk hi
  clear hb HFI HX3 HB3 HR3 HG2 hi
  by_cases hi0 : i < 0
  · rw [if_pos hi0] at hg
    obtain ⟨rfl, rfl⟩ := Prod.mk.inj (Option.some.inj hg)
    have di : decide (i < 0) = true := decide_eq_true hi0
    clear hg hi0
    go_wp2_with fail
    go_ret2
    exact ⟨_, rfl, Kd.bW _ _ _ _ _, HB4.out⟩
  rw [if_neg hi0] at hg
  have di : decide (i < 0) = false := decide_eq_false hi0
  have hip : 0 ≤ i := by omega
  have hil : i < (s.snaps.length : Int) := by have := HFV.out; rw [this]; exact xJ s owner
  obtain ⟨ad, A3, c3, e3, g0, g1, g2, g3, hl3, hC3⟩ := oG HR4.out.h2 i hip hil
  obtain ⟨x, hx⟩ : ∃ x, x = a_ s.snaps i := ⟨_, rfl⟩
  rw [← hx] at g0 g1 g2 g3 hl3 hC3
  rw [← hx] at hg
  have HG := aa.mk hg
  have HCL := aa.mk (And.intro hC3 hl3)
  have HG23 := aa.mk (And.intro g2 g3)
  have hx2 : w4.cell? ⟨b, 2, none⟩ = some (.slice (some ad) s.snaps.length a.c2) := by rw [← e3]; exact (ae HX4.out 2).trans rfl
  have HX42 := aa.mk hx2
  clear hx hg g0 g1 g2 g3 hl3 hC3 e3 hx2 HFV hi0
  go_wp2_with fail
  refine dG (n := 14) (S := fun w' => w'.cell? ⟨b, 2, none⟩ = some (.slice (some ad) s.snaps.length a.c2) ∧ w'.cell? ⟨(ad.add (i.toNat * 4)).block, (ad.add (i.toNat * 4)).off + 2, none⟩ = some (.int .i64 x.f2) ∧ w'.cell? ⟨(ad.add (i.toNat * 4)).block, (ad.add (i.toNat * 4)).off + 3, none⟩ = some (.slice A3 x.f3.length c3)) (ds := []) (lb 14 0) (by kernel_rfl) rfl (by kernel_rfl) ⟨HX42.out, HG23.out.1, HG23.out.2⟩ (fun hHeld => ?_)
  refine bG xA ve (fun HT_ HW_ => ?_)
  have HX5 := aa.mk (show w4.drew.heap[b]? = _ from HX4.out)
  have HB5 := aa.mk (HB4.out.trans ((aQ (Below.refl w4.heap.size w4)).mono HB4.out.size))
  have HR5 := aa.mk (HR4.out.below (aQ (Below.refl _ _)))
  have HCL5 := aa.mk (show Kd.C k151 w4.drew A3 x.f3.length x.f3 ∧ x.f3.length ≤ c3 from ⟨Kd.aN HCL.out.1 (aQ (Below.refl _ _)), HCL.out.2⟩)
  clear HX4 HB4 HR4 HCL HG23 HX42
  generalize w4.drew = w5 at hHeld HX5 HB5 HR5 HCL5 ⊢
  refine pu_ 0 30 14 1 ?_
  refine tk_ 1 31 14 3 ?_
  refine pu_ 2 32 14 7 ?_
  refine pu_ 3 33 14 15 ?_
  refine pu_ 4 34 14 31 ?_
  refine tk_ 5 35 14 63 ?_
  refine pu_ 6 36 14 127 ?_
  refine tk_ 7 37 14 255 ?_
  refine pu_ 8 38 14 511 ?_
  refine pu_ 9 39 14 1023 ?_
  refine pu_ 10 40 14 2047 ?_
  refine tk_ 11 41 14 4095 ?_
  refine pu_ 12 11 14 8191 ?_
  refine pu_ 13 12 14 16383 ?_
  refine eQ (bU HT_.out (by kernel_rfl)) ?_
  clear HT_ HW_ hHeld di hip hil
  have hg := HG.out
  have HCL := HCL5
  have HXw := HX5
  have HBw := HB5
  have HRw := HR5
  clear HG
  rw [cutV] at hg
  by_cases h1 : at0 < 0
  · rw [if_pos (.inl h1)] at hg
    obtain ⟨rfl, rfl⟩ := Prod.mk.inj (Option.some.inj hg)
    have d1 : decide (at0 < 0) = true := decide_eq_true h1
    clear hg h1
    go_wp2_with fail
    go_ret2
    exact ⟨_, rfl, Kd.bW _ _ _ _ _, HBw.out⟩
  have d1 : decide (at0 < 0) = false := decide_eq_false h1
  by_cases h2 : n < 0
  · rw [if_pos (.inr (.inl h2))] at hg
    obtain ⟨rfl, rfl⟩ := Prod.mk.inj (Option.some.inj hg)
    have d2 : decide (n < 0) = true := decide_eq_true h2
    clear hg h1 h2
    go_wp2_with fail
    go_ret2
    exact ⟨_, rfl, Kd.bW _ _ _ _ _, HBw.out⟩
  have d2 : decide (n < 0) = false := decide_eq_false h2
  by_cases h3 : x.f2 < at0
  · rw [if_pos (.inr (.inr (.inl h3)))] at hg
    obtain ⟨rfl, rfl⟩ := Prod.mk.inj (Option.some.inj hg)
    have d3 : decide (x.f2 < at0) = true := decide_eq_true h3
    clear hg h1 h2 h3
    go_wp2_with fail
    go_ret2
    exact ⟨_, rfl, Kd.bW _ _ _ _ _, HBw.out⟩
  have d3 : decide (x.f2 < at0) = false := decide_eq_false h3
  by_cases h4 : wrap64 (x.f2 - at0) < n
  · rw [if_pos (.inr (.inr (.inr h4)))] at hg
    obtain ⟨rfl, rfl⟩ := Prod.mk.inj (Option.some.inj hg)
    have d4 : decide (wrap64 (x.f2 - at0) < n) = true := decide_eq_true h4
    clear hg h1 h2 h3 h4
    go_wp2_with fail
    go_ret2
    exact ⟨_, rfl, Kd.bW _ _ _ _ _, HBw.out⟩
  have d4 : decide (wrap64 (x.f2 - at0) < n) = false := decide_eq_false h4
  rw [if_neg (by rintro (h | h | h | h); exact h1 h; exact h2 h; exact h3 h; exact h4 h)] at hg
  obtain ⟨r9, hoc, hg⟩ := Option.bind_eq_some_iff.1 hg
  obtain ⟨rfl, rfl⟩ := Prod.mk.inj (Option.some.inj hg)
  have HOC := aa.mk (q9 s a A3 c3 x.f3 at0 n r9 w5 HRw.out HCL.out.1 HCL.out.2 hoc)
  have q0 := (ae HXw.out 0).trans rfl
  have q1 := (ae HXw.out 1).trans rfl
  have q2 := (ae HXw.out 2).trans rfl
  have q3 := (ae HXw.out 3).trans rfl
  have q4 := (ae HXw.out 4).trans rfl
  have q5 := (ae HXw.out 5).trans rfl
  have q6 := (ae HXw.out 6).trans rfl
  clear hg h1 h2 h3 h4 hoc
  go_wp2_with fail
  refine HOC.out.mono ?_
  rintro e w9 ⟨v, rfl, hR, hb⟩
  have HR9 := aa.mk (Kd.bH hR HBw.out.size)
  have HB9 := aa.mk (HBw.out.trans (hb.mono HBw.out.size))
  clear HOC hR hb q0 q1 q2 q3 q4 q5 q6
  go_wp2_with fail
  go_ret2
  exact ⟨v, rfl, Kd.aX HR9.out (fun _ _ => trivial), HB9.out⟩
def alD (c : Int) : List Int := (List.replicate 64 0).set 5 c
def alZ : List Int := List.replicate 64 0
def al0 : St := ⟨4, [], [], 1, 8, [⟨0, 8⟩], List.replicate 8 alZ⟩
def al1 : St := ⟨4, [⟨0, 0, 2⟩], [], 1, 8, [⟨2, 6⟩], alD 1 :: alD 2 :: List.replicate 6 alZ⟩
def alA : ByteArray := ⟨#[97]⟩
def al2 : St := ⟨4, [⟨0, 0, 2⟩], [⟨1, alA, 4, [⟨0, 0, 2⟩]⟩], 2, 8, [⟨2, 6⟩], alD 1 :: alD 2 :: List.replicate 6 alZ⟩
def al3 : St := ⟨4, [⟨0, 2, 1⟩, ⟨1, 1, 1⟩], [⟨1, alA, 4, [⟨0, 0, 2⟩]⟩], 2, 8, [⟨3, 5⟩], alD 1 :: alD 2 :: alD 3 :: List.replicate 5 alZ⟩
def Inc (l : List S93) : Prop := l.Pairwise fun a b => a.f0 ≤ b.f0
theorem om {l : List S93} (h : Inc l) : jy l = l := List.mergeSort_of_pairwise (h.imp fun h => decide_eq_true h)
theorem nA {s : St} {u v : List S93} (hu : (eO (gZ (gP s))).map spR = u) (hs : Inc u) (hv : u.foldl gM [] = v) : iK s = v := by
  unfold iK joinL
  rw [hu, om hs, hv]
theorem qx {fs : Int} {v g : List S93} (h0 : ¬ (fs < 0 ∨ fs > 65536)) (h1 : ¬ (v.length : Int) > 1024) (ha : v.all (insG fs) = true) (hs : Inc v) (hg : gapL v fs = g) (hl : ¬ (g.length : Int) > 1024) : bN fs v = (fs, g, 0) := by
  unfold bN
  rw [if_neg h0, if_neg h1, if_pos ha, om hs, hg, if_neg hl]
theorem pE {s : St} {v : List S93} {z : Int} {g : List S93} (hm : Flag.fT ((gP s).map toM) = 0) (hu : iK s = v) (hw : bN s.fsize v = (z, g, 0)) : gK 9300 s = some ({ s with fsize := z, sp := g }, true) := by
  unfold gK
  rw [used9 (by decide), if_pos hm, Option.bind_some]
  dsimp only
  rw [if_pos rfl, (show joinL ((eO (gZ (gP s))).map spR) = v from hu), hw]
  rfl
theorem al_c0 : dH al0 = 0 := by kernel_rfl
theorem al_c1 : dH al1 = 0 := by kernel_rfl
theorem al_r : bY.f 9300 al3.fsize al3.sp = some (5, 5, 0) := by kernel_rfl
def al1w : St := ⟨4, [⟨0, 0, 2⟩], [], 1, 8, [⟨2, 6⟩], alD 1 :: alD 2 :: List.replicate 6 alZ⟩
theorem al_w1 : jP 9300 9 al0 0 (alD 1 ++ alD 2) = some (al1w, true) := by kernel_rfl
theorem al_t1 : gK 9300 al1w = some (al1, true) := by kernel_rfl
theorem al_u2 : iK al2 = [⟨0, 2⟩] := nA (u := [⟨0, 2⟩, ⟨0, 2⟩]) (by kernel_rfl) (by unfold Inc; decide) (by kernel_rfl)
theorem al_s : gK 9300 ({ al1 with snaps := al1.snaps ++ [⟨al1.next, alA, al1.size, al1.now⟩], next := wrap64 (al1.next + 1) } : St) = some (al2, true) :=
  (pE (v := [⟨0, 2⟩]) (z := 8) (g := [⟨2, 6⟩]) (by kernel_rfl) (nA (u := [⟨0, 2⟩, ⟨0, 2⟩]) (by kernel_rfl) (by unfold Inc; decide) (by kernel_rfl)) (by kernel_rfl)).trans (by kernel_rfl)
def al3w : St := ⟨4, [⟨0, 2, 1⟩, ⟨1, 1, 1⟩], [⟨1, alA, 4, [⟨0, 0, 2⟩]⟩], 2, 8, [⟨3, 5⟩], alD 1 :: alD 2 :: alD 3 :: List.replicate 5 alZ⟩
theorem al_w2 : jP 9300 9 al2 0 (alD 3) = some (al3w, true) := by kernel_rfl
theorem AJ : iK al3 = [⟨0, 3⟩] := nA (u := [⟨0, 2⟩, ⟨1, 1⟩, ⟨2, 1⟩]) (by kernel_rfl) (by unfold Inc; decide) (by kernel_rfl)
theorem al_t2 : gK 9300 al3w = some (al3, true) := pE (z := 8) (g := [⟨3, 5⟩]) (by kernel_rfl) AJ (by kernel_rfl)
theorem al_A : alA.toList = [97] := by
  show ByteArray.toList.loop alA 0 [] = [97]
  rw [ByteArray.toList.loop, if_pos (by decide), ByteArray.toList.loop, if_neg (by decide)]
  rfl
theorem al_n {s : St} (h1 : s.snaps = [⟨1, alA, 4, [⟨0, 0, 2⟩]⟩]) (h2 : s.next = 2) : nmB s = true := by
  unfold nmB fF
  rw [h1, h2]
  simp [lX, al_A, isIn]
  decide
theorem al_c2 : dH al2 = 0 := lJ.2 ⟨Flag.gV.1 (by kernel_rfl), al_n rfl rfl, Flag.gB.1 (by kernel_rfl), by kernel_rfl, (List.forall_mem_singleton (a := (⟨1, alA, 4, [⟨0, 0, 2⟩]⟩ : S69))).2 (by kernel_rfl), by kernel_rfl, by decide, by rw [al_u2]; kernel_rfl, by rw [al_u2]; kernel_rfl⟩
theorem al_c3 : dH al3 = 0 := lJ.2 ⟨Flag.gV.1 (by kernel_rfl), al_n rfl rfl, Flag.gB.1 (by kernel_rfl), by kernel_rfl, (List.forall_mem_singleton (a := (⟨1, alA, 4, [⟨0, 0, 2⟩]⟩ : S69))).2 (by kernel_rfl), by kernel_rfl, by decide, by rw [AJ]; kernel_rfl, by rw [AJ]; kernel_rfl⟩
theorem al_rd : xW al3 1 0 1 = some (alD 1, 0) := by
  unfold xW
  rw [if_pos al_c3]
  kernel_rfl
end Go.Proofs.YtjeeejoelmmfmaaGreat.Fn
