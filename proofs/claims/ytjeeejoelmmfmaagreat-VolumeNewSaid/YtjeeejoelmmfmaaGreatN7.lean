/- Part 7 of the walk: printed by programs of this session (by way of the kit's print) or told by hand. -/
import Derived.Test.YtjeeejoelmmfmaaGreatN6
namespace Go.Proofs.YtjeeejoelmmfmaaGreat.Fn
open Go.RowKit Go.Proofs.YtjeeejoelmmfmaaGreatW.PrintWords Go.Proofs.YtjeeejoelmmfmaaGreatW.PrintLast Go.Proofs.YtjeeejoelmmfmaaGreatW.PrintMore
attribute [local go_sem] fw eu fU fZ dY dX fu fe
set_option linter.unusedVariables false
set_option linter.unusedSimpArgs false
def eF (n : Int) : List S93 := if n > 0 then [⟨0, n⟩] else []
def lI (size room : Int) : Bool := decide (room < 0) || (decide (room > 65536) || (decide (size < 0) || decide (size > 65536)))
def nilV : St := ⟨0, [], [], 0, 0, [], []⟩
def newV (size room : Int) : St × Int := if lI size room = true then (nilV, 4) else (⟨size, [], [], 1, room, eF room, List.replicate room.toNat alZ⟩, 0)
theorem fnew_f (k : Nat) (n : Int) : dw.f (k + 1) n = some (if n < 0 ∨ n > 65536 then (0, [], 4) else (n, eF n, 0)) := by
  unfold dw.f eF
  by_cases c1 : n < 0
  · rw [if_pos c1, dw.j0, if_pos rfl, if_pos (Or.inl c1)]
  · rw [if_neg c1, dw.j0]
    by_cases c2 : n > 65536
    · rw [decide_eq_true c2, if_pos rfl, if_pos (Or.inr c2)]
    · rw [decide_eq_false c2, if_neg (by decide)]
      by_cases c3 : n > 0
      · rw [if_pos c3, if_neg (show ¬ (n < 0 ∨ n > 65536) by omega), if_pos c3]
      · rw [if_neg c3, if_neg (show ¬ (n < 0 ∨ n > 65536) by omega), if_neg c3]
def AO : At4 := ⟨none, 0, none, 0, none, 0, none, 0⟩
theorem Sits.xK {w0 w w1 : World} {b : Nat} {s : St} {a : At4} (h : Sits w0 b s a w) (l : List (List Int)) (A : Option Addr) (c : Nat) (hR : Kd.R kLB 37 w1 w0.heap.size (fun k => k ≠ b) (.slice A l.length c) l) (hB : Below w0.heap.size w0 w1)
    (hg : w.grownBy w1 (Value.slice a.A6 s.data.length a.c6).ownBlock) : Sits w0 b { s with data := l } { a with A6 := A, c6 := c } (w1.setCell ⟨b, 6, none⟩ (.slice A l.length c)) := by
  have h6 := h.own.o6
  have hb6 : some b ≠ (Value.slice a.A6 s.data.length a.c6).ownBlock := fun e => h6.1 b e.symm rfl
  have hx1 : w1.heap[b]? = some (.cells (aI s a) 31 (0, 0)) := (hg.block b (aA h.hx) hb6).trans h.hx
  have o1 := Kd.aX (ok' := fun k => k ≠ b) (Kd.jM (Kd.dV h.own.o1 h6 (by decide)) hg (fun k hk => hk.2)) (fun k hk => hk.1)
  have o2 := Kd.aX (ok' := fun k => k ≠ b) (Kd.jM (Kd.dV h.own.o2 h6 (by decide)) hg (fun k hk => hk.2)) (fun k hk => hk.1)
  have o5 := Kd.aX (ok' := fun k => k ≠ b) (Kd.jM (Kd.dV h.own.o5 h6 (by decide)) hg (fun k hk => hk.2)) (fun k hk => hk.1)
  have hf : ∀ k, k ≠ b → k < w1.heap.size → (w1.setCell ⟨b, 6, none⟩ (.slice A l.length c)).heap[k]? = w1.heap[k]? := fun k hk _ => Below.heap_setCell w1 ⟨b, 6, none⟩ _ k hk
  exact ⟨aW hx1 6 _ rfl, hB.setCell (p := ⟨b, 6, none⟩) h.hbb _, h.hbb, ⟨Kd.bR o1 hf, Kd.bR o2 hf, Kd.bR o5 hf, Kd.bR hR hf⟩⟩
def nw_T7 : Bool × List (List Nat × List Nat) := (true, [([], []), ([0], [0]), ([], []), ([2], [2]), ([1, 3], [1, 3]), ([0, 1, 2, 3, 4], []), ([5, 4, 4, 0, 1, 2, 3, 4], [4, 5])])
def nw_B7 : List Nat := [0, 1, 0, 4, 15, 31, 63]
theorem zo : rtab .any (opsOf Tryz.f35 7) = nw_T7 := by kernel_rfl
theorem xQ : cB nw_T7.2 nw_B7 = true := by kernel_rfl
set_option maxHeartbeats 16000000 in
set_option maxRecDepth 100000 in
theorem yw (size room : Int) (w : World) : Calls Tryz.prog 35 #[.int .i64 size, .int .i64 room] w fun e w' => ∃ a, e = .returned (.tuple #[.agg (aI (newV size room).1 a), .int .i64 (newV size room).2]) ∧ Owns w' w.heap.size (fun _ => True) (newV size room).1 a ∧ Below w.heap.size w w' := by
  have hu31 := Tryz.underlying31
  have hu28 := Tryz.underlying28
  obtain ⟨b4, hb4⟩ : ∃ k, k = w.heap.size := ⟨_, rfl⟩
  obtain ⟨W1, hW1⟩ : ∃ W, W = w.alloc (.cells NIL7 31) := ⟨_, rfl⟩
  have HX4 := aa.mk (show W1.heap[b4]? = some (.cells NIL7 31 (0, 0)) by rw [hW1, hb4]; exact bg w _)
  have HB1 := aa.mk (show Below w.heap.size w W1 by rw [hW1]; exact (Below.refl _ _).alloc (Nat.le_refl _) _)
  have HE4 := aa.mk (show w.heap.size ≤ b4 by omega)
  have HFN := aa.mk (fun r1 r2 r3 (h : dw.f (0 + 1) room = some (r1, r2, r3)) => dw.calls (0 + 1) room r1 r2 r3 W1 h)
  rw [fnew_f] at HFN
  have hN7 : NIL7 = #[.int .i64 0, .slice none 0 0, .slice none 0 0, .int .i64 0, .int .i64 0, .slice none 0 0, .slice none 0 0] := rfl
  rw [hN7] at hW1
  go_enter Tryz.func35, Tryz.ntmps35
  go_wp2_with fail
  rw [← hW1, ← hb4]
  clear hW1 hb4
  by_cases c1 : room < 0 ∨ room > 65536
  · have HNV := aa.mk (show newV size room = (nilV, 4) by
      unfold newV lI
      rw [if_pos]
      rcases c1 with c1 | c1 <;> simp [c1])
    rw [if_pos c1] at HFN
    refine (HFN.out _ _ _ rfl).mono ?_
    rintro e w2 ⟨v, rfl, hR, hb⟩
    obtain ⟨A1, m1, rfl⟩ := Kd.aZ hR
    have HX := aa.mk ((hb.block _ (aA HX4.out)).trans HX4.out)
    have HB := aa.mk (HB1.out.trans (hb.mono HB1.out.size))
    clear hR hb HX4 HB1 HFN c1
    go_wp2_with (refine gI (.store 28 (.tmp 6) (.tmp 12)) rfl ?_; refine gG ?_)
    refine ⟨?_⟩
    have hb2 := (Below.refl w2.heap.size w2).alloc (Nat.le_refl _) (.cells #[.int .i64 0, .slice none 0 0] 28)
    refine bF w2.heap.size #[.int .i64 0, .slice A1 0 m1] (bg w2 _) ?_
    have HX3 := aa.mk ((setRow_other _ w2.heap.size b4 #[.int .i64 0, .slice A1 0 m1] (by have := aA HX.out; omega)).trans ((hb2.block _ (aA HX.out)).trans HX.out))
    have HB3 := aa.mk (aJ (HB.out.trans (hb2.mono HB.out.size)) (g := w2.heap.size) HB.out.size #[.int .i64 0, .slice A1 0 m1])
    clear hb2 HX HB
    generalize (w2.alloc (.cells #[.int .i64 0, .slice none 0 0] 28)).setRow w2.heap.size #[.int .i64 0, .slice A1 0 m1] = w3 at HX3 HB3 ⊢
    go_wp2_with (refine gI (.store 31 (.tmp 4) (.tmp 24)) rfl ?_; refine gG ?_)
    refine ⟨?_⟩
    refine bF b4 NIL7 HX3.out ?_ (h1 := by simp [Value.oneCell', NIL7])
    have hx4 := setRow_heap w3 b4 _ NIL7 _ _ HX3.out
    have HB4 := aa.mk (aJ HB3.out (g := b4) HE4.out NIL7)
    generalize w3.setRow b4 NIL7 = w4 at hx4 HB4 ⊢
    go_wp2
    (try simp only [Exit.inBlock, Exit.then])
    refine bodyPost_ret (bJ rfl _ _ b4 31 NIL7 (0, 0) _ rfl hx4 Tryz.underlying31 rfl (by kernel_rfl)) rfl ?_
    rw [HNV.out]
    exact ⟨AO, rfl, ⟨Kd.bW _ _ _ _ _, Kd.bW _ _ _ _ _, Kd.bW _ _ _ _ _, Kd.bW _ _ _ _ _⟩, HB4.out⟩
  rw [if_neg c1] at HFN
  refine (HFN.out _ _ _ rfl).mono ?_
  rintro e w2 ⟨v, rfl, hR, hb⟩
  obtain ⟨A1, m1, rfl⟩ := Kd.aZ hR
  have HX := aa.mk ((hb.block _ (aA HX4.out)).trans HX4.out)
  have HB := aa.mk (HB1.out.trans (hb.mono HB1.out.size))
  have HRM := aa.mk c1
  have HSPN := aa.mk (Kd.bH hR HB1.out.size)
  clear hR hb HX4 HB1 HFN c1
  obtain ⟨L, hL⟩ : ∃ l, l = eF room := ⟨_, rfl⟩
  rw [← hL] at HSPN ⊢
  have HL := aa.mk hL
  clear hL
  go_wp2_with (refine gI (.store 28 (.tmp 6) (.tmp 12)) rfl ?_; refine gG ?_)
  refine ⟨?_⟩
  have hb2 := (Below.refl w2.heap.size w2).alloc (Nat.le_refl _) (.cells #[.int .i64 0, .slice none 0 0] 28)
  refine bF w2.heap.size #[.int .i64 room, .slice A1 L.length m1] (bg w2 _) ?_
  have HX3 := aa.mk ((setRow_other _ w2.heap.size b4 #[.int .i64 room, .slice A1 L.length m1] (by have := aA HX.out; omega)).trans ((hb2.block _ (aA HX.out)).trans HX.out))
  have HX6 := aa.mk (setRow_heap (w2.alloc (.cells #[.int .i64 0, .slice none 0 0] 28)) w2.heap.size _ #[.int .i64 room, .slice A1 L.length m1] _ _ (bg w2 _))
  have HB3 := aa.mk (aJ (HB.out.trans (hb2.mono HB.out.size)) (g := w2.heap.size) HB.out.size #[.int .i64 room, .slice A1 L.length m1])
  have HSP3 := aa.mk (Kd.bR (bS (Kd.bA HSPN.out hb2) (bg w2 _) (by decide)) (w1 := (w2.alloc (.cells #[.int .i64 0, .slice none 0 0] 28)).setRow w2.heap.size #[.int .i64 room, .slice A1 L.length m1]) (fun k hk _ => setRow_other _ w2.heap.size k _ hk.2))
  obtain ⟨b6, hb6⟩ : ∃ k, k = w2.heap.size := ⟨_, rfl⟩
  rw [← hb6] at HX3 HX6 HB3 HSP3 ⊢
  have HE6 := aa.mk (show b6 ≠ b4 by have := aA HX.out; omega)
  clear hb2 HX HB HSPN hb6
  generalize (w2.alloc (.cells #[.int .i64 0, .slice none 0 0] 28)).setRow b6 #[.int .i64 room, .slice A1 L.length m1] = w3 at HX3 HX6 HB3 HSP3 ⊢
  by_cases c2 : size < 0
  · have HNV := aa.mk (show newV size room = (nilV, 4) by unfold newV lI; rw [if_pos]; simp [c2])
    have d2 : decide (size < 0) = true := decide_eq_true c2
    clear c2
    go_wp2_with (refine gI (.store 31 (.tmp 4) (.tmp 24)) rfl ?_; refine gG ?_)
    refine ⟨?_⟩
    refine bF b4 NIL7 HX3.out ?_ (h1 := by simp [Value.oneCell', NIL7])
    have hx4 := setRow_heap w3 b4 _ NIL7 _ _ HX3.out
    have HB4 := aa.mk (aJ HB3.out (g := b4) HE4.out NIL7)
    generalize w3.setRow b4 NIL7 = w4 at hx4 HB4 ⊢
    go_wp2
    (try simp only [Exit.inBlock, Exit.then])
    refine bodyPost_ret (bJ rfl _ _ b4 31 NIL7 (0, 0) _ rfl hx4 Tryz.underlying31 rfl (by kernel_rfl)) rfl ?_
    rw [HNV.out]
    exact ⟨AO, rfl, ⟨Kd.bW _ _ _ _ _, Kd.bW _ _ _ _ _, Kd.bW _ _ _ _ _, Kd.bW _ _ _ _ _⟩, HB4.out⟩
  have d2 : decide (size < 0) = false := decide_eq_false c2
  by_cases c3 : size > 65536
  · have HNV := aa.mk (show newV size room = (nilV, 4) by unfold newV lI; rw [if_pos]; simp [c3])
    have d3 : decide (65536 < size) = true := decide_eq_true c3
    clear c2 c3
    go_wp2_with (refine gI (.store 31 (.tmp 4) (.tmp 24)) rfl ?_; refine gG ?_)
    refine ⟨?_⟩
    refine bF b4 NIL7 HX3.out ?_ (h1 := by simp [Value.oneCell', NIL7])
    have hx4 := setRow_heap w3 b4 _ NIL7 _ _ HX3.out
    have HB4 := aa.mk (aJ HB3.out (g := b4) HE4.out NIL7)
    generalize w3.setRow b4 NIL7 = w4 at hx4 HB4 ⊢
    go_wp2
    (try simp only [Exit.inBlock, Exit.then])
    refine bodyPost_ret (bJ rfl _ _ b4 31 NIL7 (0, 0) _ rfl hx4 Tryz.underlying31 rfl (by kernel_rfl)) rfl ?_
    rw [HNV.out]
    exact ⟨AO, rfl, ⟨Kd.bW _ _ _ _ _, Kd.bW _ _ _ _ _, Kd.bW _ _ _ _ _, Kd.bW _ _ _ _ _⟩, HB4.out⟩
  have d3 : decide (65536 < size) = false := decide_eq_false c3
  have HNV := aa.mk (show newV size room = (⟨size, [], [], 1, room, L, List.replicate room.toNat alZ⟩, 0) by
    have := HRM.out
    unfold newV lI
    rw [if_neg (by simp; omega), HL.out])
  clear c2 c3 HL
  have q0 := (ae HX6.out 0).trans rfl
  have q1 := (ae HX6.out 1).trans rfl
  go_wp2_with (refine gI (.store 31 (.tmp 8) (.tmp 27)) rfl ?_; refine gG ?_)
  refine ⟨?_⟩
  clear q0 q1
  obtain ⟨b, hbb⟩ : ∃ k, k = w3.heap.size := ⟨_, rfl⟩
  obtain ⟨W4, hW4⟩ : ∃ W, W = w3.alloc (.cells #[.int .i64 0, .slice none 0 0, .slice none 0 0, .int .i64 0, .int .i64 0, .slice none 0 0, .slice none 0 0] 31) := ⟨_, rfl⟩
  have hb4 : Below w3.heap.size w3 W4 := by rw [hW4]; exact (Below.refl _ _).alloc (Nat.le_refl _) _
  have hx8 : W4.heap[b]? = some (.cells NIL7 31 (0, 0)) := by rw [hW4, hbb]; exact bg w3 _
  rw [← hW4, ← hbb]
  refine bF b #[.int .i64 size, .slice none 0 0, .slice none 0 0, .int .i64 1, .int .i64 room, .slice A1 L.length m1, .slice none 0 0] hx8 ?_
  have HE8 := aa.mk (show b ≠ b4 ∧ w.heap.size ≤ b from ⟨by have := aA HX3.out; omega, by have := HB3.out.size; omega⟩)
  have HX4 := aa.mk ((setRow_other W4 b b4 #[.int .i64 size, .slice none 0 0, .slice none 0 0, .int .i64 1, .int .i64 room, .slice A1 L.length m1, .slice none 0 0] (Ne.symm HE8.out.1)).trans ((hb4.block _ (aA HX3.out)).trans HX3.out))
  have HS := aa.mk (show Sits w b ⟨size, [], [], 1, room, L, []⟩ ⟨none, 0, none, 0, A1, m1, none, 0⟩ (W4.setRow b #[.int .i64 size, .slice none 0 0, .slice none 0 0, .int .i64 1, .int .i64 room, .slice A1 L.length m1, .slice none 0 0]) from
    ⟨setRow_heap W4 b _ _ _ _ hx8, aJ (HB3.out.trans (hb4.mono HB3.out.size)) (g := b) HE8.out.2 _, HE8.out.2, ⟨Kd.bW _ _ _ _ _, Kd.bW _ _ _ _ _, Kd.bR (Kd.aX (ok' := fun k => k ≠ b) (Kd.bO (Kd.bA HSP3.out hb4)) (fun k hk => by
      rintro rfl
      have hlt := Kd.R_lt HSP3.out
      obtain ⟨h1, h2, h3, q, hq, cells, hc⟩ := hk
      rw [hx8] at hc
      injection hc with hc
      injection hc with _ hc2 _
      revert hc2
      revert q
      decide)) (fun k hk _ => setRow_other W4 b k _ hk), Kd.bW _ _ _ _ _⟩⟩)
  clear HX3 HSP3 HB3 hb4 hx8 hW4 hbb HX6 HE6
  generalize W4.setRow b #[.int .i64 size, .slice none 0 0, .slice none 0 0, .int .i64 1, .int .i64 room, .slice A1 L.length m1, .slice none 0 0] = w5 at HX4 HS ⊢
  go_wp2_with fail
  go_loopg [29] room.toNat (fun gk v29 W => ∃ (i : Nat) (a : At4), v29 = .int .i64 (i : Int) ∧ aa (i + gk = room.toNat) ∧ aa (Sits w b ⟨size, [], [], 1, room, L, List.replicate i alZ⟩ a W) ∧ aa (W.heap[b4]? = some (.cells NIL7 31 (0, 0))))
  case atStart => exact ⟨0, _, rfl, ⟨by omega⟩, HS, HX4⟩
  case round =>
    obtain ⟨i, a, rfl, HI, HS, HX4⟩ := hrel
    cases gk with
    | zero =>
      have hz : decide ((i : Int) < room) = false := decide_eq_false (by have := HI.out; have := HRM.out; omega)
      have HIR := aa.mk (show i = room.toNat by have := HI.out; omega)
      clear HI
      have hx := HS.out.hx
      unfold aI at hx
      have q0 := (ae hx 0).trans rfl
      have q1 := (ae hx 1).trans rfl
      have q2 := (ae hx 2).trans rfl
      have q3 := (ae hx 3).trans rfl
      have q4 := (ae hx 4).trans rfl
      have q5 := (ae hx 5).trans rfl
      have q6 := (ae hx 6).trans rfl
      clear hx
      go_wp2_with (refine gI (.store 31 (.tmp 4) (.tmp 38)) rfl ?_; refine gG ?_)
      refine ⟨?_⟩
      refine bF b4 #[.int .i64 size, .slice a.A1 0 a.c1, .slice a.A2 0 a.c2, .int .i64 1, .int .i64 room, .slice a.A5 L.length a.c5, .slice a.A6 i a.c6] HX4.out ?_
      have hx4 := setRow_heap wr b4 _ #[.int .i64 size, .slice a.A1 0 a.c1, .slice a.A2 0 a.c2, .int .i64 1, .int .i64 room, .slice a.A5 L.length a.c5, .slice a.A6 i a.c6] _ _ HX4.out
      have HB4 := aa.mk (aJ HS.out.hb (g := b4) HE4.out #[.int .i64 size, .slice a.A1 0 a.c1, .slice a.A2 0 a.c2, .int .i64 1, .int .i64 room, .slice a.A5 L.length a.c5, .slice a.A6 i a.c6])
      have HO := aa.mk ((HS.out.own.lL HX4.out (by decide) (by decide) (by decide) (by decide)).step (wf := wr.setRow b4 #[.int .i64 size, .slice a.A1 0 a.c1, .slice a.A2 0 a.c2, .int .i64 1, .int .i64 room, .slice a.A5 L.length a.c5, .slice a.A6 i a.c6]) (fun k hk _ => setRow_other _ b4 k _ hk.2))
      clear q0 q1 q2 q3 q4 q5 q6 HS hz
      generalize wr.setRow b4 #[.int .i64 size, .slice a.A1 0 a.c1, .slice a.A2 0 a.c2, .int .i64 1, .int .i64 room, .slice a.A5 L.length a.c5, .slice a.A6 i a.c6] = w7 at hx4 HB4 HO ⊢
      go_wp2
      (try simp only [Exit.inBlock, Exit.then])
      refine bodyPost_ret (bJ rfl _ _ b4 31 _ (0, 0) _ rfl hx4 Tryz.underlying31 rfl (by kernel_rfl)) rfl ?_
      rw [HNV.out, ← HIR.out]
      exact ⟨a, by unfold aI; simp, ⟨Kd.aX HO.out.o1 (fun _ _ => trivial), Kd.aX HO.out.o2 (fun _ _ => trivial), Kd.aX HO.out.o5 (fun _ _ => trivial), Kd.aX HO.out.o6 (fun _ _ => trivial)⟩, HB4.out⟩
    | succ gk =>
      have hz : decide ((i : Int) < room) = true := decide_eq_true (by have := HI.out; have := HRM.out; omega)
      have hl : (List.replicate i alZ).length = i := List.length_replicate
      go_wp2_with fail
      have hx := HS.out.hx
      unfold aI at hx
      rw [hl] at hx
      refine dG (n := 7) (S := fun w' => w'.cell? ⟨b, 0, none⟩ = some (.int .i64 size) ∧ w'.cell? ⟨b, 6, none⟩ = some (.slice a.A6 i a.c6)) (ds := [6]) (lb 7 0) (by kernel_rfl) rfl (by kernel_rfl) ⟨(ae hx 0).trans rfl, (ae hx 6).trans rfl⟩ (fun hHeld => ?_)
      refine bG zo xQ (fun HT_ HW_ => ?_)
      have HS1 := aa.mk (HS.out.below (aQ (Below.refl _ _)))
      have HX1 := aa.mk (show wr.drew.heap[b4]? = _ from HX4.out)
      clear hx HS HX4 hz
      generalize wr.drew = w1 at hHeld HS1 HX1 ⊢
      refine pu_ 0 31 7 1 ?_
      refine tk_ 1 32 7 3 ?_
      refine on_ 2 33 7 7 (fun K hK => ?_)
      refine Kd.qE (Kd.int .u8) w1.heap.size 5 (by rfl) (N := 33) rfl 37 _ _ rfl 64 rfl rfl Tryz.underlying37 (.int .u8 0) 1 info5 rfl (by decide) (by omega) 0 (ok := fun _ => True) (okp := fun _ => True) rfl (fun _ hk => hk) trivial (by omega) (by decide) (Below.refl _ _) (Nat.le_refl _) ?_
      intro v w2 hR hb hg_ hnew_
      obtain ⟨N, dn, rfl⟩ := Kd.aZ hR
      have HS2 := aa.mk (HS1.out.below hb)
      have HX2 := aa.mk ((hb.block _ (aA HX1.out)).trans HX1.out)
      have HN2 := aa.mk (show Kd.R (Kd.int .u8) 5 w2 w.heap.size (fun k => k ≠ b ∧ some k ≠ (Value.slice a.A6 (List.replicate i alZ).length a.c6).ownBlock) (.slice N alZ.length dn) alZ from Kd.bH (Kd.aX (Kd.bO hR) (fun k hk => ⟨by have := hk.2.1; have := aA HS1.out.hx; omega, fun e => by have := Kd.R_lt HS1.out.own.o6 k e.symm; have := hk.2.1; omega⟩)) HS1.out.hb.size)
      have hx := HS2.out.hx
      unfold aI at hx
      rw [hl] at hx
      refine hK.out _ _ ⟨(ae hx 0).trans rfl, (ae hx 6).trans rfl⟩ (fun hHeld => ?_)
      clear hK K hb hg_ hnew_ hR hx HS1 HX1
      refine nm_ 33 ?_
      refine on_ 3 34 7 15 (fun K hK => ?_)
      refine mZ (N := some 34) (v := .slice (some ⟨w2.heap.size, 0, none⟩) 1 1) (w1 := w2.alloc (.cells #[.slice N 64 dn] 37)) (by rfl) rfl (by first | (go_simp; done) | (go_simp; rfl)) ?_
      have hb := (Below.refl w2.heap.size w2).alloc (Nat.le_refl _) (.cells #[.slice N 64 dn] 37)
      have hx := (HS2.out.below hb).hx
      unfold aI at hx
      rw [hl] at hx
      refine hK.out _ _ ⟨(ae hx 0).trans rfl, (ae hx 6).trans rfl⟩ (fun hHeld => ?_)
      clear hK K hb hx
      refine nm_ 34 ?_
      refine on_ 4 35 7 31 (fun K hK => ?_)
      refine Kd.fM kLB (w0 := w) w.heap.size (by rfl) (.tmp 32) (.tmp 34) 29 37 (.slice none 0 0) 24 rfl Tryz.underlying29 t_ rfl (by decide) (by omega) (.slice a.A6 i a.c6) (List.replicate i alZ) alZ [.slice N alZ.length dn] (fun k => k ≠ b) (fun k => k ≠ b ∧ some k ≠ (Value.slice a.A6 (List.replicate i alZ).length a.c6).ownBlock) rfl rfl (Kd.M_row HN2.out) (fun k hk => by rw [hl] at hk; exact hk) (fun k hk => by have := aA HS2.out.hx; omega) (by have := HS2.out.own.o6; rw [hl] at this; exact this) HS2.out.hb HS2.out.hb.size (by rw [hl]; have := HI.out; have := HRM.out; omega) ?_
      intro v w7 hR hB hg hat
      have e1 : List.replicate i alZ ++ [alZ] = List.replicate (i + 1) alZ := List.replicate_succ'.symm
      have hl1 : (List.replicate (i + 1) alZ).length = i + 1 := List.length_replicate
      rw [e1] at hR
      obtain ⟨A6', c6', rfl⟩ := Kd.aZ hR
      have h6 := HS2.out.own.o6
      rw [hl] at h6
      have hbn : some b ≠ (Value.slice a.A6 i a.c6).ownBlock := fun e => h6.1 b e.symm rfl
      have hxn : some b4 ≠ (Value.slice a.A6 i a.c6).ownBlock := fun e => (bS h6 HX2.out (by decide)).1 b4 e.symm |>.2 rfl
      have hx := (hg.block b (aA HS2.out.hx) hbn).trans HS2.out.hx
      unfold aI at hx
      rw [hl] at hx
      have HBX := aa.mk hx
      have HS8 := aa.mk (HS2.out.xK _ A6' c6' hR hB (by rw [hl]; exact hg))
      have HX8 := aa.mk ((Below.heap_setCell w7 ⟨b, 6, none⟩ (.slice A6' (List.replicate (i + 1) alZ).length c6') b4 (Ne.symm HE8.out.1)).trans ((hg.block b4 (aA HX2.out) hxn).trans HX2.out))
      rw [hl1] at HX8 HS8 ⊢
      refine hK.out _ _ ⟨(ae hx 0).trans rfl, (ae hx 6).trans rfl⟩ (fun hHeld => ?_)
      clear hK K h6 hbn hxn hx hat hg hB hR HS2 HX2 HN2
      refine nm_ 35 ?_
      refine pu_ 5 36 7 63 ?_
      have hbx := HBX.out
      have hfz := ai hbx 6
      have q6 := (ae hbx 6).trans rfl
      refine jr (i := 6) (N := none) #[yT,yT,yT,yT,yT,yT,yT] rfl rfl (fA HT_.out (by kernel_rfl)) (by decide) (fun K hK => ?_)
      refine iV (w1 := w7.setCell ⟨b, 6, none⟩ (.slice A6' (i + 1) c6')) (by rfl) rfl ?_ ?_
      · go_simp
      refine hK.out _ _ ?_
      clear hK K hHeld hfz q6 hbx HBX
      refine eQ (bU HT_.out (by kernel_rfl)) ?_
      clear HT_ HW_
      generalize w7.setCell ⟨b, 6, none⟩ (.slice A6' (i + 1) c6') = w8 at HS8 HX8 ⊢
      go_wp2_with fail
      go_roundg gk
      case measure => omega
      case rel => exact ⟨i + 1, _, by have h1 := HI.out; have h2 := HRM.out; rw [w64 (by omega)]; rfl, ⟨by have := HI.out; omega⟩, HS8, HX8⟩
def yD : Bool × List (List Nat × List Nat) := (true, [([], []), ([], []), ([1], [1]), ([2], [2]), ([3], [3]), ([], []), ([5], [5]), ([6], [6]), ([7], [7]), ([], []), ([9], [9]), ([], []), ([11], [11]), ([12], [12]), ([13], [13]), ([], []), ([15], [15]), ([16], [16]), ([17], [17]), ([18], [18]), ([8, 10, 14, 19], [8, 10, 14, 19]), ([20], [20]), ([4, 21, 19], [4, 21]), ([0, 0, 1, 2, 3, 4, 5, 6, 7, 8, 9, 10, 11, 12, 13, 14, 15, 16, 17, 18, 19, 20, 21, 22], [0]), ([23, 0, 1, 2, 3, 4, 5, 6, 7, 8, 9, 10, 11, 12, 13, 14, 15, 16, 17, 18, 19, 20, 21, 22], [23]), ([24, 22, 22, 0, 1, 2, 3, 4, 5, 6, 7, 8, 9, 10, 11, 12, 13, 14, 15, 16, 17, 18, 19, 20, 21, 22], [22, 24])])
def do_B11 : List Nat := [0, 0, 2, 6, 14, 0, 32, 96, 224, 0, 512, 0, 2048, 6144, 14336, 0, 32768, 98304, 229376, 491520, 1048544, 2097120, 4194302, 8388607, 16777215, 33554431]
theorem xH : rtab .any (opsOf Tryz.f69 11) = yD := by kernel_rfl
theorem vK : cB yD.2 do_B11 = true := by kernel_rfl
def yI : Bool × List (List Nat × List Nat) := (true, [([], []), ([], []), ([1], [1]), ([2], [2]), ([3, 2, 2], [2, 3]), ([2, 4], [2, 4]), ([0, 4, 0], [0]), ([5, 6, 0, 1, 2, 3, 4, 5, 6], [1, 5])])
def do_B24 : List Nat := [0, 0, 2, 6, 14, 30, 31, 127]
theorem nS : rtab .any (opsOf Tryz.f69 24) = yI := by kernel_rfl
theorem mg : cB yI.2 do_B24 = true := by kernel_rfl
set_option maxHeartbeats 16000000 in
set_option maxRecDepth 100000 in
theorem wO (KK M b : Nat) (s : St) (a : At4) (x : OpV) (Dx : Option Addr) (cx : Nat) (s1 : St) (ok1 : Bool) (s' : St) (ok' : Bool) (w0 w : World) (hs : Sits w0 b s a w) (hD : Kd.C (Kd.int .u8) w0 Dx x.data.length x.data) (hc : x.data.length ≤ cx) (hn : s1.snaps.length < 4398046511103) (h1 : jP KK M s x.at0 x.data = some (s1, ok1)) (h2 : if ok1 then gK KK s1 = some (s', ok') else (s', ok') = (s1, false)) :
    Calls Tryz.prog 69 #[.pointer (some ⟨b, 0, none⟩), .agg #[.int .i64 1, .int .i64 x.at0, .int .i64 x.n, .int .i64 x.id, .string x.name, .slice Dx x.data.length cx]] w fun e w' => ∃ a' : At4, e = .returned (.tuple #[.agg #[.int .i64 0, .slice none 0 0, .int .i64 0, .slice none 0 0, .int .i64 0], .bool ok']) ∧ Sits w0 b s' a' w' := by
  have hu31 := Tryz.underlying31
  have hu61 := Tryz.underlying61
  have hu58 := Tryz.underlying58
  obtain ⟨bx, hbx⟩ : ∃ k, k = w.heap.size := ⟨_, rfl⟩
  obtain ⟨W1, hW1⟩ : ∃ W, W = w.alloc (.cells #[.int .i64 1, .int .i64 x.at0, .int .i64 x.n, .int .i64 x.id, .string x.name, .slice Dx x.data.length cx] 61) := ⟨_, rfl⟩
  have hs1 : W1.heap.size = bx + 1 := by rw [hW1, hbx]; simp
  obtain ⟨W2, hW2⟩ : ∃ W, W = W1.alloc (.cells #[.int .i64 0, .slice none 0 0, .int .i64 0, .slice none 0 0, .int .i64 0] 58) := ⟨_, rfl⟩
  obtain ⟨br, hbr⟩ : ∃ k, k = W1.heap.size := ⟨_, rfl⟩
  have hb1 : Below w.heap.size w W1 := by rw [hW1]; exact (Below.refl _ _).alloc (Nat.le_refl _) _
  have hb2 : Below W1.heap.size W1 W2 := by rw [hW2]; exact (Below.refl _ _).alloc (Nat.le_refl _) _
  have hx1 : W1.heap[bx]? = some (.cells #[.int .i64 1, .int .i64 x.at0, .int .i64 x.n, .int .i64 x.id, .string x.name, .slice Dx x.data.length cx] 61 (0, 0)) := by rw [hW1, hbx]; exact bg w _
  have HX2 := aa.mk ((hb2.block _ (aA hx1)).trans hx1)
  have HR2 := aa.mk (show W2.heap[br]? = some (.cells #[.int .i64 0, .slice none 0 0, .int .i64 0, .slice none 0 0, .int .i64 0] 58 (0, 0)) by rw [hW2, hbr]; exact bg W1 _)
  have HS2 := aa.mk ((hs.below hb1).below hb2)
  have HBR := aa.mk (show br ≠ b ∧ w0.heap.size ≤ br by have := aA hs.hx; have := hs.hb.size; omega)
  have HBX := aa.mk (show bx ≠ b ∧ w0.heap.size ≤ bx ∧ bx ≠ br by have := aA hs.hx; have := hs.hb.size; omega)
  have HE := aa.mk (show bx = w.heap.size ∧ br = bx + 1 from ⟨hbx, by omega⟩)
  have HD := aa.mk (And.intro hD hc)
  have HWR := aa.mk h1
  have H2 := aa.mk h2
  have HSN := aa.mk hn
  clear hs hD hc h1 h2 hn hb1 hb2 hs1
  have p0 := (ae HX2.out 0).trans rfl
  have p1 := (ae HX2.out 1).trans rfl
  have p5 := (ae HX2.out 5).trans rfl
  clear hx1
  obtain ⟨e1, e2⟩ := HE.out
  rw [hW2, hW1, e1] at p0 p1 p5
  go_enter Tryz.func69, Tryz.ntmps69
  go_wp2_with fail
  rw [← hW1, ← hW2, ← e1, ← e2]
  clear hW1 hW2 e1 e2 hbx hbr p0 p1 p5 HE
  refine (jO.calls KK M b s a x.at0 Dx cx x.data s1 ok1 w0 W2 HS2.out HD.out.1 HD.out.2 HWR.out).mono ?_
  rintro e wT ⟨aT, rfl, hS, hKp, hA⟩
  have HST := aa.mk hS
  have HRT := aa.mk ((hKp.2 br (aA HR2.out) HBR.out.1 (fun g hg => by
    have hu := bS HS2.out.own.o6 HR2.out (by decide)
    have := hu.1 g (by show (Value.slice _ _ _).ownBlock = some g; rw [hg]; rfl)
    exact Ne.symm this.2)).trans HR2.out)
  clear hS hKp hA HS2 HR2 HX2 HBX HWR HD
  cases ok1 with
  | true =>
    have HSET := aa.mk (show gK KK s1 = some (s', ok') from H2.out)
    clear H2
    go_wp2_with fail
    refine dG (n := 8) (S := fun w' => w'.cell? ⟨br, 0, none⟩ = some (.int .i64 0) ∧ w'.cell? ⟨br, 1, none⟩ = some (.slice none 0 0) ∧ w'.cell? ⟨br, 2, none⟩ = some (.int .i64 0) ∧ w'.cell? ⟨br, 3, none⟩ = some (.slice none 0 0) ∧ w'.cell? ⟨br, 4, none⟩ = some (.int .i64 0)) (ds := [6]) (lb 8 0) (by kernel_rfl) rfl (by kernel_rfl) ⟨(ae HRT.out 0).trans rfl, (ae HRT.out 1).trans rfl, (ae HRT.out 2).trans rfl, (ae HRT.out 3).trans rfl, (ae HRT.out 4).trans rfl⟩ (fun hHeld => ?_)
    refine bG nS mg (fun HT_ HW_ => ?_)
    have HS5 := aa.mk (HST.out.below (aQ (Below.refl _ _)))
    have HR5 := aa.mk (show wT.drew.heap[br]? = some (.cells #[.int .i64 0, .slice none 0 0, .int .i64 0, .slice none 0 0, .int .i64 0] 58 (0, 0)) from HRT.out)
    clear HST HRT
    generalize wT.drew = w5 at hHeld HS5 HR5 ⊢
    refine tk_ 0 158 8 1 ?_
    refine pu_ 1 159 8 3 ?_
    refine pu_ 2 160 8 7 ?_
    refine pu_ 3 161 8 15 ?_
    refine on_ 4 162 8 31 (fun K hK => ?_)
    refine dO Tryz.func121 (by kernel_rfl) rfl #[.pointer (some ⟨b, 0, none⟩)] (by rfl) rfl rfl (by (try simp only [List.map_toArray, List.map_cons, List.map_nil]); first | done | rfl) ?_
    refine (j4.calls KK b _ _ s' ok' w0 w5 HS5.out HSN.out HSET.out).mono ?_
    rintro e w6 ⟨a6, rfl, hS, hKp, hA⟩
    refine ⟨_, rfl, ?_⟩
    have HS6 := aa.mk hS
    have HR6 := aa.mk ((hKp.2 br (aA HR5.out) HBR.out.1 (fun g hg => by
      have h6 := HS5.out.own.o6
      have hu := bS h6 HR5.out (by decide)
      have := hu.1 g (by show (Value.slice _ _ _).ownBlock = some g; rw [hg]; rfl)
      exact Ne.symm this.2)).trans HR5.out)
    refine hK.out _ _ ⟨(ae HR6.out 0).trans rfl, (ae HR6.out 1).trans rfl, (ae HR6.out 2).trans rfl, (ae HR6.out 3).trans rfl, (ae HR6.out 4).trans rfl⟩ (fun hHeld => ?_)
    clear hK K hS hKp hA HS5 HR5
    refine nm_ 162 ?_
    refine pu_ 5 163 8 63 ?_
    have HEX := aa.mk (show ∃ W, W = w6.setRow br #[.int .i64 0, .slice none 0 0, .int .i64 0, .slice none 0 0, .int .i64 0] from ⟨_, rfl⟩)
    refine jr (i := 6) (N := none) #[yT,yT,yT,yT,yT,yT,yT,yF] rfl rfl (fA HT_.out (by kernel_rfl)) (by decide) (fun K hK => ?_)
    refine iV (w1 := w6.setRow br #[.int .i64 0, .slice none 0 0, .int .i64 0, .slice none 0 0, .int .i64 0]) (by rfl) rfl (fB 58 (.tmp 4) (.tmp 158) rfl _ br 0 rfl #[.int .i64 0, .slice none 0 0, .int .i64 0, .slice none 0 0, .int .i64 0] rfl rfl 58 _ HR6.out (by kernel_rfl) (Nat.le_refl 5) (by simp [Value.oneCell'])) ?_
    refine hK.out _ _ ?_
    clear hK K hHeld
    obtain ⟨w7, hw7⟩ := HEX.out
    rw [← hw7]
    have hfar : ∀ k, k ≠ br → w7.heap[k]? = w6.heap[k]? := fun k hk => by rw [hw7]; exact setRow_other w6 br k _ hk
    have HR7 := aa.mk (show w7.heap[br]? = some (.cells #[.int .i64 0, .slice none 0 0, .int .i64 0, .slice none 0 0, .int .i64 0] 58 (0, 0)) by rw [hw7]; exact setRow_heap w6 br _ _ _ _ HR6.out)
    have HS7 := aa.mk (HS6.out.other (w1 := w7) HR6.out (by decide) (by decide) (by decide) (by decide) HBR.out.1 hfar (by rw [hw7]; exact aJ HS6.out.hb HBR.out.2 _))
    clear hfar hw7 HEX HS6 HR6
    refine pu_ 7 5 8 255 ?_
    refine eQ (bU HT_.out (by kernel_rfl)) ?_
    clear HT_ HW_
    go_wp2
    (try simp only [Exit.inBlock, Exit.then])
    refine bodyPost_ret (bJ rfl _ _ br 58 #[.int .i64 0, .slice none 0 0, .int .i64 0, .slice none 0 0, .int .i64 0] (0, 0) _ rfl HR7.out Tryz.underlying58 rfl (by kernel_rfl)) rfl ?_
    exact ⟨_, rfl, HS7.out⟩
  | false =>
    obtain ⟨rfl, rfl⟩ := Prod.mk.inj (show (s', ok') = (s1, false) from H2.out)
    clear H2
    go_wp2_with fail
    refine dG (n := 8) (S := fun w' => w'.cell? ⟨br, 0, none⟩ = some (.int .i64 0) ∧ w'.cell? ⟨br, 1, none⟩ = some (.slice none 0 0) ∧ w'.cell? ⟨br, 2, none⟩ = some (.int .i64 0) ∧ w'.cell? ⟨br, 3, none⟩ = some (.slice none 0 0) ∧ w'.cell? ⟨br, 4, none⟩ = some (.int .i64 0)) (ds := [6]) (lb 8 0) (by kernel_rfl) rfl (by kernel_rfl) ⟨(ae HRT.out 0).trans rfl, (ae HRT.out 1).trans rfl, (ae HRT.out 2).trans rfl, (ae HRT.out 3).trans rfl, (ae HRT.out 4).trans rfl⟩ (fun hHeld => ?_)
    refine bG nS mg (fun HT_ HW_ => ?_)
    have HS5 := aa.mk (HST.out.below (aQ (Below.refl _ _)))
    have HR5 := aa.mk (show wT.drew.heap[br]? = some (.cells #[.int .i64 0, .slice none 0 0, .int .i64 0, .slice none 0 0, .int .i64 0] 58 (0, 0)) from HRT.out)
    clear HST HRT
    generalize wT.drew = w5 at hHeld HS5 HR5 ⊢
    refine tk_ 0 158 8 1 ?_
    refine pu_ 1 159 8 3 ?_
    refine pu_ 2 160 8 7 ?_
    refine pn_ 3 161 8 15 ?_
    refine pn_ 4 162 8 31 ?_
    refine pu_ 5 163 8 63 ?_
    have HS6 := HS5
    have HR6 := HR5
    clear HS5 HR5
    obtain ⟨w6, hw6⟩ : ∃ W, W = w5 := ⟨_, rfl⟩
    rw [← hw6] at HS6 HR6 hHeld ⊢
    clear hw6
    have HEX := aa.mk (show ∃ W, W = w6.setRow br #[.int .i64 0, .slice none 0 0, .int .i64 0, .slice none 0 0, .int .i64 0] from ⟨_, rfl⟩)
    refine jr (i := 6) (N := none) #[yT,yT,yT,yT,yT,yT,yT,yF] rfl rfl (fA HT_.out (by kernel_rfl)) (by decide) (fun K hK => ?_)
    refine iV (w1 := w6.setRow br #[.int .i64 0, .slice none 0 0, .int .i64 0, .slice none 0 0, .int .i64 0]) (by rfl) rfl (fB 58 (.tmp 4) (.tmp 158) rfl _ br 0 rfl #[.int .i64 0, .slice none 0 0, .int .i64 0, .slice none 0 0, .int .i64 0] rfl rfl 58 _ HR6.out (by kernel_rfl) (Nat.le_refl 5) (by simp [Value.oneCell'])) ?_
    refine hK.out _ _ ?_
    clear hK K hHeld
    obtain ⟨w7, hw7⟩ := HEX.out
    rw [← hw7]
    have hfar : ∀ k, k ≠ br → w7.heap[k]? = w6.heap[k]? := fun k hk => by rw [hw7]; exact setRow_other w6 br k _ hk
    have HR7 := aa.mk (show w7.heap[br]? = some (.cells #[.int .i64 0, .slice none 0 0, .int .i64 0, .slice none 0 0, .int .i64 0] 58 (0, 0)) by rw [hw7]; exact setRow_heap w6 br _ _ _ _ HR6.out)
    have HS7 := aa.mk (HS6.out.other (w1 := w7) HR6.out (by decide) (by decide) (by decide) (by decide) HBR.out.1 hfar (by rw [hw7]; exact aJ HS6.out.hb HBR.out.2 _))
    clear hfar hw7 HEX HS6 HR6
    refine pu_ 7 5 8 255 ?_
    refine eQ (bU HT_.out (by kernel_rfl)) ?_
    clear HT_ HW_
    go_wp2
    (try simp only [Exit.inBlock, Exit.then])
    refine bodyPost_ret (bJ rfl _ _ br 58 #[.int .i64 0, .slice none 0 0, .int .i64 0, .slice none 0 0, .int .i64 0] (0, 0) _ rfl HR7.out Tryz.underlying58 rfl (by kernel_rfl)) rfl ?_
    exact ⟨_, rfl, HS7.out⟩
set_option maxHeartbeats 16000000 in
set_option maxRecDepth 100000 in
theorem Ai (KK b : Nat) (s : St) (a : At4) (x : OpV) (Dx : Option Addr) (cx : Nat) (s' : St) (ok' : Bool) (w0 w : World) (hs : Sits w0 b s a w) (hn : s.snaps.length ≤ 64) (hl : s.now.length ≤ 1024) (h2 : gK KK { s with snaps := s.snaps ++ [⟨s.next, x.name, s.size, s.now⟩], next := wrap64 (s.next + 1) } = some (s', ok')) :
    Calls Tryz.prog 69 #[.pointer (some ⟨b, 0, none⟩), .agg #[.int .i64 4, .int .i64 x.at0, .int .i64 x.n, .int .i64 x.id, .string x.name, .slice Dx x.data.length cx]] w fun e w' => ∃ a' : At4, e = .returned (.tuple #[.agg #[.int .i64 0, .slice none 0 0, .int .i64 s.next, .slice none 0 0, .int .i64 0], .bool ok']) ∧ Sits w0 b s' a' w' := by
  have hu31 := Tryz.underlying31
  have hu61 := Tryz.underlying61
  have hu58 := Tryz.underlying58
  obtain ⟨bx, hbx⟩ : ∃ k, k = w.heap.size := ⟨_, rfl⟩
  obtain ⟨W1, hW1⟩ : ∃ W, W = w.alloc (.cells #[.int .i64 4, .int .i64 x.at0, .int .i64 x.n, .int .i64 x.id, .string x.name, .slice Dx x.data.length cx] 61) := ⟨_, rfl⟩
  have hs1 : W1.heap.size = bx + 1 := by rw [hW1, hbx]; simp
  obtain ⟨W2, hW2⟩ : ∃ W, W = W1.alloc (.cells #[.int .i64 0, .slice none 0 0, .int .i64 0, .slice none 0 0, .int .i64 0] 58) := ⟨_, rfl⟩
  obtain ⟨br, hbr⟩ : ∃ k, k = W1.heap.size := ⟨_, rfl⟩
  have hb1 : Below w.heap.size w W1 := by rw [hW1]; exact (Below.refl _ _).alloc (Nat.le_refl _) _
  have hb2 : Below W1.heap.size W1 W2 := by rw [hW2]; exact (Below.refl _ _).alloc (Nat.le_refl _) _
  have hx1 : W1.heap[bx]? = some (.cells #[.int .i64 4, .int .i64 x.at0, .int .i64 x.n, .int .i64 x.id, .string x.name, .slice Dx x.data.length cx] 61 (0, 0)) := by rw [hW1, hbx]; exact bg w _
  have HX2 := aa.mk ((hb2.block _ (aA hx1)).trans hx1)
  have HR2 := aa.mk (show W2.heap[br]? = some (.cells #[.int .i64 0, .slice none 0 0, .int .i64 0, .slice none 0 0, .int .i64 0] 58 (0, 0)) by rw [hW2, hbr]; exact bg W1 _)
  have HS2 := aa.mk ((hs.below hb1).below hb2)
  have HBR := aa.mk (show br ≠ b ∧ w0.heap.size ≤ br by have := aA hs.hx; have := hs.hb.size; omega)
  have HBX := aa.mk (show bx ≠ b ∧ w0.heap.size ≤ bx ∧ bx ≠ br by have := aA hs.hx; have := hs.hb.size; omega)
  have HE := aa.mk (show bx = w.heap.size ∧ br = bx + 1 from ⟨hbx, by omega⟩)
  have HSET := aa.mk h2
  have HSM := aa.mk (And.intro hn hl)
  clear hs hn hl h2 hb1 hb2 hs1
  have p0 := (ae HX2.out 0).trans rfl
  clear hx1
  obtain ⟨e1, e2⟩ := HE.out
  have hx := HS2.out.hx
  unfold aI at hx
  have q3 := (ae hx 3).trans rfl
  rw [hW2, hW1, e1] at p0
  rw [hW2, hW1] at q3
  clear hx
  go_enter Tryz.func69, Tryz.ntmps69
  go_wp2_with (refine gI (.store 3 (.tmp 47) (.tmp 46)) rfl ?_; refine gG ?_)
  rw [← hW1, ← hW2, ← e1, ← e2]
  clear hW1 hW2 e1 e2 hbx hbr p0 HE q3
  refine ⟨?_⟩
  have y2 := (ae HR2.out 2).trans rfl
  have hfz := ai HR2.out 2
  have HR3 := aa.mk (aW HR2.out 2 (.int .i64 s.next) (cs' := #[.int .i64 0, .slice none 0 0, .int .i64 s.next, .slice none 0 0, .int .i64 0]) rfl)
  have HX3 := aa.mk (bX HX2.out (p := ⟨br, 2, none⟩) (by show bx ≠ br; exact HBX.out.2.2) (.int .i64 s.next))
  have HS3 := aa.mk (HS2.out.other (w1 := W2.setCell ⟨br, 2, none⟩ (.int .i64 s.next)) HR2.out (by decide) (by decide) (by decide) (by decide) HBR.out.1 (fun k hk => Below.heap_setCell W2 ⟨br, 2, none⟩ _ k hk) (HS2.out.hb.setCell (p := ⟨br, 2, none⟩) HBR.out.2 _))
  go_wp2_with fail
  clear y2 hfz HS2 HR2 HX2
  generalize W2.setCell ⟨br, 2, none⟩ (.int .i64 s.next) = w3 at HR3 HX3 HS3 ⊢
  have hx := HS3.out.hx
  unfold aI at hx
  refine dG (n := 26) (S := fun w' => w'.cell? ⟨b, 0, none⟩ = some (.int .i64 s.size) ∧ w'.cell? ⟨b, 1, none⟩ = some (.slice a.A1 s.now.length a.c1) ∧ w'.cell? ⟨b, 2, none⟩ = some (.slice a.A2 s.snaps.length a.c2) ∧ w'.cell? ⟨b, 3, none⟩ = some (.int .i64 s.next) ∧ w'.cell? ⟨bx, 4, none⟩ = some (.string x.name)) (ds := [25]) (lb 26 0) (by kernel_rfl) rfl (by kernel_rfl) ⟨(ae hx 0).trans rfl, (ae hx 1).trans rfl, (ae hx 2).trans rfl, (ae hx 3).trans rfl, (ae HX3.out 4).trans rfl⟩ (fun hHeld => ?_)
  refine bG xH vK (fun HT_ HW_ => ?_)
  have HS4 := aa.mk (HS3.out.below (aQ (Below.refl _ _)))
  have HR4 := aa.mk (show w3.drew.heap[br]? = _ from HR3.out)
  have HX4 := aa.mk (show w3.drew.heap[bx]? = _ from HX3.out)
  clear hx HS3 HR3 HX3
  generalize w3.drew = w4 at hHeld HS4 HR4 HX4 ⊢
  refine pu_ 0 48 26 1 ?_
  refine pu_ 1 49 26 3 ?_
  refine pu_ 2 50 26 7 ?_
  refine pu_ 3 51 26 15 ?_
  refine tk_ 4 52 26 31 ?_
  refine pu_ 5 53 26 63 ?_
  refine pu_ 6 54 26 127 ?_
  refine pu_ 7 55 26 255 ?_
  refine tk_ 8 56 26 511 ?_
  refine pu_ 9 57 26 1023 ?_
  refine tk_ 10 58 26 2047 ?_
  refine pu_ 11 59 26 4095 ?_
  refine pu_ 12 60 26 8191 ?_
  refine pu_ 13 61 26 16383 ?_
  refine tk_ 14 62 26 32767 ?_
  refine pu_ 15 63 26 65535 ?_
  refine pu_ 16 64 26 131071 ?_
  refine pu_ 17 65 26 262143 ?_
  refine tk_ 18 66 26 524287 ?_
  refine on_ 19 67 26 1048575 (fun K hK => ?_)
  refine dO Tryz.func113 (by kernel_rfl) rfl #[.slice a.A1 s.now.length a.c1] (by rfl) rfl rfl (by (try simp only [List.map_toArray, List.map_cons, List.map_nil]); first | done | rfl) ?_
  refine (iR.calls a.A1 a.c1 s.now s.now w4 HS4.out.reads.h1 HS4.out.reads.l1 (by unfold iR.f; rw [if_pos (by have := HSM.out.2; omega)])).mono ?_
  rintro e w5 ⟨v, rfl, hR, hb⟩
  obtain ⟨N, dn, rfl⟩ := Kd.aZ hR
  refine ⟨_, rfl, ?_⟩
  have HS5 := aa.mk (HS4.out.below hb)
  have HR5 := aa.mk ((hb.block _ (aA HR4.out)).trans HR4.out)
  have HX5 := aa.mk ((hb.block _ (aA HX4.out)).trans HX4.out)
  have HN5 := aa.mk (show Kd.R k151 151 w5 w0.heap.size (fun k => k ≠ b ∧ some k ≠ (Value.slice a.A2 s.snaps.length a.c2).ownBlock) (.slice N s.now.length dn) s.now from Kd.bH (Kd.aX (Kd.bO hR) (fun k hk => ⟨by have := hk.2.1; have := aA HS4.out.hx; omega, fun e => by have := Kd.R_lt HS4.out.own.o2 k e.symm; have := hk.2.1; omega⟩)) HS4.out.hb.size)
  have hx := HS5.out.hx
  unfold aI at hx
  refine hK.out _ _ ⟨(ae hx 0).trans rfl, (ae hx 1).trans rfl, (ae hx 2).trans rfl, (ae hx 3).trans rfl, (ae HX5.out 4).trans rfl⟩ (fun hHeld => ?_)
  clear hK K hb hR HS4 HR4 HX4 hx
  refine nm_ 67 ?_
  refine pu_ 20 68 26 2097151 ?_
  refine on_ 21 69 26 4194303 (fun K hK => ?_)
  refine mZ (N := some 69) (v := .slice (some ⟨w5.heap.size, 0, none⟩) 1 1) (w1 := w5.alloc (.cells #[.int .i64 s.next, .string x.name, .int .i64 s.size, .slice N s.now.length dn] 69)) (by rfl) rfl (by first | (go_simp; done) | (go_simp; rfl)) ?_
  have hb := (Below.refl w5.heap.size w5).alloc (Nat.le_refl _) (.cells #[.int .i64 s.next, .string x.name, .int .i64 s.size, .slice N s.now.length dn] 69)
  have HX6 := aa.mk ((hb.block _ (aA HX5.out)).trans HX5.out)
  have hx := (HS5.out.below hb).hx
  unfold aI at hx
  refine hK.out _ _ ⟨(ae hx 0).trans rfl, (ae hx 1).trans rfl, (ae hx 2).trans rfl, (ae hx 3).trans rfl, (ae HX6.out 4).trans rfl⟩ (fun hHeld => ?_)
  clear hK K hb hx HX6
  refine nm_ 69 ?_
  refine on_ 22 70 26 8388607 (fun K hK => ?_)
  refine Kd.fM k69 (w0 := w0) w0.heap.size (by rfl) (.tmp 52) (.tmp 69) 25 69 (.agg #[(.int .i64 0), (.string ⟨#[]⟩), (.int .i64 0), (.slice none 0 0)]) 56 rfl Tryz.underlying25 (by kernel_rfl) rfl (by decide) (by omega) (.slice a.A2 s.snaps.length a.c2) s.snaps ⟨s.next, x.name, s.size, s.now⟩ [.int .i64 s.next, .string x.name, .int .i64 s.size, .slice N s.now.length dn] (fun k => k ≠ b) (fun k => k ≠ b ∧ some k ≠ (Value.slice a.A2 s.snaps.length a.c2).ownBlock) rfl rfl (vX w5 w0.heap.size _ ⟨s.next, x.name, s.size, s.now⟩ HN5.out) (fun k hk => hk) (fun k hk => by have := aA HS5.out.hx; omega) HS5.out.own.o2 HS5.out.hb HS5.out.hb.size (by have := HSM.out.1; omega) ?_
  intro v w7 hR hB hg hat
  obtain ⟨A2', c2', rfl⟩ := Kd.aZ hR
  have h2 := HS5.out.own.o2
  have hbn : some b ≠ (Value.slice a.A2 s.snaps.length a.c2).ownBlock := fun e => h2.1 b e.symm rfl
  have hrn : some br ≠ (Value.slice a.A2 s.snaps.length a.c2).ownBlock := fun e => (bS h2 HR5.out (by decide)).1 br e.symm |>.2 rfl
  have hxn : some bx ≠ (Value.slice a.A2 s.snaps.length a.c2).ownBlock := fun e => (bS h2 HX5.out (by decide)).1 bx e.symm |>.2 rfl
  have HR7 := aa.mk ((hg.block br (aA HR5.out) hrn).trans HR5.out)
  have HX7 := aa.mk ((hg.block bx (aA HX5.out) hxn).trans HX5.out)
  have hx := (hg.block b (aA HS5.out.hx) hbn).trans HS5.out.hx
  unfold aI at hx
  have HB7 := aa.mk hx
  have HS8 := aa.mk (HS5.out.yn _ A2' c2' hR hB hg)
  have HL := aa.mk (show (s.snaps ++ [(⟨s.next, x.name, s.size, s.now⟩ : S69)]).length = s.snaps.length + 1 by simp)
  refine hK.out _ _ ⟨(ae hx 0).trans rfl, (ae hx 1).trans rfl, (ae hx 2).trans rfl, (ae hx 3).trans rfl, (ae HX7.out 4).trans rfl⟩ (fun hHeld => ?_)
  clear hK K h2 hbn hrn hxn hx hat hg hB hR HS5 HR5 HX5 HN5 HX7
  refine nm_ 70 ?_
  refine pu_ 23 71 26 16777215 ?_
  refine pu_ 24 72 26 33554431 ?_
  have hbx7 := HB7.out
  have hfz := ai hbx7 2
  have q2 := (ae hbx7 2).trans rfl
  have HR8 := aa.mk (bX HR7.out (p := ⟨b, 2, none⟩) (by show br ≠ b; exact HBR.out.1) (.slice A2' (s.snaps ++ [(⟨s.next, x.name, s.size, s.now⟩ : S69)]).length c2'))
  refine jr (i := 25) (N := none) #[yT,yT,yT,yT,yT,yT,yT,yT,yT,yT,yT,yT,yT,yT,yT,yT,yT,yT,yT,yT,yT,yT,yT,yT,yT,yT] rfl rfl (fA HT_.out (by kernel_rfl)) (by decide) (fun K hK => ?_)
  refine iV (w1 := w7.setCell ⟨b, 2, none⟩ (.slice A2' (s.snaps ++ [(⟨s.next, x.name, s.size, s.now⟩ : S69)]).length c2')) (by rfl) rfl ?_ ?_
  · go_simp
  refine hK.out _ _ ?_
  clear hK K hHeld hbx7 hfz q2 HR7 HB7
  refine eQ (bU HT_.out (by kernel_rfl)) ?_
  clear HT_ HW_
  generalize w7.setCell ⟨b, 2, none⟩ (.slice A2' (s.snaps ++ [(⟨s.next, x.name, s.size, s.now⟩ : S69)]).length c2') = w8 at HR8 HS8 ⊢
  have hx := HS8.out.hx
  unfold aI at hx
  have q3 := (ae hx 3).trans rfl
  have hfz := ai hx 3
  dsimp only at q3
  have HST := aa.mk (HS8.out.zK (wrap64 (s.next + 1)))
  have HRT := aa.mk (bX HR8.out (p := ⟨b, 3, none⟩) (by show br ≠ b; exact HBR.out.1) (.int .i64 (wrap64 (s.next + 1))))
  have HSN := aa.mk (show ({ s with snaps := s.snaps ++ [⟨s.next, x.name, s.size, s.now⟩], next := wrap64 (s.next + 1) } : St).snaps.length < 4398046511103 by show (s.snaps ++ [_]).length < _; rw [HL.out]; have := HSM.out.1; omega)
  clear hx HS8 HR8
  go_wp2_with fail
  clear q3 hfz
  generalize w8.setCell ⟨b, 3, none⟩ (.int .i64 (wrap64 (s.next + 1))) = wT at HST HRT ⊢
  refine dG (n := 8) (S := fun w' => w'.cell? ⟨br, 0, none⟩ = some (.int .i64 0) ∧ w'.cell? ⟨br, 1, none⟩ = some (.slice none 0 0) ∧ w'.cell? ⟨br, 2, none⟩ = some (.int .i64 s.next) ∧ w'.cell? ⟨br, 3, none⟩ = some (.slice none 0 0) ∧ w'.cell? ⟨br, 4, none⟩ = some (.int .i64 0)) (ds := [6]) (lb 8 0) (by kernel_rfl) rfl (by kernel_rfl) ⟨(ae HRT.out 0).trans rfl, (ae HRT.out 1).trans rfl, (ae HRT.out 2).trans rfl, (ae HRT.out 3).trans rfl, (ae HRT.out 4).trans rfl⟩ (fun hHeld => ?_)
  refine bG nS mg (fun HT_ HW_ => ?_)
  have HS5 := aa.mk (HST.out.below (aQ (Below.refl _ _)))
  have HR5 := aa.mk (show wT.drew.heap[br]? = some (.cells #[.int .i64 0, .slice none 0 0, .int .i64 s.next, .slice none 0 0, .int .i64 0] 58 (0, 0)) from HRT.out)
  clear HST HRT
  generalize wT.drew = w5 at hHeld HS5 HR5 ⊢
  refine tk_ 0 158 8 1 ?_
  refine pu_ 1 159 8 3 ?_
  refine pu_ 2 160 8 7 ?_
  refine pu_ 3 161 8 15 ?_
  refine on_ 4 162 8 31 (fun K hK => ?_)
  refine dO Tryz.func121 (by kernel_rfl) rfl #[.pointer (some ⟨b, 0, none⟩)] (by rfl) rfl rfl (by (try simp only [List.map_toArray, List.map_cons, List.map_nil]); first | done | rfl) ?_
  refine (j4.calls KK b _ _ s' ok' w0 w5 HS5.out HSN.out HSET.out).mono ?_
  rintro e w6 ⟨a6, rfl, hS, hKp, hA⟩
  refine ⟨_, rfl, ?_⟩
  have HS6 := aa.mk hS
  have HR6 := aa.mk ((hKp.2 br (aA HR5.out) HBR.out.1 (fun g hg => by
    have h6 := HS5.out.own.o6
    have hu := bS h6 HR5.out (by decide)
    have := hu.1 g (by show (Value.slice _ _ _).ownBlock = some g; rw [hg]; rfl)
    exact Ne.symm this.2)).trans HR5.out)
  refine hK.out _ _ ⟨(ae HR6.out 0).trans rfl, (ae HR6.out 1).trans rfl, (ae HR6.out 2).trans rfl, (ae HR6.out 3).trans rfl, (ae HR6.out 4).trans rfl⟩ (fun hHeld => ?_)
  clear hK K hS hKp hA HS5 HR5
  refine nm_ 162 ?_
  refine pu_ 5 163 8 63 ?_
  have HEX := aa.mk (show ∃ W, W = w6.setRow br #[.int .i64 0, .slice none 0 0, .int .i64 s.next, .slice none 0 0, .int .i64 0] from ⟨_, rfl⟩)
  refine jr (i := 6) (N := none) #[yT,yT,yT,yT,yT,yT,yT,yF] rfl rfl (fA HT_.out (by kernel_rfl)) (by decide) (fun K hK => ?_)
  refine iV (w1 := w6.setRow br #[.int .i64 0, .slice none 0 0, .int .i64 s.next, .slice none 0 0, .int .i64 0]) (by rfl) rfl (fB 58 (.tmp 4) (.tmp 158) rfl _ br 0 rfl #[.int .i64 0, .slice none 0 0, .int .i64 s.next, .slice none 0 0, .int .i64 0] rfl rfl 58 _ HR6.out (by kernel_rfl) (Nat.le_refl 5) (by simp [Value.oneCell'])) ?_
  refine hK.out _ _ ?_
  clear hK K hHeld
  obtain ⟨w7, hw7⟩ := HEX.out
  rw [← hw7]
  have hfar : ∀ k, k ≠ br → w7.heap[k]? = w6.heap[k]? := fun k hk => by rw [hw7]; exact setRow_other w6 br k _ hk
  have HR7 := aa.mk (show w7.heap[br]? = some (.cells #[.int .i64 0, .slice none 0 0, .int .i64 s.next, .slice none 0 0, .int .i64 0] 58 (0, 0)) by rw [hw7]; exact setRow_heap w6 br _ _ _ _ HR6.out)
  have HS7 := aa.mk (HS6.out.other (w1 := w7) HR6.out (by decide) (by decide) (by decide) (by decide) HBR.out.1 hfar (by rw [hw7]; exact aJ HS6.out.hb HBR.out.2 _))
  clear hfar hw7 HEX HS6 HR6
  refine pu_ 7 5 8 255 ?_
  refine eQ (bU HT_.out (by kernel_rfl)) ?_
  clear HT_ HW_
  go_wp2
  (try simp only [Exit.inBlock, Exit.then])
  refine bodyPost_ret (bJ rfl _ _ br 58 #[.int .i64 0, .slice none 0 0, .int .i64 s.next, .slice none 0 0, .int .i64 0] (0, 0) _ rfl HR7.out Tryz.underlying58 rfl (by kernel_rfl)) rfl ?_
  exact ⟨_, rfl, HS7.out⟩
def qY : Bool × List (List Nat × List Nat) := (true, [([], []), ([0], [0]), ([1], [1]), ([], []), ([3], [3]), ([4, 2], [4]), ([], []), ([6], [6]), ([7], [7]), ([8, 5], [8]), ([], []), ([10], [10]), ([11, 9], [11]), ([0, 1, 2, 3, 4, 6, 7, 8, 10, 11], []), ([13, 2, 12, 0, 1, 2, 3, 4, 6, 7, 8, 10, 11], [2, 13]), ([0, 1, 2, 3, 4, 5, 6, 7, 8, 10, 11, 13, 14], []), ([15, 5, 14, 0, 1, 2, 3, 4, 5, 6, 7, 8, 10, 11, 13, 14], [5, 15]), ([0, 1, 2, 3, 4, 5, 6, 7, 8, 9, 10, 11, 13, 14, 15, 16], []), ([17, 0, 1, 2, 3, 4, 5, 6, 7, 8, 9, 10, 11, 13, 14, 15, 16], [17]), ([18, 9, 16, 0, 1, 2, 3, 4, 5, 6, 7, 8, 9, 10, 11, 13, 14, 15, 16], [9, 18]), ([0, 1, 2, 3, 4, 5, 6, 7, 8, 9, 10, 11, 12, 13, 14, 15, 16, 17, 18, 19], []), ([20, 12, 19, 0, 1, 2, 3, 4, 5, 6, 7, 8, 9, 10, 11, 12, 13, 14, 15, 16, 17, 18, 19], [12, 20])])
def x_ : List Nat := [0, 1, 3, 0, 8, 31, 0, 64, 192, 511, 0, 1024, 4095, 3551, 16383, 32767, 65535, 131071, 262143, 524287, 1048575, 2097151]
theorem sI : rtab .any (opsOf Tryz.f68 1) = qY := by kernel_rfl
theorem qF : cB qY.2 x_ = true := by kernel_rfl
def ru : Bool × List (List Nat × List Nat) := (true, [([], []), ([0], [0]), ([], []), ([], []), ([3], [3]), ([4], [4]), ([1, 2, 0, 1, 2, 3, 4, 5], [1, 2]), ([6, 0, 1, 2, 3, 4, 5], [6]), ([7, 5, 5, 0, 1, 2, 3, 4, 5], [5, 7])])
def wE : List Nat := [0, 1, 0, 0, 8, 24, 63, 127, 255]
theorem tH : rtab .any (opsOf Tryz.f68 5) = ru := by kernel_rfl
theorem qy : cB ru.2 wE = true := by kernel_rfl
def oq : Bool × List (List Nat × List Nat) := (true, [([], []), ([0], [0]), ([], []), ([], []), ([3], [3]), ([1, 2, 0, 1, 2, 3, 4], [1, 2]), ([5, 4, 4, 0, 1, 2, 3, 4], [4, 5])])
def tN : List Nat := [0, 1, 0, 0, 8, 31, 63]
theorem qi : rtab .any (opsOf Tryz.f68 10) = oq := by kernel_rfl
theorem oD : cB oq.2 tN = true := by kernel_rfl
set_option maxHeartbeats 16000000 in
set_option maxRecDepth 100000 in
theorem oI.calls (s : St) (a : At4) (w : World) (hr : Reads w s a) (hs : Small s) :
    Calls Tryz.prog 68 #[.agg (aI s a)] w fun e w' => ∃ a' : At4, e = .returned (.agg (aI s a')) ∧ Owns w' w.heap.size (fun _ => True) s a' ∧ Below w.heap.size w w' := by
  have hu31 := Tryz.underlying31
  have hu28 := Tryz.underlying28
  have hu69 := Tryz.underlying69
  obtain ⟨b1, hb1⟩ : ∃ b, b = w.heap.size := ⟨_, rfl⟩
  obtain ⟨W1, hW1⟩ : ∃ W, W = w.alloc (.cells #[.int .i64 s.size, .slice a.A1 s.now.length a.c1, .slice a.A2 s.snaps.length a.c2, .int .i64 s.next, .int .i64 s.fsize, .slice a.A5 s.sp.length a.c5, .slice a.A6 s.data.length a.c6] 31) := ⟨_, rfl⟩
  have hs1 : W1.heap.size = b1 + 1 := by rw [hW1, hb1]; simp
  obtain ⟨W2, hW2⟩ : ∃ W, W = W1.alloc (.cells #[.int .i64 0, .slice none 0 0, .slice none 0 0, .int .i64 0, .int .i64 0, .slice none 0 0, .slice none 0 0] 31) := ⟨_, rfl⟩
  have hs2 : W2.heap.size = b1 + 2 := by rw [hW2]; simp [hs1]
  have hx1 : W1.heap[b1]? = some (.cells #[.int .i64 s.size, .slice a.A1 s.now.length a.c1, .slice a.A2 s.snaps.length a.c2, .int .i64 s.next, .int .i64 s.fsize, .slice a.A5 s.sp.length a.c5, .slice a.A6 s.data.length a.c6] 31 (0, 0)) := by rw [hW1, hb1]; exact bg w _
  have HX1 := aa.mk (show W2.heap[b1]? = some (.cells #[.int .i64 s.size, .slice a.A1 s.now.length a.c1, .slice a.A2 s.snaps.length a.c2, .int .i64 s.next, .int .i64 s.fsize, .slice a.A5 s.sp.length a.c5, .slice a.A6 s.data.length a.c6] 31 (0, 0)) by rw [hW2]; exact aj hx1 _)
  have HX2 := aa.mk (show W2.heap[b1 + 1]? = some (.cells #[.int .i64 0, .slice none 0 0, .slice none 0 0, .int .i64 0, .int .i64 0, .slice none 0 0, .slice none 0 0] 31 (0, 0)) by rw [hW2, ← hs1]; exact bg W1 _)
  have hbl : Below w.heap.size w W1 := by rw [hW1]; exact (Below.refl _ _).alloc (Nat.le_refl _) _
  have HB2 := aa.mk (show Below w.heap.size w W2 by rw [hW2]; exact hbl.alloc hbl.size _)
  have HR2 := aa.mk (hr.below (w1 := W2) HB2.out)
  have HSM := aa.mk hs
  have HS2 := aa.mk hs2
  have HBB := aa.mk hb1
  have HS1 := aa.mk hs1
  have HR0 := aa.mk hr
  clear hr hs hx1 hbl hs2
  unfold aI
  go_enter Tryz.func68, Tryz.ntmps68
  go_wp2_with fail
  rw [← hW1, ← hW2, ← hb1]
  clear hW1 hW2 hb1 hs1
  refine dG (n := 22) (S := fun w' => w'.cell? ⟨b1, 0, none⟩ = some (.int .i64 s.size) ∧ w'.cell? ⟨b1, 1, none⟩ = some (.slice a.A1 s.now.length a.c1) ∧ w'.cell? ⟨b1, 2, none⟩ = some (.slice a.A2 s.snaps.length a.c2) ∧ w'.cell? ⟨b1, 3, none⟩ = some (.int .i64 s.next) ∧ w'.cell? ⟨b1, 4, none⟩ = some (.int .i64 s.fsize) ∧ w'.cell? ⟨b1, 5, none⟩ = some (.slice a.A5 s.sp.length a.c5) ∧ w'.cell? ⟨b1, 6, none⟩ = some (.slice a.A6 s.data.length a.c6)) (ds := [14, 16, 19, 21]) (lb 22 0) (by kernel_rfl) rfl (by kernel_rfl) ⟨(ae HX1.out 0).trans rfl, (ae HX1.out 1).trans rfl, (ae HX1.out 2).trans rfl, (ae HX1.out 3).trans rfl, (ae HX1.out 4).trans rfl, (ae HX1.out 5).trans rfl, (ae HX1.out 6).trans rfl⟩ (fun hHeld => ?_)
  refine bG sI qF (fun HT_ HW_ => ?_)
  have HR := aa.mk (HR2.out.below (w1 := W2.drew) (aQ (Below.refl _ _)))
  have HB := aa.mk (aQ HB2.out)
  have HX := aa.mk (show W2.drew.heap[b1]? = some (.cells #[.int .i64 s.size, .slice a.A1 s.now.length a.c1, .slice a.A2 s.snaps.length a.c2, .int .i64 s.next, .int .i64 s.fsize, .slice a.A5 s.sp.length a.c5, .slice a.A6 s.data.length a.c6] 31 (0, 0)) from HX1.out)
  have HY := aa.mk (show W2.drew.heap[b1 + 1]? = some (.cells #[.int .i64 0, .slice none 0 0, .slice none 0 0, .int .i64 0, .int .i64 0, .slice none 0 0, .slice none 0 0] 31 (0, 0)) from HX2.out)
  have HZ := aa.mk (show b1 + 2 ≤ W2.drew.heap.size from Nat.le_of_eq HS2.out.symm)
  clear HR2 HB2 HX1 HX2 HS2 HS1
  generalize W2.drew = w2 at hHeld HR HB HX HY HZ ⊢
  refine pu_ 0 7 22 1 ?_
  refine pu_ 3 10 22 9 ?_
  refine pu_ 6 13 22 73 ?_
  refine pu_ 7 14 22 201 ?_
  refine pu_ 10 17 22 1225 ?_
  refine tk_ 1 8 22 1227 ?_
  refine tk_ 4 11 22 1243 ?_
  refine tk_ 8 15 22 1499 ?_
  refine tk_ 11 18 22 3547 ?_
  refine on_ 2 9 22 3551 (fun K hK => ?_)
  refine dO Tryz.func113 (by kernel_rfl) rfl #[.slice a.A1 s.now.length a.c1] (by rfl) rfl rfl (by (try simp only [List.map_toArray, List.map_cons, List.map_nil]); first | done | rfl) ?_
  refine (iR.calls a.A1 a.c1 s.now s.now w2 HR.out.h1 HR.out.l1 (by unfold iR.f; rw [if_pos (by have := HSM.out.n1; omega)])).mono ?_
  rintro e w3 ⟨v1, rfl, hR1, hb⟩
  obtain ⟨B1, d1, rfl⟩ := Kd.aZ hR1
  refine ⟨_, rfl, ?_⟩
  have HV1 := aa.mk (nU (B := b1) (L := b1 + 2) hR1 (Nat.le_trans (Nat.le_add_right _ 2) HZ.out) HZ.out)
  clear hR1
  have HR' := aa.mk (HR.out.below hb)
  have HB' := aa.mk (HB.out.trans (hb.mono HB.out.size))
  have HX' := aa.mk ((hb.block _ (aA HX.out)).trans HX.out)
  have HY' := aa.mk ((hb.block _ (aA HY.out)).trans HY.out)
  have HZ' := aa.mk (Nat.le_trans HZ.out hb.size)
  refine hK.out _ _ (jB hHeld hb) (fun hHeld => ?_)
  clear hK K hb HR HB HX HY HZ
  have HR := HR'
  clear HR'
  have HB := HB'
  clear HB'
  have HX := HX'
  clear HX'
  have HY := HY'
  clear HY'
  have HZ := HZ'
  clear HZ'
  refine nm_ 9 ?_
  refine pu_ 13 20 22 11743 ?_
  refine on_ 5 12 22 11775 (fun K hK => ?_)
  refine dO Tryz.func114 (by kernel_rfl) rfl #[.slice a.A2 s.snaps.length a.c2] (by rfl) rfl rfl (by (try simp only [List.map_toArray, List.map_cons, List.map_nil]); first | done | rfl) ?_
  obtain ⟨ps, hps1, hps2, hps3⟩ := pairsS HR0.out.h2
  have hpl : (ps.map (·.1)).length = s.snaps.length := by rw [List.length_map, ← hps1, List.length_map]
  have hcs : Kd.C kRS w3 a.A2 (ps.map (·.1)).length (ps.map (·.1)) := by rw [hpl]; exact Kd.aN hps2 HB.out
  have hcl := jZ.calls a.A2 a.c2 (ps.map (·.1)) (ps.map (·.1)) w3 hcs (by rw [hpl]; exact HR.out.l2) (by unfold jZ.f; rw [if_pos (by rw [hpl]; have := HSM.out.n2; omega)])
  rw [hpl] at hcl
  have HPS := aa.mk (And.intro hps1 hps3)
  have HPL := aa.mk hpl
  refine hcl.mono ?_
  clear hps1 hps2 hps3 hpl hcs hcl
  rintro e w4 ⟨v2, rfl, hR2, hb⟩
  obtain ⟨B2, d2, rfl⟩ := Kd.aZ hR2
  rw [HPL.out] at hR2 ⊢
  refine ⟨_, rfl, ?_⟩
  have HV2 := aa.mk (nU (B := b1) (L := b1 + 2) hR2 (Nat.le_trans (Nat.le_add_right _ 2) HZ.out) HZ.out)
  clear hR2
  have HR' := aa.mk (HR.out.below hb)
  have HB' := aa.mk (HB.out.trans (hb.mono HB.out.size))
  have HX' := aa.mk ((hb.block _ (aA HX.out)).trans HX.out)
  have HY' := aa.mk ((hb.block _ (aA HY.out)).trans HY.out)
  have HZ' := aa.mk (Nat.le_trans HZ.out hb.size)
  have HV1' := aa.mk (Kd.bA HV1.out hb)
  refine hK.out _ _ (jB hHeld hb) (fun hHeld => ?_)
  clear hK K hb HR HB HX HY HZ HV1
  have HR := HR'
  clear HR'
  have HB := HB'
  clear HB'
  have HX := HX'
  clear HX'
  have HY := HY'
  clear HY'
  have HZ := HZ'
  clear HZ'
  have HV1 := HV1'
  clear HV1'
  refine nm_ 12 ?_
  refine on_ 9 16 22 12287 (fun K hK => ?_)
  refine dO Tryz.func115 (by kernel_rfl) rfl #[.slice a.A5 s.sp.length a.c5] (by rfl) rfl rfl (by (try simp only [List.map_toArray, List.map_cons, List.map_nil]); first | done | rfl) ?_
  refine (bZ.calls a.A5 a.c5 s.sp s.sp w4 HR.out.h5 HR.out.l5 (by unfold bZ.f; rw [if_pos (by have := HSM.out.n5; omega)])).mono ?_
  rintro e w5 ⟨v5, rfl, hR5, hb⟩
  obtain ⟨B5, d5, rfl⟩ := Kd.aZ hR5
  refine ⟨_, rfl, ?_⟩
  have HV5 := aa.mk (nU (B := b1) (L := b1 + 2) hR5 (Nat.le_trans (Nat.le_add_right _ 2) HZ.out) HZ.out)
  clear hR5
  have HR' := aa.mk (HR.out.below hb)
  have HB' := aa.mk (HB.out.trans (hb.mono HB.out.size))
  have HX' := aa.mk ((hb.block _ (aA HX.out)).trans HX.out)
  have HY' := aa.mk ((hb.block _ (aA HY.out)).trans HY.out)
  have HZ' := aa.mk (Nat.le_trans HZ.out hb.size)
  have HV1' := aa.mk (Kd.bA HV1.out hb)
  have HV2' := aa.mk (Kd.bA HV2.out hb)
  refine hK.out _ _ (jB hHeld hb) (fun hHeld => ?_)
  clear hK K hb HR HB HX HY HZ HV1 HV2
  have HR := HR'
  clear HR'
  have HB := HB'
  clear HB'
  have HX := HX'
  clear HX'
  have HY := HY'
  clear HY'
  have HZ := HZ'
  clear HZ'
  have HV1 := HV1'
  clear HV1'
  have HV2 := HV2'
  clear HV2'
  refine nm_ 16 ?_
  refine on_ 12 19 22 16383 (fun K hK => ?_)
  refine dO Tryz.func116 (by kernel_rfl) rfl #[.slice a.A6 s.data.length a.c6] (by rfl) rfl rfl (by (try simp only [List.map_toArray, List.map_cons, List.map_nil]); first | done | rfl) ?_
  obtain ⟨qs, hps1, hps2, hps3⟩ := pairsB HR0.out.h6
  have hpl : (qs.map (·.1)).length = s.data.length := by rw [List.length_map, ← hps1, List.length_map]
  have hcs : Kd.C kRB w5 a.A6 (qs.map (·.1)).length (qs.map (·.1)) := by rw [hpl]; exact Kd.aN hps2 HB.out
  have hcl := jU.calls a.A6 a.c6 (qs.map (·.1)) (qs.map (·.1)) w5 hcs (by rw [hpl]; exact HR.out.l6) (by unfold jU.f; rw [if_pos (by rw [hpl]; have := HSM.out.n6; omega)])
  rw [hpl] at hcl
  have HQS := aa.mk (And.intro hps1 hps3)
  have HQL := aa.mk hpl
  refine hcl.mono ?_
  clear hps1 hps2 hps3 hpl hcs hcl
  rintro e w6 ⟨v6, rfl, hR6, hb⟩
  obtain ⟨B6, d6, rfl⟩ := Kd.aZ hR6
  rw [HQL.out] at hR6 ⊢
  refine ⟨_, rfl, ?_⟩
  have HV6 := aa.mk (nU (B := b1) (L := b1 + 2) hR6 (Nat.le_trans (Nat.le_add_right _ 2) HZ.out) HZ.out)
  clear hR6
  have HR' := aa.mk (HR.out.below hb)
  have HB' := aa.mk (HB.out.trans (hb.mono HB.out.size))
  have HX' := aa.mk ((hb.block _ (aA HX.out)).trans HX.out)
  have HY' := aa.mk ((hb.block _ (aA HY.out)).trans HY.out)
  have HZ' := aa.mk (Nat.le_trans HZ.out hb.size)
  have HV1' := aa.mk (Kd.bA HV1.out hb)
  have HV2' := aa.mk (Kd.bA HV2.out hb)
  have HV5' := aa.mk (Kd.bA HV5.out hb)
  refine hK.out _ _ (jB hHeld hb) (fun hHeld => ?_)
  clear hK K hb HR HB HX HY HZ HV1 HV2 HV5
  have HR := HR'
  clear HR'
  have HB := HB'
  clear HB'
  have HX := HX'
  clear HX'
  have HY := HY'
  clear HY'
  have HZ := HZ'
  clear HZ'
  have HV1 := HV1'
  clear HV1'
  have HV2 := HV2'
  clear HV2'
  have HV5 := HV5'
  clear HV5'
  refine nm_ 19 ?_
  clear HR
  have hfz := ai HX.out 1
  have hcl := (ae HX.out 1).trans rfl
  refine jr (i := 14) (N := none) #[yT,yT,yT,yT,yT,yT,yT,yT,yT,yT,yT,yT,yT,yT,yT,yF,yF,yF,yF,yF,yF,yF] rfl rfl (fA HT_.out (by kernel_rfl)) (by decide) (fun K hK => ?_)
  refine iV (w1 := w6.setCell ⟨b1, 1, none⟩ (.slice B1 s.now.length d1)) (by rfl) rfl ?_ ?_
  · go_simp
  refine hK.out _ _ ?_
  clear hK K hfz hcl
  have HX' := aa.mk (aW HX.out 1 (.slice B1 s.now.length d1) (cs' := #[.int .i64 s.size, .slice B1 s.now.length d1, .slice a.A2 s.snaps.length a.c2, .int .i64 s.next, .int .i64 s.fsize, .slice a.A5 s.sp.length a.c5, .slice a.A6 s.data.length a.c6]) rfl)
  have HY' := aa.mk (bX HY.out (p := ⟨b1, 1, none⟩) (by show b1 + 1 ≠ b1; omega) (.slice B1 s.now.length d1))
  have HB' := aa.mk (show Below w.heap.size w (w6.setCell ⟨b1, 1, none⟩ (.slice B1 s.now.length d1)) from HB.out.setCell (p := ⟨b1, 1, none⟩) (by rw [HBB.out]; exact Nat.le_refl _) (.slice B1 s.now.length d1))
  have HV1' := aa.mk (Kd.dE (p := ⟨b1, 1, none⟩) HV1.out (fun k hk => by have hk : b1 + 2 ≤ k := hk; show k ≠ b1; omega) (.slice B1 s.now.length d1))
  have HV2' := aa.mk (Kd.dE (p := ⟨b1, 1, none⟩) HV2.out (fun k hk => by have hk : b1 + 2 ≤ k := hk; show k ≠ b1; omega) (.slice B1 s.now.length d1))
  have HV5' := aa.mk (Kd.dE (p := ⟨b1, 1, none⟩) HV5.out (fun k hk => by have hk : b1 + 2 ≤ k := hk; show k ≠ b1; omega) (.slice B1 s.now.length d1))
  have HV6' := aa.mk (Kd.dE (p := ⟨b1, 1, none⟩) HV6.out (fun k hk => by have hk : b1 + 2 ≤ k := hk; show k ≠ b1; omega) (.slice B1 s.now.length d1))
  clear HX HY HB HZ HV1 HV2 HV5 HV6
  have HX := HX'
  clear HX'
  have HY := HY'
  clear HY'
  have HB := HB'
  clear HB'
  have HV1 := HV1'
  clear HV1'
  have HV2 := HV2'
  clear HV2'
  have HV5 := HV5'
  clear HV5'
  have HV6 := HV6'
  clear HV6'
  generalize w6.setCell ⟨b1, 1, none⟩ (.slice B1 s.now.length d1) = wn0 at HX HY HB HV1 HV2 HV5 HV6 ⊢
  refine pu_ 15 21 22 65535 ?_
  have hfz := ai HX.out 2
  have hcl := (ae HX.out 2).trans rfl
  refine jr (i := 16) (N := none) #[yT,yT,yT,yT,yT,yT,yT,yT,yT,yT,yT,yT,yT,yT,yT,yT,yT,yF,yF,yF,yF,yF] rfl rfl (fA HT_.out (by kernel_rfl)) (by decide) (fun K hK => ?_)
  refine iV (w1 := wn0.setCell ⟨b1, 2, none⟩ (.slice B2 s.snaps.length d2)) (by rfl) rfl ?_ ?_
  · go_simp
  refine hK.out _ _ ?_
  clear hK K hfz hcl
  have HX' := aa.mk (aW HX.out 2 (.slice B2 s.snaps.length d2) (cs' := #[.int .i64 s.size, .slice B1 s.now.length d1, .slice B2 s.snaps.length d2, .int .i64 s.next, .int .i64 s.fsize, .slice a.A5 s.sp.length a.c5, .slice a.A6 s.data.length a.c6]) rfl)
  have HY' := aa.mk (bX HY.out (p := ⟨b1, 2, none⟩) (by show b1 + 1 ≠ b1; omega) (.slice B2 s.snaps.length d2))
  have HB' := aa.mk (show Below w.heap.size w (wn0.setCell ⟨b1, 2, none⟩ (.slice B2 s.snaps.length d2)) from HB.out.setCell (p := ⟨b1, 2, none⟩) (by rw [HBB.out]; exact Nat.le_refl _) (.slice B2 s.snaps.length d2))
  have HV1' := aa.mk (Kd.dE (p := ⟨b1, 2, none⟩) HV1.out (fun k hk => by have hk : b1 + 2 ≤ k := hk; show k ≠ b1; omega) (.slice B2 s.snaps.length d2))
  have HV2' := aa.mk (Kd.dE (p := ⟨b1, 2, none⟩) HV2.out (fun k hk => by have hk : b1 + 2 ≤ k := hk; show k ≠ b1; omega) (.slice B2 s.snaps.length d2))
  have HV5' := aa.mk (Kd.dE (p := ⟨b1, 2, none⟩) HV5.out (fun k hk => by have hk : b1 + 2 ≤ k := hk; show k ≠ b1; omega) (.slice B2 s.snaps.length d2))
  have HV6' := aa.mk (Kd.dE (p := ⟨b1, 2, none⟩) HV6.out (fun k hk => by have hk : b1 + 2 ≤ k := hk; show k ≠ b1; omega) (.slice B2 s.snaps.length d2))
  clear HX HY HB HV1 HV2 HV5 HV6
  have HX := HX'
  clear HX'
  have HY := HY'
  clear HY'
  have HB := HB'
  clear HB'
  have HV1 := HV1'
  clear HV1'
  have HV2 := HV2'
  clear HV2'
  have HV5 := HV5'
  clear HV5'
  have HV6 := HV6'
  clear HV6'
  generalize wn0.setCell ⟨b1, 2, none⟩ (.slice B2 s.snaps.length d2) = wn1 at HX HY HB HV1 HV2 HV5 HV6 ⊢
  refine pu_ 17 22 22 262143 ?_
  refine pu_ 18 23 22 524287 ?_
  have hfz := ai HX.out 5
  have hcl := (ae HX.out 5).trans rfl
  refine jr (i := 19) (N := none) #[yT,yT,yT,yT,yT,yT,yT,yT,yT,yT,yT,yT,yT,yT,yT,yT,yT,yT,yT,yT,yF,yF] rfl rfl (fA HT_.out (by kernel_rfl)) (by decide) (fun K hK => ?_)
  refine iV (w1 := wn1.setCell ⟨b1, 5, none⟩ (.slice B5 s.sp.length d5)) (by rfl) rfl ?_ ?_
  · go_simp
  refine hK.out _ _ ?_
  clear hK K hfz hcl
  have HX' := aa.mk (aW HX.out 5 (.slice B5 s.sp.length d5) (cs' := #[.int .i64 s.size, .slice B1 s.now.length d1, .slice B2 s.snaps.length d2, .int .i64 s.next, .int .i64 s.fsize, .slice B5 s.sp.length d5, .slice a.A6 s.data.length a.c6]) rfl)
  have HY' := aa.mk (bX HY.out (p := ⟨b1, 5, none⟩) (by show b1 + 1 ≠ b1; omega) (.slice B5 s.sp.length d5))
  have HB' := aa.mk (show Below w.heap.size w (wn1.setCell ⟨b1, 5, none⟩ (.slice B5 s.sp.length d5)) from HB.out.setCell (p := ⟨b1, 5, none⟩) (by rw [HBB.out]; exact Nat.le_refl _) (.slice B5 s.sp.length d5))
  have HV1' := aa.mk (Kd.dE (p := ⟨b1, 5, none⟩) HV1.out (fun k hk => by have hk : b1 + 2 ≤ k := hk; show k ≠ b1; omega) (.slice B5 s.sp.length d5))
  have HV2' := aa.mk (Kd.dE (p := ⟨b1, 5, none⟩) HV2.out (fun k hk => by have hk : b1 + 2 ≤ k := hk; show k ≠ b1; omega) (.slice B5 s.sp.length d5))
  have HV5' := aa.mk (Kd.dE (p := ⟨b1, 5, none⟩) HV5.out (fun k hk => by have hk : b1 + 2 ≤ k := hk; show k ≠ b1; omega) (.slice B5 s.sp.length d5))
  have HV6' := aa.mk (Kd.dE (p := ⟨b1, 5, none⟩) HV6.out (fun k hk => by have hk : b1 + 2 ≤ k := hk; show k ≠ b1; omega) (.slice B5 s.sp.length d5))
  clear HX HY HB HV1 HV2 HV5 HV6
  have HX := HX'
  clear HX'
  have HY := HY'
  clear HY'
  have HB := HB'
  clear HB'
  have HV1 := HV1'
  clear HV1'
  have HV2 := HV2'
  clear HV2'
  have HV5 := HV5'
  clear HV5'
  have HV6 := HV6'
  clear HV6'
  generalize wn1.setCell ⟨b1, 5, none⟩ (.slice B5 s.sp.length d5) = wn2 at HX HY HB HV1 HV2 HV5 HV6 ⊢
  refine pu_ 20 24 22 2097151 ?_
  have hfz := ai HX.out 6
  have hcl := (ae HX.out 6).trans rfl
  refine jr (i := 21) (N := none) #[yT,yT,yT,yT,yT,yT,yT,yT,yT,yT,yT,yT,yT,yT,yT,yT,yT,yT,yT,yT,yT,yT] rfl rfl (fA HT_.out (by kernel_rfl)) (by decide) (fun K hK => ?_)
  refine iV (w1 := wn2.setCell ⟨b1, 6, none⟩ (.slice B6 s.data.length d6)) (by rfl) rfl ?_ ?_
  · go_simp
  refine hK.out _ _ ?_
  clear hK K hfz hcl
  have HX' := aa.mk (aW HX.out 6 (.slice B6 s.data.length d6) (cs' := #[.int .i64 s.size, .slice B1 s.now.length d1, .slice B2 s.snaps.length d2, .int .i64 s.next, .int .i64 s.fsize, .slice B5 s.sp.length d5, .slice B6 s.data.length d6]) rfl)
  have HY' := aa.mk (bX HY.out (p := ⟨b1, 6, none⟩) (by show b1 + 1 ≠ b1; omega) (.slice B6 s.data.length d6))
  have HB' := aa.mk (show Below w.heap.size w (wn2.setCell ⟨b1, 6, none⟩ (.slice B6 s.data.length d6)) from HB.out.setCell (p := ⟨b1, 6, none⟩) (by rw [HBB.out]; exact Nat.le_refl _) (.slice B6 s.data.length d6))
  have HV1' := aa.mk (Kd.dE (p := ⟨b1, 6, none⟩) HV1.out (fun k hk => by have hk : b1 + 2 ≤ k := hk; show k ≠ b1; omega) (.slice B6 s.data.length d6))
  have HV2' := aa.mk (Kd.dE (p := ⟨b1, 6, none⟩) HV2.out (fun k hk => by have hk : b1 + 2 ≤ k := hk; show k ≠ b1; omega) (.slice B6 s.data.length d6))
  have HV5' := aa.mk (Kd.dE (p := ⟨b1, 6, none⟩) HV5.out (fun k hk => by have hk : b1 + 2 ≤ k := hk; show k ≠ b1; omega) (.slice B6 s.data.length d6))
  have HV6' := aa.mk (Kd.dE (p := ⟨b1, 6, none⟩) HV6.out (fun k hk => by have hk : b1 + 2 ≤ k := hk; show k ≠ b1; omega) (.slice B6 s.data.length d6))
  clear HX HY HB HV1 HV2 HV5 HV6
  have HX := HX'
  clear HX'
  have HY := HY'
  clear HY'
  have HB := HB'
  clear HB'
  have HV1 := HV1'
  clear HV1'
  have HV2 := HV2'
  clear HV2'
  have HV5 := HV5'
  clear HV5'
  have HV6 := HV6'
  clear HV6'
  generalize wn2.setCell ⟨b1, 6, none⟩ (.slice B6 s.data.length d6) = wn3 at HX HY HB HV1 HV2 HV5 HV6 ⊢
  refine eQ (bU HT_.out (by kernel_rfl)) ?_
  clear HT_ HW_
  have HM := aa.mk (show Mid w s (.slice B1 s.now.length d1) (.slice B2 s.snaps.length d2) (.slice B5 s.sp.length d5) (.slice B6 s.data.length d6) ps qs 0 0 wn3 from by
    have a12 := Kd.dV HV1.out HV2.out (by decide)
    have a16 := Kd.dV a12 HV6.out (by decide)
    have a26 := Kd.dV HV2.out HV6.out (by decide)
    have a52 := Kd.dV HV5.out HV2.out (by decide)
    have a56 := Kd.dV a52 HV6.out (by decide)
    have a62 := Kd.dV HV6.out HV2.out (by decide)
    have hx := HX.out
    have hy := HY.out
    rw [HBB.out] at hx hy a16 a26 a56 a62
    exact ⟨hx, hy, HB.out, Kd.aX a16 fun k hk => ⟨hk.1.1, hk.1.2, hk.2⟩, a26, Kd.aX a56 fun k hk => ⟨hk.1.1, hk.1.2, hk.2⟩, a62, HPS.out.1, HQS.out.1, fun t p _ ht => by omega, fun t p hp _ => HPS.out.2 p (List.mem_of_getElem? hp), fun t p _ ht => by omega, fun t p hp _ => HQS.out.2 p (List.mem_of_getElem? hp)⟩)
  have q1 := (ae HX.out 1).trans rfl
  have q2 := (ae HX.out 2).trans rfl
  clear HX HY HB HV1 HV2 HV5 HV6 HPS HQS HPL HQL
  go_wp2_with fail
  go_loopg [28] s.snaps.length (fun gk v28 W => ∃ (i : Nat) (xs : List (RawS × S69)), v28 = .int .i64 (i : Int) ∧ aa (i + gk = s.snaps.length) ∧ aa (Mid w s (.slice B1 s.now.length d1) (.slice B2 s.snaps.length d2) (.slice B5 s.sp.length d5) (.slice B6 s.data.length d6) xs qs i 0 W))
  case atStart => exact ⟨0, ps, rfl, ⟨by simp⟩, HM⟩
  case round =>
    obtain ⟨i, xs, rfl, HI, HM⟩ := hrel
    have HXL := aa.mk (show xs.length = s.snaps.length from gm HM.out.q2)
    cases gk with
    | zero =>
      have hi : i = s.snaps.length := by have := HI.out; omega
      subst hi
      have hx3 := HM.out.hx
      rw [← HBB.out] at hx3
      have q5 := (ae hx3 5).trans rfl
      have q6 := (ae hx3 6).trans rfl
      clear hx3 HXL HI
      go_wp2_with fail
      go_loopg [45] s.data.length (fun gk v45 W => ∃ (j : Nat) (ys : List (RawB × List Int)), v45 = .int .i64 (j : Int) ∧ aa (j + gk = s.data.length) ∧ aa (Mid w s (.slice B1 s.now.length d1) (.slice B2 s.snaps.length d2) (.slice B5 s.sp.length d5) (.slice B6 s.data.length d6) xs ys s.snaps.length j W))
      case atStart => exact ⟨0, qs, rfl, ⟨by simp⟩, HM⟩
      case round =>
        obtain ⟨j, ys, rfl, HI, HM⟩ := hrel
        have HXL := aa.mk (show ys.length = s.data.length from gm HM.out.q6)
        have HXS := aa.mk (show xs.length = s.snaps.length from gm HM.out.q2)
        cases gk with
        | zero =>
          have hj : j = s.data.length := by have := HI.out; omega
          subst hj
          have hx3 := HM.out.hx
          have hy3 := HM.out.hy
          rw [← HBB.out] at hx3 hy3
          have q0 := (ae hx3 0).trans rfl
          have q1 := (ae hx3 1).trans rfl
          have q2 := (ae hx3 2).trans rfl
          have q3 := (ae hx3 3).trans rfl
          have q4 := (ae hx3 4).trans rfl
          have q5 := (ae hx3 5).trans rfl
          have q6 := (ae hx3 6).trans rfl
          have HY := aa.mk hy3
          clear hx3 hy3 HI
          go_wp2_with (refine gI (.store 31 (.tmp 2) (.tmp 57)) rfl ?_; refine gG ?_)
          refine ⟨?_⟩
          refine eD (P := Tryz.prog) rfl 31 (.tmp 2) (.tmp 57) rfl _ (b1 + 1) 0 rfl #[.int .i64 s.size, .slice B1 s.now.length d1, .slice B2 s.snaps.length d2, .int .i64 s.next, .int .i64 s.fsize, .slice B5 s.sp.length d5, .slice B6 s.data.length d6] rfl rfl 31 NIL7 HY.out (by kernel_rfl) (Nat.le_refl 7) (by simp [Value.oneCell']) ?_
          rw [(show (NIL7.toList.take 0 ++ (#[.int .i64 s.size, .slice B1 s.now.length d1, .slice B2 s.snaps.length d2, .int .i64 s.next, .int .i64 s.fsize, .slice B5 s.sp.length d5, .slice B6 s.data.length d6] : Array Value).toList ++ NIL7.toList.drop (0 + (#[.int .i64 s.size, .slice B1 s.now.length d1, .slice B2 s.snaps.length d2, .int .i64 s.next, .int .i64 s.fsize, .slice B5 s.sp.length d5, .slice B6 s.data.length d6] : Array Value).toList.length)).toArray = #[.int .i64 s.size, .slice B1 s.now.length d1, .slice B2 s.snaps.length d2, .int .i64 s.next, .int .i64 s.fsize, .slice B5 s.sp.length d5, .slice B6 s.data.length d6] from rfl)]
          have hst := setRow_heap wr (b1 + 1) NIL7 #[.int .i64 s.size, .slice B1 s.now.length d1, .slice B2 s.snaps.length d2, .int .i64 s.next, .int .i64 s.fsize, .slice B5 s.sp.length d5, .slice B6 s.data.length d6] 31 (0, 0) HY.out
          have HW := aa.mk (show ∃ W, W = wr.setRow (b1 + 1) #[.int .i64 s.size, .slice B1 s.now.length d1, .slice B2 s.snaps.length d2, .int .i64 s.next, .int .i64 s.fsize, .slice B5 s.sp.length d5, .slice B6 s.data.length d6] from ⟨_, rfl⟩)
          obtain ⟨wf, hwf⟩ := HW.out
          rw [← hwf] at hst ⊢
          have HWF := aa.mk hwf
          clear hwf HW q0 q1 q2 q3 q4 q5 q6
          have q0 := (ae hst 0).trans rfl
          have q1 := (ae hst 1).trans rfl
          have q2 := (ae hst 2).trans rfl
          have q3 := (ae hst 3).trans rfl
          have q4 := (ae hst 4).trans rfl
          have q5 := (ae hst 5).trans rfl
          have q6 := (ae hst 6).trans rfl
          have HST := aa.mk hst
          clear hst
          go_wp2
          (try simp only [Exit.inBlock, Exit.then])
          refine bodyPost_ret (results_cell_row rfl _ _ (b1 + 1) 31 #[.int .i64 s.size, .slice B1 s.now.length d1, .slice B2 s.snaps.length d2, .int .i64 s.next, .int .i64 s.fsize, .slice B5 s.sp.length d5, .slice B6 s.data.length d6] (0, 0) _ rfl HST.out Tryz.underlying31 rfl (by kernel_rfl)) rfl ?_
          have hb := HM.out.hb
          have ho := HM.out.owns (wf := wf) (fun k hk => by rw [HWF.out]; exact setRow_other wr (b1 + 1) k _ (by rw [HBB.out]; omega))
          refine ⟨⟨B1, d1, B2, d2, B5, d5, B6, d6⟩, rfl, ho, ?_⟩
          rw [HWF.out]
          exact aJ hb (by rw [HBB.out]; omega) _
        | succ k1 =>
          have hj1 : (j : Int) < (s.data.length : Int) := by have := HI.out; omega
          have hj2 : j < s.data.length := by have := HI.out; omega
          have hj0 : (0 : Int) ≤ (j : Int) := by omega
          have hd : decide ((j : Int) < (s.data.length : Int)) = true := decide_eq_true hj1
          obtain ⟨⟨x, y⟩, hxy⟩ : ∃ p, ys[j]? = some p := ⟨_, List.getElem?_eq_getElem (by rw [HXL.out]; exact hj2)⟩
          obtain ⟨g, d6', hv2, c0, cs, hcs⟩ := HM.out.atB hxy
          injection hv2 with hv2 hv4 hv3
          subst hv2
          clear hv4
          have HXY := aa.mk hxy
          have hx3 := HM.out.hx
          rw [← HBB.out] at hx3
          have hsm : y.length ≤ 64 := HSM.out.n7 y (by
            rw [← HM.out.q6]
            exact List.mem_map.2 ⟨_, List.mem_of_getElem? hxy, rfl⟩)
          have HYL := aa.mk hsm
          have q6 := (ae hx3 6).trans rfl
          clear hxy hv3 hsm hcs hx3
          go_wp2_with fail
          have hx3 := HM.out.hx
          rw [← HBB.out] at hx3
          refine dG (n := 7) (S := fun w' => w'.cell? ⟨b1, 6, none⟩ = some (.slice (some ⟨g, 0, none⟩) s.data.length d6)) (ds := [6]) (lb 7 0) (by kernel_rfl) rfl (by kernel_rfl) ((ae hx3 6).trans rfl) (fun hHeld => ?_)
          refine bG qi oD (fun HT_ HW_ => ?_)
          have HM2 := aa.mk (show Mid w s (.slice B1 s.now.length d1) (.slice B2 s.snaps.length d2) (.slice B5 s.sp.length d5) (.slice (some ⟨g, 0, none⟩) s.data.length d6) xs ys s.snaps.length j wr.drew from HM.out.below (aQ (Below.refl _ _)))
          clear hx3 HM c0
          generalize wr.drew = w5 at hHeld HM2 ⊢
          refine pu_ 0 50 7 1 ?_
          refine tk_ 1 51 7 3 ?_
          refine pu_ 2 52 7 7 ?_
          refine pu_ 3 53 7 15 ?_
          refine on_ 4 54 7 31 (fun K hK => ?_)
          refine dO Tryz.func117 (by kernel_rfl) rfl #[.slice x.A x.n x.c] (by rfl) rfl rfl (by (try simp only [List.map_toArray, List.map_cons, List.map_nil]); first | done | rfl) ?_
          have hC := HM2.out.cb j _ HXY.out (Nat.le_refl _)
          have hCC := Kd.aN hC.2.2 HM2.out.hb
          have hxn : x.n = y.length := hC.1
          have hxc : x.n ≤ x.c := hC.2.1
          rw [hxn] at hxc ⊢
          have HCL := aa.mk (gQ.calls x.A x.c y y w5 hCC hxc (by unfold gQ.f; rw [if_pos (by have := HYL.out; omega)]))
          clear hC hCC hxn hxc
          refine HCL.out.mono ?_
          rintro e w6 ⟨v, rfl, hR, hb⟩
          obtain ⟨N, dn, rfl⟩ := Kd.aZ hR
          refine ⟨_, rfl, ?_⟩
          have HN := aa.mk (show Kd.R (Kd.int .u8) 5 w6 w.heap.size (ok2 w.heap.size (.slice B2 s.snaps.length d2) (.slice (some ⟨g, 0, none⟩) s.data.length d6)) (.slice N y.length dn) y from Kd.bH (Kd.aX (Kd.bO hR) (fun k hk => HM2.out.own2 hk.2.1)) HM2.out.hb.size)
          have HM' := aa.mk (HM2.out.below hb)
          refine hK.out _ _ ((hb.cell (World.block_lt_of_cell? _ _ hHeld)).trans hHeld) (fun hHeld => ?_)
          clear hK K hb hR HM2 HCL
          have HM := HM'
          clear HM'
          refine nm_ 54 ?_
          refine pu_ 5 55 7 63 ?_
          obtain ⟨g', d6', hv2, c3, cs, hcs⟩ := HM.out.atB HXY.out
          injection hv2 with hv2 hv4 hv3
          clear hv4 hv3
          injection hv2 with hv2
          injection hv2 with hv2
          subst hv2
          have hfz := ai hcs j
          have HM' := aa.mk (HM.out.putB rfl x y HXY.out N y.length dn HN.out)
          refine jr (i := 6) (N := none) #[yT,yT,yT,yT,yT,yT,yT] rfl rfl (fA HT_.out (by kernel_rfl)) (by decide) (fun K hK => ?_)
          refine iV (w1 := w6.setCell ⟨g, j, none⟩ (.slice N y.length dn)) (by rfl) rfl ?_ ?_
          · go_simp
          refine hK.out _ _ ?_
          clear hK K hfz c3 hcs HM HN hHeld
          refine eQ (bU HT_.out (by kernel_rfl)) ?_
          clear HT_ HW_
          generalize w6.setCell ⟨g, j, none⟩ (.slice N y.length dn) = w7 at HM' ⊢
          have hi3 : (j : Int) ≤ 65536 := by have := HSM.out.n6; omega
          go_wp2_with fail
          go_roundg k1
          case measure => omega
          case rel => exact ⟨j + 1, _, by first | rfl | (simp; done) | go_num, ⟨by have := HI.out; omega⟩, HM'⟩
    | succ k1 =>
      have hj1 : (i : Int) < (s.snaps.length : Int) := by have := HI.out; omega
      have hj2 : i < s.snaps.length := by have := HI.out; omega
      have hj0 : (0 : Int) ≤ (i : Int) := by omega
      have hd : decide ((i : Int) < (s.snaps.length : Int)) = true := decide_eq_true hj1
      obtain ⟨⟨x, y⟩, hxy⟩ : ∃ p, xs[i]? = some p := ⟨_, List.getElem?_eq_getElem (by rw [HXL.out]; exact hj2)⟩
      obtain ⟨g, d2', hv2, c0, c1, c2, c3, cs, hcs⟩ := HM.out.atS hxy
      injection hv2 with hv2 hv4 hv3
      subst hv2
      clear hv4
      have HXY := aa.mk hxy
      have HCS := aa.mk hcs
      have hsm : y.f3.length ≤ 1024 := HSM.out.n3 y (by
        rw [← HM.out.q2]
        exact List.mem_map.2 ⟨_, List.mem_of_getElem? hxy, rfl⟩)
      have HYL := aa.mk hsm
      clear hxy hv3 hcs hsm
      obtain ⟨bx, hbx⟩ : ∃ b, b = wr.heap.size := ⟨_, rfl⟩
      obtain ⟨W3, hW3⟩ : ∃ W, W = wr.alloc (.cells #[.int .i64 x.f0, .string x.f1, .int .i64 x.f2, .slice x.A x.n x.c] 69) := ⟨_, rfl⟩
      have HX3 := aa.mk (show W3.heap[bx]? = some (.cells #[.int .i64 x.f0, .string x.f1, .int .i64 x.f2, .slice x.A x.n x.c] 69 (0, 0)) by rw [hW3, hbx]; exact bg wr _)
      have HM3 := aa.mk (show Mid w s (.slice B1 s.now.length d1) (.slice (some ⟨g, 0, none⟩) s.snaps.length d2) (.slice B5 s.sp.length d5) (.slice B6 s.data.length d6) xs qs i 0 W3 by rw [hW3]; exact HM.out.below ((Below.refl _ _).alloc (Nat.le_refl _) _))
      clear HM
      go_wp2_with fail
      rw [← hW3, ← hbx]
      clear hW3 hbx c0 c1 c2 c3
      have hx3 := HM3.out.hx
      rw [← HBB.out] at hx3
      refine dG (n := 9) (S := fun w' => w'.cell? ⟨b1, 2, none⟩ = some (.slice (some ⟨g, 0, none⟩) s.snaps.length d2) ∧ w'.cell? ⟨bx, 3, none⟩ = some (.slice x.A x.n x.c)) (ds := [8]) (lb 9 0) (by kernel_rfl) rfl (by kernel_rfl) ⟨(ae hx3 2).trans rfl, (ae HX3.out 3).trans rfl⟩ (fun hHeld => ?_)
      refine bG tH qy (fun HT_ HW_ => ?_)
      have HM := aa.mk (show Mid w s (.slice B1 s.now.length d1) (.slice (some ⟨g, 0, none⟩) s.snaps.length d2) (.slice B5 s.sp.length d5) (.slice B6 s.data.length d6) xs qs i 0 W3.drew from HM3.out.below (aQ (Below.refl _ _)))
      have hcs := HCS.out
      clear hx3 HM3 HX3 hcs HCS
      generalize W3.drew = w5 at hHeld HM ⊢
      refine pu_ 0 33 9 1 ?_
      refine tk_ 1 34 9 3 ?_
      refine pu_ 2 35 9 7 ?_
      refine pu_ 3 36 9 15 ?_
      refine tk_ 4 37 9 31 ?_
      refine on_ 5 38 9 63 (fun K hK => ?_)
      refine dO Tryz.func113 (by kernel_rfl) rfl #[.slice x.A x.n x.c] (by rfl) rfl rfl (by (try simp only [List.map_toArray, List.map_cons, List.map_nil]); first | done | rfl) ?_
      have hC := HM.out.cs i _ HXY.out (Nat.le_refl _)
      have hCC := Kd.aN hC.2.2.2.2.2 HM.out.hb
      have hxn : x.n = y.f3.length := hC.2.2.2.1
      have hxc : x.n ≤ x.c := hC.2.2.2.2.1
      rw [hxn] at hxc ⊢
      have HCL := aa.mk (iR.calls x.A x.c y.f3 y.f3 w5 hCC hxc (by unfold iR.f; rw [if_pos (by have := HYL.out; omega)]))
      clear hC hCC hxn hxc
      refine HCL.out.mono ?_
      rintro e w6 ⟨v, rfl, hR, hb⟩
      obtain ⟨N, dn, rfl⟩ := Kd.aZ hR
      refine ⟨_, rfl, ?_⟩
      have HN := aa.mk (show Kd.R k151 151 w6 w.heap.size (ok2 w.heap.size (.slice (some ⟨g, 0, none⟩) s.snaps.length d2) (.slice B6 s.data.length d6)) (.slice N y.f3.length dn) y.f3 from Kd.bH (Kd.aX (Kd.bO hR) (fun k hk => HM.out.own2 hk.2.1)) HM.out.hb.size)
      have HM' := aa.mk (HM.out.below hb)
      refine hK.out _ _ ⟨(hb.cell (World.block_lt_of_cell? _ _ hHeld.1)).trans hHeld.1, (hb.cell (World.block_lt_of_cell? _ _ hHeld.2)).trans hHeld.2⟩ (fun hHeld => ?_)
      clear hK K hb hR HM HCL
      have HM := HM'
      clear HM'
      refine nm_ 38 ?_
      refine pu_ 6 39 9 127 ?_
      refine pu_ 7 40 9 255 ?_
      obtain ⟨g', d2', hv2, -, -, -, c3, cs, hcs⟩ := HM.out.atS HXY.out
      injection hv2 with hv2 hv4 hv3
      clear hv4 hv3
      injection hv2 with hv2
      injection hv2 with hv2
      subst hv2
      have hfz := ai hcs (i * 4 + 3)
      have HM' := aa.mk (HM.out.putS rfl x y HXY.out N y.f3.length dn HN.out)
      refine jr (i := 8) (N := none) #[yT,yT,yT,yT,yT,yT,yT,yT,yT] rfl rfl (fA HT_.out (by kernel_rfl)) (by decide) (fun K hK => ?_)
      refine iV (w1 := w6.setCell ⟨g, i * 4 + 3, none⟩ (.slice N y.f3.length dn)) (by rfl) rfl ?_ ?_
      · go_simp
      refine hK.out _ _ ?_
      clear hK K hfz c3 hcs HM HN hHeld
      refine eQ (bU HT_.out (by kernel_rfl)) ?_
      clear HT_ HW_
      generalize w6.setCell ⟨g, i * 4 + 3, none⟩ (.slice N y.f3.length dn) = w7 at HM' ⊢
      have hi3 : (i : Int) ≤ 8 := by have := HSM.out.n2; omega
      go_wp2_with fail
      go_roundg k1
      case measure => omega
      case rel => exact ⟨i + 1, _, by first | rfl | (simp; done) | go_num, ⟨by have := HI.out; omega⟩, HM'⟩
set_option maxHeartbeats 2000000 in
set_option maxRecDepth 100000 in
theorem idx_nm (cl : Nat) (lb : Array Value) (p : S173 → Bool) (eg : ∀ args w, (callFunc cl args).run Tryz.prog w = .ok (.enter cl args) w)
    (A0 : Option Addr) (c0 : Nat) (l0 : List S173) (w : World) (hr0 : Kd.C k173 w A0 l0.length l0)
    (hp : ∀ (W : World) (x : S173), Below w.heap.size w W → Calls Tryz.prog cl (#[.agg #[.int .i64 x.f0, .string x.f1]] ++ lb) W fun e w' => e = .returned (.bool (p x)) ∧ Below w.heap.size w w') :
    Calls Tryz.prog 144 #[.slice A0 l0.length c0, .func (.func cl) #[] lb] w fun e w' => e = .returned (.int .i64 (idxF p l0)) ∧ Below w.heap.size w w' := by
  have hu := Tryz.underlying173
  have HR0 := aa.mk hr0
  have HP := aa.mk hp
  clear hr0 hp
  go_enter Tryz.func144, Tryz.ntmps144
  go_wp2
  go_loopg [5, 8] l0.length (fun gk _ v8 W => ∃ i : Int, v8 = .int .i64 i ∧ aa (0 ≤ i ∧ i + gk = l0.length) ∧ aa (Below w.heap.size w W) ∧ aa (∀ j (hj : j < l0.length), (j : Int) < i → p l0[j] = false))
  case atStart => exact ⟨0, rfl, ⟨Int.le_refl _, by simp⟩, ⟨Below.refl _ w⟩, ⟨fun j hj h => by omega⟩⟩
  case round =>
    obtain ⟨i, rfl, HI, HB, HA⟩ := hrel
    cases gk with
    | zero =>
      have hi : i = l0.length := by have := HI.out.2; omega
      have hd : decide (i < (l0.length : Int)) = false := decide_eq_false (by omega)
      have hr : idxF p l0 = -1 := jd (fun x hx => by
        obtain ⟨j, hj, rfl⟩ := List.mem_iff_getElem.1 hx
        exact HA.out j hj (by omega))
      have HRES := aa.mk hr
      clear hi hr
      go_wp2
      go_ret
      exact ⟨by rw [HRES.out]; rfl, HB.out⟩
    | succ k1 =>
      have hp0 : 0 ≤ i := HI.out.1
      have hp1 : i < (l0.length : Int) := by have := HI.out.2; omega
      have hd : decide (i < (l0.length : Int)) = true := decide_eq_true hp1
      have hC : Kd.C k173 wr A0 l0.length l0 := Kd.aN HR0.out HB.out
      have hlen64 : (l0.length : Int) ≤ 9223372036854775807 := by have := HR0.out.2.1; omega
      obtain ⟨ad, e3, g0, g1⟩ := uO hC i hp0 hp1
      cases e3
      obtain ⟨x, hx⟩ : ∃ x, x = kD l0 i := ⟨_, rfl⟩
      rw [← hx] at g0 g1
      have hxi : x = l0[i.toNat]'(by omega) := by rw [hx]; unfold kD; rw [List.getD_eq_getElem?_getD, List.getElem?_eq_getElem (by omega)]; rfl
      have hcall := HP.out wr x HB.out
      have HX := aa.mk hxi
      have HPI := aa.mk (And.intro hp0 hp1)
      clear hx hC hxi
      cases hq : p x with
      | true =>
        rw [hq] at hcall
        have hres : idxF p l0 = i := by
          have h1 := jV (p := p) (l := l0) (k := i.toNat) (by omega) (by rw [← HX.out]; exact hq) (fun j hj => HA.out j (by omega) (by omega))
          rw [h1]; omega
        have HRES := aa.mk hres
        clear hres
        go_wp2_with (go_at_fn cl; refine hcall.mono ?_; rintro e w' ⟨rfl, hb'⟩)
        go_ret
        exact ⟨by rw [HRES.out]; rfl, hb'⟩
      | false =>
        rw [hq] at hcall
        have HQ := aa.mk hq
        go_wp2_with (go_at_fn cl; refine hcall.mono ?_; rintro e w' ⟨rfl, hb'⟩)
        go_roundg k1
        case measure => omega
        case rel =>
          refine ⟨i + 1, by first | rfl | (simp; done) | go_num, ⟨by have := HPI.out.1; omega, by have := HI.out.2; omega⟩, ⟨hb'⟩, ⟨fun j hj h => ?_⟩⟩
          by_cases e : (j : Int) = i
          · have e2 : j = i.toNat := by omega
            subst e2
            rw [← HX.out]; exact HQ.out
          · exact HA.out j hj (by omega)
set_option maxHeartbeats 1000000 in
set_option maxRecDepth 100000 in
theorem has_nm (cl : Nat) (lb : Array Value) (p : S173 → Bool) (eg : ∀ args w, (callFunc cl args).run Tryz.prog w = .ok (.enter cl args) w)
    (A0 : Option Addr) (c0 : Nat) (l0 : List S173) (w : World) (hr0 : Kd.C k173 w A0 l0.length l0)
    (hp : ∀ (W : World) (x : S173), Below w.heap.size w W → Calls Tryz.prog cl (#[.agg #[.int .i64 x.f0, .string x.f1]] ++ lb) W fun e w' => e = .returned (.bool (p x)) ∧ Below w.heap.size w w') :
    Calls Tryz.prog 110 #[.slice A0 l0.length c0, .func (.func cl) #[] lb] w fun e w' => e = .returned (.bool (l0.any p)) ∧ Below w.heap.size w w' := by
  have hidx := idx_nm cl lb p eg A0 c0 l0 w hr0 hp
  have hres : decide (0 ≤ idxF p l0) = l0.any p := by
    unfold idxF
    cases h : l0.findIdx? p with
    | some i =>
      have := List.findIdx?_eq_some_iff_getElem.1 h
      obtain ⟨h1, h2, _⟩ := this
      rw [List.any_eq_true.2 ⟨_, List.getElem_mem h1, h2⟩]
      exact decide_eq_true (by show (0 : Int) ≤ (i : Int); omega)
    | none =>
      have := List.findIdx?_eq_none_iff.1 h
      rw [List.any_eq_false.2 (fun x hx => by rw [this x hx]; decide)]
      rfl
  have HI := aa.mk hidx
  have HRES := aa.mk hres
  clear hidx hres hp hr0
  go_enter Tryz.func110, Tryz.ntmps110
  go_wp2_with fail
  refine HI.out.mono ?_
  rintro e w1 ⟨rfl, hb⟩
  have HB := aa.mk hb
  clear hb
  go_wp2
  go_ret
  exact ⟨by rw [← HRES.out]; rfl, HB.out⟩
def lY (size at0 n : Int) : Bool := (fV.f size at0 n).getD false
theorem pQ (size at0 n : Int) : fV.f size at0 n = some (lY size at0 n) := by
  have h : ∃ b, fV.f size at0 n = some b := by
    unfold fV.f
    split
    · split <;> exact ⟨_, rfl⟩
    · exact ⟨_, rfl⟩
  obtain ⟨b, hb⟩ := h
  unfold lY
  rw [hb]; rfl
def may1 (size : Int) (x : OpV) : Int := if x.data.length = 0 ∨ 0 < x.data.length % 64 ∨ 64 < x.data.length / 64 then 1 else if lY size x.at0 ((x.data.length / 64 : Nat) : Int) then 0 else 4
def may4 (l : List S173) (next : Int) (x : OpV) : Int := if x.name.toList.isEmpty = true ∨ 16 < x.name.size then 1 else if (l.any fun y => y.f1.toList == x.name.toList) then 6 else if 8 ≤ l.length ∨ 255 ≤ next then 3 else 0
set_option maxHeartbeats 8000000 in
set_option maxRecDepth 100000 in
theorem tQ (size next : Int) (AL : Option Addr) (cL : Nat) (l : List S173) (x : OpV) (Dx : Option Addr) (cx : Nat) (w : World) (hlen : x.data.length ≤ 9223372036854775807) :
    Calls Tryz.prog 66 #[.int .i64 size, .slice AL l.length cL, .int .i64 next, .agg #[.int .i64 1, .int .i64 x.at0, .int .i64 x.n, .int .i64 x.id, .string x.name, .slice Dx x.data.length cx]] w fun e w' => e = .returned (.int .i64 (may1 size x)) ∧ Below w.heap.size w w' := by
  have hu61 := Tryz.underlying61
  obtain ⟨n, hn⟩ : ∃ n, n = x.data.length := ⟨_, rfl⟩
  obtain ⟨q, hq⟩ : ∃ q, q = n / 64 := ⟨_, rfl⟩
  have hres : may1 size x = if n = 0 ∨ 0 < n % 64 ∨ 64 < q then 1 else if lY size x.at0 (q : Int) then 0 else 4 := by unfold may1; rw [hq, hn]
  rw [hres, ← hn]
  obtain ⟨W1, hW1⟩ : ∃ W, W = w.alloc (.cells #[.int .i64 1, .int .i64 x.at0, .int .i64 x.n, .int .i64 x.id, .string x.name, .slice Dx n cx] 61) := ⟨_, rfl⟩
  have hx1 : W1.heap[w.heap.size]? = some (.cells #[.int .i64 1, .int .i64 x.at0, .int .i64 x.n, .int .i64 x.id, .string x.name, .slice Dx n cx] 61 (0, 0)) := by rw [hW1]; exact bg w _
  have HB := aa.mk (show Below w.heap.size w W1 by rw [hW1]; exact (Below.refl _ _).alloc (Nat.le_refl _) _)
  have p0 := (ae hx1 0).trans rfl
  have p1 := (ae hx1 1).trans rfl
  have p5 := (ae hx1 5).trans rfl
  have hw : wrap64 ((n : Int) / 64) = (q : Int) := by rw [w64 (by omega)]; omega
  have HF := aa.mk (fV.calls size x.at0 (q : Int) _ W1 (pQ size x.at0 (q : Int)))
  have HN := aa.mk (And.intro hn hq)
  rw [hW1] at p0 p1 p5
  clear hx1 hres hlen hn hq
  by_cases h1 : n = 0
  · rw [if_pos (.inl h1)]
    have b1 : ((n : Int) == 0) = true := by simpa using h1
    clear h1
    go_enter Tryz.func66, Tryz.ntmps66
    go_wp2_with fail
    rw [← hW1]
    go_ret
    exact ⟨rfl, HB.out⟩
  have b1 : ((n : Int) == 0) = false := by simpa using h1
  by_cases h2 : 0 < n % 64
  · rw [if_pos (.inr (.inl h2))]
    have b2 : decide (0 < (n : Int) % 64) = true := decide_eq_true (by omega)
    clear h1 h2
    go_enter Tryz.func66, Tryz.ntmps66
    go_wp2_with fail
    rw [← hW1]
    go_ret
    exact ⟨rfl, HB.out⟩
  have b2 : decide (0 < (n : Int) % 64) = false := decide_eq_false (by omega)
  by_cases h3 : 64 < q
  · rw [if_pos (.inr (.inr h3))]
    have b3 : decide (64 < (q : Int)) = true := decide_eq_true (by omega)
    have b3' : decide (64 < q) = true := decide_eq_true h3
    clear h1 h2 h3
    go_enter Tryz.func66, Tryz.ntmps66
    go_wp2_with fail
    rw [← hW1]
    go_ret
    exact ⟨rfl, HB.out⟩
  rw [if_neg (by omega)]
  have b3 : decide (64 < (q : Int)) = false := decide_eq_false (by omega)
  have b3' : decide (64 < q) = false := decide_eq_false h3
  clear h1 h2 h3
  obtain ⟨r, hr⟩ : ∃ r, r = lY size x.at0 (q : Int) := ⟨_, rfl⟩
  rw [← hr] at HF ⊢
  clear hr
  go_enter Tryz.func66, Tryz.ntmps66
  go_wp2_with fail
  rw [← hW1]
  clear p0 p1 p5 hW1 hw
  refine HF.out.mono ?_
  rintro e w2 ⟨rfl, hb⟩
  have HB2 := aa.mk (HB.out.trans (hb.mono HB.out.size))
  clear hb HF
  cases r <;> (go_wp2_with fail; go_ret; exact ⟨rfl, HB2.out⟩)
set_option maxHeartbeats 1000000 in
set_option maxRecDepth 100000 in
theorem zw (y : S173) (b : Nat) (cs : Array Value) (nm : ByteArray) (w : World) (hb : w.heap[b]? = some (.cells cs 61 (0, 0))) (h4 : cs[4]? = some (.string nm)) :
    Calls Tryz.prog 111 (#[.agg #[.int .i64 y.f0, .string y.f1]] ++ #[.pointer (some ⟨b, 0, none⟩)]) w fun e w' => e = .returned (.bool (y.f1.toList == nm.toList)) ∧ Below w.heap.size w w' := by
  have hu := Tryz.underlying173
  have hu61 := Tryz.underlying61
  obtain ⟨W1, hW1⟩ : ∃ W, W = w.alloc (.cells #[.int .i64 y.f0, .string y.f1] 173) := ⟨_, rfl⟩
  have HB := aa.mk (show Below w.heap.size w W1 by rw [hW1]; exact (Below.refl _ _).alloc (Nat.le_refl _) _)
  have u0 : W1.cell? ⟨b, 4, none⟩ = some (.string nm) := (ae ((HB.out.block b (aA hb)).trans hb) 4).trans h4
  rw [hW1] at u0
  clear hb h4
  go_enter Tryz.func111, Tryz.ntmps111
  go_wp2_with fail
  rw [← hW1]
  go_ret
  exact ⟨by first | rfl | simp, HB.out⟩
set_option maxHeartbeats 8000000 in
set_option maxRecDepth 100000 in
theorem wM (size next : Int) (AL : Option Addr) (cL : Nat) (l : List S173) (x : OpV) (Dx : Option Addr) (cx : Nat) (w : World) (hL : Kd.C k173 w AL l.length l) (hc : l.length ≤ cL) :
    Calls Tryz.prog 66 #[.int .i64 size, .slice AL l.length cL, .int .i64 next, .agg #[.int .i64 4, .int .i64 x.at0, .int .i64 x.n, .int .i64 x.id, .string x.name, .slice Dx x.data.length cx]] w fun e w' => e = .returned (.int .i64 (may4 l next x)) ∧ Below w.heap.size w w' := by
  have hu61 := Tryz.underlying61
  obtain ⟨W1, hW1⟩ : ∃ W, W = w.alloc (.cells #[.int .i64 4, .int .i64 x.at0, .int .i64 x.n, .int .i64 x.id, .string x.name, .slice Dx x.data.length cx] 61) := ⟨_, rfl⟩
  have hx1 : W1.heap[w.heap.size]? = some (.cells #[.int .i64 4, .int .i64 x.at0, .int .i64 x.n, .int .i64 x.id, .string x.name, .slice Dx x.data.length cx] 61 (0, 0)) := by rw [hW1]; exact bg w _
  have HB := aa.mk (show Below w.heap.size w W1 by rw [hW1]; exact (Below.refl _ _).alloc (Nat.le_refl _) _)
  have p0 := (ae hx1 0).trans rfl
  have p4 := (ae hx1 4).trans rfl
  have HH := aa.mk (has_nm 111 #[.pointer (some ⟨w.heap.size, 0, none⟩)] (fun y => y.f1.toList == x.name.toList) (fun args w => iY Tryz.func111 (by kernel_rfl) rfl args w) AL cL l W1 (Kd.aN hL HB.out) (fun W y hB => Calls.mono (zw y _ _ x.name W ((hB.block _ (aA hx1)).trans hx1) rfl) fun e w' h => ⟨h.1, az hB h.2⟩))
  rw [hW1] at p0 p4
  clear hx1 hL hc
  unfold may4
  by_cases h1 : x.name.toList.isEmpty = true
  · rw [if_pos (.inl h1)]
    have hl := List.isEmpty_iff.1 h1
    go_enter Tryz.func66, Tryz.ntmps66
    go_wp2_with fail
    rw [← hW1]
    go_ret
    exact ⟨rfl, HB.out⟩
  have h1f : x.name.toList.isEmpty = false := Bool.eq_false_iff.2 h1
  have hl : ¬ x.name.toList = [] := fun h => h1 (List.isEmpty_iff.2 h)
  by_cases h2 : 16 < x.name.size
  · rw [if_pos (.inr h2)]
    have b2 : decide ((16 : Int) < (x.name.size : Int)) = true := decide_eq_true (by omega)
    have b2' : decide (16 < x.name.size) = true := decide_eq_true h2
    clear h1 h2
    go_enter Tryz.func66, Tryz.ntmps66
    go_wp2_with fail
    rw [← hW1]
    go_ret
    exact ⟨rfl, HB.out⟩
  have b2 : decide ((16 : Int) < (x.name.size : Int)) = false := decide_eq_false (by omega)
  have b2' : decide (16 < x.name.size) = false := decide_eq_false h2
  rw [if_neg (by rintro (h | h); exact h1 h; exact h2 h)]
  clear h1 h2
  obtain ⟨r, hr⟩ : ∃ r, r = (l.any fun y => y.f1.toList == x.name.toList) := ⟨_, rfl⟩
  rw [← hr] at HH ⊢
  obtain ⟨res, hres⟩ : ∃ v : Int, v = (if r = true then 6 else if 8 ≤ l.length ∨ 255 ≤ next then 3 else 0) := ⟨_, rfl⟩
  rw [← hres]
  have HRES := aa.mk hres
  clear hr hres
  go_enter Tryz.func66, Tryz.ntmps66
  go_wp2_with fail
  rw [← hW1]
  clear p0 p4 hW1 hl h1f b2 b2'
  refine HH.out.mono ?_
  rintro e w2 ⟨rfl, hb⟩
  have HB2 := aa.mk (HB.out.trans (hb.mono HB.out.size))
  clear hb HH
  cases r with
  | true => go_wp2_with fail; go_ret; exact ⟨by rw [HRES.out]; rfl, HB2.out⟩
  | false =>
    by_cases h3 : 8 ≤ l.length
    · have HE := aa.mk (show res = 3 by rw [HRES.out, if_neg (by decide), if_pos (.inl h3)])
      have b3 : decide ((8 : Int) ≤ (l.length : Int)) = true := decide_eq_true (by omega)
      have b3' : decide (8 ≤ l.length) = true := decide_eq_true h3
      clear h3
      go_wp2_with fail
      go_ret
      exact ⟨by rw [HE.out]; rfl, HB2.out⟩
    have b3 : decide ((8 : Int) ≤ (l.length : Int)) = false := decide_eq_false (by omega)
    have b3' : decide (8 ≤ l.length) = false := decide_eq_false h3
    by_cases h4 : 255 ≤ next
    · have HE := aa.mk (show res = 3 by rw [HRES.out, if_neg (by decide), if_pos (.inr h4)])
      have b4 : decide (255 ≤ next) = true := decide_eq_true h4
      clear h3 h4
      go_wp2_with fail
      go_ret
      exact ⟨by rw [HE.out]; rfl, HB2.out⟩
    have HE := aa.mk (show res = 0 by rw [HRES.out, if_neg (by decide), if_neg (by rintro (h | h); exact h3 h; exact h4 h)])
    have b4 : decide (255 ≤ next) = false := decide_eq_false h4
    clear h3 h4
    go_wp2_with fail
    go_ret
    exact ⟨by rw [HE.out]; rfl, HB2.out⟩
def fK (x : OpV) (Dx : Option Addr) (cx : Nat) : Array Value := #[.int .i64 x.what, .int .i64 x.at0, .int .i64 x.n, .int .i64 x.id, .string x.name, .slice Dx x.data.length cx]
def NIL5 : Array Value := #[.int .i64 0, .slice none 0 0, .int .i64 0, .slice none 0 0, .int .i64 0]
structure si (w : World) (s : St) (a : At4) (x : OpV) (Dx : Option Addr) (cx b : Nat) (W : World) : Prop where
  e : b = w.heap.size
  x2 : W.heap[b]? = some (.cells #[.int .i64 s.size, .slice a.A1 s.now.length a.c1, .slice a.A2 s.snaps.length a.c2, .int .i64 s.next, .int .i64 s.fsize, .slice a.A5 s.sp.length a.c5, .slice a.A6 s.data.length a.c6] 31 (0, 0))
  x3 : W.heap[b + 1]? = some (.cells #[.int .i64 x.what, .int .i64 x.at0, .int .i64 x.n, .int .i64 x.id, .string x.name, .slice Dx x.data.length cx] 61 (0, 0))
  x4 : W.heap[b + 2]? = some (.cells NIL7 31 (0, 0))
  x5 : W.heap[b + 3]? = some (.cells NIL5 58 (0, 0))
  hb : Below w.heap.size w W
  hr : Reads W s a
theorem si.below {w : World} {s : St} {a : At4} {x : OpV} {Dx : Option Addr} {cx b : Nat} {W W1 : World} (h : si w s a x Dx cx b W) (hb : Below W.heap.size W W1) : si w s a x Dx cx b W1 :=
  ⟨h.e, (hb.block _ (aA h.x2)).trans h.x2, (hb.block _ (aA h.x3)).trans h.x3, (hb.block _ (aA h.x4)).trans h.x4, (hb.block _ (aA h.x5)).trans h.x5, h.hb.trans (hb.mono h.hb.size), h.hr.below hb⟩
theorem oF (w : World) (s : St) (a : At4) (x : OpV) (Dx : Option Addr) (cx : Nat) (hr : Reads w s a) :
    si w s a x Dx cx w.heap.size ((((w.alloc (.cells #[.int .i64 s.size, .slice a.A1 s.now.length a.c1, .slice a.A2 s.snaps.length a.c2, .int .i64 s.next, .int .i64 s.fsize, .slice a.A5 s.sp.length a.c5, .slice a.A6 s.data.length a.c6] 31)).alloc (.cells #[.int .i64 x.what, .int .i64 x.at0, .int .i64 x.n, .int .i64 x.id, .string x.name, .slice Dx x.data.length cx] 61)).alloc (.cells NIL7 31)).alloc (.cells NIL5 58)) := by
  obtain ⟨W1, hW1⟩ : ∃ W, W = w.alloc (.cells #[.int .i64 s.size, .slice a.A1 s.now.length a.c1, .slice a.A2 s.snaps.length a.c2, .int .i64 s.next, .int .i64 s.fsize, .slice a.A5 s.sp.length a.c5, .slice a.A6 s.data.length a.c6] 31) := ⟨_, rfl⟩
  rw [← hW1]
  obtain ⟨W2, hW2⟩ : ∃ W, W = W1.alloc (.cells #[.int .i64 x.what, .int .i64 x.at0, .int .i64 x.n, .int .i64 x.id, .string x.name, .slice Dx x.data.length cx] 61) := ⟨_, rfl⟩
  rw [← hW2]
  obtain ⟨W3, hW3⟩ : ∃ W, W = W2.alloc (.cells NIL7 31) := ⟨_, rfl⟩
  rw [← hW3]
  obtain ⟨W4, hW4⟩ : ∃ W, W = W3.alloc (.cells NIL5 58) := ⟨_, rfl⟩
  rw [← hW4]
  have s1 : W1.heap.size = w.heap.size + 1 := by rw [hW1]; simp
  have s2 : W2.heap.size = w.heap.size + 2 := by rw [hW2]; simp [s1]
  have s3 : W3.heap.size = w.heap.size + 3 := by rw [hW3]; simp [s2]
  have k1 : Below w.heap.size w W1 := by rw [hW1]; exact (Below.refl _ _).alloc (Nat.le_refl _) _
  have k2 : Below W1.heap.size W1 W2 := by rw [hW2]; exact (Below.refl _ _).alloc (Nat.le_refl _) _
  have k3 : Below W2.heap.size W2 W3 := by rw [hW3]; exact (Below.refl _ _).alloc (Nat.le_refl _) _
  have k4 : Below W3.heap.size W3 W4 := by rw [hW4]; exact (Below.refl _ _).alloc (Nat.le_refl _) _
  have y2 : W1.heap[w.heap.size]? = some (.cells #[.int .i64 s.size, .slice a.A1 s.now.length a.c1, .slice a.A2 s.snaps.length a.c2, .int .i64 s.next, .int .i64 s.fsize, .slice a.A5 s.sp.length a.c5, .slice a.A6 s.data.length a.c6] 31 (0, 0)) := by rw [hW1]; exact bg w _
  have y3 : W2.heap[w.heap.size + 1]? = some (.cells #[.int .i64 x.what, .int .i64 x.at0, .int .i64 x.n, .int .i64 x.id, .string x.name, .slice Dx x.data.length cx] 61 (0, 0)) := by rw [hW2, ← s1]; exact bg W1 _
  have y4 : W3.heap[w.heap.size + 2]? = some (.cells NIL7 31 (0, 0)) := by rw [hW3, ← s2]; exact bg W2 _
  have y5 : W4.heap[w.heap.size + 3]? = some (.cells NIL5 58 (0, 0)) := by rw [hW4, ← s3]; exact bg W3 _
  have hb := ((k1.trans (k2.mono k1.size)).trans (k3.mono (k1.trans (k2.mono k1.size)).size)).trans (k4.mono ((k1.trans (k2.mono k1.size)).trans (k3.mono (k1.trans (k2.mono k1.size)).size)).size)
  exact ⟨rfl, aK (aK (aK y2 k2) k3) k4, aK (aK y3 k3) k4, aK y4 k4, y5, hb, hr.below hb⟩
def dd_T4 : Bool × List (List Nat × List Nat) := (true, [([], []), ([0], [0]), ([], []), ([2], [2]), ([], []), ([4], [4]), ([], []), ([1, 3, 5, 6, 3], [1, 3, 5, 6]), ([7, 7, 0, 1, 2, 3, 4, 5, 6, 7], [7])])
def dd_B4 : List Nat := [0, 1, 0, 4, 0, 16, 0, 127, 255]
theorem Ar : rtab .any (opsOf Tryz.f27 4) = dd_T4 := by kernel_rfl
theorem yu : cB dd_T4.2 dd_B4 = true := by kernel_rfl
def yN : Bool × List (List Nat × List Nat) := (true, [([], []), ([], []), ([0, 0], [0]), ([1, 2, 0, 1, 2], [1])])
def dd_B12 : List Nat := [0, 0, 1, 7]
theorem wJ : rtab .any (opsOf Tryz.f27 12) = yN := by kernel_rfl
theorem uV : cB yN.2 dd_B12 = true := by kernel_rfl
set_option maxHeartbeats 16000000 in
set_option maxRecDepth 100000 in
theorem Do_bad (s : St) (a : At4) (x : OpV) (Dx : Option Addr) (cx : Nat) (w : World) (hr : Reads w s a) (hn : s.snaps.length < 4398046511103) (hbad : dH s ≠ 0) :
    Calls Tryz.prog 27 #[.agg (aI s a), .agg (fK x Dx cx)] w fun e w' => e = .returned (.tuple #[.agg NIL7, .agg #[.int .i64 (dH s), .slice none 0 0, .int .i64 0, .slice none 0 0, .int .i64 0]]) ∧ Below w.heap.size w w' := by
  have hu31 := Tryz.underlying31
  have hu61 := Tryz.underlying61
  have hu58 := Tryz.underlying58
  obtain ⟨W4, hW4⟩ : ∃ W, W = ((((w.alloc (.cells #[.int .i64 s.size, .slice a.A1 s.now.length a.c1, .slice a.A2 s.snaps.length a.c2, .int .i64 s.next, .int .i64 s.fsize, .slice a.A5 s.sp.length a.c5, .slice a.A6 s.data.length a.c6] 31)).alloc (.cells #[.int .i64 x.what, .int .i64 x.at0, .int .i64 x.n, .int .i64 x.id, .string x.name, .slice Dx x.data.length cx] 61)).alloc (.cells NIL7 31)).alloc (.cells NIL5 58)) := ⟨_, rfl⟩
  obtain ⟨b, hbb⟩ : ∃ k, k = w.heap.size := ⟨_, rfl⟩
  have HB4 := aa.mk (show si w s a x Dx cx b W4 by rw [hW4, hbb]; exact oF w s a x Dx cx hr)
  have q0 := (ae HB4.out.x2 0).trans rfl
  have q1 := (ae HB4.out.x2 1).trans rfl
  have q2 := (ae HB4.out.x2 2).trans rfl
  have q3 := (ae HB4.out.x2 3).trans rfl
  have q4 := (ae HB4.out.x2 4).trans rfl
  have q5 := (ae HB4.out.x2 5).trans rfl
  have q6 := (ae HB4.out.x2 6).trans rfl
  rw [hW4, hbb] at q0 q1 q2 q3 q4 q5 q6
  have HCK := aa.mk (dD.calls s a (dH s) W4 HB4.out.hr (by unfold dD.f; rw [if_pos hn]))
  obtain ⟨r, hr9⟩ : ∃ r, r = dH s := ⟨_, rfl⟩
  rw [← hr9] at HCK hbad ⊢
  have hbn : (r != 0) = true := bne_iff_ne.mpr hbad
  clear hr hn hbad hr9
  unfold aI fK
  go_enter Tryz.func27, Tryz.ntmps27
  have hN7 : NIL7 = #[.int .i64 0, .slice none 0 0, .slice none 0 0, .int .i64 0, .int .i64 0, .slice none 0 0, .slice none 0 0] := rfl
  have hN5 : NIL5 = #[.int .i64 0, .slice none 0 0, .int .i64 0, .slice none 0 0, .int .i64 0] := rfl
  rw [hN7, hN5] at hW4 q0 q1 q2 q3 q4 q5 q6
  rw [hN7]
  go_wp2_with fail
  rw [← hW4, ← hbb]
  clear hW4 hbb q0 q1 q2 q3 q4 q5 q6
  refine HCK.out.mono ?_
  rintro e w5 ⟨rfl, hb⟩
  have HB5 := aa.mk (HB4.out.below hb)
  clear hb HB4 HCK
  go_wp2_with (refine gI (.store 31 (.tmp 4) (.tmp 15)) rfl ?_; refine gG ?_)
  refine ⟨?_⟩
  refine eD (P := Tryz.prog) rfl 31 (.tmp 4) (.tmp 15) rfl _ (b + 2) 0 rfl NIL7 rfl rfl 31 _ HB5.out.x4 (by kernel_rfl) (Nat.le_refl 7) (by simp [Value.oneCell', NIL7]) ?_
  rw [(show (NIL7.toList.take 0 ++ NIL7.toList ++ NIL7.toList.drop (0 + NIL7.toList.length)).toArray = NIL7 from rfl)]
  have hx5 := (setRow_other w5 (b + 2) (b + 3) NIL7 (by omega)).trans HB5.out.x5
  refine eD (P := Tryz.prog) rfl 58 (.tmp 5) (.tmp 17) rfl _ (b + 3) 0 rfl #[.int .i64 r, .slice none 0 0, .int .i64 0, .slice none 0 0, .int .i64 0] rfl rfl 58 _ hx5 (by kernel_rfl) (Nat.le_refl 5) (by simp [Value.oneCell']) ?_
  rw [(show (NIL5.toList.take 0 ++ (#[.int .i64 r, .slice none 0 0, .int .i64 0, .slice none 0 0, .int .i64 0] : Array Value).toList ++ NIL5.toList.drop (0 + (#[.int .i64 r, .slice none 0 0, .int .i64 0, .slice none 0 0, .int .i64 0] : Array Value).toList.length)).toArray = #[.int .i64 r, .slice none 0 0, .int .i64 0, .slice none 0 0, .int .i64 0] from rfl)]
  have y4 := (setRow_other (w5.setRow (b + 2) NIL7) (b + 3) (b + 2) #[.int .i64 r, .slice none 0 0, .int .i64 0, .slice none 0 0, .int .i64 0] (by omega)).trans (setRow_heap w5 (b + 2) _ NIL7 _ _ HB5.out.x4)
  have y5 := setRow_heap (w5.setRow (b + 2) NIL7) (b + 3) _ #[.int .i64 r, .slice none 0 0, .int .i64 0, .slice none 0 0, .int .i64 0] _ _ hx5
  have HB6 := aa.mk (aJ (aJ HB5.out.hb (g := b + 2) (by rw [HB5.out.e]; omega) NIL7) (g := b + 3) (by rw [HB5.out.e]; omega) #[.int .i64 r, .slice none 0 0, .int .i64 0, .slice none 0 0, .int .i64 0])
  have HY := aa.mk (And.intro y4 y5)
  clear y4 y5 hx5 HB5
  generalize (w5.setRow (b + 2) NIL7).setRow (b + 3) #[.int .i64 r, .slice none 0 0, .int .i64 0, .slice none 0 0, .int .i64 0] = w6 at HB6 HY ⊢
  go_wp2
  (try simp only [Exit.inBlock, Exit.then])
  refine bodyPost_ret (mY rfl _ _ (b + 2) (b + 3) 31 58 NIL7 #[.int .i64 r, .slice none 0 0, .int .i64 0, .slice none 0 0, .int .i64 0] (0, 0) (0, 0) _ _ rfl HY.out.1 Tryz.underlying31 rfl (by kernel_rfl) rfl HY.out.2 Tryz.underlying58 rfl (by kernel_rfl)) rfl ?_
  exact ⟨rfl, HB6.out⟩
set_option maxHeartbeats 16000000 in
set_option maxRecDepth 100000 in
theorem tV (s : St) (a : At4) (x : OpV) (Dx : Option Addr) (cx : Nat) (w : World) (hr : Reads w s a) (hn : s.snaps.length < 4398046511103) (hok : dH s = 0)
    (hmay : ∀ (AL : Option Addr) (cL : Nat) (W : World), Kd.C k173 W AL (fF s).length (fF s) → (fF s).length ≤ cL → Calls Tryz.prog 66 #[.int .i64 s.size, .slice AL (fF s).length cL, .int .i64 s.next, .agg #[.int .i64 x.what, .int .i64 x.at0, .int .i64 x.n, .int .i64 x.id, .string x.name, .slice Dx x.data.length cx]] W fun e w' => e = .returned (.int .i64 0) ∧ Below W.heap.size W w') (hsm : Small s)
    (s' : St) (rid : Int) (dt : List Int) (ls : List S173) (hdo : ∀ (w0 W : World) (b : Nat) (a : At4), Below w.heap.size w w0 → Sits w0 b s a W → Calls Tryz.prog 69 #[.pointer (some ⟨b, 0, none⟩), .agg #[.int .i64 x.what, .int .i64 x.at0, .int .i64 x.n, .int .i64 x.id, .string x.name, .slice Dx x.data.length cx]] W fun e w' => ∃ (a' : At4) (vD vL : Value), e = .returned (.tuple #[.agg #[.int .i64 0, vD, .int .i64 rid, vL, .int .i64 0], .bool true]) ∧ Sits w0 b s' a' w' ∧ Kd.R (Kd.int .u8) 5 w' w0.heap.size (fun _ => True) vD dt ∧ Kd.R k173 173 w' w0.heap.size (fun _ => True) vL ls) :
    Calls Tryz.prog 27 #[.agg (aI s a), .agg (fK x Dx cx)] w fun e w' => ∃ (a' : At4) (vD vL : Value), e = .returned (.tuple #[.agg (aI s' a'), .agg #[.int .i64 0, vD, .int .i64 rid, vL, .int .i64 s'.size]]) ∧ Owns w' w.heap.size (fun _ => True) s' a' ∧ Kd.R (Kd.int .u8) 5 w' w.heap.size (fun _ => True) vD dt ∧ Kd.R k173 173 w' w.heap.size (fun _ => True) vL ls ∧ Below w.heap.size w w' := by
  have hu31 := Tryz.underlying31
  have hu61 := Tryz.underlying61
  have hu58 := Tryz.underlying58
  obtain ⟨W4, hW4⟩ : ∃ W, W = ((((w.alloc (.cells #[.int .i64 s.size, .slice a.A1 s.now.length a.c1, .slice a.A2 s.snaps.length a.c2, .int .i64 s.next, .int .i64 s.fsize, .slice a.A5 s.sp.length a.c5, .slice a.A6 s.data.length a.c6] 31)).alloc (.cells #[.int .i64 x.what, .int .i64 x.at0, .int .i64 x.n, .int .i64 x.id, .string x.name, .slice Dx x.data.length cx] 61)).alloc (.cells NIL7 31)).alloc (.cells NIL5 58)) := ⟨_, rfl⟩
  obtain ⟨b, hbb⟩ : ∃ k, k = w.heap.size := ⟨_, rfl⟩
  have HB4 := aa.mk (show si w s a x Dx cx b W4 by rw [hW4, hbb]; exact oF w s a x Dx cx hr)
  have q0 := (ae HB4.out.x2 0).trans rfl
  have q1 := (ae HB4.out.x2 1).trans rfl
  have q2 := (ae HB4.out.x2 2).trans rfl
  have q3 := (ae HB4.out.x2 3).trans rfl
  have q4 := (ae HB4.out.x2 4).trans rfl
  have q5 := (ae HB4.out.x2 5).trans rfl
  have q6 := (ae HB4.out.x2 6).trans rfl
  rw [hW4, hbb] at q0 q1 q2 q3 q4 q5 q6
  have HCK := aa.mk (dD.calls s a (dH s) W4 HB4.out.hr (by unfold dD.f; rw [if_pos hn]))
  have HN := aa.mk hn
  have HSM := aa.mk hsm
  have HDO := aa.mk hdo
  have HMAY := aa.mk hmay
  rw [hok] at HCK
  clear hr hn hok hsm hdo hmay
  unfold aI fK
  go_enter Tryz.func27, Tryz.ntmps27
  have hN7 : NIL7 = #[.int .i64 0, .slice none 0 0, .slice none 0 0, .int .i64 0, .int .i64 0, .slice none 0 0, .slice none 0 0] := rfl
  have hN5 : NIL5 = #[.int .i64 0, .slice none 0 0, .int .i64 0, .slice none 0 0, .int .i64 0] := rfl
  rw [hN7, hN5] at hW4 q0 q1 q2 q3 q4 q5 q6
  go_wp2_with fail
  rw [← hW4, ← hbb]
  have HWB := aa.mk hbb
  clear hW4 hbb q0 q1 q2 q3 q4 q5 q6
  refine HCK.out.mono ?_
  rintro e w5 ⟨rfl, hb⟩
  have HB5 := aa.mk (HB4.out.below hb)
  clear hb HB4 HCK hN7 hN5
  go_wp2_with fail
  refine dG (n := 9) (S := fun w' => w'.cell? ⟨b, 0, none⟩ = some (.int .i64 s.size) ∧ w'.cell? ⟨b, 1, none⟩ = some (.slice a.A1 s.now.length a.c1) ∧ w'.cell? ⟨b, 2, none⟩ = some (.slice a.A2 s.snaps.length a.c2) ∧ w'.cell? ⟨b, 3, none⟩ = some (.int .i64 s.next) ∧ w'.cell? ⟨b, 4, none⟩ = some (.int .i64 s.fsize) ∧ w'.cell? ⟨b, 5, none⟩ = some (.slice a.A5 s.sp.length a.c5) ∧ w'.cell? ⟨b, 6, none⟩ = some (.slice a.A6 s.data.length a.c6) ∧ w'.cell? ⟨b + 1, 0, none⟩ = some (.int .i64 x.what) ∧ w'.cell? ⟨b + 1, 1, none⟩ = some (.int .i64 x.at0) ∧ w'.cell? ⟨b + 1, 2, none⟩ = some (.int .i64 x.n) ∧ w'.cell? ⟨b + 1, 3, none⟩ = some (.int .i64 x.id) ∧ w'.cell? ⟨b + 1, 4, none⟩ = some (.string x.name) ∧ w'.cell? ⟨b + 1, 5, none⟩ = some (.slice Dx x.data.length cx)) (ds := []) (lb 9 0) (by kernel_rfl) rfl (by kernel_rfl) ⟨(ae HB5.out.x2 0).trans rfl, (ae HB5.out.x2 1).trans rfl, (ae HB5.out.x2 2).trans rfl, (ae HB5.out.x2 3).trans rfl, (ae HB5.out.x2 4).trans rfl, (ae HB5.out.x2 5).trans rfl, (ae HB5.out.x2 6).trans rfl, (ae HB5.out.x3 0).trans rfl, (ae HB5.out.x3 1).trans rfl, (ae HB5.out.x3 2).trans rfl, (ae HB5.out.x3 3).trans rfl, (ae HB5.out.x3 4).trans rfl, (ae HB5.out.x3 5).trans rfl⟩ (fun hHeld => ?_)
  refine bG Ar yu (fun HT_ HW_ => ?_)
  have HB6 := aa.mk (HB5.out.below (aQ (Below.refl _ _)))
  clear HB5
  generalize w5.drew = w6 at hHeld HB6 ⊢
  refine pu_ 0 18 9 1 ?_
  refine tk_ 1 19 9 3 ?_
  refine tk_ 2 20 9 7 ?_
  refine pu_ 4 22 9 23 ?_
  refine tk_ 5 23 9 55 ?_
  refine tk_ 6 24 9 119 ?_
  refine on_ 3 21 9 127 (fun K hK => ?_)
  refine dO Tryz.func67 (by kernel_rfl) rfl #[.agg (aI s a)] (by rfl) rfl rfl (by (try simp only [List.map_toArray, List.map_cons, List.map_nil]); first | done | rfl) ?_
  refine (uD HB6.out.hr HN.out).mono ?_
  rintro e w7 ⟨AL, cL, rfl, hlL, hCL, hb⟩
  refine ⟨_, rfl, ?_⟩
  have HB7 := aa.mk (HB6.out.below hb)
  have HMY := aa.mk (HMAY.out AL cL w7 hCL hlL)
  refine hK.out _ _ ⟨(ae HB7.out.x2 0).trans rfl, (ae HB7.out.x2 1).trans rfl, (ae HB7.out.x2 2).trans rfl, (ae HB7.out.x2 3).trans rfl, (ae HB7.out.x2 4).trans rfl, (ae HB7.out.x2 5).trans rfl, (ae HB7.out.x2 6).trans rfl, (ae HB7.out.x3 0).trans rfl, (ae HB7.out.x3 1).trans rfl, (ae HB7.out.x3 2).trans rfl, (ae HB7.out.x3 3).trans rfl, (ae HB7.out.x3 4).trans rfl, (ae HB7.out.x3 5).trans rfl⟩ (fun hHeld => ?_)
  clear hK K hb HB6 hlL hCL
  refine nm_ 21 ?_
  refine on_ 7 25 9 255 (fun K hK => ?_)
  refine dO Tryz.func66 (by kernel_rfl) rfl #[.int .i64 s.size, .slice AL (fF s).length cL, .int .i64 s.next, .agg #[.int .i64 x.what, .int .i64 x.at0, .int .i64 x.n, .int .i64 x.id, .string x.name, .slice Dx x.data.length cx]] (by rfl) rfl rfl (by (try simp only [List.map_toArray, List.map_cons, List.map_nil]); first | done | rfl) ?_
  refine HMY.out.mono ?_
  rintro e w8 ⟨rfl, hb⟩
  refine ⟨_, rfl, ?_⟩
  have HB8 := aa.mk (HB7.out.below hb)
  refine hK.out _ _ ⟨(ae HB8.out.x2 0).trans rfl, (ae HB8.out.x2 1).trans rfl, (ae HB8.out.x2 2).trans rfl, (ae HB8.out.x2 3).trans rfl, (ae HB8.out.x2 4).trans rfl, (ae HB8.out.x2 5).trans rfl, (ae HB8.out.x2 6).trans rfl, (ae HB8.out.x3 0).trans rfl, (ae HB8.out.x3 1).trans rfl, (ae HB8.out.x3 2).trans rfl, (ae HB8.out.x3 3).trans rfl, (ae HB8.out.x3 4).trans rfl, (ae HB8.out.x3 5).trans rfl⟩ (fun hHeld => ?_)
  clear hK K hb HB7 HMY
  refine nm_ 25 ?_
  refine pu_ 8 7 9 511 ?_
  refine eQ (bU HT_.out (by kernel_rfl)) ?_
  clear HT_ HW_ hHeld
  have q0 := (ae HB8.out.x2 0).trans rfl
  have q1 := (ae HB8.out.x2 1).trans rfl
  have q2 := (ae HB8.out.x2 2).trans rfl
  have q3 := (ae HB8.out.x2 3).trans rfl
  have q4 := (ae HB8.out.x2 4).trans rfl
  have q5 := (ae HB8.out.x2 5).trans rfl
  have q6 := (ae HB8.out.x2 6).trans rfl
  have HCL := aa.mk (oI.calls s a w8 HB8.out.hr HSM.out)
  go_wp2_with fail
  refine HCL.out.mono ?_
  rintro e w9 ⟨a9, rfl, hO, hb⟩
  unfold aI
  have HB9 := aa.mk (HB8.out.below hb)
  obtain ⟨W10, hW10⟩ : ∃ W, W = w9.alloc (.cells (aI s a9) 31) := ⟨_, rfl⟩
  obtain ⟨b8, hb8⟩ : ∃ k, k = w9.heap.size := ⟨_, rfl⟩
  have hbl : Below w9.heap.size w9 W10 := by rw [hW10]; exact (Below.refl _ _).alloc (Nat.le_refl _) _
  have HSI := aa.mk (show Sits w8 b8 s a9 W10 from ⟨by rw [hW10, hb8]; exact bg w9 _, hb.trans (hbl.mono hb.size), by rw [hb8]; exact hb.size, by
    have h1 : Owns w9 w8.heap.size (fun k => k ≠ b8) s a9 := ⟨Kd.aX (Kd.bO hO.o1) fun k hk => by have := hk.2.2.1; omega, Kd.aX (Kd.bO hO.o2) fun k hk => by have := hk.2.2.1; omega, Kd.aX (Kd.bO hO.o5) fun k hk => by have := hk.2.2.1; omega, Kd.aX (Kd.bO hO.o6) fun k hk => by have := hk.2.2.1; omega⟩
    exact h1.below hbl⟩)
  have HB10 := aa.mk (HB9.out.below hbl)
  have HDC := aa.mk (HDO.out w8 W10 b8 a9 HB8.out.hb HSI.out)
  have HE8 := aa.mk (show b8 = w9.heap.size ∧ w8.heap.size ≤ b8 from ⟨hb8, by rw [hb8]; exact hb.size⟩)
  clear hO hb hbl HB9 HCL q0 q1 q2 q3 q4 q5 q6 HDO
  have p0 := (ae HB10.out.x3 0).trans rfl
  have p1 := (ae HB10.out.x3 1).trans rfl
  have p2 := (ae HB10.out.x3 2).trans rfl
  have p3 := (ae HB10.out.x3 3).trans rfl
  have p4 := (ae HB10.out.x3 4).trans rfl
  have p5 := (ae HB10.out.x3 5).trans rfl
  unfold aI at hW10
  rw [hW10] at p0 p1 p2 p3 p4 p5
  go_wp2_with fail
  rw [← hW10, ← hb8]
  clear hW10 hb8 p0 p1 p2 p3 p4 p5
  refine HDC.out.mono ?_
  rintro e w11 ⟨a', vD, vL, rfl, hS, hRD, hRL⟩
  obtain ⟨AD, cD, rfl⟩ := Kd.aZ hRD
  obtain ⟨AN, cN, rfl⟩ := Kd.aZ hRL
  have HB11 := aa.mk (HB8.out.below hS.hb)
  obtain ⟨w13, hw13⟩ : ∃ W, W = w11.alloc (.cells #[.int .i64 0, .slice AD dt.length cD, .int .i64 rid, .slice AN ls.length cN, .int .i64 s'.size] 58) := ⟨_, rfl⟩
  obtain ⟨b9, hb9⟩ : ∃ k, k = w11.heap.size := ⟨_, rfl⟩
  have hbl : Below w11.heap.size w11 w13 := by rw [hw13]; exact (Below.refl _ _).alloc (Nat.le_refl _) _
  have hbl0 : Below w11.heap.size w11 (w11.alloc (.cells #[.int .i64 0, .slice AD dt.length cD, .int .i64 rid, .slice AN ls.length cN, .int .i64 0] 58)) := (Below.refl _ _).alloc (Nat.le_refl _) _
  have HSI3 := aa.mk (hS.below hbl)
  have HRD3 := aa.mk (Kd.bA hRD hbl)
  have HRL3 := aa.mk (Kd.bA hRL hbl)
  have HB13 := aa.mk (HB11.out.below hbl)
  have HX10 := aa.mk (show w13.heap[b9]? = some (.cells #[.int .i64 0, .slice AD dt.length cD, .int .i64 rid, .slice AN ls.length cN, .int .i64 s'.size] 58 (0, 0)) by rw [hw13, hb9]; exact bg w11 _)
  have HE9 := aa.mk (show w8.heap.size ≤ b9 ∧ b9 ≠ b8 ∧ b + 3 < w8.heap.size from ⟨by rw [hb9]; exact hS.hb.size, by have := aA hS.hx; omega, aA HB8.out.x5⟩)
  have hx := (hS.below hbl0).hx
  unfold aI at hx
  have q0 := (ae hx 0).trans rfl
  clear hS hRD hRL HB11 HSI HB10 HDC hbl hbl0 hx
  go_wp2_with fail
  rw [← hw13, ← hb9]
  clear q0 hw13 hb9
  have hx := HSI3.out.hx
  unfold aI at hx
  refine dG (n := 4) (S := fun w' => w'.cell? ⟨b8, 0, none⟩ = some (.int .i64 s'.size) ∧ w'.cell? ⟨b8, 1, none⟩ = some (.slice a'.A1 s'.now.length a'.c1) ∧ w'.cell? ⟨b8, 2, none⟩ = some (.slice a'.A2 s'.snaps.length a'.c2) ∧ w'.cell? ⟨b8, 3, none⟩ = some (.int .i64 s'.next) ∧ w'.cell? ⟨b8, 4, none⟩ = some (.int .i64 s'.fsize) ∧ w'.cell? ⟨b8, 5, none⟩ = some (.slice a'.A5 s'.sp.length a'.c5) ∧ w'.cell? ⟨b8, 6, none⟩ = some (.slice a'.A6 s'.data.length a'.c6) ∧ w'.cell? ⟨b9, 0, none⟩ = some (.int .i64 0) ∧ w'.cell? ⟨b9, 1, none⟩ = some (.slice AD dt.length cD) ∧ w'.cell? ⟨b9, 2, none⟩ = some (.int .i64 rid) ∧ w'.cell? ⟨b9, 3, none⟩ = some (.slice AN ls.length cN) ∧ w'.cell? ⟨b9, 4, none⟩ = some (.int .i64 s'.size)) (ds := []) (lb 4 0) (by kernel_rfl) rfl (by kernel_rfl) ⟨(ae hx 0).trans rfl, (ae hx 1).trans rfl, (ae hx 2).trans rfl, (ae hx 3).trans rfl, (ae hx 4).trans rfl, (ae hx 5).trans rfl, (ae hx 6).trans rfl, (ae HX10.out 0).trans rfl, (ae HX10.out 1).trans rfl, (ae HX10.out 2).trans rfl, (ae HX10.out 3).trans rfl, (ae HX10.out 4).trans rfl⟩ (fun hHeld => ?_)
  refine bG wJ uV (fun HT_ HW_ => ?_)
  have HB14 := aa.mk (HB13.out.below (aQ (Below.refl _ _)))
  have HSI4 := aa.mk (HSI3.out.below (aQ (Below.refl _ _)))
  have HX11 := aa.mk (show w13.drew.heap[b9]? = _ from HX10.out)
  have HRD4 := aa.mk (Kd.bA HRD3.out (aQ (Below.refl _ _)))
  have HRL4 := aa.mk (Kd.bA HRL3.out (aQ (Below.refl _ _)))
  clear hx HB13 HSI3 HX10 HRD3 HRL3
  generalize w13.drew = w14 at hHeld HB14 HSI4 HX11 HRD4 HRL4 ⊢
  refine tk_ 0 51 4 1 ?_
  refine tk_ 1 52 4 3 ?_
  have HEX := aa.mk (show ∃ W, W = w14.setRow (b + 2) #[.int .i64 s'.size, .slice a'.A1 s'.now.length a'.c1, .slice a'.A2 s'.snaps.length a'.c2, .int .i64 s'.next, .int .i64 s'.fsize, .slice a'.A5 s'.sp.length a'.c5, .slice a'.A6 s'.data.length a'.c6] from ⟨_, rfl⟩)
  refine one_ (i := 2) (N := none) #[yT,yT,yT,yF] rfl rfl (fA HT_.out (by kernel_rfl)) (by decide) (fun K hK => ?_)
  refine iV (w1 := w14.setRow (b + 2) #[.int .i64 s'.size, .slice a'.A1 s'.now.length a'.c1, .slice a'.A2 s'.snaps.length a'.c2, .int .i64 s'.next, .int .i64 s'.fsize, .slice a'.A5 s'.sp.length a'.c5, .slice a'.A6 s'.data.length a'.c6]) (by rfl) rfl (fB 31 (.tmp 4) (.tmp 51) rfl _ (b + 2) 0 rfl #[.int .i64 s'.size, .slice a'.A1 s'.now.length a'.c1, .slice a'.A2 s'.snaps.length a'.c2, .int .i64 s'.next, .int .i64 s'.fsize, .slice a'.A5 s'.sp.length a'.c5, .slice a'.A6 s'.data.length a'.c6] rfl rfl 31 _ HB14.out.x4 (by kernel_rfl) (Nat.le_refl _) (by simp [Value.oneCell'])) ?_
  obtain ⟨w15, hwe⟩ := HEX.out
  rw [← hwe]
  have hfar : ∀ k, k ≠ b + 2 → w15.heap[k]? = w14.heap[k]? := fun k hk => by rw [hwe]; exact setRow_other w14 (b + 2) k _ hk
  have HNEW := aa.mk (show w15.heap[b + 2]? = some (.cells #[.int .i64 s'.size, .slice a'.A1 s'.now.length a'.c1, .slice a'.A2 s'.snaps.length a'.c2, .int .i64 s'.next, .int .i64 s'.fsize, .slice a'.A5 s'.sp.length a'.c5, .slice a'.A6 s'.data.length a'.c6] 31 (0, 0)) by rw [hwe]; exact setRow_heap w14 (b + 2) _ _ _ _ HB14.out.x4)
  have hbel : Below w.heap.size w w15 := by rw [hwe]; exact aJ HB14.out.hb (by rw [HB14.out.e]; omega) _
  have HBL15 := aa.mk hbel
  have HX12 := aa.mk ((hfar b9 (by have := HE9.out; omega)).trans HX11.out)
  have HX5 := aa.mk ((hfar (b + 3) (by omega)).trans HB14.out.x5)
  have hx := (hfar b8 (by have := HE8.out.2; have := HE9.out; omega)).trans HSI4.out.hx
  unfold aI at hx
  have HXS := aa.mk hx
  have HO15 := aa.mk ((HSI4.out.own.lL HB14.out.x4 (by decide) (by decide) (by decide) (by decide)).step (wf := w15) (fun k hk _ => hfar k hk.2))
  have HRD5 := aa.mk (Kd.bR (bS HRD4.out HB14.out.x4 (by decide)) (fun k hk _ => hfar k hk.2))
  have HRL5 := aa.mk (Kd.bR (bS HRL4.out HB14.out.x4 (by decide)) (fun k hk _ => hfar k hk.2))
  refine hK.out _ _ ⟨(ae hx 0).trans rfl, (ae hx 1).trans rfl, (ae hx 2).trans rfl, (ae hx 3).trans rfl, (ae hx 4).trans rfl, (ae hx 5).trans rfl, (ae hx 6).trans rfl, (ae HX12.out 0).trans rfl, (ae HX12.out 1).trans rfl, (ae HX12.out 2).trans rfl, (ae HX12.out 3).trans rfl, (ae HX12.out 4).trans rfl⟩ (fun hHeld => ?_)
  clear hK K hfar hwe HEX
  have HX4 := HNEW
  clear hbel hx HNEW HB14 HSI4 HX11 HRD4 HRL4
  have HEX := aa.mk (show ∃ W, W = w15.setRow (b + 3) #[.int .i64 0, .slice AD dt.length cD, .int .i64 rid, .slice AN ls.length cN, .int .i64 s'.size] from ⟨_, rfl⟩)
  refine one_ (i := 3) (N := none) #[yT,yT,yT,yT] rfl rfl (fA HT_.out (by kernel_rfl)) (by decide) (fun K hK => ?_)
  refine iV (w1 := w15.setRow (b + 3) #[.int .i64 0, .slice AD dt.length cD, .int .i64 rid, .slice AN ls.length cN, .int .i64 s'.size]) (by rfl) rfl (fB 58 (.tmp 5) (.tmp 52) rfl _ (b + 3) 0 rfl #[.int .i64 0, .slice AD dt.length cD, .int .i64 rid, .slice AN ls.length cN, .int .i64 s'.size] rfl rfl 58 _ HX5.out (by kernel_rfl) (Nat.le_refl _) (by simp [Value.oneCell'])) ?_
  obtain ⟨w16, hwe⟩ := HEX.out
  rw [← hwe]
  have hfar : ∀ k, k ≠ b + 3 → w16.heap[k]? = w15.heap[k]? := fun k hk => by rw [hwe]; exact setRow_other w15 (b + 3) k _ hk
  have HNEW := aa.mk (show w16.heap[b + 3]? = some (.cells #[.int .i64 0, .slice AD dt.length cD, .int .i64 rid, .slice AN ls.length cN, .int .i64 s'.size] 58 (0, 0)) by rw [hwe]; exact setRow_heap w15 (b + 3) _ _ _ _ HX5.out)
  have hbel : Below w.heap.size w w16 := by rw [hwe]; exact aJ HBL15.out (by rw [HWB.out]; omega) _
  have HBL16 := aa.mk hbel
  have HX13 := aa.mk ((hfar b9 (by have := HE9.out; omega)).trans HX12.out)
  have HX6 := aa.mk ((hfar (b + 2) (by omega)).trans HX4.out)
  have hx := (hfar b8 (by have := HE8.out.2; have := HE9.out; omega)).trans HXS.out
  have HO16 := aa.mk ((HO15.out.lL HX5.out (by decide) (by decide) (by decide) (by decide)).step (wf := w16) (fun k hk _ => hfar k hk.2))
  have HRD6 := aa.mk (Kd.bR (bS HRD5.out HX5.out (by decide)) (fun k hk _ => hfar k hk.2))
  have HRL6 := aa.mk (Kd.bR (bS HRL5.out HX5.out (by decide)) (fun k hk _ => hfar k hk.2))
  refine hK.out _ _ ⟨(ae hx 0).trans rfl, (ae hx 1).trans rfl, (ae hx 2).trans rfl, (ae hx 3).trans rfl, (ae hx 4).trans rfl, (ae hx 5).trans rfl, (ae hx 6).trans rfl, (ae HX13.out 0).trans rfl, (ae HX13.out 1).trans rfl, (ae HX13.out 2).trans rfl, (ae HX13.out 3).trans rfl, (ae HX13.out 4).trans rfl⟩ (fun hHeld => ?_)
  clear hK K hfar hwe HEX
  refine eQ (bU HT_.out (by kernel_rfl)) ?_
  clear HT_ HW_ hHeld hx hbel
  have HSZ := aa.mk (show w.heap.size ≤ w8.heap.size from HB8.out.hb.size)
  clear HX12 HX13 HXS HO15 HRD5 HRL5
  go_wp2
  (try simp only [Exit.inBlock, Exit.then])
  refine bodyPost_ret (mY rfl _ _ (b + 2) (b + 3) 31 58 #[.int .i64 s'.size, .slice a'.A1 s'.now.length a'.c1, .slice a'.A2 s'.snaps.length a'.c2, .int .i64 s'.next, .int .i64 s'.fsize, .slice a'.A5 s'.sp.length a'.c5, .slice a'.A6 s'.data.length a'.c6] #[.int .i64 0, .slice AD dt.length cD, .int .i64 rid, .slice AN ls.length cN, .int .i64 s'.size] (0, 0) (0, 0) _ _ rfl HX6.out Tryz.underlying31 rfl (by kernel_rfl) rfl HNEW.out Tryz.underlying58 rfl (by kernel_rfl)) rfl ?_
  have lo := HSZ.out
  have hO := HO16.out
  exact ⟨a', _, _, rfl, ⟨Kd.bH (Kd.aX hO.o1 fun _ _ => trivial) lo, Kd.bH (Kd.aX hO.o2 fun _ _ => trivial) lo, Kd.bH (Kd.aX hO.o5 fun _ _ => trivial) lo, Kd.bH (Kd.aX hO.o6 fun _ _ => trivial) lo⟩, Kd.bH (Kd.aX HRD6.out fun _ _ => trivial) lo, Kd.bH (Kd.aX HRL6.out fun _ _ => trivial) lo, HBL16.out⟩
theorem Owns.lt {w : World} {base : Nat} {ok : Nat → Prop} {s : St} {a : At4} (h : Owns w base ok s a) : Owns w base (fun k => ok k ∧ base ≤ k ∧ k < w.heap.size) s a :=
  ⟨Kd.aX (Kd.bO h.o1) fun _ hk => ⟨hk.1, hk.2.1, hk.2.2.1⟩, Kd.aX (Kd.bO h.o2) fun _ hk => ⟨hk.1, hk.2.1, hk.2.2.1⟩, Kd.aX (Kd.bO h.o5) fun _ hk => ⟨hk.1, hk.2.1, hk.2.2.1⟩, Kd.aX (Kd.bO h.o6) fun _ hk => ⟨hk.1, hk.2.1, hk.2.2.1⟩⟩
theorem Owns.low {w : World} {base base' : Nat} {ok : Nat → Prop} {s : St} {a : At4} (h : Owns w base ok s a) (hb : base' ≤ base) : Owns w base' ok s a := ⟨Kd.bH h.o1 hb, Kd.bH h.o2 hb, Kd.bH h.o5 hb, Kd.bH h.o6 hb⟩
theorem nQ {w W : World} {s : St} {a : At4} (hO : Owns W w.heap.size (fun _ => True) s a) (hb : Below w.heap.size w W) : Sits w W.heap.size s a ((W.alloc (.cells NIL7 31)).setRow W.heap.size (aI s a)) := by
  have hbl := (Below.refl W.heap.size W).alloc (Nat.le_refl _) (.cells NIL7 31)
  have hx1 := bg W (.cells NIL7 31)
  exact ⟨setRow_heap _ _ _ _ _ _ hx1, aJ (hb.trans (hbl.mono hb.size)) (g := W.heap.size) hb.size _, hb.size, ((hO.lt.mono (ok' := fun k => k ≠ W.heap.size) fun k hk => by omega).below hbl).step fun k hk _ => setRow_other _ _ k _ hk⟩
theorem nZ {w0 w : World} {b1 b : Nat} {s s' : St} {a a' : At4} {t : TypeId} {cur cells : Array Value} (h : Sits w0 b1 s a w) (hO : Owns w w0.heap.size (fun k => k ≠ b1) s' a') (hb : w.heap[b]? = some (.cells cur t (0, 0)))
    (h1 : ∀ q, q ∈ 151 :: k151.E → q ≠ t) (h2 : ∀ q, q ∈ 69 :: k69.E → q ≠ t) (h5 : ∀ q, q ∈ 93 :: k93.E → q ≠ t) (h6 : ∀ q, q ∈ 37 :: kLB.E → q ≠ t) (hne : b ≠ b1) (hbb : w0.heap.size ≤ b) :
    Sits w0 b1 s' a' ((w.setRow b1 (aI s' a')).setRow b cells) ∧ ((w.setRow b1 (aI s' a')).setRow b cells).heap[b]? = some (.cells cells t (0, 0)) := by
  have e1 := setRow_heap w b1 _ (aI s' a') _ _ h.hx
  have e2 := (setRow_other w b1 b (aI s' a') hne).trans hb
  refine ⟨⟨(setRow_other _ b b1 cells (Ne.symm hne)).trans e1, aJ (aJ h.hb h.hbb _) hbb _, h.hbb, ?_⟩, setRow_heap _ b _ cells _ _ e2⟩
  exact (((hO.lL hb h1 h2 h5 h6).step (wf := w.setRow b1 (aI s' a')) (fun k hk _ => setRow_other w b1 k _ hk.1)).step (wf := (w.setRow b1 (aI s' a')).setRow b cells) (fun k hk _ => setRow_other _ b k _ hk.2)).mono fun _ hk => hk.1
theorem n_ {w : World} {b1 b k : Nat} {c1 c : Array Value} {o : Option Obj} (h : w.heap[k]? = o) (h1 : k ≠ b1) (h2 : k ≠ b) : ((w.setRow b1 c1).setRow b c).heap[k]? = o := (setRow_other _ b k c h2).trans ((setRow_other w b1 k c1 h1).trans h)
def NIL3 : Array Value := #[.slice none 0 0, .slice none 0 0, .int .i64 0]
set_option maxHeartbeats 2000000 in
set_option maxRecDepth 100000 in
theorem idx_by (cl : Nat) (lb : Array Value) (p : Int → Bool) (eg : ∀ args w, (callFunc cl args).run Tryz.prog w = .ok (.enter cl args) w)
    (A0 : Option Addr) (c0 : Nat) (l0 : List Int) (w : World) (hr0 : Kd.C (Kd.int .u8) w A0 l0.length l0)
    (hp : ∀ (W : World) (x : Int), Below w.heap.size w W → Calls Tryz.prog cl (#[.int .u8 x] ++ lb) W fun e w' => e = .returned (.bool (p x)) ∧ Below w.heap.size w w') :
    Calls Tryz.prog 181 #[.slice A0 l0.length c0, .func (.func cl) #[] lb] w fun e w' => e = .returned (.int .i64 (idxF p l0)) ∧ Below w.heap.size w w' := by
  have HR0 := aa.mk hr0
  have HP := aa.mk hp
  clear hr0 hp
  go_enter Tryz.func181, Tryz.ntmps181
  go_wp2
  go_loopg [5, 8] l0.length (fun gk _ v8 W => ∃ i : Int, v8 = .int .i64 i ∧ aa (0 ≤ i ∧ i + gk = l0.length) ∧ aa (Below w.heap.size w W) ∧ aa (∀ j (hj : j < l0.length), (j : Int) < i → p l0[j] = false))
  case atStart => exact ⟨0, rfl, ⟨Int.le_refl _, by simp⟩, ⟨Below.refl _ w⟩, ⟨fun j hj h => by omega⟩⟩
  case round =>
    obtain ⟨i, rfl, HI, HB, HA⟩ := hrel
    cases gk with
    | zero =>
      have hi : i = l0.length := by have := HI.out.2; omega
      have hd : decide (i < (l0.length : Int)) = false := decide_eq_false (by omega)
      have hr : idxF p l0 = -1 := jd (fun x hx => by
        obtain ⟨j, hj, rfl⟩ := List.mem_iff_getElem.1 hx
        exact HA.out j hj (by omega))
      have HRES := aa.mk hr
      clear hi hr
      go_wp2
      go_ret
      exact ⟨by rw [HRES.out]; rfl, HB.out⟩
    | succ k1 =>
      have hp0 : 0 ≤ i := HI.out.1
      have hp1 : i < (l0.length : Int) := by have := HI.out.2; omega
      have hd : decide (i < (l0.length : Int)) = true := decide_eq_true hp1
      have hC : Kd.C (Kd.int .u8) wr A0 l0.length l0 := Kd.aN HR0.out HB.out
      have hlen64 : (l0.length : Int) ≤ 9223372036854775807 := by have := HR0.out.2.1; omega
      obtain ⟨ad, e3, g0⟩ := Kd.uX hC i hp0 hp1
      cases e3
      obtain ⟨x, hx⟩ : ∃ x, x = rd l0 i := ⟨_, rfl⟩
      rw [← hx] at g0
      have hxi : x = l0[i.toNat]'(by omega) := by rw [hx]; unfold rd; rw [List.getD_eq_getElem?_getD, List.getElem?_eq_getElem (by omega)]; rfl
      have hcall := HP.out wr x HB.out
      have HX := aa.mk hxi
      have HPI := aa.mk (And.intro hp0 hp1)
      clear hx hC hxi
      cases hq : p x with
      | true =>
        rw [hq] at hcall
        have hres : idxF p l0 = i := by
          have h1 := jV (p := p) (l := l0) (k := i.toNat) (by omega) (by rw [← HX.out]; exact hq) (fun j hj => HA.out j (by omega) (by omega))
          rw [h1]; omega
        have HRES := aa.mk hres
        clear hres
        go_wp2_with (go_at_fn cl; refine hcall.mono ?_; rintro e w' ⟨rfl, hb'⟩)
        go_ret
        exact ⟨by rw [HRES.out]; rfl, hb'⟩
      | false =>
        rw [hq] at hcall
        have HQ := aa.mk hq
        go_wp2_with (go_at_fn cl; refine hcall.mono ?_; rintro e w' ⟨rfl, hb'⟩)
        go_roundg k1
        case measure => omega
        case rel =>
          refine ⟨i + 1, by first | rfl | (simp; done) | go_num, ⟨by have := HPI.out.1; omega, by have := HI.out.2; omega⟩, ⟨hb'⟩, ⟨fun j hj h => ?_⟩⟩
          by_cases e : (j : Int) = i
          · have e2 : j = i.toNat := by omega
            subst e2
            rw [← HX.out]; exact HQ.out
          · exact HA.out j hj (by omega)
set_option maxHeartbeats 1000000 in
set_option maxRecDepth 100000 in
theorem has_by (cl : Nat) (lb : Array Value) (p : Int → Bool) (eg : ∀ args w, (callFunc cl args).run Tryz.prog w = .ok (.enter cl args) w)
    (A0 : Option Addr) (c0 : Nat) (l0 : List Int) (w : World) (hr0 : Kd.C (Kd.int .u8) w A0 l0.length l0)
    (hp : ∀ (W : World) (x : Int), Below w.heap.size w W → Calls Tryz.prog cl (#[.int .u8 x] ++ lb) W fun e w' => e = .returned (.bool (p x)) ∧ Below w.heap.size w w') :
    Calls Tryz.prog 159 #[.slice A0 l0.length c0, .func (.func cl) #[] lb] w fun e w' => e = .returned (.bool (l0.any p)) ∧ Below w.heap.size w w' := by
  have hidx := idx_by cl lb p eg A0 c0 l0 w hr0 hp
  have hres : decide (0 ≤ idxF p l0) = l0.any p := by
    unfold idxF
    cases h : l0.findIdx? p with
    | some i =>
      have := List.findIdx?_eq_some_iff_getElem.1 h
      obtain ⟨h1, h2, _⟩ := this
      rw [List.any_eq_true.2 ⟨_, List.getElem_mem h1, h2⟩]
      exact decide_eq_true (by show (0 : Int) ≤ (i : Int); omega)
    | none =>
      have := List.findIdx?_eq_none_iff.1 h
      rw [List.any_eq_false.2 (fun x hx => by rw [this x hx]; decide)]
      rfl
  have HI := aa.mk hidx
  have HRES := aa.mk hres
  clear hidx hres hp hr0
  go_enter Tryz.func159, Tryz.ntmps159
  go_wp2_with fail
  refine HI.out.mono ?_
  rintro e w1 ⟨rfl, hb⟩
  have HB := aa.mk hb
  clear hb
  go_wp2
  go_ret
  exact ⟨by rw [← HRES.out]; rfl, HB.out⟩
def wo (l : List Int) : Bool := !l.any fun x => x != 0
def kC.f (l0 : List Int) : Option Bool := some (wo l0)
set_option maxHeartbeats 1000000 in
set_option maxRecDepth 100000 in
theorem Ba (x : Int) (w : World) : Calls Tryz.prog 160 (#[.int .u8 x] ++ #[]) w fun e w' => e = .returned (.bool (x != 0)) ∧ Below w.heap.size w w' := by
  go_enter Tryz.func160, Tryz.ntmps160
  go_wp2
  go_ret
  exact ⟨rfl, Below.refl _ _⟩
set_option maxHeartbeats 1000000 in
set_option maxRecDepth 100000 in
theorem kC.calls (A0 : Option Addr) (c0 : Nat) (l0 : List Int) (r : Bool) (w : World) (hr0 : Kd.C (Kd.int .u8) w A0 l0.length l0) (h : kC.f l0 = some r) :
    Calls Tryz.prog 134 #[.slice A0 l0.length c0] w fun e w' => e = .returned (.bool r) ∧ Below w.heap.size w w' := by
  obtain rfl := Option.some.inj h
  have HH := aa.mk (has_by 160 #[] (fun x => x != 0) (fun args w => iY Tryz.func160 (by kernel_rfl) rfl args w) A0 c0 l0 w hr0 (fun W x hB => Calls.mono (Ba x W) fun e w' h => ⟨h.1, az hB h.2⟩))
  clear h hr0
  go_enter Tryz.func134, Tryz.ntmps134
  go_wp2_with fail
  refine HH.out.mono ?_
  rintro e w1 ⟨rfl, hb⟩
  have HB := aa.mk hb
  obtain ⟨r, hr⟩ : ∃ r, r = l0.any fun x => x != 0 := ⟨_, rfl⟩
  have HZ := aa.mk (show wo l0 = !r by rw [hr]; rfl)
  rw [← hr]
  clear hb hr HH
  go_wp2
  go_ret
  exact ⟨by rw [HZ.out]; rfl, HB.out⟩
theorem zU {w : World} {base : Nat} {ok : Nat → Prop} {g c : Nat} {xs : List (List Int)} (h : Kd.R kLB 37 w base ok (.slice (some ⟨g, 0, none⟩) xs.length c) xs) (j : Nat) (hj : j < xs.length) (x' : List Int) (N : Option Addr) (c' : Nat)
    (hR : Kd.R (Kd.int .u8) 5 w base (fun k => ok k ∧ k ≠ g) (.slice N x'.length c') x') : Kd.R kLB 37 (w.setCell ⟨g, j, none⟩ (.slice N x'.length c')) base ok (.slice (some ⟨g, 0, none⟩) (xs.set j x').length c) (xs.set j x') := by
  obtain ⟨ce, hcl, hM, hcc, _⟩ := Kd.kU h [] (j : Int) (by omega) (by omega)
  have hseg := Kd.Aw h (j : Int) (by omega) (by omega) (seg := [.slice N x'.length c']) (j := 0) hcl hcc (by show 0 + 1 ≤ kLB.sz; exact Nat.le_refl 1) (x' := x') (okp := fun k => ok k ∧ k ≠ g) ⟨_, (by
    have : kLB.sz = 1 := rfl
    rw [this] at hcl
    match ce, hcl with
    | [_], _ => rfl), hR⟩ (fun k hk => hk)
  have hs := hseg.1
  rw [setCells_one] at hs
  have ej : (j : Int).toNat * kLB.sz + 0 = j := by show j * 1 + 0 = j; omega
  rw [ej] at hs
  rw [List.length_set]
  exact hs
def dkI (d : List (List Int)) (v p : Int) : Nat → Int → List (List Int) → Option (List (List Int))
  | 0, _, out => some out
  | k + 1, i, out => if 0 ≤ wrap64 (p + i) ∧ wrap64 (p + i) < d.length then
      (if wo (d.getD (wrap64 (p + i)).toNat []) = true then dkI d v p k (i + 1) out
       else if 0 ≤ wrap64 (v + i) ∧ wrap64 (v + i) < out.length ∧ (d.getD (wrap64 (p + i)).toNat []).length ≤ 64 then dkI d v p k (i + 1) (out.set (wrap64 (v + i)).toNat (d.getD (wrap64 (p + i)).toNat [])) else none)
    else none
def dkO (d : List (List Int)) : List S151 → List (List Int) → Option (List (List Int))
  | [], out => some out
  | x :: t, out => if x.f2 ≤ 65536 then (dkI d x.f0 x.f1 x.f2.toNat 0 out).bind (dkO d t) else none
def uI (d : List (List Int)) (l : List S151) (size : Int) : Option (List (List Int)) := if 0 ≤ size ∧ size ≤ 65536 then dkO d l (List.replicate size.toNat []) else none
def yB : Bool × List (List Nat × List Nat) := (true, [([], []), ([], []), ([1], [1]), ([], []), ([2, 3], [2, 3]), ([], []), ([5], [5]), ([0, 4, 0, 1, 2, 3, 4, 5, 6], [0, 4]), ([7, 6, 6, 0, 1, 2, 3, 4, 5, 6], [6, 7])])
def dk_B10 : List Nat := [0, 0, 2, 0, 14, 0, 32, 127, 255]
theorem xM : rtab .any (opsOf Tryz.f91 10) = yB := by kernel_rfl
theorem uo : cB yB.2 dk_B10 = true := by kernel_rfl
set_option maxHeartbeats 16000000 in
set_option maxRecDepth 100000 in
theorem yU (s : St) (a : At4) (A : Option Addr) (c : Nat) (l : List S151) (size : Int) (res : List (List Int)) (w : World) (hr : Reads w s a) (hl : Kd.C k151 w A l.length l) (hc : l.length ≤ c) (h : uI s.data l size = some res) :
    Calls Tryz.prog 91 #[.agg (aI s a), .slice A l.length c, .int .i64 size] w fun e w' => ∃ v : Value, e = .returned v ∧ Kd.R kLB 37 w' w.heap.size (fun _ => True) v res ∧ Below w.heap.size w w' := by
  have hu31 := Tryz.underlying31
  have hu151 := Tryz.underlying151
  unfold uI at h
  split at h
  case isFalse => cases h
  rename_i hn
  have HG0 := aa.mk h
  have HN := aa.mk hn
  obtain ⟨b, hb⟩ : ∃ k, k = w.heap.size := ⟨_, rfl⟩
  obtain ⟨W1, hW1⟩ : ∃ W, W = w.alloc (.cells #[.int .i64 s.size, .slice a.A1 s.now.length a.c1, .slice a.A2 s.snaps.length a.c2, .int .i64 s.next, .int .i64 s.fsize, .slice a.A5 s.sp.length a.c5, .slice a.A6 s.data.length a.c6] 31) := ⟨_, rfl⟩
  have HX1 := aa.mk (show W1.heap[b]? = some (.cells #[.int .i64 s.size, .slice a.A1 s.now.length a.c1, .slice a.A2 s.snaps.length a.c2, .int .i64 s.next, .int .i64 s.fsize, .slice a.A5 s.sp.length a.c5, .slice a.A6 s.data.length a.c6] 31 (0, 0)) by rw [hW1, hb]; exact bg w _)
  have HB1 := aa.mk (show Below w.heap.size w W1 by rw [hW1]; exact (Below.refl _ _).alloc (Nat.le_refl _) _)
  have HL := aa.mk (And.intro hl hc)
  have HR0 := aa.mk hr
  have HBB := aa.mk hb
  clear h hn hr hl hc
  unfold aI
  go_enter Tryz.func91, Tryz.ntmps91
  go_wp2_with (refine gI (.makeSlice 29 (.tmp 12) (.tmp 12)) rfl ?_; refine gG ?_)
  rw [← hW1, ← hb]
  refine ⟨?_⟩
  refine Kd.rf kLB (w0 := w) w.heap.size 37 rfl (N := 13) rfl 29 (.tmp 12) (.tmp 12) rfl size rfl rfl Tryz.underlying29 (.slice none 0 0) 24 t_ rfl (by decide) (by decide) [] (ok := fun k => k ≠ b) (okp := fun k => k ≠ b) (Kd.M_row (Kd.bW _ _ _ _ _)) (fun _ h => h) (by have := aA HX1.out; omega) (by have := HN.out; omega) (by have := HN.out; omega) HB1.out HB1.out.size ?_
  intro v w2 hR hB hg hat
  clear hW1 hb
  obtain ⟨g, hvg, hgs⟩ := hat
  obtain ⟨g0, cap, hv⟩ : ∃ g0 cap, v = .slice (some ⟨g0, 0, none⟩) (List.replicate size.toNat ([] : List Int)).length cap := by
    rcases hR.2 with ⟨inner, ⟨_, hown⟩, _⟩
    rcases hown with ⟨h2, _⟩ | ⟨g', cap, cur, h2, _⟩
    · rw [h2] at hvg; cases hvg
    · exact ⟨g', cap, h2⟩
  have hgg : g0 = g := by rw [hv] at hvg; exact Option.some.inj hvg
  subst hgg
  subst hv
  clear hvg
  obtain ⟨g, hg0⟩ : ∃ k, k = g0 := ⟨_, rfl⟩
  rw [← hg0] at hR hgs ⊢
  clear hg0
  obtain ⟨out0, ho0⟩ : ∃ o, o = List.replicate size.toNat ([] : List Int) := ⟨_, rfl⟩
  rw [← ho0] at hR HG0 ⊢
  obtain ⟨L, hLn⟩ : ∃ k, k = out0.length := ⟨_, rfl⟩
  have HO := aa.mk (And.intro hR hLn.symm)
  have HX2 := aa.mk ((hg.block b (aA HX1.out) (by simp)).trans HX1.out)
  have HB2 := aa.mk hB
  have HGB := aa.mk (show g ≠ b ∧ w.heap.size ≤ g from ⟨by have := aA HX1.out; omega, Nat.le_trans HB1.out.size hgs⟩)
  clear hLn hR hB hg hgs HX1 HB1 ho0
  have hpl : l.length ≤ 9223372036854775807 := HL.out.1.2.1
  rw [HO.out.2]
  go_wp2_with fail
  go_loopg [16] l.length (fun gk v16 W => ∃ (i : Nat) (out : List (List Int)), v16 = .int .i64 (i : Int) ∧ aa (i + gk = l.length) ∧ aa (dkO s.data (l.drop i) out = some res) ∧ aa (Kd.R kLB 37 W w.heap.size (fun k => k ≠ b) (.slice (some ⟨g, 0, none⟩) out.length cap) out ∧ out.length = L) ∧ aa (W.heap[b]? = some (.cells #[.int .i64 s.size, .slice a.A1 s.now.length a.c1, .slice a.A2 s.snaps.length a.c2, .int .i64 s.next, .int .i64 s.fsize, .slice a.A5 s.sp.length a.c5, .slice a.A6 s.data.length a.c6] 31 (0, 0))) ∧ aa (Below w.heap.size w W))
  case atStart => exact ⟨0, _, rfl, ⟨by simp⟩, ⟨HG0.out⟩, HO, HX2, HB2⟩
  case round =>
    obtain ⟨i, out, rfl, HI, HG, HO, HX, HB⟩ := hrel
    cases gk with
    | zero =>
      have hi : i = l.length := by have := HI.out; omega
      subst hi
      have hd : decide ((l.length : Int) < (l.length : Int)) = false := decide_eq_false (by omega)
      have hg := HG.out
      rw [List.drop_length, dkO] at hg
      obtain rfl := Option.some.inj hg
      clear hg
      go_wp2_with fail
      go_ret
      have hR := HO.out.1
      rw [HO.out.2] at hR
      exact ⟨_, rfl, Kd.aX hR (fun _ _ => trivial), HB.out⟩
    | succ k1 =>
      have hj2 : i < l.length := by have := HI.out; omega
      have hj1 : (i : Int) < (l.length : Int) := by omega
      have hj0 : (0 : Int) ≤ (i : Int) := by omega
      have hd : decide ((i : Int) < (l.length : Int)) = true := decide_eq_true hj1
      have hd2 : decide (i < l.length) = true := decide_eq_true hj2
      obtain ⟨ad, e3, g0, g1, g2⟩ := dS (Kd.aN HL.out.1 HB.out) (i : Int) hj0 hj1
      obtain ⟨x, hx⟩ : ∃ x, x = ax l (i : Int) := ⟨_, rfl⟩
      rw [← hx] at g0 g1 g2
      simp only [Int.toNat_natCast] at g0 g1 g2
      have hst : l.drop i = x :: l.drop (i + 1) := by
        have h5 : x = l[i] := by rw [hx]; unfold ax; rw [Int.toNat_natCast, List.getD_eq_getElem?_getD, List.getElem?_eq_getElem hj2]; rfl
        rw [h5, List.getElem_cons_drop]
      have hg := HG.out
      rw [hst, dkO] at hg
      split at hg
      case isFalse => cases hg
      rename_i hf2
      have HF2 := aa.mk hf2
      obtain ⟨out1, hin, hout⟩ := Option.bind_eq_some_iff.1 hg
      have HIN := aa.mk hin
      have HOUT := aa.mk hout
      subst e3
      obtain ⟨bx, hbx⟩ : ∃ k, k = wr.heap.size := ⟨_, rfl⟩
      obtain ⟨W4, hW4⟩ : ∃ W, W = wr.alloc (.cells #[.int .i64 x.f0, .int .i64 x.f1, .int .i64 x.f2] 151) := ⟨_, rfl⟩
      have hb4 : Below wr.heap.size wr W4 := by rw [hW4]; exact (Below.refl _ _).alloc (Nat.le_refl _) _
      have hxx : W4.heap[bx]? = some (.cells #[.int .i64 x.f0, .int .i64 x.f1, .int .i64 x.f2] 151 (0, 0)) := by rw [hW4, hbx]; exact bg wr _
      have hlt : g < wr.heap.size := Kd.R_lt HO.out.1 g rfl
      have HXX := aa.mk hxx
      have HGX := aa.mk (show bx ≠ g ∧ w.heap.size ≤ bx from ⟨by omega, by rw [hbx]; exact HB.out.size⟩)
      have HL4 := aa.mk (And.intro (Kd.bA HO.out.1 hb4) HO.out.2)
      have HX4 := aa.mk ((hb4.block b (aA HX.out)).trans HX.out)
      have HB4 := aa.mk (HB.out.trans (hb4.mono HB.out.size))
      have y2 := (ae hxx 2).trans rfl
      rw [hW4, hbx] at y2
      have HST := aa.mk hj2
      clear hf2 hx hst hg hin hout hb4 hxx hlt HO HX HB HG
      go_wp2_with fail
      rw [← hW4, ← hbx]
      clear hW4 hbx g0 g1 g2 y2 hj0 hd hd2 hj1 hj2
      go_loopg [22] x.f2.toNat (fun gk v22 W => ∃ (j : Nat) (out : List (List Int)), v22 = .int .i64 (j : Int) ∧ aa (j + gk = x.f2.toNat) ∧ aa (dkI s.data x.f0 x.f1 gk (j : Int) out = some out1) ∧ aa (Kd.R kLB 37 W w.heap.size (fun k => k ≠ b) (.slice (some ⟨g, 0, none⟩) out.length cap) out ∧ out.length = L) ∧ aa (W.heap[b]? = some (.cells #[.int .i64 s.size, .slice a.A1 s.now.length a.c1, .slice a.A2 s.snaps.length a.c2, .int .i64 s.next, .int .i64 s.fsize, .slice a.A5 s.sp.length a.c5, .slice a.A6 s.data.length a.c6] 31 (0, 0)) ∧ W.heap[bx]? = some (.cells #[.int .i64 x.f0, .int .i64 x.f1, .int .i64 x.f2] 151 (0, 0))) ∧ aa (Below w.heap.size w W))
      case atStart => exact ⟨0, _, rfl, ⟨by simp⟩, HIN, HL4, ⟨HX4.out, HXX.out⟩, HB4⟩
      case round =>
        obtain ⟨j, out, rfl, HJ, HG, HO, HX, HB⟩ := hrel
        cases gk with
        | zero =>
          have hj : decide ((j : Int) < x.f2) = false := decide_eq_false (by have := HJ.out; omega)
          have hg := HG.out
          rw [dkI] at hg
          obtain rfl := Option.some.inj hg
          have hi3 : (i : Int) < 9223372036854775807 := by have := HST.out; have := HL.out.1.2.1; omega
          clear hg
          go_wp2_with fail
          go_roundg k1
          case measure => omega
          case rel => exact ⟨i + 1, _, by first | rfl | (simp; done) | go_num, ⟨by have := HI.out; omega⟩, HOUT, HO, ⟨HX.out.1⟩, HB⟩
        | succ j1 =>
          have hd : decide ((j : Int) < x.f2) = true := decide_eq_true (by have := HJ.out; omega)
          have z1 := (ae HX.out.2 1).trans rfl
          have hjw : wrap64 ((j : Int) + 1) = ((j + 1 : Nat) : Int) := by rw [w64 (by have := HJ.out; have := HF2.out; omega)]; omega
          have HJW := aa.mk hjw
          clear hjw
          have hg := HG.out
          rw [dkI] at hg
          split at hg
          case isFalse => cases hg
          rename_i hc5
          obtain ⟨k, hk⟩ := Int.eq_ofNat_of_zero_le hc5.1
          rw [hk] at hc5 hg
          simp only [Int.toNat_natCast] at hc5 hg
          obtain ⟨y, hy⟩ : ∃ l, l = s.data.getD k [] := ⟨_, rfl⟩
          rw [← hy] at hg
          have hr6 := (HR0.out.below HB.out).h6
          have hkl : k < s.data.length := by have := hc5.2; omega
          obtain ⟨adD, A0, c0, hA6, hcell, hl0, hC0⟩ := lF hr6 (k : Int) (by omega) (by omega)
          rw [Int.toNat_natCast] at hcell hl0 hC0
          rw [← hy] at hcell hl0 hC0
          have HC0 := aa.mk (And.intro hC0 hl0)
          have hkl1 : (k : Int) < (s.data.length : Int) := by omega
          have hkl0 : (0 : Int) ≤ (k : Int) := by omega
          have hx6 : wr.cell? ⟨b, 6, none⟩ = some (.slice (some adD) s.data.length a.c6) := by rw [← hA6]; exact (ae HX.out.1 6).trans rfl
          have HG2 := aa.mk hg
          have HZ := aa.mk (kC.calls A0 c0 y (wo y) wr hC0 rfl)
          clear hg hc5 hy hr6 hA6 hl0 hC0 HG
          go_wp2_with fail
          clear hx6 hcell z1 hkl0 hkl1 hkl hk hd
          refine HZ.out.mono ?_
          rintro e w5 ⟨rfl, hb5⟩
          have HX5 := aa.mk (show w5.heap[b]? = _ ∧ w5.heap[bx]? = _ from ⟨(hb5.block _ (aA HX.out.1)).trans HX.out.1, (hb5.block _ (aA HX.out.2)).trans HX.out.2⟩)
          have HO5 := aa.mk (And.intro (Kd.bA HO.out.1 hb5) HO.out.2)
          have HB5 := aa.mk (HB.out.trans (hb5.mono HB.out.size))
          have HC5 := aa.mk (And.intro (Kd.aN HC0.out.1 hb5) HC0.out.2)
          clear HZ hb5 HX HO HB HC0
          have hg := HG2.out
          clear HG2
          cases hz : wo y with
          | true =>
            rw [hz, if_pos rfl] at hg
            have HG2 := aa.mk hg
            clear hg
            go_wp2_with fail
            go_roundg j1
            case measure => omega
            case rel => exact ⟨j + 1, out, by first | rfl | (simp; done) | (rw [HJW.out]), ⟨by have := HJ.out; omega⟩, ⟨by have := HG2.out; rwa [Int.natCast_add, Int.natCast_one]⟩, HO5, HX5, HB5⟩
          | false =>
          rw [hz, if_neg (by decide)] at hg
          split at hg
          case isFalse => cases hg
          rename_i hc6
          obtain ⟨q, hq⟩ := Int.eq_ofNat_of_zero_le hc6.1
          rw [hq] at hc6 hg
          simp only [Int.toNat_natCast] at hc6 hg
          have HQ := aa.mk (And.intro hq (And.intro hc6.2.1 hc6.2.2))
          have HG2 := aa.mk hg
          clear hg hc6 hq
          go_wp2_with fail
          refine dG (n := 9) (S := fun w' => w'.cell? ⟨bx, 0, none⟩ = some (.int .i64 x.f0) ∧ w'.cell? ⟨bx, 1, none⟩ = some (.int .i64 x.f1)) (ds := [8]) (lb 9 0) (by kernel_rfl) rfl (by kernel_rfl) ⟨(ae HX5.out.2 0).trans rfl, (ae HX5.out.2 1).trans rfl⟩ (fun hHeld => ?_)
          refine bG xM uo (fun HT_ HW_ => ?_)
          have hb5 := aQ (Below.refl w5.heap.size w5)
          have HX6 := aa.mk (show w5.drew.heap[b]? = _ ∧ w5.drew.heap[bx]? = _ from HX5.out)
          have HO6 := aa.mk (And.intro (Kd.bA HO5.out.1 hb5) HO5.out.2)
          have HB6 := aa.mk (HB5.out.trans (hb5.mono HB5.out.size))
          have HC6 := aa.mk (And.intro (Kd.aN HC5.out.1 hb5) HC5.out.2)
          clear hb5 HX5 HO5 HB5 HC5 hz
          generalize w5.drew = w6 at hHeld HX6 HO6 HB6 HC6 ⊢
          refine pu_ 0 36 9 1 ?_
          refine pu_ 1 37 9 3 ?_
          refine tk_ 2 38 9 7 ?_
          refine pu_ 3 39 9 15 ?_
          refine pu_ 4 40 9 31 ?_
          rw [HQ.out.1]
          refine pu_ 5 41 9 63 ?_
          refine on_ 6 42 9 127 (fun K hK => ?_)
          refine dO Tryz.func117 (by kernel_rfl) rfl #[.slice A0 y.length c0] (by rfl) rfl rfl (by (try simp only [List.map_toArray, List.map_cons, List.map_nil]); first | done | rfl) ?_
          refine (gQ.calls A0 c0 y y w6 HC6.out.1 HC6.out.2 (by unfold gQ.f; rw [if_pos (by have := HQ.out.2.2; omega)])).mono ?_
          rintro e w7 ⟨v, rfl, hR, hb⟩
          obtain ⟨N, m, rfl⟩ := Kd.aZ hR
          refine ⟨_, rfl, ?_⟩
          refine hK.out _ _ ⟨aM hb hHeld.1, aM hb hHeld.2⟩ (fun hHeld => ?_)
          have hlt : g < w6.heap.size := Kd.R_lt HO6.out.1 g rfl
          have HX7 := aa.mk (show w7.heap[b]? = _ ∧ w7.heap[bx]? = _ from ⟨(hb.block _ (aA HX6.out.1)).trans HX6.out.1, (hb.block _ (aA HX6.out.2)).trans HX6.out.2⟩)
          have HO7 := aa.mk (And.intro (Kd.bA HO6.out.1 hb) HO6.out.2)
          have HB7 := aa.mk (HB6.out.trans (hb.mono HB6.out.size))
          have HN7 := aa.mk (show Kd.R (Kd.int .u8) 5 w7 w.heap.size (fun k => k ≠ b ∧ k ≠ g) (.slice N y.length m) y from Kd.bH (Kd.aX (Kd.bO hR) (fun k hk => ⟨by have := hk.2.1; have := aA HX6.out.1; omega, by have := hk.2.1; omega⟩)) HB6.out.size)
          clear hK K hR hb hlt HX6 HO6 HB6 HC6
          refine nm_ 42 ?_
          have hqL : q < L := by have := HQ.out.2.1; have := HO7.out.2; omega
          have hql1 : (q : Int) < (L : Int) := by omega
          have hql0 : (0 : Int) ≤ (q : Int) := by omega
          refine pu_ 7 43 9 255 ?_
          obtain ⟨ce, hcl, _, hcc, hfz⟩ := Kd.kU HO7.out.1 [] (q : Int) (by omega) (by have := HO7.out.2; omega)
          have ej : (q : Int).toNat * kLB.sz + 0 = q := by show q * 1 + 0 = q; omega
          have hc0 : ∃ u, w7.cell? ⟨g, q, none⟩ = some u := by
            match ce, hcl with
            | [u], _ => exact ⟨u, by have := hcc 0 u rfl; rwa [ej] at this⟩
          obtain ⟨u, hu⟩ := hc0
          have hf0 := hfz 0
          rw [ej] at hf0
          refine jr (i := 8) (N := none) #[yT,yT,yT,yT,yT,yT,yT,yT,yT] rfl rfl (fA HT_.out (by kernel_rfl)) (by decide) (fun K hK => ?_)
          refine iV (w1 := w7.setCell ⟨g, q, none⟩ (.slice N y.length m)) (by rfl) rfl ?_ ?_
          · go_simp
          refine hK.out _ _ ?_
          clear hK K hHeld hcl hcc hfz hu hf0 ej hql0 hql1
          have hset := zU HO7.out.1 q (by have := HO7.out.2; omega) y N m HN7.out
          have hfar : ∀ k, k ≠ g → (w7.setCell ⟨g, q, none⟩ (.slice N y.length m)).heap[k]? = w7.heap[k]? := fun k hk => Below.heap_setCell w7 ⟨g, q, none⟩ _ k hk
          have HO8 := aa.mk (And.intro hset (show (out.set q y).length = L by rw [List.length_set]; exact HO7.out.2))
          have HX8 := aa.mk (show (w7.setCell ⟨g, q, none⟩ (.slice N y.length m)).heap[b]? = _ ∧ (w7.setCell ⟨g, q, none⟩ (.slice N y.length m)).heap[bx]? = _ from ⟨(hfar b (Ne.symm HGB.out.1)).trans HX7.out.1, (hfar bx HGX.out.1).trans HX7.out.2⟩)
          have HB8 := aa.mk (HB7.out.setCell (p := ⟨g, q, none⟩) HGB.out.2 (.slice N y.length m))
          clear hset hfar HX7 HO7 HB7 HN7 hqL
          refine eQ (bU HT_.out (by kernel_rfl)) ?_
          clear HT_ HW_
          generalize w7.setCell ⟨g, q, none⟩ (.slice N y.length m) = w8 at HX8 HO8 HB8 ⊢
          go_wp2_with fail
          go_roundg j1
          case measure => omega
          case rel => exact ⟨j + 1, _, by first | rfl | (simp; done) | (rw [HJW.out]), ⟨by have := HJ.out; omega⟩, ⟨by have := HG2.out; rwa [Int.natCast_add, Int.natCast_one]⟩, HO8, HX8, HB8⟩
def mdL (d : List (List Int)) : List S69 → List S163 → Option (List S163)
  | [], out => some out
  | x :: t, out => (uI d x.f3 x.f2).bind fun o => mdL d t (out ++ [⟨x.f0, x.f1, o⟩])
def pX (s : St) : Option (List (List Int) × List S163) := (uI s.data s.now s.size).bind fun o => (mdL s.data s.snaps []).map fun l => (o, l)
def md_T4 : Bool × List (List Nat × List Nat) := (true, [([], []), ([], []), ([1], [1]), ([], []), ([3], [3]), ([0, 2, 4], [0, 2, 4]), ([], []), ([6], [6]), ([5, 7], [5, 7]), ([], []), ([9, 8, 5, 0, 1, 2, 3, 4, 5, 6, 7, 8, 9], [8, 9])])
def md_B4 : List Nat := [0, 0, 2, 0, 8, 31, 0, 64, 255, 0, 1023]
theorem AR : rtab .any (opsOf Tryz.f42 4) = md_T4 := by kernel_rfl
theorem wB : cB md_T4.2 md_B4 = true := by kernel_rfl
def md_T8 : Bool × List (List Nat × List Nat) := (true, [([], []), ([0], [0]), ([], []), ([2], [2]), ([], []), ([4], [4]), ([], []), ([], []), ([7], [7]), ([], []), ([9], [9]), ([6, 8, 10], [6, 8, 10]), ([3, 5, 11], [3, 5, 11]), ([12], [12]), ([1, 13, 11], [1, 13]), ([0, 1, 2, 3, 4, 5, 6, 7, 8, 9, 10, 11, 12, 13, 14], []), ([15, 14, 14, 0, 1, 2, 3, 4, 5, 6, 7, 8, 9, 10, 11, 12, 13, 14], [14, 15])])
def md_B8 : List Nat := [0, 1, 0, 4, 0, 16, 0, 0, 128, 0, 512, 1984, 4092, 8188, 16383, 32767, 65535]
theorem zQ : rtab .any (opsOf Tryz.f42 8) = md_T8 := by kernel_rfl
theorem xe : cB md_T8.2 md_B8 = true := by kernel_rfl
structure MdW (w0 : World) (b1 b2 b5 : Nat) (s : St) (a : At4) (m0 : List (List Int)) (D : Option Addr) (cD : Nat) (out : List S163) (A : Option Addr) (c : Nat) (W : World) : Prop where
  x1 : W.heap[b1]? = some (.cells #[.int .i64 s.size, .slice a.A1 s.now.length a.c1, .slice a.A2 s.snaps.length a.c2, .int .i64 s.next, .int .i64 s.fsize, .slice a.A5 s.sp.length a.c5, .slice a.A6 s.data.length a.c6] 31 (0, 0))
  x2 : W.heap[b2]? = some (.cells NIL3 98 (0, 0))
  x5 : W.heap[b5]? = some (.cells #[.slice D m0.length cD, .slice A out.length c, .int .i64 s.next] 98 (0, 0))
  rd : Kd.R kLB 37 W w0.heap.size (fun _ => True) (.slice D m0.length cD) m0
  ro : Kd.R k163 163 W w0.heap.size (fun _ => True) (.slice A out.length c) out
  hb : Below w0.heap.size w0 W
theorem MdW.below {w0 W W1 : World} {b1 b2 b5 : Nat} {s : St} {a : At4} {m0 : List (List Int)} {D : Option Addr} {cD : Nat} {out : List S163} {A : Option Addr} {c : Nat} (h : MdW w0 b1 b2 b5 s a m0 D cD out A c W) (hb : Below W.heap.size W W1) : MdW w0 b1 b2 b5 s a m0 D cD out A c W1 :=
  ⟨(hb.block _ (aA h.x1)).trans h.x1, (hb.block _ (aA h.x2)).trans h.x2, (hb.block _ (aA h.x5)).trans h.x5, Kd.bA h.rd hb, Kd.bA h.ro hb, h.hb.trans (hb.mono h.hb.size)⟩
theorem MdW.grow {w0 W W1 : World} {b1 b2 b5 : Nat} {s : St} {a : At4} {m0 : List (List Int)} {D : Option Addr} {cD : Nat} {out out' : List S163} {A A' : Option Addr} {c c' : Nat} (h : MdW w0 b1 b2 b5 s a m0 D cD out A c W) (he : w0.heap.size ≤ b5) (hn1 : b1 ≠ b5) (hn2 : b2 ≠ b5)
    (hR : Kd.R k163 163 W1 w0.heap.size (fun _ => True) (.slice A' out'.length c') out') (hB : Below w0.heap.size w0 W1) (hg : W.grownBy W1 (Value.slice A out.length c).ownBlock) :
    W1.heap[b1]? = some (.cells #[.int .i64 s.size, .slice a.A1 s.now.length a.c1, .slice a.A2 s.snaps.length a.c2, .int .i64 s.next, .int .i64 s.fsize, .slice a.A5 s.sp.length a.c5, .slice a.A6 s.data.length a.c6] 31 (0, 0)) ∧ W1.heap[b5]? = some (.cells #[.slice D m0.length cD, .slice A out.length c, .int .i64 s.next] 98 (0, 0)) ∧ MdW w0 b1 b2 b5 s a m0 D cD out' A' c' (W1.setCell ⟨b5, 1, none⟩ (.slice A' out'.length c')) := by
  have f : ∀ (k t : Nat) (cs : Array Value) (fr : Nat × Nat), W.heap[k]? = some (.cells cs t fr) → (∀ q, q ∈ 163 :: k163.E → q ≠ t) → W1.heap[k]? = some (.cells cs t fr) := fun k t cs fr hk ht => (hg.block k (aA hk) (fun e => (bS h.ro hk ht).1 k e.symm |>.2 rfl)).trans hk
  have e1 := f _ _ _ _ h.x1 (by decide)
  have e2 := f _ _ _ _ h.x2 (by decide)
  have e5 := f _ _ _ _ h.x5 (by decide)
  have r := Kd.aX (ok' := fun _ => True) (Kd.jM (Kd.dV h.rd h.ro (by decide)) hg (fun k hk => hk.2)) (fun k hk => trivial)
  have hf : ∀ k, k ≠ b5 → k < W1.heap.size → (W1.setCell ⟨b5, 1, none⟩ (.slice A' out'.length c')).heap[k]? = W1.heap[k]? := fun k hk _ => Below.heap_setCell W1 ⟨b5, 1, none⟩ _ k hk
  exact ⟨e1, e5, (hf b1 hn1 (aA e1)).trans e1, (hf b2 hn2 (aA e2)).trans e2, aW e5 1 _ rfl, Kd.aX (Kd.bR (bS r e5 (by decide)) (fun k hk hl => hf k hk.2 hl)) (fun _ _ => trivial), Kd.aX (Kd.bR (bS hR e5 (by decide)) (fun k hk hl => hf k hk.2 hl)) (fun _ _ => trivial), hB.setCell (p := ⟨b5, 1, none⟩) he _⟩
set_option maxHeartbeats 16000000 in
set_option maxRecDepth 100000 in
theorem Ay (s : St) (a : At4) (m0 : List (List Int)) (ms : List S163) (w : World) (hr : Reads w s a) (hn : s.snaps.length < 2513169434916) (hck : dH s = 0) (hm : pX s = some (m0, ms)) :
    Calls Tryz.prog 42 #[.agg (aI s a)] w fun e w' => ∃ D cD A c, e = .returned (.tuple #[.agg #[.slice D m0.length cD, .slice A ms.length c, .int .i64 s.next], .int .i64 0]) ∧ Kd.R kLB 37 w' w.heap.size (fun _ => True) (.slice D m0.length cD) m0 ∧ Kd.R k163 163 w' w.heap.size (fun _ => True) (.slice A ms.length c) ms ∧ Below w.heap.size w w' := by
  have hu31 := Tryz.underlying31
  have hu98 := Tryz.underlying98
  have hu69 := Tryz.underlying69
  have hu163 := Tryz.underlying163
  obtain ⟨o0, ho0, hms⟩ := Option.bind_eq_some_iff.1 hm
  obtain ⟨o1, ho1, hms⟩ := Option.map_eq_some_iff.1 hms
  injection hms with h1 h2
  subst h1 h2
  have HDK := aa.mk ho0
  have HMD := aa.mk ho1
  clear hm ho0 ho1
  obtain ⟨W1, hW1⟩ : ∃ W, W = w.alloc (.cells #[.int .i64 s.size, .slice a.A1 s.now.length a.c1, .slice a.A2 s.snaps.length a.c2, .int .i64 s.next, .int .i64 s.fsize, .slice a.A5 s.sp.length a.c5, .slice a.A6 s.data.length a.c6] 31) := ⟨_, rfl⟩
  obtain ⟨W2, hW2⟩ : ∃ W, W = W1.alloc (.cells NIL3 98) := ⟨_, rfl⟩
  have hb1 : Below w.heap.size w W1 := by rw [hW1]; exact (Below.refl _ _).alloc (Nat.le_refl _) _
  have hb2 : Below W1.heap.size W1 W2 := by rw [hW2]; exact (Below.refl _ _).alloc (Nat.le_refl _) _
  obtain ⟨b1, hb1e⟩ : ∃ k, k = w.heap.size := ⟨_, rfl⟩
  have hx1 := (show W1.heap[b1]? = some (.cells #[.int .i64 s.size, .slice a.A1 s.now.length a.c1, .slice a.A2 s.snaps.length a.c2, .int .i64 s.next, .int .i64 s.fsize, .slice a.A5 s.sp.length a.c5, .slice a.A6 s.data.length a.c6] 31 (0, 0)) by rw [hW1, hb1e]; exact bg w _)
  have hx := (hb2.block _ (aA hx1)).trans hx1
  obtain ⟨b2, hb2e⟩ : ∃ k, k = w.heap.size + 1 := ⟨_, rfl⟩
  have HX1 := aa.mk hx
  have HX2 := aa.mk (show W2.heap[b2]? = some (.cells NIL3 98 (0, 0)) by rw [hW2, hb2e, (show w.heap.size + 1 = W1.heap.size by rw [hW1]; simp)]; exact bg W1 _)
  have HB1 := aa.mk (hb1.trans (hb2.mono hb1.size))
  have HE := aa.mk (show w.heap.size ≤ b2 ∧ w.heap.size ≤ b1 ∧ b1 ≠ b2 by omega)
  have HRD := aa.mk hr
  have HN := aa.mk hn
  have HCK := aa.mk (dD.calls s a (dH s) W2 (hr.below HB1.out) (by unfold dD.f; rw [if_pos (by omega)]))
  rw [hck] at HCK
  have q0 := (ae hx 0).trans rfl
  have q1 := (ae hx 1).trans rfl
  have q2 := (ae hx 2).trans rfl
  have q3 := (ae hx 3).trans rfl
  have q4 := (ae hx 4).trans rfl
  have q5 := (ae hx 5).trans rfl
  have q6 := (ae hx 6).trans rfl
  have hN3 : NIL3 = #[.slice none 0 0, .slice none 0 0, .int .i64 0] := rfl
  rw [hN3] at hW2
  rw [hW2, hW1, hb1e] at q0 q1 q2 q3 q4 q5 q6
  rw [hW1] at hW2
  clear hr hn hck hx hx1 hb1 hb2
  unfold aI
  go_enter Tryz.func42, Tryz.ntmps42
  go_wp2_with fail
  rw [← hW2, ← hb2e, ← hb1e]
  clear hW2 hW1 q0 q1 q2 q3 q4 q5 q6 hb2e hb1e
  refine HCK.out.mono ?_
  rintro e w2 ⟨rfl, hb⟩
  have HB2 := aa.mk (HB1.out.trans (hb.mono HB1.out.size))
  have HX2' := aa.mk ((hb.block _ (aA HX2.out)).trans HX2.out)
  have HX1' := aa.mk ((hb.block _ (aA HX1.out)).trans HX1.out)
  clear hb HCK HB1 HX2 HX1
  go_wp2_with fail
  have hx := HX1'.out
  refine dG (n := 11) (S := fun w' => w'.cell? ⟨b1, 0, none⟩ = some (.int .i64 s.size) ∧ w'.cell? ⟨b1, 1, none⟩ = some (.slice a.A1 s.now.length a.c1) ∧ w'.cell? ⟨b1, 2, none⟩ = some (.slice a.A2 s.snaps.length a.c2) ∧ w'.cell? ⟨b1, 3, none⟩ = some (.int .i64 s.next) ∧ w'.cell? ⟨b1, 4, none⟩ = some (.int .i64 s.fsize) ∧ w'.cell? ⟨b1, 5, none⟩ = some (.slice a.A5 s.sp.length a.c5) ∧ w'.cell? ⟨b1, 6, none⟩ = some (.slice a.A6 s.data.length a.c6)) (ds := [10]) (lb 11 0) (by kernel_rfl) rfl (by kernel_rfl) ⟨(ae hx 0).trans rfl, (ae hx 1).trans rfl, (ae hx 2).trans rfl, (ae hx 3).trans rfl, (ae hx 4).trans rfl, (ae hx 5).trans rfl, (ae hx 6).trans rfl⟩ (fun hHeld => ?_)
  refine bG AR wB (fun HT_ HW_ => ?_)
  have HX1 := aa.mk (show w2.drew.heap[b1]? = _ from HX1'.out)
  have HX2 := aa.mk (show w2.drew.heap[b2]? = _ from HX2'.out)
  have HB := aa.mk (HB2.out.trans ((aQ (Below.refl w2.heap.size w2)).mono HB2.out.size))
  clear hx HX1' HX2' HB2
  generalize w2.drew = w3 at hHeld HX1 HX2 HB ⊢
  refine tk_ 0 14 11 1 ?_
  refine pu_ 1 15 11 3 ?_
  refine tk_ 2 16 11 7 ?_
  refine pu_ 3 17 11 15 ?_
  refine tk_ 4 18 11 31 ?_
  refine pu_ 6 20 11 95 ?_
  refine tk_ 7 21 11 223 ?_
  refine rA 9 5 98 #[.slice none 0 0, .slice none 0 0, .int .i64 0] 735 hHeld ?_
  clear hHeld
  refine gy HT_.out 5 9 255 767 Tryz.func91 #[.agg (aI s a), .slice a.A1 s.now.length a.c1, .int .i64 s.size] (Nat.le_refl _) (fun _ _ hb h => ⟨aM hb h.1, aM hb h.2.1, aM hb h.2.2.1, aM hb h.2.2.2.1, aM hb h.2.2.2.2.1, aM hb h.2.2.2.2.2.1, aM hb h.2.2.2.2.2.2⟩) (fun w' hb => ?_)
  have hr' := HRD.out.below (HB.out.trans (hb.mono HB.out.size))
  refine (yU s a a.A1 a.c1 s.now s.size o0 w' hr' hr'.h1 hr'.l1 HDK.out).mono ?_
  rintro e w4 ⟨v, rfl, hR, hb'⟩
  obtain ⟨D, cD, rfl⟩ := Kd.aZ hR
  refine ⟨_, rfl, hb', ?_⟩
  have HBW := aa.mk (hb.trans (hb'.mono hb.size))
  have HD := aa.mk (Kd.bH hR (Nat.le_trans HB.out.size hb.size))
  clear hR hb hb' hr'
  refine jg ?_
  refine iM HT_.out 8 511 1023 ?_
  refine nL HT_.out 9 HBW.out.size (fun _ _ hb h => ⟨aM hb h.1, aM hb h.2.1, aM hb h.2.2.1, aM hb h.2.2.2.1, aM hb h.2.2.2.2.1, aM hb h.2.2.2.2.2.1, aM hb h.2.2.2.2.2.2⟩) (fun b5 w5 hb hSw hbox hBb => ?_)
  have hbW := HBW.out.trans (hb.mono HBW.out.size)
  have HX1' := aa.mk ((hbW.block _ (aA HX1.out)).trans HX1.out)
  have HX2' := aa.mk ((hbW.block _ (aA HX2.out)).trans HX2.out)
  have HD' := aa.mk (Kd.bA HD.out hb)
  have HB' := aa.mk (HB.out.trans (hbW.mono HB.out.size))
  have HE5 := aa.mk (show w.heap.size ≤ b5 ∧ b1 ≠ b5 ∧ b2 ≠ b5 from ⟨Nat.le_trans HB.out.size hBb, by have := aA HX1.out; omega, by have := aA HX2.out; omega⟩)
  refine rP ?_
  refine fE HT_.out 10 b5 2047 #[.slice D o0.length cD, .slice none 0 0, .int .i64 s.next] hbox ?_
  refine l7 HT_.out ?_
  have HM := aa.mk (show MdW w b1 b2 b5 s a o0 D cD [] none 0 (w5.setRow b5 #[.slice D o0.length cD, .slice none 0 0, .int .i64 s.next]) from
    ⟨(setRow_other w5 b5 b1 _ HE5.out.2.1).trans HX1'.out, (setRow_other w5 b5 b2 _ HE5.out.2.2).trans HX2'.out, setRow_heap w5 b5 _ _ _ _ hbox, Kd.aX (Kd.bR (bS HD'.out hbox (by decide)) (fun k hk _ => setRow_other _ b5 k _ hk.2)) (fun _ _ => trivial), Kd.bW _ _ _ _ _, aJ HB'.out (g := b5) HE5.out.1 _⟩)
  clear HX1 HX2 HX1' HX2' HD HD' HB HB' hbox hSw hb hbW hBb HBW HT_ HW_
  generalize w5.setRow b5 #[.slice D o0.length cD, .slice none 0 0, .int .i64 s.next] = w6 at HM ⊢
  have hx1 := HM.out.x1
  have q2 := (ae hx1 2).trans rfl
  clear hx1
  have hpl : s.snaps.length ≤ 9223372036854775807 := by have := HN.out; omega
  go_wp2_with fail
  go_loopg [26] s.snaps.length (fun gk v26 W => ∃ (i : Nat) (out : List S163) (A : Option Addr) (c : Nat), v26 = .int .i64 (i : Int) ∧ aa (i + gk = s.snaps.length ∧ out.length = i) ∧ aa (mdL s.data (s.snaps.drop i) out = some o1) ∧ aa (MdW w b1 b2 b5 s a o0 D cD out A c W))
  case atStart => exact ⟨0, [], none, 0, rfl, ⟨by simp, rfl⟩, HMD, HM⟩
  case round =>
    obtain ⟨i, out, A, c, rfl, HI, HG, HM⟩ := hrel
    cases gk with
    | zero =>
      have hi : i = s.snaps.length := by have := HI.out; omega
      subst hi
      have hd : decide ((s.snaps.length : Int) < (s.snaps.length : Int)) = false := decide_eq_false (by omega)
      have hg := HG.out
      rw [List.drop_length, mdL] at hg
      obtain rfl := Option.some.inj hg
      clear hg
      have hx := HM.out.x5
      have q0 := (ae hx 0).trans rfl
      have q1 := (ae hx 1).trans rfl
      have q2 := (ae hx 2).trans rfl
      clear hx
      go_wp2_with (refine gI (.store 98 (.tmp 2) (.tmp 47)) rfl ?_; refine gG ?_)
      refine ⟨?_⟩
      refine bF b2 #[.slice D o0.length cD, .slice A out.length c, .int .i64 s.next] HM.out.x2 ?_
      have hx4 := setRow_heap wr b2 _ #[.slice D o0.length cD, .slice A out.length c, .int .i64 s.next] _ _ HM.out.x2
      have HB4 := aa.mk (aJ HM.out.hb (g := b2) HE.out.1 #[.slice D o0.length cD, .slice A out.length c, .int .i64 s.next])
      have HD := aa.mk (Kd.aX (Kd.bR (bS HM.out.rd HM.out.x2 (by decide)) (w1 := wr.setRow b2 #[.slice D o0.length cD, .slice A out.length c, .int .i64 s.next]) (fun k hk _ => setRow_other _ b2 k _ hk.2)) (fun _ _ => trivial))
      have HO := aa.mk (Kd.aX (Kd.bR (bS HM.out.ro HM.out.x2 (by decide)) (w1 := wr.setRow b2 #[.slice D o0.length cD, .slice A out.length c, .int .i64 s.next]) (fun k hk _ => setRow_other _ b2 k _ hk.2)) (fun _ _ => trivial))
      clear q0 q1 q2 HM hd
      generalize wr.setRow b2 #[.slice D o0.length cD, .slice A out.length c, .int .i64 s.next] = w7 at hx4 HB4 HD HO ⊢
      go_wp2
      (try simp only [Exit.inBlock, Exit.then])
      refine bodyPost_ret (bJ rfl _ _ b2 98 _ (0, 0) _ rfl hx4 Tryz.underlying98 rfl (by kernel_rfl)) rfl ?_
      exact ⟨D, cD, A, c, rfl, HD.out, HO.out, HB4.out⟩
    | succ k1 =>
      have hj2 : i < s.snaps.length := by have := HI.out; omega
      have hj1 : (i : Int) < (s.snaps.length : Int) := by omega
      have hj0 : (0 : Int) ≤ (i : Int) := by omega
      have hd : decide ((i : Int) < (s.snaps.length : Int)) = true := decide_eq_true hj1
      have hd2 : decide (i < s.snaps.length) = true := decide_eq_true hj2
      have hr' := HRD.out.below HM.out.hb
      obtain ⟨ad, A3, c3, eA, g0, g1, g2, g3, l3, h3⟩ := oG hr'.h2 (i : Int) hj0 hj1
      obtain ⟨x, hx⟩ : ∃ x, x = a_ s.snaps (i : Int) := ⟨_, rfl⟩
      rw [← hx] at g0 g1 g2 g3 l3 h3
      simp only [Int.toNat_natCast] at g0 g1 g2 g3
      have hst : s.snaps.drop i = x :: s.snaps.drop (i + 1) := by
        have h5 : x = s.snaps[i] := by rw [hx]; unfold a_; rw [Int.toNat_natCast, List.getD_eq_getElem?_getD, List.getElem?_eq_getElem hj2]; rfl
        rw [h5, List.getElem_cons_drop]
      have hg := HG.out
      rw [hst, mdL] at hg
      obtain ⟨oi, hoi, hg⟩ := Option.bind_eq_some_iff.1 hg
      have HOI := aa.mk hoi
      have HG2 := aa.mk hg
      have H3 := aa.mk (And.intro l3 h3)
      have HAD := aa.mk eA
      have hx1 := HM.out.x1
      have p2 : wr.cell? ⟨b1, 2, none⟩ = some (.slice (some ad) s.snaps.length a.c2) := by rw [← eA]; exact (ae hx1 2).trans rfl
      obtain ⟨bx, hbx⟩ : ∃ k, k = wr.heap.size := ⟨_, rfl⟩
      obtain ⟨W4, hW4⟩ : ∃ W, W = wr.alloc (.cells #[.int .i64 x.f0, .string x.f1, .int .i64 x.f2, .slice A3 x.f3.length c3] 69) := ⟨_, rfl⟩
      have hb4 : Below wr.heap.size wr W4 := by rw [hW4]; exact (Below.refl _ _).alloc (Nat.le_refl _) _
      have HXX := aa.mk (show W4.heap[bx]? = some (.cells #[.int .i64 x.f0, .string x.f1, .int .i64 x.f2, .slice A3 x.f3.length c3] 69 (0, 0)) by rw [hW4, hbx]; exact bg wr _)
      have HM4 := aa.mk (HM.out.below hb4)
      have H34 := aa.mk (And.intro H3.out.1 (Kd.aN H3.out.2 hb4))
      have HST := aa.mk hj2
      have HIL := HI
      clear hx hst hg hoi hb4 HM HG H3 l3 h3 hx1 hr' hpl
      rw [eA]
      clear eA
      go_wp2_with fail
      rw [← hW4, ← hbx]
      clear hW4 hbx g0 g1 g2 g3 hj0 hd hd2 hj1 hj2 p2
      rw [← HAD.out]
      have hx1 := HM4.out.x1
      have hx5 := HM4.out.x5
      have hxx := HXX.out
      refine dG (n := 17) (S := fun w' => w'.cell? ⟨b1, 0, none⟩ = some (.int .i64 s.size) ∧ w'.cell? ⟨b1, 1, none⟩ = some (.slice a.A1 s.now.length a.c1) ∧ w'.cell? ⟨b1, 2, none⟩ = some (.slice a.A2 s.snaps.length a.c2) ∧ w'.cell? ⟨b1, 3, none⟩ = some (.int .i64 s.next) ∧ w'.cell? ⟨b1, 4, none⟩ = some (.int .i64 s.fsize) ∧ w'.cell? ⟨b1, 5, none⟩ = some (.slice a.A5 s.sp.length a.c5) ∧ w'.cell? ⟨b1, 6, none⟩ = some (.slice a.A6 s.data.length a.c6) ∧ w'.cell? ⟨b5, 1, none⟩ = some (.slice A out.length c) ∧ w'.cell? ⟨bx, 0, none⟩ = some (.int .i64 x.f0) ∧ w'.cell? ⟨bx, 1, none⟩ = some (.string x.f1) ∧ w'.cell? ⟨bx, 2, none⟩ = some (.int .i64 x.f2) ∧ w'.cell? ⟨bx, 3, none⟩ = some (.slice A3 x.f3.length c3)) (ds := [16]) (lb 17 0) (by kernel_rfl) rfl (by kernel_rfl) ⟨(ae hx1 0).trans rfl, (ae hx1 1).trans rfl, (ae hx1 2).trans rfl, (ae hx1 3).trans rfl, (ae hx1 4).trans rfl, (ae hx1 5).trans rfl, (ae hx1 6).trans rfl, (ae hx5 1).trans rfl, (ae hxx 0).trans rfl, (ae hxx 1).trans rfl, (ae hxx 2).trans rfl, (ae hxx 3).trans rfl⟩ (fun hHeld => ?_)
      refine bG zQ xe (fun HT_ HW_ => ?_)
      have hbd := aQ (Below.refl W4.heap.size W4)
      have HM5 := aa.mk (HM4.out.below hbd)
      have HX5 := aa.mk (show W4.drew.heap[bx]? = _ from HXX.out)
      have H35 := aa.mk (And.intro H34.out.1 (Kd.aN H34.out.2 hbd))
      clear hx1 hx5 hxx hbd HM4 HXX H34
      generalize W4.drew = w5 at hHeld HM5 HX5 H35 ⊢
      refine pu_ 0 30 17 1 ?_
      refine tk_ 1 31 17 3 ?_
      refine pu_ 2 32 17 7 ?_
      refine tk_ 3 33 17 15 ?_
      refine pu_ 4 34 17 31 ?_
      refine tk_ 5 35 17 63 ?_
      refine tk_ 6 36 17 127 ?_
      refine pu_ 7 37 17 255 ?_
      refine tk_ 8 38 17 511 ?_
      refine pu_ 9 39 17 1023 ?_
      refine tk_ 10 40 17 2047 ?_
      refine on_ 11 41 17 4095 (fun K hK => ?_)
      refine dO Tryz.func91 (by kernel_rfl) rfl #[.agg (aI s a), .slice A3 x.f3.length c3, .int .i64 x.f2] (by rfl) rfl rfl (by (try simp only [List.map_toArray, List.map_cons, List.map_nil]); first | done | rfl) ?_
      refine (yU s a A3 c3 x.f3 x.f2 oi w5 (HRD.out.below HM5.out.hb) H35.out.2 H35.out.1 HOI.out).mono ?_
      rintro e w6 ⟨v, rfl, hR, hb⟩
      obtain ⟨N, cN, rfl⟩ := Kd.aZ hR
      refine ⟨_, rfl, ?_⟩
      have HM6 := aa.mk (HM5.out.below hb)
      have HX6 := aa.mk ((hb.block _ (aA HX5.out)).trans HX5.out)
      have HN6 := aa.mk (show Kd.R kLB 37 w6 w.heap.size (fun k => True ∧ some k ≠ (Value.slice A out.length c).ownBlock) (.slice N oi.length cN) oi from Kd.bH (Kd.aX (Kd.bO hR) (fun k hk => ⟨trivial, fun e => by have := Kd.R_lt HM5.out.ro k e.symm; have := hk.2.1; omega⟩)) HM5.out.hb.size)
      refine hK.out _ _ ⟨(ae HM6.out.x1 0).trans rfl, (ae HM6.out.x1 1).trans rfl, (ae HM6.out.x1 2).trans rfl, (ae HM6.out.x1 3).trans rfl, (ae HM6.out.x1 4).trans rfl, (ae HM6.out.x1 5).trans rfl, (ae HM6.out.x1 6).trans rfl, (ae HM6.out.x5 1).trans rfl, (ae HX6.out 0).trans rfl, (ae HX6.out 1).trans rfl, (ae HX6.out 2).trans rfl, (ae HX6.out 3).trans rfl⟩ (fun hHeld => ?_)
      clear hK K hb hR HM5 HX5 H35
      refine nm_ 41 ?_
      refine pu_ 12 42 17 8191 ?_
      refine on_ 13 43 17 16383 (fun K hK => ?_)
      refine mZ (N := some 43) (v := .slice (some ⟨w6.heap.size, 0, none⟩) 1 1) (w1 := w6.alloc (.cells #[.int .i64 x.f0, .string x.f1, .slice N oi.length cN] 163)) (by rfl) rfl (by first | (go_simp; done) | (go_simp; rfl)) ?_
      have hb := (Below.refl w6.heap.size w6).alloc (Nat.le_refl _) (.cells #[.int .i64 x.f0, .string x.f1, .slice N oi.length cN] 163)
      have HX7 := aa.mk ((hb.block _ (aA HX6.out)).trans HX6.out)
      have HM7 := aa.mk (HM6.out.below hb)
      refine hK.out _ _ ⟨(ae HM7.out.x1 0).trans rfl, (ae HM7.out.x1 1).trans rfl, (ae HM7.out.x1 2).trans rfl, (ae HM7.out.x1 3).trans rfl, (ae HM7.out.x1 4).trans rfl, (ae HM7.out.x1 5).trans rfl, (ae HM7.out.x1 6).trans rfl, (ae HM7.out.x5 1).trans rfl, (ae HX7.out 0).trans rfl, (ae HX7.out 1).trans rfl, (ae HX7.out 2).trans rfl, (ae HX7.out 3).trans rfl⟩ (fun hHeld => ?_)
      clear hK K hb HX7 HM7
      refine nm_ 43 ?_
      refine on_ 14 44 17 32767 (fun K hK => ?_)
      refine Kd.fM k163 (w0 := w) w.heap.size (by rfl) (.tmp 31) (.tmp 43) 96 163 (.agg #[(.int .i64 0), (.string ⟨#[]⟩), (.slice none 0 0)]) 48 rfl Tryz.underlying96 (by kernel_rfl) rfl (by decide) (by omega) (.slice A out.length c) out ⟨x.f0, x.f1, oi⟩ [.int .i64 x.f0, .string x.f1, .slice N oi.length cN] (fun _ => True) (fun k => True ∧ some k ≠ (Value.slice A out.length c).ownBlock) rfl rfl (yf w6 w.heap.size _ ⟨x.f0, x.f1, oi⟩ HN6.out) (fun k hk => hk) (fun k hk => trivial) HM6.out.ro HM6.out.hb HM6.out.hb.size (by have := HI.out; have := HN.out; have := HST.out; omega) ?_
      intro v w7 hR hB hg hat
      obtain ⟨A', c', rfl⟩ := Kd.aZ hR
      obtain ⟨hy1, hy5, hM8⟩ := HM6.out.grow HE5.out.1 HE5.out.2.1 HE5.out.2.2 hR hB hg
      have HX7 := aa.mk ((hg.block bx (aA HX6.out) (fun e => (bS HM6.out.ro HX6.out (by decide)).1 bx e.symm |>.2 rfl)).trans HX6.out)
      have HM8 := aa.mk hM8
      have HY5 := aa.mk hy5
      refine hK.out _ _ ⟨(ae hy1 0).trans rfl, (ae hy1 1).trans rfl, (ae hy1 2).trans rfl, (ae hy1 3).trans rfl, (ae hy1 4).trans rfl, (ae hy1 5).trans rfl, (ae hy1 6).trans rfl, (ae hy5 1).trans rfl, (ae HX7.out 0).trans rfl, (ae HX7.out 1).trans rfl, (ae HX7.out 2).trans rfl, (ae HX7.out 3).trans rfl⟩ (fun hHeld => ?_)
      clear hK K hy1 hy5 hat hg hB hR HM6 HX6 HN6 hM8 HX7
      refine nm_ 44 ?_
      refine pu_ 15 45 17 65535 ?_
      have hx5 := HY5.out
      have hfz := ai hx5 1
      have q1 := (ae hx5 1).trans rfl
      refine jr (i := 16) (N := none) #[yT,yT,yT,yT,yT,yT,yT,yT,yT,yT,yT,yT,yT,yT,yT,yT,yT] rfl rfl (fA HT_.out (by kernel_rfl)) (by decide) (fun K hK => ?_)
      refine iV (w1 := w7.setCell ⟨b5, 1, none⟩ (.slice A' (out ++ [(⟨x.f0, x.f1, oi⟩ : S163)]).length c')) (by rfl) rfl ?_ ?_
      · go_simp
      refine hK.out _ _ ?_
      clear hK K hHeld hfz q1 hx5 HY5
      refine eQ (bU HT_.out (by kernel_rfl)) ?_
      clear HT_ HW_
      generalize w7.setCell ⟨b5, 1, none⟩ (.slice A' (out ++ [(⟨x.f0, x.f1, oi⟩ : S163)]).length c') = w8 at HM8 ⊢
      have hi3 : (i : Int) < 9223372036854775807 := by have := HST.out; have := HN.out; omega
      go_wp2_with fail
      go_roundg k1
      case measure => omega
      case rel => exact ⟨i + 1, _, A', c', by first | rfl | (simp; done) | go_num, ⟨by have := HI.out; omega, by rw [List.length_append, HI.out.2]; rfl⟩, HG2, HM8⟩
theorem room_l (l : List S93) (hl : l.length ≤ 1024) (hu : ∀ x ∈ l, 0 < x.f1 ∧ x.f1 ≤ 65536) : ∀ (m i : Nat) (a b : Int), i + m = l.length → 0 ≤ a → a ≤ 65536 * i → ∀ d, ∃ b', bY.l0 (m + 1 + d) a b l (l.length : Int) (i : Int) = some (a + Flag.sumS ((l.drop i).map toP), b', 0) := by
  intro m
  induction m with
  | zero =>
    intro i a b hi ha0 ha d
    have e : 0 + 1 + d = d + 1 := by omega
    rw [e, List.drop_eq_nil_of_le (by omega)]
    rw [bY.l0, if_neg (by omega)]
    exact ⟨b, by rw [List.map_nil, Flag.sumS, Int.add_zero]⟩
  | succ m ih =>
    intro i a b hi ha0 ha d
    have hil : i < l.length := by omega
    have hx : aU l (i : Int) = l[i] := by rw [j5 l (i : Int) (by omega) (by omega)]; simp
    have hw2 : wrap64 ((i : Int) + 1) = ((i + 1 : Nat) : Int) := by rw [w64 (by omega)]; omega
    obtain ⟨q1, q2⟩ := hu l[i] (List.getElem_mem _)
    have e : m + 1 + 1 + d = (m + 1 + d) + 1 := by omega
    rw [e]
    rw [bY.l0, if_pos (by omega), if_pos (by omega), if_pos (by omega), hx, hw2, w64 (n := a + l[i].f1) (by omega), ← List.getElem_cons_drop hil]
    obtain ⟨b', h⟩ := ih (i + 1) (a + l[i].f1) (mx b l[i].f1) (by omega) (by omega) (by omega) d
    refine ⟨b', ?_⟩
    rw [h, List.map_cons, Flag.sumS]
    congr 2
    show a + l[i].f1 + _ = a + (l[i].f1 + _)
    omega
theorem room_K (d : Nat) {size : Int} {l : List S93} (h6 : Flag.nV size (l.map toP)) : ∃ b, bY.f (1030 + d) size l = some (Flag.sumS (l.map toP), b, 0) := by
  unfold bY.f
  rw [rD, Option.bind_some, if_pos (Flag.gV.2 h6)]
  have hln := h6.len
  rw [List.length_map] at hln
  have hs1 := h6.s1
  have e : 1030 + d = l.length + 1 + (1029 + d - l.length) := by omega
  rw [e]
  obtain ⟨b, h⟩ := room_l l hln (fun x hx => by
    have h := h6.ins _ (List.mem_map_of_mem hx)
    have q1 : 0 < x.f1 := h.n
    have q2 : 0 ≤ x.f0 := h.a
    have q3 : x.f0 + x.f1 ≤ size := h.e
    omega) l.length 0 0 0 (by omega) (Int.le_refl _) (by omega) (1029 + d - l.length)
  refine ⟨b, ?_⟩
  rw [List.drop_zero, Int.zero_add] at h
  exact h
def sameAt (a b : List (List Int)) (i : Nat) : Bool := (strOfNums (a.getD i [])).toList == (strOfNums (b.getD i [])).toList
def iA (a b : List (List Int)) : Nat → Nat → Bool
  | 0, _ => true
  | k + 1, i => if sameAt a b i = true then iA a b k (i + 1) else false
def jC (a b : List (List Int)) : Bool := if a.length = b.length then iA a b a.length 0 else false
theorem kg (a : List (List Int)) : ∀ k i, iA a a k i = true
  | 0, _ => rfl
  | k + 1, i => by rw [iA, if_pos (by unfold sameAt; exact beq_self_eq_true _), kg a k (i + 1)]
theorem qg (a : List (List Int)) : jC a a = true := by unfold jC; rw [if_pos rfl]; exact kg a _ _
def sl_T6 : Bool × List (List Nat × List Nat) := (true, [([], []), ([], []), ([0, 1], [0, 1]), ([2], [2]), ([3], [3]), ([], []), ([], []), ([5, 6], [5, 6]), ([7], [7]), ([8], [8]), ([4, 9], [4, 9])])
def sl_B6 : List Nat := [0, 0, 3, 7, 15, 0, 0, 96, 224, 480, 1023]
theorem zL : rtab .any (opsOf Tryz.f31 6) = sl_T6 := by kernel_rfl
theorem yt : cB sl_T6.2 sl_B6 = true := by kernel_rfl
set_option maxHeartbeats 8000000 in
set_option maxRecDepth 100000 in
theorem vY (A : Option Addr) (c : Nat) (a : List (List Int)) (B : Option Addr) (d : Nat) (b : List (List Int)) (w : World) (ha : Kd.C kLB w A a.length a) (hb : Kd.C kLB w B b.length b) :
    Calls Tryz.prog 31 #[.slice A a.length c, .slice B b.length d] w fun e w' => e = .returned (.bool (jC a b)) ∧ bI w w' := by
  have HA := aa.mk ha
  have HB := aa.mk hb
  have hla := ha.2.1
  have hlb := hb.2.1
  obtain ⟨n, hn⟩ : ∃ n, n = a.length := ⟨_, rfl⟩
  obtain ⟨m, hm⟩ : ∃ m, m = b.length := ⟨_, rfl⟩
  have HL := aa.mk (And.intro hn hm)
  have HNL := aa.mk (show n ≤ 9223372036854775807 ∧ m ≤ 9223372036854775807 from ⟨by omega, by omega⟩)
  have hres : jC a b = if n = m then iA a b n 0 else false := by rw [hn, hm]; rfl
  rw [hres, ← hn, ← hm]
  clear ha hb hla hlb hres hn hm
  by_cases h : n = m
  rotate_left
  · rw [if_neg h]
    have bn : ((n : Int) != (m : Int)) = true := bne_iff_ne.mpr (by omega)
    have bn2 : (n != m) = true := bne_iff_ne.mpr h
    clear h
    go_enter Tryz.func31, Tryz.ntmps31
    go_wp2_with fail
    go_ret
    exact ⟨rfl, bI.refl _⟩
  rw [if_pos h]
  subst h
  have bn : ((n : Int) != (n : Int)) = false := by simp
  go_enter Tryz.func31, Tryz.ntmps31
  go_wp2_with fail
  go_loopg [5] n (fun gk v5 W => ∃ i : Nat, v5 = .int .i64 (i : Int) ∧ aa (i + gk = n) ∧ aa (iA a b n 0 = iA a b gk i) ∧ aa (bI w W))
  case atStart => exact ⟨0, rfl, ⟨by omega⟩, ⟨rfl⟩, ⟨bI.refl _⟩⟩
  case round =>
    obtain ⟨i, rfl, HI, HG, HW⟩ := hrel
    cases gk with
    | zero =>
      have hz : decide ((i : Int) < (n : Int)) = false := decide_eq_false (by have := HI.out; omega)
      have hz2 : decide (i < n) = false := decide_eq_false (by have := HI.out; omega)
      go_wp2_with fail
      go_ret
      exact ⟨by rw [HG.out]; rfl, HW.out⟩
    | succ k1 =>
      have hi : i < n := by have := HI.out; omega
      have hz : decide ((i : Int) < (n : Int)) = true := decide_eq_true (by omega)
      have hz2 : decide (i < n) = true := decide_eq_true hi
      have hi1 : (i : Int) < (n : Int) := by omega
      have hi0 : (0 : Int) ≤ (i : Int) := by omega
      obtain ⟨ad, A0, c0, eA, hcA, _, hCA⟩ := lF (Kd.aN HA.out HW.out.below) (i : Int) hi0 (by have := HL.out.1; omega)
      obtain ⟨bd, B0, d0, eB, hcB, _, hCB⟩ := lF (Kd.aN HB.out HW.out.below) (i : Int) hi0 (by have := HL.out.2; omega)
      rw [Int.toNat_natCast] at hcA hCA hcB hCB
      obtain ⟨x, hx⟩ : ∃ x, x = a.getD i [] := ⟨_, rfl⟩
      obtain ⟨y, hy⟩ : ∃ x, x = b.getD i [] := ⟨_, rfl⟩
      rw [← hx] at hcA hCA
      rw [← hy] at hcB hCB
      have hsame : sameAt a b i = ((strOfNums x).toList == (strOfNums y).toList) := by unfold sameAt; rw [hx, hy]
      have hg := HG.out
      rw [iA, hsame] at hg
      have s1 := Kd.lh (P := Tryz.prog) (c := c0) Tryz.underlying37 Tryz.underlying5 Tryz.underlying9 (Kd.aN hCA (aQ (Below.refl _ _)))
      have s2 := Kd.lh (P := Tryz.prog) (c := d0) Tryz.underlying37 Tryz.underlying5 Tryz.underlying9 (Kd.aN hCB (aQ (Below.refl _ _)))
      obtain ⟨S1, hS1⟩ : ∃ s, s = strOfNums x := ⟨_, rfl⟩
      obtain ⟨S2, hS2⟩ : ∃ s, s = strOfNums y := ⟨_, rfl⟩
      rw [← hS1] at s1 hg
      rw [← hS2] at s2 hg
      have HHG := aa.mk hg
      subst eA eB
      clear hsame hx hy hg hS1 hS2 HG hCA hCB hi
      go_wp2_with fail
      refine dG (n := 11) (S := fun w' => w'.cell? (ad.add i) = some (.slice A0 x.length c0) ∧ w'.cell? (bd.add i) = some (.slice B0 y.length d0) ∧ (convert 37 9 (.slice A0 x.length c0)).run Tryz.prog w' = .ok (.string S1) w' ∧ (convert 37 9 (.slice B0 y.length d0)).run Tryz.prog w' = .ok (.string S2) w') (ds := []) (lb 11 0) (by kernel_rfl) rfl (by kernel_rfl) ⟨hcA, hcB, s1, s2⟩ (fun hHeld => ?_)
      refine bG zL yt (fun HT_ HW_ => ?_)
      have HW2 := aa.mk (show bI w wr.drew from HW.out.step 1)
      clear s1 s2 hcA hcB HW hz hz2
      generalize wr.drew = w2 at hHeld HW2 ⊢
      refine pu_ 0 17 11 1 ?_
      refine pu_ 1 18 11 3 ?_
      refine pu_ 2 19 11 7 ?_
      refine tk_ 3 20 11 15 ?_
      refine tk_ 4 21 11 31 ?_
      refine pu_ 5 22 11 63 ?_
      refine pu_ 6 23 11 127 ?_
      refine pu_ 7 24 11 255 ?_
      refine tk_ 8 25 11 511 ?_
      refine tk_ 9 26 11 1023 ?_
      refine pu_ 10 27 11 2047 ?_
      refine eQ (bU HT_.out (by kernel_rfl)) ?_
      clear HT_ HW_ hHeld hi0 hi1
      have hg := HHG.out
      cases he : (S1.toList == S2.toList) with
      | false =>
        rw [he, if_neg (by decide)] at hg
        have hne : (S1.toList != S2.toList) = true := by simp [bne, he]
        have HE := aa.mk hg
        clear hg HHG
        go_wp2_with fail
        go_ret
        exact ⟨by rw [HE.out]; rfl, HW2.out⟩
      | true =>
        rw [he, if_pos rfl] at hg
        have hne : (S1.toList != S2.toList) = false := by simp [bne, he]
        have HE := aa.mk hg
        clear hg HHG
        go_wp2_with fail
        go_roundg k1
        case measure => omega
        case rel => exact ⟨i + 1, by first | rfl | (simp; done) | (rw [w64 (by have := HI.out; have := HNL.out.1; omega)]; rfl), ⟨by have := HI.out; omega⟩, HE, HW2⟩
def og.f (_ : Nat) (a b : List (List Int)) : Option Bool := some (jC a b)
def snAt (x : S163) (y : S42) : Bool := x.f0 == y.f0 && (x.f1.toList == y.f1.toList && jC x.f2 y.f2)
def mM (a : List S163) (b : List S42) : Nat → Nat → Int
  | 0, _ => 0
  | k + 1, i => if snAt (ja a (i : Int)) (kM b (i : Int)) = true then mM a b k (i + 1) else 1
def iX (m0 : List (List Int)) (ms : List S163) (mx : Int) (l0 : List (List Int)) (l1 : List S42) (p2 : Int) : Int := if mx = p2 ∧ jC m0 l0 = true ∧ ms.length = l1.length then mM ms l1 ms.length 0 else 1
def ak_T6 : Bool × List (List Nat × List Nat) := (true, [([], []), ([0], [0]), ([], []), ([1, 2], [1, 2]), ([3], [3]), ([4], [4]), ([], []), ([6], [6]), ([], []), ([7, 8], [7, 8]), ([9], [9]), ([10], [10]), ([5, 11], [5, 11]), ([12], [12]), ([13], [13]), ([14, 13], [13, 14]), ([13], [13]), ([15, 16, 13], [13, 15, 16]), ([17, 13], [13, 17]), ([18, 13], [13, 18]), ([13], [13]), ([20, 13], [13, 20]), ([13], [13]), ([21, 22, 13], [13, 21, 22]), ([23, 13], [13, 23]), ([24, 13], [13, 24]), ([19, 25, 13], [13, 19, 25]), ([13, 26], [13, 26]), ([27, 13], [27]), ([28], [28]), ([29, 28], [28, 29]), ([28], [28]), ([30, 31, 28], [28, 30, 31]), ([32, 28], [28, 32]), ([33, 28], [28, 33]), ([28], [28]), ([35, 28], [28, 35]), ([28], [28]), ([36, 37, 28], [28, 36, 37]), ([38, 28], [28, 38]), ([39, 28], [28, 39]), ([34, 40, 28, 28], [28, 34, 40]), ([41, 28], [28, 41]), ([28, 42], [28, 42])])
def ak_B6 : List Nat := [0, 1, 0, 7, 15, 31, 0, 64, 0, 448, 960, 1984, 4095, 8191, 16383, 32767, 16383, 131071, 262143, 524287, 16383, 1064959, 16383, 7356415, 15745023, 32522239, 67108863, 134217727, 268435455, 536870911, 1073741823, 536870911, 4294967295, 8589934591, 17179869183, 536870911, 34896609279, 536870911, 241055039487, 515932946431, 1065688760319, 2199023255551, 4398046511103, 8796093022207]
theorem AV : rtab .any (opsOf Tryz.f80 6) = ak_T6 := by kernel_rfl
theorem xn : cB ak_T6.2 ak_B6 = true := by kernel_rfl
set_option maxHeartbeats 16000000 in
set_option maxRecDepth 100000 in
theorem zD (D : Option Addr) (cD : Nat) (m0 : List (List Int)) (A : Option Addr) (c : Nat) (ms : List S163) (mx : Int) (A0 : Option Addr) (c0 : Nat) (l0 : List (List Int)) (A1 : Option Addr) (c1 : Nat) (l1 : List S42) (p2 : Int) (w : World)
    (h1 : Kd.C kLB w D m0.length m0) (h2 : Kd.C k163 w A ms.length ms) (h3 : Kd.C kLB w A0 l0.length l0) (h4 : Kd.C k42 w A1 l1.length l1) :
    Calls Tryz.prog 80 #[.agg #[.slice D m0.length cD, .slice A ms.length c, .int .i64 mx], .agg #[.slice A0 l0.length c0, .slice A1 l1.length c1, .int .i64 p2]] w fun e w' => e = .returned (.int .i64 (iX m0 ms mx l0 l1 p2)) ∧ Below w.heap.size w w' := by
  have hu98 := Tryz.underlying98
  have hu34 := Tryz.underlying34
  have hu163 := Tryz.underlying163
  have hu42 := Tryz.underlying42
  obtain ⟨W1, hW1⟩ : ∃ W, W = w.alloc (.cells #[.slice D m0.length cD, .slice A ms.length c, .int .i64 mx] 98) := ⟨_, rfl⟩
  obtain ⟨W2, hW2⟩ : ∃ W, W = W1.alloc (.cells #[.slice A0 l0.length c0, .slice A1 l1.length c1, .int .i64 p2] 34) := ⟨_, rfl⟩
  have hb1 : Below w.heap.size w W1 := by rw [hW1]; exact (Below.refl _ _).alloc (Nat.le_refl _) _
  have hb2 : Below W1.heap.size W1 W2 := by rw [hW2]; exact (Below.refl _ _).alloc (Nat.le_refl _) _
  obtain ⟨b2, hb2e⟩ : ∃ k, k = w.heap.size := ⟨_, rfl⟩
  have hx1 := (show W1.heap[b2]? = some (.cells #[.slice D m0.length cD, .slice A ms.length c, .int .i64 mx] 98 (0, 0)) by rw [hW1, hb2e]; exact bg w _)
  obtain ⟨b3, hb3e⟩ : ∃ k, k = w.heap.size + 1 := ⟨_, rfl⟩
  have hx3 := (show W2.heap[b3]? = some (.cells #[.slice A0 l0.length c0, .slice A1 l1.length c1, .int .i64 p2] 34 (0, 0)) by rw [hW2, hb3e, (show w.heap.size + 1 = W1.heap.size by rw [hW1]; simp)]; exact bg W1 _)
  have hx2 := (hb2.block _ (aA hx1)).trans hx1
  have HX := aa.mk (And.intro hx2 hx3)
  have HB := aa.mk (hb1.trans (hb2.mono hb1.size))
  have HC := aa.mk (show (Kd.C kLB w D m0.length m0 ∧ Kd.C kLB w A0 l0.length l0) ∧ Kd.C k163 w A ms.length ms ∧ Kd.C k42 w A1 l1.length l1 from ⟨⟨h1, h3⟩, h2, h4⟩)
  have q0 := (ae hx2 0).trans rfl
  have q1 := (ae hx2 1).trans rfl
  have q2 := (ae hx2 2).trans rfl
  have p0 := (ae hx3 0).trans rfl
  have p1 := (ae hx3 1).trans rfl
  have p22 := (ae hx3 2).trans rfl
  have hlen := h2.2.1
  have hlen4 := h4.2.1
  rw [hW2, hW1, hb2e] at q0 q1 q2
  rw [hW2, hW1, hb3e] at p0 p1 p22
  rw [hW1] at hW2
  have HN := aa.mk hlen
  clear h1 h2 h3 h4 hx1 hx2 hx3 hb1 hb2
  by_cases e1 : mx = p2
  rotate_left
  · have bn : (mx != p2) = true := bne_iff_ne.mpr e1
    have hr : iX m0 ms mx l0 l1 p2 = 1 := by unfold iX; rw [if_neg (fun h => e1 h.1)]
    rw [hr]
    clear e1 hr
    go_enter Tryz.func80, Tryz.ntmps80
    go_wp2_with fail
    go_ret
    exact ⟨rfl, by rw [← hW2]; exact HB.out⟩
  subst e1
  have bn : (mx != mx) = false := by simp
  go_enter Tryz.func80, Tryz.ntmps80
  go_wp2_with fail
  rw [← hW2, ← hb3e, ← hb2e]
  clear hW2 hW1 q0 q1 q2 p0 p1 p22 bn hb2e hb3e
  refine (vY D cD m0 A0 c0 l0 W2 (Kd.aN HC.out.1.1 HB.out) (Kd.aN HC.out.1.2 HB.out)).mono ?_
  rintro e w3 ⟨rfl, hd⟩
  have hb := hd.below
  have HX' := aa.mk (show w3.heap[b2]? = _ ∧ w3.heap[b3]? = _ from ⟨(hb.block _ (aA HX.out.1)).trans HX.out.1, (hb.block _ (aA HX.out.2)).trans HX.out.2⟩)
  have HB' := aa.mk (HB.out.trans (hb.mono HB.out.size))
  clear hb hd HX HB
  have q1 := (ae HX'.out.1 1).trans rfl
  have p1 := (ae HX'.out.2 1).trans rfl
  cases e2 : jC m0 l0 with
  | false =>
    have hr : iX m0 ms mx l0 l1 mx = 1 := by unfold iX; rw [if_neg (fun h => by rw [e2] at h; cases h.2.1)]
    have HR := aa.mk hr
    clear hr e2
    go_wp2_with fail
    go_ret
    exact ⟨by rw [HR.out]; rfl, HB'.out⟩
  | true =>
  by_cases e3 : ms.length = l1.length
  rotate_left
  · have hr : iX m0 ms mx l0 l1 mx = 1 := by unfold iX; rw [if_neg (fun h => e3 h.2.2)]
    have bn : ((ms.length : Int) != (l1.length : Int)) = true := bne_iff_ne.mpr (by omega)
    have HR := aa.mk hr
    clear hr e2 e3
    go_wp2_with fail
    go_ret
    exact ⟨by rw [HR.out]; rfl, HB'.out⟩
  have hr : iX m0 ms mx l0 l1 mx = mM ms l1 ms.length 0 := by unfold iX; rw [if_pos ⟨rfl, e2, e3⟩]
  have HR := aa.mk hr
  obtain ⟨n, hn⟩ : ∃ n, n = ms.length := ⟨_, rfl⟩
  rw [← hn] at HR HN hlen e3 HX' q1 HC ⊢
  rw [← e3] at HX' p1 HC ⊢
  have HL := aa.mk (show n = ms.length ∧ n = l1.length from ⟨hn, e3⟩)
  have bn : ((n : Int) != (n : Int)) = false := by simp
  clear hr e2 e3 hn hlen hlen4
  go_wp2_with fail
  clear q1 p1 bn
  go_loopg [5] n (fun gk v5 W => ∃ i : Nat, v5 = .int .i64 (i : Int) ∧ aa (i + gk = n) ∧ aa (mM ms l1 n 0 = mM ms l1 gk i) ∧ aa (W.heap[b2]? = some (.cells #[.slice D m0.length cD, .slice A n c, .int .i64 mx] 98 (0, 0)) ∧ W.heap[b3]? = some (.cells #[.slice A0 l0.length c0, .slice A1 n c1, .int .i64 mx] 34 (0, 0))) ∧ aa (Below w.heap.size w W))
  case atStart => exact ⟨0, rfl, ⟨by omega⟩, ⟨rfl⟩, HX', HB'⟩
  case round =>
    obtain ⟨i, rfl, HI, HG, HX, HB⟩ := hrel
    have q1 := (ae HX.out.1 1).trans rfl
    cases gk with
    | zero =>
      have hz : decide ((i : Int) < (n : Int)) = false := decide_eq_false (by have := HI.out; omega)
      have hz2 : decide (i < n) = false := decide_eq_false (by have := HI.out; omega)
      have hnn : n ≤ 9223372036854775807 := HN.out
      go_wp2_with fail
      go_ret
      exact ⟨by rw [HR.out, HG.out]; rfl, HB.out⟩
    | succ k1 =>
      have hi : i < n := by have := HI.out; omega
      have hz : decide ((i : Int) < (n : Int)) = true := decide_eq_true (by omega)
      have hz2 : decide (i < n) = true := decide_eq_true hi
      have hi1 : (i : Int) < (n : Int) := by omega
      have hi0 : (0 : Int) ≤ (i : Int) := by omega
      have hnn : n ≤ 9223372036854775807 := HN.out
      obtain ⟨ad, A2, c2, eA, g0, g1, g2, gl, gC⟩ := zY (Kd.aN HC.out.2.1 HB.out) (i : Int) hi0 hi1
      obtain ⟨bd, B2, d2, eB, f0, f1, f2, fl, fC⟩ := at_T42 (Kd.aN HC.out.2.2 HB.out) (i : Int) hi0 hi1
      rw [Int.toNat_natCast] at g0 g1 g2 f0 f1 f2
      have hg := HG.out
      rw [mM] at hg
      obtain ⟨x, hx⟩ : ∃ x, x = ja ms (i : Int) := ⟨_, rfl⟩
      obtain ⟨y, hy⟩ : ∃ x, x = kM l1 (i : Int) := ⟨_, rfl⟩
      rw [← hx] at g0 g1 g2 gl gC hg
      rw [← hy] at f0 f1 f2 fl fC hg
      have HG2 := aa.mk hg
      have HRC := aa.mk (And.intro gC fC)
      have hx2 := HX.out.1
      have hx3 := HX.out.2
      rw [eA] at hx2
      rw [eB] at hx3
      have HEE := aa.mk (And.intro eA eB)
      have p11 := (ae hx3 1).trans rfl
      have q11 := (ae hx2 1).trans rfl
      clear hx hy hg HG gl fl gC fC q1
      rw [eA, eB]
      clear eA eB
      go_wp2_with fail
      clear hz hz2
      refine dG (n := 44) (S := fun w' => w'.cell? ⟨b2, 1, none⟩ = some (.slice (some ad) n c) ∧ w'.cell? ⟨b3, 1, none⟩ = some (.slice (some bd) n c1) ∧ w'.cell? (ad.add (i * 3)) = some (.int .i64 x.f0) ∧ w'.cell? ⟨(ad.add (i * 3)).block, (ad.add (i * 3)).off + 1, none⟩ = some (.string x.f1) ∧ w'.cell? ⟨(ad.add (i * 3)).block, (ad.add (i * 3)).off + 2, none⟩ = some (.slice A2 x.f2.length c2) ∧ w'.cell? (bd.add (i * 3)) = some (.int .i64 y.f0) ∧ w'.cell? ⟨(bd.add (i * 3)).block, (bd.add (i * 3)).off + 1, none⟩ = some (.string y.f1) ∧ w'.cell? ⟨(bd.add (i * 3)).block, (bd.add (i * 3)).off + 2, none⟩ = some (.slice B2 y.f2.length d2)) (ds := []) (lb 44 0) (by kernel_rfl) rfl (by kernel_rfl) ⟨q11, p11, g0, g1, g2, f0, f1, f2⟩ (fun hHeld => ?_)
      refine bG AV xn (fun HT_ HW_ => ?_)
      have hbd := aQ (Below.refl wr.heap.size wr)
      have HX2 := aa.mk (show wr.drew.heap[b2]? = some (.cells #[.slice A n c, .slice A n c, .int .i64 mx] 98 (0, 0)) ∨ (wr.drew.heap[b2]? = wr.heap[b2]? ∧ wr.drew.heap[b3]? = wr.heap[b3]?) from .inr ⟨rfl, rfl⟩)
      have HXX := aa.mk (show wr.drew.heap[b2]? = _ ∧ wr.drew.heap[b3]? = _ from HX.out)
      have HB2 := aa.mk (HB.out.trans (hbd.mono HB.out.size))
      have HR2 := aa.mk (show Kd.C kLB wr.drew A2 x.f2.length x.f2 ∧ Kd.C kLB wr.drew B2 y.f2.length y.f2 from ⟨Kd.aN HRC.out.1 hbd, Kd.aN HRC.out.2 hbd⟩)
      clear q11 p11 g0 g1 g2 f0 f1 f2 hbd HX HB HRC HX2
      generalize wr.drew = w5 at hHeld HXX HB2 HR2 ⊢
      refine pu_ 0 35 44 1 ?_
      refine tk_ 1 36 44 3 ?_
      refine pu_ 2 37 44 7 ?_
      refine pu_ 3 38 44 15 ?_
      refine pu_ 4 39 44 31 ?_
      refine tk_ 5 40 44 63 ?_
      refine pu_ 6 41 44 127 ?_
      refine tk_ 7 42 44 255 ?_
      refine pu_ 8 43 44 511 ?_
      refine pu_ 9 44 44 1023 ?_
      refine pu_ 10 45 44 2047 ?_
      refine tk_ 11 46 44 4095 ?_
      refine pu_ 12 47 44 8191 ?_
      refine pu_ 13 48 44 16383 ?_
      by_cases e1 : x.f0 = y.f0
      rotate_left
      · have bn : (x.f0 != y.f0) = true := bne_iff_ne.mpr e1
        have HS := aa.mk (show snAt x y = false by unfold snAt; rw [beq_eq_false_iff_ne.mpr e1]; rfl)
        rw [bn]
        clear e1 bn
        refine pn_ 14 49 44 32767 ?_
        refine pn_ 15 50 44 65535 ?_
        refine pn_ 16 51 44 131071 ?_
        refine pn_ 17 52 44 262143 ?_
        refine pn_ 18 53 44 524287 ?_
        refine pn_ 19 54 44 1048575 ?_
        refine pn_ 20 55 44 2097151 ?_
        refine pn_ 21 56 44 4194303 ?_
        refine pn_ 22 57 44 8388607 ?_
        refine pn_ 23 58 44 16777215 ?_
        refine pn_ 24 59 44 33554431 ?_
        refine pn_ 25 60 44 67108863 ?_
        refine pn_ 26 61 44 134217727 ?_
        refine pu_ 27 62 44 268435455 ?_
        refine pu_ 28 63 44 536870911 ?_
        refine pn_ 29 64 44 1073741823 ?_
        refine pn_ 30 65 44 2147483647 ?_
        refine pn_ 31 66 44 4294967295 ?_
        refine pn_ 32 67 44 8589934591 ?_
        refine pn_ 33 68 44 17179869183 ?_
        refine pn_ 34 69 44 34359738367 ?_
        refine pn_ 35 70 44 68719476735 ?_
        refine pn_ 36 71 44 137438953471 ?_
        refine pn_ 37 72 44 274877906943 ?_
        refine pn_ 38 73 44 549755813887 ?_
        refine pn_ 39 74 44 1099511627775 ?_
        refine pn_ 40 75 44 2199023255551 ?_
        refine pn_ 41 76 44 4398046511103 ?_
        refine pn_ 42 77 44 8796093022207 ?_
        refine pu_ 43 78 44 17592186044415 ?_
        refine eQ (bU HT_.out (by kernel_rfl)) ?_
        clear HT_ HW_ hHeld
        go_wp2_with fail
        go_ret
        exact ⟨by rw [HR.out, HG2.out, HS.out, if_neg (by decide)]; rfl, HB2.out⟩
      have bn : (x.f0 != y.f0) = false := by rw [e1]; simp
      have HE1 := aa.mk e1
      rw [bn]
      clear bn e1
      refine pu_ 14 49 44 32767 ?_
      refine tk_ 15 50 44 65535 ?_
      refine pu_ 16 51 44 131071 ?_
      refine pu_ 17 52 44 262143 ?_
      refine pu_ 18 53 44 524287 ?_
      refine tk_ 19 54 44 1048575 ?_
      refine pu_ 20 55 44 2097151 ?_
      refine tk_ 21 56 44 4194303 ?_
      refine pu_ 22 57 44 8388607 ?_
      refine pu_ 23 58 44 16777215 ?_
      refine pu_ 24 59 44 33554431 ?_
      refine tk_ 25 60 44 67108863 ?_
      cases e2 : (x.f1.toList == y.f1.toList) with
      | false =>
        have bn : (!(x.f1.toList == y.f1.toList)) = true := by rw [e2]; rfl
        have HS := aa.mk (show snAt x y = false by unfold snAt; rw [e2, Bool.false_and, Bool.and_false])
        clear e2
        refine pu_ 26 61 44 134217727 ?_
        refine pu_ 27 62 44 268435455 ?_
        refine pu_ 28 63 44 536870911 ?_
        (try rw [bn])
        refine pn_ 29 64 44 1073741823 ?_
        refine pn_ 30 65 44 2147483647 ?_
        refine pn_ 31 66 44 4294967295 ?_
        refine pn_ 32 67 44 8589934591 ?_
        refine pn_ 33 68 44 17179869183 ?_
        refine pn_ 34 69 44 34359738367 ?_
        refine pn_ 35 70 44 68719476735 ?_
        refine pn_ 36 71 44 137438953471 ?_
        refine pn_ 37 72 44 274877906943 ?_
        refine pn_ 38 73 44 549755813887 ?_
        refine pn_ 39 74 44 1099511627775 ?_
        refine pn_ 40 75 44 2199023255551 ?_
        refine pn_ 41 76 44 4398046511103 ?_
        refine pn_ 42 77 44 8796093022207 ?_
        refine pu_ 43 78 44 17592186044415 ?_
        refine eQ (bU HT_.out (by kernel_rfl)) ?_
        clear HT_ HW_ hHeld
        go_wp2_with fail
        go_ret
        exact ⟨by rw [HR.out, HG2.out, HS.out, if_neg (by decide)]; rfl, HB2.out⟩
      | true =>
      have bn : (!(x.f1.toList == y.f1.toList)) = false := by rw [e2]; rfl
      have HE2 := aa.mk e2
      clear e2
      refine pu_ 26 61 44 134217727 ?_
      refine pu_ 27 62 44 268435455 ?_
      refine pu_ 28 63 44 536870911 ?_
      (try rw [bn])
      clear bn
      refine pu_ 29 64 44 1073741823 ?_
      refine tk_ 30 65 44 2147483647 ?_
      refine pu_ 31 66 44 4294967295 ?_
      refine pu_ 32 67 44 8589934591 ?_
      refine pu_ 33 68 44 17179869183 ?_
      refine tk_ 34 69 44 34359738367 ?_
      refine pu_ 35 70 44 68719476735 ?_
      refine tk_ 36 71 44 137438953471 ?_
      refine pu_ 37 72 44 274877906943 ?_
      refine pu_ 38 73 44 549755813887 ?_
      refine pu_ 39 74 44 1099511627775 ?_
      refine tk_ 40 75 44 2199023255551 ?_
      refine on_ 41 76 44 4398046511103 (fun K hK => ?_)
      refine dO Tryz.func31 (by kernel_rfl) rfl #[.slice A2 x.f2.length c2, .slice B2 y.f2.length d2] (by rfl) rfl rfl (by (try simp only [List.map_toArray, List.map_cons, List.map_nil]); first | done | rfl) ?_
      refine (vY A2 c2 x.f2 B2 d2 y.f2 w5 HR2.out.1 HR2.out.2).mono ?_
      rintro e w6 ⟨rfl, hd⟩
      have hb := hd.below
      refine ⟨_, rfl, ?_⟩
      refine hK.out _ _ ⟨aM hb hHeld.1, aM hb hHeld.2.1, aM hb hHeld.2.2.1, aM hb hHeld.2.2.2.1, aM hb hHeld.2.2.2.2.1, aM hb hHeld.2.2.2.2.2.1, aM hb hHeld.2.2.2.2.2.2.1, aM hb hHeld.2.2.2.2.2.2.2⟩ (fun hHeld => ?_)
      have HX6 := aa.mk (show w6.heap[b2]? = _ ∧ w6.heap[b3]? = _ from ⟨(hb.block _ (aA HXX.out.1)).trans HXX.out.1, (hb.block _ (aA HXX.out.2)).trans HXX.out.2⟩)
      have HB6 := aa.mk (HB2.out.trans (hb.mono HB2.out.size))
      clear hK K hb hd HXX HB2 HR2
      refine nm_ 76 ?_
      have HS := aa.mk (show snAt x y = jC x.f2 y.f2 by unfold snAt; rw [HE2.out, HE1.out]; simp)
      cases e3 : jC x.f2 y.f2 with
      | false =>
        rw [e3] at HS
        refine pu_ 42 77 44 8796093022207 ?_
        refine pu_ 43 78 44 17592186044415 ?_
        refine eQ (bU HT_.out (by kernel_rfl)) ?_
        clear HT_ HW_ hHeld e3
        go_wp2_with fail
        go_ret
        exact ⟨by rw [HR.out, HG2.out, HS.out, if_neg (by decide)]; rfl, HB6.out⟩
      | true =>
        rw [e3] at HS
        refine pu_ 42 77 44 8796093022207 ?_
        refine pu_ 43 78 44 17592186044415 ?_
        refine eQ (bU HT_.out (by kernel_rfl)) ?_
        clear HT_ HW_ hHeld e3 hi0 hi1
        rw [← HEE.out.1, ← HEE.out.2]
        go_wp2_with fail
        go_roundg k1
        case measure => omega
        case rel => exact ⟨i + 1, by first | rfl | (simp; done) | (rw [w64 (by have := HI.out; have := HN.out; omega)]; rfl), ⟨by have := HI.out; omega⟩, ⟨by rw [HG2.out, HS.out, if_pos rfl]⟩, HX6, HB6⟩
theorem rT {room : Int} (h0 : 0 ≤ room) (h1 : room ≤ 65536) : Flag.nV room ((eF room).map toP) := by
  unfold eF
  split
  · rename_i h
    refine ⟨h0, h1, by simp, fun y hy => ?_, ?_⟩
    · obtain rfl : y = toP ⟨0, room⟩ := by simpa using hy
      exact ⟨h, Int.le_refl _, by show (0 : Int) + room ≤ room; omega⟩
    · show (0 : Int) < room
      exact h
  · exact ⟨h0, h1, by simp, fun y hy => by simp at hy, trivial⟩
theorem zy {room : Int} (h0 : 0 ≤ room) : Flag.sumS ((eF room).map toP) = room := by
  unfold eF
  split
  · show room + 0 = room
    omega
  · show (0 : Int) = room
    omega
theorem zu {room : Int} (h0 : 0 ≤ room) (h1 : room ≤ 65536) : gapL [] room = eF room := by
  unfold gapL eF
  rw [List.nil_append, List.foldl_cons, List.foldl_nil]
  unfold gapG
  dsimp only
  by_cases h : 0 < room
  · rw [if_pos h, if_pos h, List.nil_append, w64 (by omega), Int.sub_zero]
  · rw [if_neg h, if_neg h]
theorem new_ok {size room : Int} (s0 : 0 ≤ size) (s1 : size ≤ 65536) (h0 : 0 ≤ room) (h1 : room ≤ 65536) : dH ⟨size, [], [], 1, room, eF room, List.replicate room.toNat alZ⟩ = 0 := by
  have hu : iK ⟨size, [], [], 1, room, eF room, List.replicate room.toNat alZ⟩ = [] := by
    show joinL ((eO (gZ [(⟨0, []⟩ : S75)])).map spR) = []
    kernel_rfl
  have hw : bN room [] = (room, eF room, 0) := qx (v := []) (by omega) (by simp) (by rfl) (by unfold Inc; exact List.Pairwise.nil) (zu h0 h1) (by unfold eF; split <;> simp)
  refine lJ.2 ⟨rT h0 h1, ?_, ?_, ?_, fun x hx => absurd hx List.not_mem_nil, ?_, fun b hb => ?_, ?_, ?_⟩
  · show nmB ⟨size, [], [], 1, room, eF room, List.replicate room.toNat alZ⟩ = true
    unfold nmB fF
    simp [lX]
  · refine Flag.gB.1 ?_
    show Flag.fT ([(⟨0, []⟩ : S75)].map toM) = 0
    kernel_rfl
  · exact (within_iff (l := []) (Flag.jW.1 (by kernel_rfl))).2 ⟨⟨s0, s1⟩, fun v i h => by simp [Flag.fP] at h⟩
  · show ((List.replicate room.toNat alZ).length : Int) = room
    rw [List.length_replicate]
    omega
  · rw [List.eq_of_mem_replicate hb]
    rfl
  · show (bN room _).2.2 = 0
    rw [hu, hw]
  · show (bN room _).2.1 = eF room
    rw [hu, hw]
theorem uJ {size room : Int} (s0 : 0 ≤ size) (s1 : size ≤ 65536) : pX ⟨size, [], [], 1, room, eF room, List.replicate room.toNat alZ⟩ = some (List.replicate size.toNat [], []) := by
  unfold pX uI
  dsimp only
  rw [if_pos ⟨s0, s1⟩, dkO, Option.bind_some, mdL, Option.map_some]
theorem vw (m : List (List Int)) (x : Int) : iX m [] x m [] x = 0 := by
  unfold iX
  rw [if_pos ⟨rfl, qg m, rfl⟩]
  rfl
theorem AP {size room : Int} (s0 : 0 ≤ size) (s1 : size ≤ 65536) (h0 : 0 ≤ room) (h1 : room ≤ 65536) : newV size room = (⟨size, [], [], 1, room, eF room, List.replicate room.toNat alZ⟩, 0) := by
  unfold newV lI
  rw [if_neg (by simp; omega)]
theorem gp {size room : Int} (h : size < 0 ∨ size > 65536 ∨ room < 0 ∨ room > 65536) : newV size room = (nilV, 4) := by
  unfold newV lI
  rw [if_pos (by simp; omega)]
theorem xS {size : Int} (s0 : 0 ≤ size) (s1 : size ≤ 65536) : dF.f size = some (List.replicate size.toNat [], [], 1, 0) := by
  unfold dF.f
  rw [if_neg (by omega), if_neg (by omega), if_pos s0, if_pos (by omega)]
set_option maxHeartbeats 8000000 in
set_option maxRecDepth 100000 in
theorem Bd (s : St) (a : At4) (m0 : List (List Int)) (ms : List S163) (A0 : Option Addr) (c0 : Nat) (l0 : List (List Int)) (A1 : Option Addr) (c1 : Nat) (l1 : List S42) (p2 : Int) (w : World) (hr : Reads w s a) (hn : s.snaps.length < 2513169434916) (hck : dH s = 0) (hm : pX s = some (m0, ms))
    (h0 : Kd.C kLB w A0 l0.length l0) (hc0 : l0.length ≤ c0) (h1 : Kd.C k42 w A1 l1.length l1) (hc1 : l1.length ≤ c1) :
    Calls Tryz.prog 37 #[.agg (aI s a), .agg #[.slice A0 l0.length c0, .slice A1 l1.length c1, .int .i64 p2]] w fun e w' => e = .returned (.int .i64 (iX m0 ms s.next l0 l1 p2)) ∧ Below w.heap.size w w' := by
  have hu31 := Tryz.underlying31
  have hu98 := Tryz.underlying98
  have hu34 := Tryz.underlying34
  obtain ⟨W1, hW1⟩ : ∃ W, W = w.alloc (.cells #[.int .i64 s.size, .slice a.A1 s.now.length a.c1, .slice a.A2 s.snaps.length a.c2, .int .i64 s.next, .int .i64 s.fsize, .slice a.A5 s.sp.length a.c5, .slice a.A6 s.data.length a.c6] 31) := ⟨_, rfl⟩
  obtain ⟨W2, hW2⟩ : ∃ W, W = W1.alloc (.cells #[.slice A0 l0.length c0, .slice A1 l1.length c1, .int .i64 p2] 34) := ⟨_, rfl⟩
  have hb1 : Below w.heap.size w W1 := by rw [hW1]; exact (Below.refl _ _).alloc (Nat.le_refl _) _
  have hb2 : Below W1.heap.size W1 W2 := by rw [hW2]; exact (Below.refl _ _).alloc (Nat.le_refl _) _
  obtain ⟨b1, hb1e⟩ : ∃ k, k = w.heap.size := ⟨_, rfl⟩
  have hx1 := (show W1.heap[b1]? = some (.cells #[.int .i64 s.size, .slice a.A1 s.now.length a.c1, .slice a.A2 s.snaps.length a.c2, .int .i64 s.next, .int .i64 s.fsize, .slice a.A5 s.sp.length a.c5, .slice a.A6 s.data.length a.c6] 31 (0, 0)) by rw [hW1, hb1e]; exact bg w _)
  have hx := (hb2.block _ (aA hx1)).trans hx1
  obtain ⟨b3, hb3e⟩ : ∃ k, k = w.heap.size + 1 := ⟨_, rfl⟩
  have HX3 := aa.mk (show W2.heap[b3]? = some (.cells #[.slice A0 l0.length c0, .slice A1 l1.length c1, .int .i64 p2] 34 (0, 0)) by rw [hW2, hb3e, (show w.heap.size + 1 = W1.heap.size by rw [hW1]; simp)]; exact bg W1 _)
  have HB := aa.mk (hb1.trans (hb2.mono hb1.size))
  have HR := aa.mk (hr.below HB.out)
  have HP := aa.mk (show (Kd.C kLB W2 A0 l0.length l0 ∧ l0.length ≤ c0) ∧ Kd.C k42 W2 A1 l1.length l1 ∧ l1.length ≤ c1 from ⟨⟨Kd.aN h0 HB.out, hc0⟩, Kd.aN h1 HB.out, hc1⟩)
  have HM := aa.mk (Ay s a m0 ms W2 HR.out hn hck hm)
  have q0 := (ae hx 0).trans rfl
  have q1 := (ae hx 1).trans rfl
  have q2 := (ae hx 2).trans rfl
  have q3 := (ae hx 3).trans rfl
  have q4 := (ae hx 4).trans rfl
  have q5 := (ae hx 5).trans rfl
  have q6 := (ae hx 6).trans rfl
  rw [hW2, hW1, hb1e] at q0 q1 q2 q3 q4 q5 q6
  rw [hW1] at hW2
  clear hr hn hck hm h0 hc0 h1 hc1 hx hx1 hb1 hb2
  unfold aI
  go_enter Tryz.func37, Tryz.ntmps37
  go_wp2_with fail
  rw [← hW2, ← hb3e, ← hb1e]
  clear hW2 hW1 q0 q1 q2 q3 q4 q5 q6 hb3e hb1e
  refine HM.out.mono ?_
  rintro e w3 ⟨D, cD, A, c, rfl, hD, hO, hb⟩
  have hD' := Kd.bu hD
  have hO' := Kd.bu hO
  have HX3' := aa.mk ((hb.block _ (aA HX3.out)).trans HX3.out)
  have HP' := aa.mk (show (Kd.C kLB w3 A0 l0.length l0 ∧ l0.length ≤ c0) ∧ Kd.C k42 w3 A1 l1.length l1 ∧ l1.length ≤ c1 from ⟨⟨Kd.aN HP.out.1.1 hb, HP.out.1.2⟩, Kd.aN HP.out.2.1 hb, HP.out.2.2⟩)
  have HB' := aa.mk (HB.out.trans (hb.mono HB.out.size))
  have HC := aa.mk (show (Kd.C kLB w3 D m0.length m0 ∧ m0.length ≤ cD) ∧ Kd.C k163 w3 A ms.length ms ∧ ms.length ≤ c from ⟨⟨hD'.2.2, hD'.2.1⟩, hO'.2.2, hO'.2.1⟩)
  clear hD hO hD' hO' hb HX3 HP HB HM HR
  go_wp2_with (refine gI (.store 98 (.tmp 5) (.tmp 10)) rfl ?_; refine gG ?_)
  refine ⟨?_⟩
  obtain ⟨b5, hb5⟩ : ∃ k, k = w3.heap.size := ⟨_, rfl⟩
  obtain ⟨W4, hW4⟩ : ∃ W, W = w3.alloc (.cells #[.slice none 0 0, .slice none 0 0, .int .i64 0] 98) := ⟨_, rfl⟩
  have hb4 : Below w3.heap.size w3 W4 := by rw [hW4]; exact (Below.refl _ _).alloc (Nat.le_refl _) _
  have hx8 : W4.heap[b5]? = some (.cells #[.slice none 0 0, .slice none 0 0, .int .i64 0] 98 (0, 0)) := by rw [hW4, hb5]; exact bg w3 _
  rw [← hW4, ← hb5]
  refine bF b5 #[.slice D m0.length cD, .slice A ms.length c, .int .i64 s.next] hx8 ?_
  have hbS : Below w3.heap.size w3 (W4.setRow b5 #[.slice D m0.length cD, .slice A ms.length c, .int .i64 s.next]) := aJ hb4 (g := b5) (by omega) _
  have HX5 := aa.mk (setRow_heap W4 b5 _ #[.slice D m0.length cD, .slice A ms.length c, .int .i64 s.next] _ _ hx8)
  have HX3 := aa.mk ((hbS.block _ (aA HX3'.out)).trans HX3'.out)
  have HP := aa.mk (show (Kd.C kLB _ A0 l0.length l0 ∧ l0.length ≤ c0) ∧ Kd.C k42 _ A1 l1.length l1 ∧ l1.length ≤ c1 from ⟨⟨Kd.aN HP'.out.1.1 hbS, HP'.out.1.2⟩, Kd.aN HP'.out.2.1 hbS, HP'.out.2.2⟩)
  have HC2 := aa.mk (show (Kd.C kLB _ D m0.length m0 ∧ m0.length ≤ cD) ∧ Kd.C k163 _ A ms.length ms ∧ ms.length ≤ c from ⟨⟨Kd.aN HC.out.1.1 hbS, HC.out.1.2⟩, Kd.aN HC.out.2.1 hbS, HC.out.2.2⟩)
  have HB := aa.mk (HB'.out.trans (hbS.mono HB'.out.size))
  clear HX3' HP' HC HB' hb4 hx8 hbS hW4 hb5
  generalize W4.setRow b5 #[.slice D m0.length cD, .slice A ms.length c, .int .i64 s.next] = w5 at HX5 HX3 HP HC2 HB ⊢
  go_wp2_with fail
  refine (b_.calls _ _ _ rfl).mono ?_
  rintro e w6 ⟨rfl, hd⟩
  have hb := hd.below
  have hx5 := (hb.block _ (aA HX5.out)).trans HX5.out
  have hx3 := (hb.block _ (aA HX3.out)).trans HX3.out
  have HPw := aa.mk (show (Kd.C kLB w6 A0 l0.length l0 ∧ l0.length ≤ c0) ∧ Kd.C k42 w6 A1 l1.length l1 ∧ l1.length ≤ c1 from ⟨⟨Kd.aN HP.out.1.1 hb, HP.out.1.2⟩, Kd.aN HP.out.2.1 hb, HP.out.2.2⟩)
  have HCw := aa.mk (show (Kd.C kLB w6 D m0.length m0 ∧ m0.length ≤ cD) ∧ Kd.C k163 w6 A ms.length ms ∧ ms.length ≤ c from ⟨⟨Kd.aN HC2.out.1.1 hb, HC2.out.1.2⟩, Kd.aN HC2.out.2.1 hb, HC2.out.2.2⟩)
  have HBw := aa.mk (HB.out.trans (hb.mono HB.out.size))
  have q0 := (ae hx5 0).trans rfl
  have q1 := (ae hx5 1).trans rfl
  have q2 := (ae hx5 2).trans rfl
  have p0 := (ae hx3 0).trans rfl
  have p1 := (ae hx3 1).trans rfl
  have p22 := (ae hx3 2).trans rfl
  clear hb hd hx5 hx3 HX5 HX3 HP HC2 HB
  go_wp2_with fail
  clear q0 q1 q2 p0 p1 p22
  refine (zD D cD m0 A c ms s.next A0 c0 l0 A1 c1 l1 p2 w6 HCw.out.1.1 HCw.out.2.1 HPw.out.1.1 HPw.out.2.1).mono ?_
  rintro e w7 ⟨rfl, hb⟩
  have HB7 := aa.mk (HBw.out.trans (hb.mono HBw.out.size))
  clear hb HBw HPw HCw
  go_wp2_with fail
  go_ret
  exact ⟨rfl, HB7.out⟩
theorem do_wr (s s1 s' : St) (a : At4) (x : OpV) (Dx : Option Addr) (cx : Nat) (w : World) (hr : Reads w s a) (hD : Kd.C (Kd.int .u8) w Dx x.data.length x.data) (hc : x.data.length ≤ cx) (hw1 : x.what = 1) (hok : dH s = 0) (hsm : Small s) (hmay : may1 s.size x = 0) (K M : Nat)
    (h1 : jP K M s x.at0 x.data = some (s1, true)) (h2 : gK K s1 = some (s', true)) (hn : s1.snaps.length < 4398046511103) :
    Calls Tryz.prog 27 #[.agg (aI s a), .agg (fK x Dx cx)] w fun e w' => ∃ (a' : At4) (A1 A2 : Option Addr) (c1 c2 : Nat), e = .returned (.tuple #[.agg (aI s' a'), .agg #[.int .i64 0, .slice A1 0 c1, .int .i64 0, .slice A2 0 c2, .int .i64 s'.size]]) ∧ Owns w' w.heap.size (fun _ => True) s' a' ∧ Below w.heap.size w w' := by
  refine (tV s a x Dx cx w hr (by have := hsm.n2; omega) hok (fun AL cL W hC hl => ?_) hsm s' 0 [] [] (fun w0 W b a2 hb hs => ?_)).mono ?_
  · have h := tQ s.size s.next AL cL (fF s) x Dx cx W hD.2.1
    rw [hmay] at h
    rw [hw1]
    exact h
  · rw [hw1]
    refine (wO K M b s a2 x Dx cx s1 true s' true w0 W hs (Kd.aN hD hb) hc hn h1 h2).mono ?_
    rintro e w' ⟨a', rfl, hS⟩
    exact ⟨a', _, _, rfl, hS, Kd.bW _ _ _ _ _, Kd.bW _ _ _ _ _⟩
  · rintro e w' ⟨a', vD, vL, rfl, hO, hRD, hRL, hb⟩
    obtain ⟨A1, c1, rfl⟩ := Kd.aZ hRD
    obtain ⟨A2, c2, rfl⟩ := Kd.aZ hRL
    exact ⟨a', A1, A2, c1, c2, rfl, hO, hb⟩
theorem do_sn (s s' : St) (a : At4) (x : OpV) (Dx : Option Addr) (cx : Nat) (w : World) (hr : Reads w s a) (hw1 : x.what = 4) (hok : dH s = 0) (hsm : Small s) (hmay : may4 (fF s) s.next x = 0) (K : Nat)
    (h2 : gK K { s with snaps := s.snaps ++ [⟨s.next, x.name, s.size, s.now⟩], next := wrap64 (s.next + 1) } = some (s', true)) :
    Calls Tryz.prog 27 #[.agg (aI s a), .agg (fK x Dx cx)] w fun e w' => ∃ (a' : At4) (A1 A2 : Option Addr) (c1 c2 : Nat), e = .returned (.tuple #[.agg (aI s' a'), .agg #[.int .i64 0, .slice A1 0 c1, .int .i64 s.next, .slice A2 0 c2, .int .i64 s'.size]]) ∧ Owns w' w.heap.size (fun _ => True) s' a' ∧ Below w.heap.size w w' := by
  refine (tV s a x Dx cx w hr (by have := hsm.n2; omega) hok (fun AL cL W hC hl => ?_) hsm s' s.next [] [] (fun w0 W b a2 hb hs => ?_)).mono ?_
  · have h := wM s.size s.next AL cL (fF s) x Dx cx W hC hl
    rw [hmay] at h
    rw [hw1]
    exact h
  · rw [hw1]
    refine (Ai K b s a2 x Dx cx s' true w0 W hs (by have := hsm.n2; omega) hsm.n1 h2).mono ?_
    rintro e w' ⟨a', rfl, hS⟩
    exact ⟨a', _, _, rfl, hS, Kd.bW _ _ _ _ _, Kd.bW _ _ _ _ _⟩
  · rintro e w' ⟨a', vD, vL, rfl, hO, hRD, hRL, hb⟩
    obtain ⟨A1, c1, rfl⟩ := Kd.aZ hRD
    obtain ⟨A2, c2, rfl⟩ := Kd.aZ hRL
    exact ⟨a', A1, A2, c1, c2, rfl, hO, hb⟩
theorem uu (x : OpV) (Dx : Option Addr) (cx : Nat) (w : World) (hD : Kd.C (Kd.int .u8) w Dx x.data.length x.data) (hc : x.data.length ≤ cx) (hl : x.data.length < 140737488355328) :
    Calls Tryz.prog 28 #[.agg (fK x Dx cx)] w fun e w' => ∃ (A : Option Addr) (c : Nat), e = .returned (.agg (fK x A c)) ∧ Kd.R (Kd.int .u8) 5 w' w.heap.size (fun _ => True) (.slice A x.data.length c) x.data ∧ Below w.heap.size w w' := by
  refine (bE.calls x.what x.at0 x.n x.id x.name Dx cx x.data _ _ _ _ _ x.data w hD hc (by unfold bE.f bV.f; rw [if_pos (by simpa using hl)]; rfl)).mono ?_
  rintro e w' ⟨v, rfl, hR, hb⟩
  obtain ⟨A, c, rfl⟩ := Kd.aZ hR
  exact ⟨A, c, rfl, hR, hb⟩
theorem xG (c : Int) (w : World) : Calls Tryz.prog 56 #[.int .u8 c] w fun e w' => ∃ (A : Option Addr) (m : Nat), e = .returned (.slice A 64 m) ∧ Kd.R (Kd.int .u8) 5 w' w.heap.size (fun _ => True) (.slice A 64 m) (alD c) ∧ Below w.heap.size w w' := by
  refine (eU.calls c (alD c) w rfl).mono ?_
  rintro e w' ⟨v, rfl, hR, hb⟩
  obtain ⟨A, m, rfl⟩ := Kd.aZ hR
  exact ⟨A, m, rfl, hR, hb⟩
def al_T2 : Bool × List (List Nat × List Nat) := (true, [([], []), ([], []), ([1], []), ([1, 2, 2], [1, 2]), ([3], [3]), ([4, 3], [4]), ([0, 5, 5], [0, 5]), ([6], [6]), ([7], [7]), ([7], [7]), ([], []), ([8, 6, 0, 1, 2, 3, 4, 5, 6, 7, 8, 10], [8]), ([10, 9, 11, 0, 1, 2, 3, 4, 5, 6, 7, 8, 9, 10, 11], [9, 10])])
def al_B2 : List Nat := [0, 0, 2, 6, 14, 30, 63, 127, 255, 255, 0, 1535, 4095]
theorem Ag : rtab .any (opsOf Tryz.f19 2) = al_T2 := by kernel_rfl
theorem xq : cB al_T2.2 al_B2 = true := by kernel_rfl
def al_T3 : Bool × List (List Nat × List Nat) := (true, [([], []), ([], []), ([1], [1]), ([0, 2, 2], [0, 2]), ([3], [3]), ([4], [4]), ([4], [4]), ([], []), ([5, 3, 0, 1, 2, 3, 4, 5, 7], [5]), ([7, 6, 8, 0, 1, 2, 3, 4, 5, 6, 7, 8], [6, 7])])
def al_B3 : List Nat := [0, 0, 2, 7, 15, 31, 31, 0, 191, 511]
theorem AQ : rtab .any (opsOf Tryz.f19 3) = al_T3 := by kernel_rfl
theorem xR : cB al_T3.2 al_B3 = true := by kernel_rfl
def al_T4 : Bool × List (List Nat × List Nat) := (true, [([], []), ([], []), ([1], [1]), ([2, 1], [2]), ([0, 3, 3], [0, 3]), ([4], [4]), ([5], [5]), ([5], [5]), ([], []), ([6, 4, 0, 1, 2, 3, 4, 5, 6, 8], [6]), ([8, 7, 9, 0, 1, 2, 3, 4, 5, 6, 7, 8, 9], [7, 8])])
def al_B4 : List Nat := [0, 0, 2, 6, 15, 31, 63, 63, 0, 383, 1023]
theorem z8 : rtab .any (opsOf Tryz.f19 4) = al_T4 := by kernel_rfl
theorem xI : cB al_T4.2 al_B4 = true := by kernel_rfl
def al_T7 : Bool × List (List Nat × List Nat) := (true, [([], []), ([0], [0]), ([], []), ([2], [2]), ([3, 1], [3]), ([1, 4], [1, 4]), ([], []), ([6], [6]), ([7, 4], [7]), ([5, 8], [5, 8]), ([], []), ([10], [10]), ([11, 8], [11]), ([9, 12], [9, 12]), ([], []), ([14, 12], [14]), ([13, 15], [13, 15]), ([], []), ([17, 15], [17]), ([16, 18], [16, 18]), ([19], [19]), ([20, 18], [20]), ([21], [21]), ([22, 21], [21, 22]), ([21, 23], [21, 23]), ([24, 21], [24]), ([25], [25]), ([26, 25], [25, 26]), ([25, 25], [25]), ([28, 25], [25, 28]), ([27, 29, 25], [25, 27, 29]), ([25, 30], [25, 30]), ([31, 28, 0, 1, 2, 3, 4, 5, 6, 7, 8, 9, 10, 11, 12, 13, 14, 15, 16, 17, 18, 19, 20, 21, 22, 23, 24, 25, 26, 27, 28, 29, 30, 31], [31])])
def al_B7 : List Nat := [0, 1, 0, 4, 15, 31, 0, 64, 223, 511, 0, 1024, 3551, 8191, 0, 24031, 65535, 0, 187871, 524287, 1048575, 2097151, 4194303, 8388607, 16777215, 33554431, 67108863, 134217727, 67108863, 335544319, 1073741823, 2147483647, 4294967295]
theorem AZ : rtab .any (opsOf Tryz.f19 7) = al_T7 := by kernel_rfl
theorem wQ : cB al_T7.2 al_B7 = true := by kernel_rfl
theorem zM {s : St} (h1 : s.now.length ≤ 2) (h2 : s.snaps.length ≤ 1) (h3 : ∀ x ∈ s.snaps, x.f3.length ≤ 2) (h5 : s.sp.length ≤ 2) (h6 : s.data.length = 8) (h7 : ∀ b ∈ s.data, b.length = 64) : Small s :=
  ⟨by omega, by omega, fun x hx => by have := h3 x hx; omega, by omega, by omega, fun b hb => by have := h7 b hb; omega⟩
theorem al_sm0 : Small al0 := zM (by decide) (by decide) (by decide) (by decide) (by decide) (by decide)
theorem al_sm1 : Small al1 := zM (by decide) (by decide) (by decide) (by decide) (by decide) (by decide)
theorem al_sm2 : Small al2 := zM (by decide) (by decide) (by intro x hx; have : x = ⟨1, alA, 4, [⟨0, 0, 2⟩]⟩ := List.mem_singleton.1 hx; subst this; decide) (by decide) (by decide) (by decide)
theorem Al : may4 (fF al1) al1.next ⟨4, 0, 0, 0, alA, []⟩ = 0 := by
  unfold may4
  rw [al_A]
  rfl
theorem rW (n : Int) (w : World) : Calls Tryz.prog 22 #[.int .i64 n] w fun e w' => e = .returned (.int .i64 n) ∧ Below w.heap.size w w' := (b_.calls n n w rfl).mono fun _ _ h => ⟨h.1, ky h.2⟩
set_option maxHeartbeats 16000000 in
set_option maxRecDepth 100000 in
theorem qc (w : World) : Calls Tryz.prog 19 #[] w fun e w' => e = .returned (.bool true) ∧ Below w.heap.size w w' := by
  have hu31 := Tryz.underlying31
  have hu28 := Tryz.underlying28
  have hu58 := Tryz.underlying58
  have hu55 := Tryz.underlying55
  go_enter Tryz.func19, Tryz.ntmps19
  go_wp2_with fail
  refine (yw 4 8 w).mono ?_
  rintro e w1 ⟨a, rfl, hO, hb⟩
  rw [(show newV 4 8 = (al0, 0) from rfl)] at hO ⊢
  go_wp2_with (refine gI (.store 31 (.tmp 1) (.tmp 13)) rfl ?_; refine gG ?_)
  refine ⟨?_⟩
  refine bF w1.heap.size (aI al0 a) (bg w1 _) ?_ (h1 := by simp [Value.oneCell', aI])
  have HS := aa.mk (nQ hO hb)
  have HY := aa.mk True.intro
  obtain ⟨b1, hb1⟩ : ∃ k, k = w1.heap.size := ⟨_, rfl⟩
  unfold NIL7 at HS
  rw [← hb1] at HS ⊢
  clear hO hb hb1
  generalize (w1.alloc _).setRow b1 (aI al0 a) = w2 at HS ⊢
  go_wp2_with fail
  have hx := HS.out.hx
  unfold aI at hx
  refine dG (n := 13) (S := fun w' => w'.cell? ⟨b1, 0, none⟩ = some (.int .i64 al0.size) ∧ w'.cell? ⟨b1, 1, none⟩ = some (.slice a.A1 al0.now.length a.c1) ∧ w'.cell? ⟨b1, 2, none⟩ = some (.slice a.A2 al0.snaps.length a.c2) ∧ w'.cell? ⟨b1, 3, none⟩ = some (.int .i64 al0.next) ∧ w'.cell? ⟨b1, 4, none⟩ = some (.int .i64 al0.fsize) ∧ w'.cell? ⟨b1, 5, none⟩ = some (.slice a.A5 al0.sp.length a.c5) ∧ w'.cell? ⟨b1, 6, none⟩ = some (.slice a.A6 al0.data.length a.c6)) (ds := [11, 12]) (lb 13 0) (by kernel_rfl) rfl (by kernel_rfl) ⟨(ae hx 0).trans rfl, (ae hx 1).trans rfl, (ae hx 2).trans rfl, (ae hx 3).trans rfl, (ae hx 4).trans rfl, (ae hx 5).trans rfl, (ae hx 6).trans rfl⟩ (fun hHeld => ?_)
  refine bG Ag xq (fun HT_ HW_ => ?_)
  have HS' := aa.mk (HS.out.below (aQ (Below.refl _ _)))
  clear hx HS
  generalize w2.drew = w3 at hHeld HS'  ⊢
  refine tk_ 0 16 13 1 ?_
  refine rA 10 3 58 #[.int .i64 0, .slice none 0 0, .int .i64 0, .slice none 0 0, .int .i64 0] 1025 hHeld ?_
  have HBW := aa.mk (Below.refl w3.heap.size w3)
  have HS := HS'
  clear HS' hHeld
  refine gy HT_.out 1 10 3 1027 Tryz.func56 #[.int .u8 1] HBW.out.size (fun _ _ hb h => ⟨aM hb h.1, aM hb h.2.1, aM hb h.2.2.1, aM hb h.2.2.2.1, aM hb h.2.2.2.2.1, aM hb h.2.2.2.2.2.1, aM hb h.2.2.2.2.2.2⟩) (fun w' hb => ?_)
  have hbW := HBW.out.trans (hb.mono HBW.out.size)
  refine (xG 1 w').mono ?_
  rintro e w4 ⟨D1, m1, rfl, hR, hb'⟩
  refine ⟨_, rfl, hb', ?_⟩
  have HBW' := aa.mk (hbW.trans (hb'.mono hbW.size))
  have HR1 := aa.mk (Kd.bH hR hbW.size)
  clear hR
  clear HBW hb hb' hbW
  have HBW := HBW'
  clear HBW'
  refine jg ?_
  refine gy HT_.out 2 10 7 1031 Tryz.func56 #[.int .u8 2] HBW.out.size (fun _ _ hb h => ⟨aM hb h.1, aM hb h.2.1, aM hb h.2.2.1, aM hb h.2.2.2.1, aM hb h.2.2.2.2.1, aM hb h.2.2.2.2.2.1, aM hb h.2.2.2.2.2.2⟩) (fun w' hb => ?_)
  have hbW := HBW.out.trans (hb.mono HBW.out.size)
  have HR1' := aa.mk (Kd.bA HR1.out hb)
  refine (xG 2 w').mono ?_
  rintro e w5 ⟨D2, m2, rfl, hR, hb'⟩
  refine ⟨_, rfl, hb', ?_⟩
  have HBW' := aa.mk (hbW.trans (hb'.mono hbW.size))
  have HR12 := aa.mk (Kd.bA HR1'.out hb')
  have HR2 := aa.mk (Kd.bH hR hbW.size)
  clear hR
  clear HBW hb hb' hbW HR1 HR1'
  have HBW := HBW'
  have HR1 := HR12
  clear HBW' HR12
  refine jg ?_
  refine yA (e := 3) (j := 10) (M := 19) (N := 3) HT_.out 15 1039 rfl rfl rfl rfl rfl (by decide) (by kernel_rfl) (by decide) HBW.out.size (fun _ _ hb h => ⟨aM hb h.1, aM hb h.2.1, aM hb h.2.2.1, aM hb h.2.2.2.1, aM hb h.2.2.2.2.1, aM hb h.2.2.2.2.2.1, aM hb h.2.2.2.2.2.2⟩) (fun A w' _ => by first | (go_simp; done) | (go_simp; rfl)) (fun w' hb hSw A hA K hK => ?_)
  have hbW := HBW.out.trans (hb.mono HBW.out.size)
  have HR1' := aa.mk (Kd.bA HR1.out hb)
  have HR2' := aa.mk (Kd.bA HR2.out hb)
  have e1 : A.eval (.tmp 17) = .slice D1 64 m1 := by rcases hA with rfl | ⟨b, rfl⟩ <;> rfl
  have e2 : A.eval (.tmp 18) = .slice D2 64 m2 := by rcases hA with rfl | ⟨b, rfl⟩ <;> rfl
  have hr2 := Kd.bu HR2'.out
  refine Kd.jQ (Kd.int .u8) (Rr := (Kd.int .u8).K w') (w0 := w3) w3.heap.size rfl (.tmp 17) (.tmp 18) 37 5 (.int .u8 0) 1 rfl Tryz.underlying37 info5 rfl (by decide) (by omega) (.slice D1 64 m1) (alD 1) (alD 2) D2 64 m2 (fun _ => True) (fun _ => False) e1 e2 HR1'.out hr2.2.2 (fun x cs h => h) (fun _ h => h.elim) (fun _ _ => trivial) hbW hbW.size (by decide) ?_
  intro v w6 hR hB hg hat
  obtain ⟨D3, m3, rfl⟩ := Kd.aZ hR
  have hx := (HS.out.below hB).hx
  unfold aI at hx
  refine hK _ _ ⟨hg.size, fun _ => ⟨(ae hx 0).trans rfl, (ae hx 1).trans rfl, (ae hx 2).trans rfl, (ae hx 3).trans rfl, (ae hx 4).trans rfl, (ae hx 5).trans rfl, (ae hx 6).trans rfl⟩, fun b _ hbox => (hg.block b (aA hbox) (fun e => ((bS HR1'.out hbox (by decide)).1 b e.symm).2 rfl)).trans hbox⟩ ?_
  have HBW' := aa.mk hB
  have HRD := aa.mk hR
  clear HBW hb hbW hB hg hat hR HR1 HR1' HR2 HR2' hr2 hx K hK hA A hSw e1 e2
  have HBW := HBW'
  clear HBW'
  refine jg ?_
  refine iM HT_.out 4 31 1055 ?_
  refine gy HT_.out 5 10 63 1087 Tryz.func28 #[.agg (fK ⟨1, 0, 0, 0, ⟨#[]⟩, alD 1 ++ alD 2⟩ D3 m3)] HBW.out.size (fun _ _ hb h => ⟨aM hb h.1, aM hb h.2.1, aM hb h.2.2.1, aM hb h.2.2.2.1, aM hb h.2.2.2.2.1, aM hb h.2.2.2.2.2.1, aM hb h.2.2.2.2.2.2⟩) (fun w' hb => ?_)
  have hbW := HBW.out.trans (hb.mono HBW.out.size)
  have HRD' := aa.mk (Kd.bA HRD.out hb)
  refine (uu ⟨1, 0, 0, 0, ⟨#[]⟩, alD 1 ++ alD 2⟩ D3 m3 w' (Kd.bu HRD'.out).2.2 (Kd.bu HRD'.out).2.1 (by decide)).mono ?_
  rintro e w7 ⟨DO, mO, rfl, hR, hb'⟩
  refine ⟨_, rfl, hb', ?_⟩
  have HBW' := aa.mk (hbW.trans (hb'.mono hbW.size))
  have HRD2 := aa.mk (Kd.bA HRD'.out hb')
  have HRO := aa.mk (Kd.bH hR hbW.size)
  clear hR
  clear HBW hb hb' hbW HRD HRD'
  have HBW := HBW'
  have HRD := HRD2
  clear HBW' HRD2
  refine jg ?_
  refine gy HT_.out 6 10 127 1151 Tryz.func27 #[.agg (aI al0 a), .agg (fK ⟨1, 0, 0, 0, ⟨#[]⟩, alD 1 ++ alD 2⟩ DO mO)] HBW.out.size (fun _ _ hb h => ⟨aM hb h.1, aM hb h.2.1, aM hb h.2.2.1, aM hb h.2.2.2.1, aM hb h.2.2.2.2.1, aM hb h.2.2.2.2.2.1, aM hb h.2.2.2.2.2.2⟩) (fun w' hb => ?_)
  have hbW := HBW.out.trans (hb.mono HBW.out.size)
  have HRD' := aa.mk (Kd.bA HRD.out hb)
  have HRO' := aa.mk (Kd.bA HRO.out hb)
  refine (do_wr al0 al1w al1 a ⟨1, 0, 0, 0, ⟨#[]⟩, alD 1 ++ alD 2⟩ DO mO w' (HS.out.below hbW).reads (Kd.bu HRO'.out).2.2 (Kd.bu HRO'.out).2.1 rfl al_c0 al_sm0 (by kernel_rfl) 9300 9 al_w1 al_t1 (by decide)).mono ?_
  rintro e w8 ⟨a1, DA, DB, mA, mB, rfl, hO, hb'⟩
  refine ⟨_, rfl, hb', ?_⟩
  have HBW' := aa.mk (hbW.trans (hb'.mono hbW.size))
  have HRD2 := aa.mk (Kd.bA HRD'.out hb')
  have HRO2 := aa.mk (Kd.bA HRO'.out hb')
  have HO := aa.mk ((hO.lt.mono (ok' := fun k => k ≠ b1) (fun k hk => by have := aA HS.out.hx; have := hbW.size; omega)).low (Nat.le_trans HS.out.hb.size hbW.size))
  clear hO
  clear HBW hb hb' hbW HRD HRD' HRO HRO'
  have HBW := HBW'
  have HRD := HRD2
  have HRO := HRO2
  clear HBW' HRD2 HRO2
  refine jg ?_
  refine iM HT_.out 7 255 1279 ?_
  refine iM HT_.out 8 511 1535 ?_
  refine iM HT_.out 9 1023 2047 ?_
  refine nL HT_.out 10 HBW.out.size (fun _ _ hb h => ⟨aM hb h.1, aM hb h.2.1, aM hb h.2.2.1, aM hb h.2.2.2.1, aM hb h.2.2.2.2.1, aM hb h.2.2.2.2.2.1, aM hb h.2.2.2.2.2.2⟩) (fun y3 w' hb hSw hbox hBb => ?_)
  have hbW := HBW.out.trans (hb.mono HBW.out.size)
  have HS' := aa.mk (HS.out.below hbW)
  have HO' := aa.mk (HO.out.below hb)
  have HN := aa.mk (show y3 ≠ b1 ∧ w.heap.size ≤ y3 from ⟨by have := aA HS.out.hx; omega, Nat.le_trans HS.out.hb.size hBb⟩)
  refine rP ?_
  refine fE HT_.out 11 b1 4095 (aI al1 a1) HS'.out.hx ?_ (h1 := by simp [Value.oneCell', aI])
  refine fE HT_.out 12 y3 8191 #[.int .i64 0, .slice DA 0 mA, .int .i64 0, .slice DB 0 mB, .int .i64 al1.size] ((setRow_other w' b1 y3 _ HN.out.1).trans hbox) ?_
  refine l7 HT_.out ?_
  have hsn := nZ (cells := #[.int .i64 0, .slice DA 0 mA, .int .i64 0, .slice DB 0 mB, .int .i64 al1.size]) HS'.out HO'.out hbox (by decide) (by decide) (by decide) (by decide) HN.out.1 HN.out.2
  have HS2 := aa.mk hsn.1
  have HY3 := aa.mk hsn.2
  clear hsn HS' HS HO HO' hbox hBb hb hbW HBW hSw HN  HRD HRO HT_ HW_
  have HS := HS2
  clear HS2
  generalize (w'.setRow b1 (aI al1 a1)).setRow y3 #[.int .i64 0, .slice DA 0 mA, .int .i64 0, .slice DB 0 mB, .int .i64 al1.size] = w2 at HS HY3  ⊢
  go_wp2_with fail
  have hx := HS.out.hx
  unfold aI at hx
  refine dG (n := 10) (S := fun w' => w'.cell? ⟨b1, 0, none⟩ = some (.int .i64 al1.size) ∧ w'.cell? ⟨b1, 1, none⟩ = some (.slice a1.A1 al1.now.length a1.c1) ∧ w'.cell? ⟨b1, 2, none⟩ = some (.slice a1.A2 al1.snaps.length a1.c2) ∧ w'.cell? ⟨b1, 3, none⟩ = some (.int .i64 al1.next) ∧ w'.cell? ⟨b1, 4, none⟩ = some (.int .i64 al1.fsize) ∧ w'.cell? ⟨b1, 5, none⟩ = some (.slice a1.A5 al1.sp.length a1.c5) ∧ w'.cell? ⟨b1, 6, none⟩ = some (.slice a1.A6 al1.data.length a1.c6)) (ds := [8, 9]) (lb 10 0) (by kernel_rfl) rfl (by kernel_rfl) ⟨(ae hx 0).trans rfl, (ae hx 1).trans rfl, (ae hx 2).trans rfl, (ae hx 3).trans rfl, (ae hx 4).trans rfl, (ae hx 5).trans rfl, (ae hx 6).trans rfl⟩ (fun hHeld => ?_)
  refine bG AQ xR (fun HT_ HW_ => ?_)
  have HS' := aa.mk (HS.out.below (aQ (Below.refl _ _)))
  have HY3' := aa.mk (show w2.drew.heap[y3]? = _ from HY3.out)
  clear hx HS HY3
  generalize w2.drew = w3 at hHeld HS' HY3' ⊢
  refine tk_ 0 26 10 1 ?_
  refine rA 7 4 58 #[.int .i64 0, .slice none 0 0, .int .i64 0, .slice none 0 0, .int .i64 0] 129 hHeld ?_
  have HBW := aa.mk (Below.refl w3.heap.size w3)
  have HS := HS'
  have HY3 := HY3'
  clear HS' hHeld HY3'
  refine iM HT_.out 1 3 131 ?_
  refine gy HT_.out 2 7 7 135 Tryz.func28 #[.agg (fK ⟨4, 0, 0, 0, alA, []⟩ none 0)] HBW.out.size (fun _ _ hb h => ⟨aM hb h.1, aM hb h.2.1, aM hb h.2.2.1, aM hb h.2.2.2.1, aM hb h.2.2.2.2.1, aM hb h.2.2.2.2.2.1, aM hb h.2.2.2.2.2.2⟩) (fun w' hb => ?_)
  have hbW := HBW.out.trans (hb.mono HBW.out.size)
  refine (uu ⟨4, 0, 0, 0, alA, []⟩ none 0 w' ⟨rfl, by simp, fun h => absurd h (by simp)⟩ (Nat.le_refl _) (by decide)).mono ?_
  rintro e w4 ⟨DO, mO, rfl, hR, hb'⟩
  refine ⟨_, rfl, hb', ?_⟩
  have HBW' := aa.mk (hbW.trans (hb'.mono hbW.size))
  have HRO := aa.mk (Kd.bH hR hbW.size)
  clear hR
  clear HBW hb hb' hbW
  have HBW := HBW'
  clear HBW'
  refine jg ?_
  refine gy HT_.out 3 7 15 143 Tryz.func27 #[.agg (aI al1 a1), .agg (fK ⟨4, 0, 0, 0, alA, []⟩ DO mO)] HBW.out.size (fun _ _ hb h => ⟨aM hb h.1, aM hb h.2.1, aM hb h.2.2.1, aM hb h.2.2.2.1, aM hb h.2.2.2.2.1, aM hb h.2.2.2.2.2.1, aM hb h.2.2.2.2.2.2⟩) (fun w' hb => ?_)
  have hbW := HBW.out.trans (hb.mono HBW.out.size)
  have HRO' := aa.mk (Kd.bA HRO.out hb)
  refine (do_sn al1 al2 a1 ⟨4, 0, 0, 0, alA, []⟩ DO mO w' (HS.out.below hbW).reads rfl al_c1 al_sm1 Al 9300 al_s).mono ?_
  rintro e w5 ⟨a2, DA, DB, mA, mB, rfl, hO, hb'⟩
  refine ⟨_, rfl, hb', ?_⟩
  have HBW' := aa.mk (hbW.trans (hb'.mono hbW.size))
  have HRO2 := aa.mk (Kd.bA HRO'.out hb')
  have HO := aa.mk ((hO.lt.mono (ok' := fun k => k ≠ b1) (fun k hk => by have := aA HS.out.hx; have := hbW.size; omega)).low (Nat.le_trans HS.out.hb.size hbW.size))
  clear hO
  clear HBW hb hb' hbW HRO HRO'
  have HBW := HBW'
  have HRO := HRO2
  clear HBW' HRO2
  refine jg ?_
  refine iM HT_.out 4 31 159 ?_
  refine iM HT_.out 5 63 191 ?_
  refine iM HT_.out 6 127 255 ?_
  refine nL HT_.out 7 HBW.out.size (fun _ _ hb h => ⟨aM hb h.1, aM hb h.2.1, aM hb h.2.2.1, aM hb h.2.2.2.1, aM hb h.2.2.2.2.1, aM hb h.2.2.2.2.2.1, aM hb h.2.2.2.2.2.2⟩) (fun y4 w' hb hSw hbox hBb => ?_)
  have hbW := HBW.out.trans (hb.mono HBW.out.size)
  have HS' := aa.mk (HS.out.below hbW)
  have HO' := aa.mk (HO.out.below hb)
  have HN := aa.mk (show y4 ≠ b1 ∧ w.heap.size ≤ y4 from ⟨by have := aA HS.out.hx; omega, Nat.le_trans HS.out.hb.size hBb⟩)
  have HY3' := aa.mk (n_ (b1 := b1) (b := y4) (c1 := aI al2 a2) (c := #[.int .i64 0, .slice DA 0 mA, .int .i64 al1.next, .slice DB 0 mB, .int .i64 al2.size]) ((hbW.block _ (aA HY3.out)).trans HY3.out) (by rintro rfl; have h1 := HS.out.hx; rw [HY3.out] at h1; injection h1 with h1; injection h1 with _ h2 _; revert h2; decide) (by have := aA HY3.out; omega))
  refine rP ?_
  refine fE HT_.out 8 b1 511 (aI al2 a2) HS'.out.hx ?_ (h1 := by simp [Value.oneCell', aI])
  refine fE HT_.out 9 y4 1023 #[.int .i64 0, .slice DA 0 mA, .int .i64 al1.next, .slice DB 0 mB, .int .i64 al2.size] ((setRow_other w' b1 y4 _ HN.out.1).trans hbox) ?_
  refine l7 HT_.out ?_
  have hsn := nZ (cells := #[.int .i64 0, .slice DA 0 mA, .int .i64 al1.next, .slice DB 0 mB, .int .i64 al2.size]) HS'.out HO'.out hbox (by decide) (by decide) (by decide) (by decide) HN.out.1 HN.out.2
  have HS2 := aa.mk hsn.1
  have HY4 := aa.mk hsn.2
  clear hsn HS' HS HO HO' hbox hBb hb hbW HBW hSw HN HY3 HRO HT_ HW_
  have HS := HS2
  have HY3 := HY3'
  clear HS2 HY3'
  generalize (w'.setRow b1 (aI al2 a2)).setRow y4 #[.int .i64 0, .slice DA 0 mA, .int .i64 al1.next, .slice DB 0 mB, .int .i64 al2.size] = w2 at HS HY4 HY3 ⊢
  go_wp2_with fail
  have hx := HS.out.hx
  unfold aI at hx
  refine dG (n := 11) (S := fun w' => w'.cell? ⟨b1, 0, none⟩ = some (.int .i64 al2.size) ∧ w'.cell? ⟨b1, 1, none⟩ = some (.slice a2.A1 al2.now.length a2.c1) ∧ w'.cell? ⟨b1, 2, none⟩ = some (.slice a2.A2 al2.snaps.length a2.c2) ∧ w'.cell? ⟨b1, 3, none⟩ = some (.int .i64 al2.next) ∧ w'.cell? ⟨b1, 4, none⟩ = some (.int .i64 al2.fsize) ∧ w'.cell? ⟨b1, 5, none⟩ = some (.slice a2.A5 al2.sp.length a2.c5) ∧ w'.cell? ⟨b1, 6, none⟩ = some (.slice a2.A6 al2.data.length a2.c6)) (ds := [9, 10]) (lb 11 0) (by kernel_rfl) rfl (by kernel_rfl) ⟨(ae hx 0).trans rfl, (ae hx 1).trans rfl, (ae hx 2).trans rfl, (ae hx 3).trans rfl, (ae hx 4).trans rfl, (ae hx 5).trans rfl, (ae hx 6).trans rfl⟩ (fun hHeld => ?_)
  refine bG z8 xI (fun HT_ HW_ => ?_)
  have HS' := aa.mk (HS.out.below (aQ (Below.refl _ _)))
  have HY3' := aa.mk (show w2.drew.heap[y3]? = _ from HY3.out)
  have HY4' := aa.mk (show w2.drew.heap[y4]? = _ from HY4.out)
  clear hx HS HY3 HY4
  generalize w2.drew = w3 at hHeld HS' HY3' HY4' ⊢
  refine tk_ 0 33 11 1 ?_
  refine rA 8 5 58 #[.int .i64 0, .slice none 0 0, .int .i64 0, .slice none 0 0, .int .i64 0] 257 hHeld ?_
  have HBW := aa.mk (Below.refl w3.heap.size w3)
  have HS := HS'
  have HY3 := HY3'
  have HY4 := HY4'
  clear HS' hHeld HY3' HY4'
  refine gy HT_.out 1 8 3 259 Tryz.func56 #[.int .u8 3] HBW.out.size (fun _ _ hb h => ⟨aM hb h.1, aM hb h.2.1, aM hb h.2.2.1, aM hb h.2.2.2.1, aM hb h.2.2.2.2.1, aM hb h.2.2.2.2.2.1, aM hb h.2.2.2.2.2.2⟩) (fun w' hb => ?_)
  have hbW := HBW.out.trans (hb.mono HBW.out.size)
  refine (xG 3 w').mono ?_
  rintro e w4 ⟨D3, m3, rfl, hR, hb'⟩
  refine ⟨_, rfl, hb', ?_⟩
  have HBW' := aa.mk (hbW.trans (hb'.mono hbW.size))
  have HRD := aa.mk (Kd.bH hR hbW.size)
  clear hR
  clear HBW hb hb' hbW
  have HBW := HBW'
  clear HBW'
  refine jg ?_
  refine iM HT_.out 2 7 263 ?_
  refine gy HT_.out 3 8 15 271 Tryz.func28 #[.agg (fK ⟨1, 0, 0, 0, ⟨#[]⟩, alD 3⟩ D3 m3)] HBW.out.size (fun _ _ hb h => ⟨aM hb h.1, aM hb h.2.1, aM hb h.2.2.1, aM hb h.2.2.2.1, aM hb h.2.2.2.2.1, aM hb h.2.2.2.2.2.1, aM hb h.2.2.2.2.2.2⟩) (fun w' hb => ?_)
  have hbW := HBW.out.trans (hb.mono HBW.out.size)
  have HRD' := aa.mk (Kd.bA HRD.out hb)
  refine (uu ⟨1, 0, 0, 0, ⟨#[]⟩, alD 3⟩ D3 m3 w' (Kd.bu HRD'.out).2.2 (Kd.bu HRD'.out).2.1 (by decide)).mono ?_
  rintro e w5 ⟨DO, mO, rfl, hR, hb'⟩
  refine ⟨_, rfl, hb', ?_⟩
  have HBW' := aa.mk (hbW.trans (hb'.mono hbW.size))
  have HRD2 := aa.mk (Kd.bA HRD'.out hb')
  have HRO := aa.mk (Kd.bH hR hbW.size)
  clear hR
  clear HBW hb hb' hbW HRD HRD'
  have HBW := HBW'
  have HRD := HRD2
  clear HBW' HRD2
  refine jg ?_
  refine gy HT_.out 4 8 31 287 Tryz.func27 #[.agg (aI al2 a2), .agg (fK ⟨1, 0, 0, 0, ⟨#[]⟩, alD 3⟩ DO mO)] HBW.out.size (fun _ _ hb h => ⟨aM hb h.1, aM hb h.2.1, aM hb h.2.2.1, aM hb h.2.2.2.1, aM hb h.2.2.2.2.1, aM hb h.2.2.2.2.2.1, aM hb h.2.2.2.2.2.2⟩) (fun w' hb => ?_)
  have hbW := HBW.out.trans (hb.mono HBW.out.size)
  have HRD' := aa.mk (Kd.bA HRD.out hb)
  have HRO' := aa.mk (Kd.bA HRO.out hb)
  refine (do_wr al2 al3w al3 a2 ⟨1, 0, 0, 0, ⟨#[]⟩, alD 3⟩ DO mO w' (HS.out.below hbW).reads (Kd.bu HRO'.out).2.2 (Kd.bu HRO'.out).2.1 rfl al_c2 al_sm2 (by kernel_rfl) 9300 9 al_w2 al_t2 (by decide)).mono ?_
  rintro e w6 ⟨a3, DA, DB, mA, mB, rfl, hO, hb'⟩
  refine ⟨_, rfl, hb', ?_⟩
  have HBW' := aa.mk (hbW.trans (hb'.mono hbW.size))
  have HRD2 := aa.mk (Kd.bA HRD'.out hb')
  have HRO2 := aa.mk (Kd.bA HRO'.out hb')
  have HO := aa.mk ((hO.lt.mono (ok' := fun k => k ≠ b1) (fun k hk => by have := aA HS.out.hx; have := hbW.size; omega)).low (Nat.le_trans HS.out.hb.size hbW.size))
  clear hO
  clear HBW hb hb' hbW HRD HRD' HRO HRO'
  have HBW := HBW'
  have HRD := HRD2
  have HRO := HRO2
  clear HBW' HRD2 HRO2
  refine jg ?_
  refine iM HT_.out 5 63 319 ?_
  refine iM HT_.out 6 127 383 ?_
  refine iM HT_.out 7 255 511 ?_
  refine nL HT_.out 8 HBW.out.size (fun _ _ hb h => ⟨aM hb h.1, aM hb h.2.1, aM hb h.2.2.1, aM hb h.2.2.2.1, aM hb h.2.2.2.2.1, aM hb h.2.2.2.2.2.1, aM hb h.2.2.2.2.2.2⟩) (fun y5 w' hb hSw hbox hBb => ?_)
  have hbW := HBW.out.trans (hb.mono HBW.out.size)
  have HS' := aa.mk (HS.out.below hbW)
  have HO' := aa.mk (HO.out.below hb)
  have HN := aa.mk (show y5 ≠ b1 ∧ w.heap.size ≤ y5 from ⟨by have := aA HS.out.hx; omega, Nat.le_trans HS.out.hb.size hBb⟩)
  have HY3' := aa.mk (n_ (b1 := b1) (b := y5) (c1 := aI al3 a3) (c := #[.int .i64 0, .slice DA 0 mA, .int .i64 0, .slice DB 0 mB, .int .i64 al3.size]) ((hbW.block _ (aA HY3.out)).trans HY3.out) (by rintro rfl; have h1 := HS.out.hx; rw [HY3.out] at h1; injection h1 with h1; injection h1 with _ h2 _; revert h2; decide) (by have := aA HY3.out; omega))
  have HY4' := aa.mk (n_ (b1 := b1) (b := y5) (c1 := aI al3 a3) (c := #[.int .i64 0, .slice DA 0 mA, .int .i64 0, .slice DB 0 mB, .int .i64 al3.size]) ((hbW.block _ (aA HY4.out)).trans HY4.out) (by rintro rfl; have h1 := HS.out.hx; rw [HY4.out] at h1; injection h1 with h1; injection h1 with _ h2 _; revert h2; decide) (by have := aA HY4.out; omega))
  refine rP ?_
  refine fE HT_.out 9 b1 1023 (aI al3 a3) HS'.out.hx ?_ (h1 := by simp [Value.oneCell', aI])
  refine fE HT_.out 10 y5 2047 #[.int .i64 0, .slice DA 0 mA, .int .i64 0, .slice DB 0 mB, .int .i64 al3.size] ((setRow_other w' b1 y5 _ HN.out.1).trans hbox) ?_
  refine l7 HT_.out ?_
  have hsn := nZ (cells := #[.int .i64 0, .slice DA 0 mA, .int .i64 0, .slice DB 0 mB, .int .i64 al3.size]) HS'.out HO'.out hbox (by decide) (by decide) (by decide) (by decide) HN.out.1 HN.out.2
  have HS2 := aa.mk hsn.1
  have HY5 := aa.mk hsn.2
  clear hsn HS' HS HO HO' hbox hBb hb hbW HBW hSw HN HY3 HY4 HRD HRO HT_ HW_
  have HS := HS2
  have HY3 := HY3'
  have HY4 := HY4'
  clear HS2 HY3' HY4'
  generalize (w'.setRow b1 (aI al3 a3)).setRow y5 #[.int .i64 0, .slice DA 0 mA, .int .i64 0, .slice DB 0 mB, .int .i64 al3.size] = w2 at HS HY5 HY3 HY4 ⊢
  have HRM := aa.mk (bY.calls 9300 al3.fsize a3.A5 a3.c5 al3.sp 5 5 0 w2 HS.out.reads.h5 HS.out.reads.l5 al_r)
  have hx := HS.out.hx
  unfold aI at hx
  have q4 := (ae hx 4).trans rfl
  have q5 := (ae hx 5).trans rfl
  clear hx
  go_wp2_with fail
  refine HRM.out.mono ?_
  rintro e w3 ⟨rfl, hb⟩
  have HS2 := aa.mk (HS.out.below hb)
  have HY3' := aa.mk ((hb.block _ (aA HY3.out)).trans HY3.out)
  have HY4' := aa.mk ((hb.block _ (aA HY4.out)).trans HY4.out)
  have HY5' := aa.mk ((hb.block _ (aA HY5.out)).trans HY5.out)
  clear HRM q4 q5 hb HS HY3 HY4 HY5
  have HS := HS2
  have HY3 := HY3'
  have HY4 := HY4'
  have HY5 := HY5'
  clear HS2 HY3' HY4' HY5'
  have HRD := aa.mk (read_v al3 a3 1 0 1 (alD 1) 0 w3 HS.out.reads (by decide) al_rd)
  have hx := HS.out.hx
  unfold aI at hx
  have q0 := (ae hx 0).trans rfl
  have q1 := (ae hx 1).trans rfl
  have q2 := (ae hx 2).trans rfl
  have q3 := (ae hx 3).trans rfl
  have q4 := (ae hx 4).trans rfl
  have q5 := (ae hx 5).trans rfl
  have q6 := (ae hx 6).trans rfl
  clear hx
  go_wp2_with fail
  refine HRD.out.mono ?_
  rintro e w4 ⟨v, rfl, hR, hb⟩
  obtain ⟨A9, m9, rfl⟩ := Kd.aZ hR
  have HBW := aa.mk (HS.out.hb.trans (hb.mono HS.out.hb.size))
  have HR9 := aa.mk (Kd.bu hR).2.2
  have HY3' := aa.mk ((hb.block _ (aA HY3.out)).trans HY3.out)
  have HY4' := aa.mk ((hb.block _ (aA HY4.out)).trans HY4.out)
  have HY5' := aa.mk ((hb.block _ (aA HY5.out)).trans HY5.out)
  clear HRD hR q0 q1 q2 q3 q4 q5 q6 hb HS HY3 HY4 HY5
  have hl9 : (alD 1).length = 64 := rfl
  rw [hl9] at HR9 ⊢
  obtain ⟨S1, hS1⟩ : ∃ x, x = strOfNums (alD 1) := ⟨_, rfl⟩
  have hcv : ∀ W : World, Below w4.heap.size w4 W → (convert 37 9 (.slice A9 64 m9)).run Tryz.prog W = .ok (.string S1) W := fun W hb => by rw [hS1]; exact Kd.lh Tryz.underlying37 Tryz.underlying5 Tryz.underlying9 (Kd.aN HR9.out hb)
  go_wp2_with fail
  refine dG (n := 33) (S := fun w' => w'.cell? ⟨y3, 0, none⟩ = some (.int .i64 0) ∧ w'.cell? ⟨y4, 0, none⟩ = some (.int .i64 0) ∧ w'.cell? ⟨y5, 0, none⟩ = some (.int .i64 0) ∧ (convert 37 9 (.slice A9 64 m9)).run Tryz.prog w' = .ok (.string S1) w') (ds := []) (lb 33 0) (by kernel_rfl) rfl (by kernel_rfl) ⟨(ae HY3'.out 0).trans rfl, (ae HY4'.out 0).trans rfl, (ae HY5'.out 0).trans rfl, hcv _ (aQ (Below.refl _ _))⟩ (fun hHeld => ?_)
  refine bG AZ wQ (fun HT_ HW_ => ?_)
  have HB := aa.mk (aQ (Below.refl w4.heap.size w4))
  have HCV := aa.mk hcv
  have hz : wrap64 0 = 0 := w64 (by omega)
  clear hcv
  generalize w4.drew = w5 at hHeld HB ⊢
  refine pu_ 0 52 33 1 ?_
  refine pu_ 2 54 33 5 ?_
  refine tk_ 3 55 33 13 ?_
  refine pu_ 6 58 33 77 ?_
  refine tk_ 7 59 33 205 ?_
  refine pu_ 10 62 33 1229 ?_
  refine tk_ 11 63 33 3277 ?_
  refine pu_ 14 66 33 19661 ?_
  refine pu_ 17 69 33 150733 ?_
  refine on_ 1 53 33 150735 (fun K hK => ?_)
  refine dO Tryz.func22 (by kernel_rfl) rfl #[.int .i64 0] (by rfl) rfl rfl (by (try simp only [List.map_toArray, List.map_cons, List.map_nil]); first | done | rfl) ?_
  refine (rW 0 w5).mono ?_
  rintro e w6 ⟨rfl, hb⟩
  refine ⟨_, rfl, ?_⟩
  have HB' := aa.mk (HB.out.trans (hb.mono HB.out.size))
  refine hK.out _ _ ⟨aM hb hHeld.1, aM hb hHeld.2.1, aM hb hHeld.2.2.1, HCV.out _ HB'.out⟩ (fun hHeld => ?_)
  clear hK K hb HB
  have HB := HB'
  clear HB'
  refine nm_ 53 ?_
  refine on_ 4 56 33 150751 (fun K hK => ?_)
  refine dO Tryz.func22 (by kernel_rfl) rfl #[.int .i64 0] (by rfl) rfl rfl (by (try simp only [List.map_toArray, List.map_cons, List.map_nil]); first | done | rfl) ?_
  refine (rW 0 w6).mono ?_
  rintro e w7 ⟨rfl, hb⟩
  refine ⟨_, rfl, ?_⟩
  have HB' := aa.mk (HB.out.trans (hb.mono HB.out.size))
  refine hK.out _ _ ⟨aM hb hHeld.1, aM hb hHeld.2.1, aM hb hHeld.2.2.1, HCV.out _ HB'.out⟩ (fun hHeld => ?_)
  clear hK K hb HB
  have HB := HB'
  clear HB'
  refine nm_ 56 ?_
  refine pu_ 5 57 33 150783 ?_
  try rw [hz]
  refine on_ 8 60 33 151039 (fun K hK => ?_)
  refine dO Tryz.func22 (by kernel_rfl) rfl #[.int .i64 0] (by rfl) rfl rfl (by (try simp only [List.map_toArray, List.map_cons, List.map_nil]); first | done | rfl) ?_
  refine (rW 0 w7).mono ?_
  rintro e w8 ⟨rfl, hb⟩
  refine ⟨_, rfl, ?_⟩
  have HB' := aa.mk (HB.out.trans (hb.mono HB.out.size))
  refine hK.out _ _ ⟨aM hb hHeld.1, aM hb hHeld.2.1, aM hb hHeld.2.2.1, HCV.out _ HB'.out⟩ (fun hHeld => ?_)
  clear hK K hb HB
  have HB := HB'
  clear HB'
  refine nm_ 60 ?_
  refine pu_ 9 61 33 151551 ?_
  try rw [hz]
  refine on_ 12 64 33 155647 (fun K hK => ?_)
  refine dO Tryz.func22 (by kernel_rfl) rfl #[.int .i64 0] (by rfl) rfl rfl (by (try simp only [List.map_toArray, List.map_cons, List.map_nil]); first | done | rfl) ?_
  refine (rW 0 w8).mono ?_
  rintro e w9 ⟨rfl, hb⟩
  refine ⟨_, rfl, ?_⟩
  have HB' := aa.mk (HB.out.trans (hb.mono HB.out.size))
  refine hK.out _ _ ⟨aM hb hHeld.1, aM hb hHeld.2.1, aM hb hHeld.2.2.1, HCV.out _ HB'.out⟩ (fun hHeld => ?_)
  clear hK K hb HB
  have HB := HB'
  clear HB'
  refine nm_ 64 ?_
  refine pu_ 13 65 33 163839 ?_
  try rw [hz]
  refine on_ 15 67 33 196607 (fun K hK => ?_)
  refine dO Tryz.func22 (by kernel_rfl) rfl #[.int .i64 0] (by rfl) rfl rfl (by (try simp only [List.map_toArray, List.map_cons, List.map_nil]); first | done | rfl) ?_
  refine (rW 0 w9).mono ?_
  rintro e w10 ⟨rfl, hb⟩
  refine ⟨_, rfl, ?_⟩
  have HB' := aa.mk (HB.out.trans (hb.mono HB.out.size))
  refine hK.out _ _ ⟨aM hb hHeld.1, aM hb hHeld.2.1, aM hb hHeld.2.2.1, HCV.out _ HB'.out⟩ (fun hHeld => ?_)
  clear hK K hb HB
  have HB := HB'
  clear HB'
  refine nm_ 67 ?_
  refine pu_ 16 68 33 262143 ?_
  try rw [hz]
  refine on_ 18 70 33 524287 (fun K hK => ?_)
  refine dO Tryz.func22 (by kernel_rfl) rfl #[.int .i64 0] (by rfl) rfl rfl (by (try simp only [List.map_toArray, List.map_cons, List.map_nil]); first | done | rfl) ?_
  refine (rW 0 w10).mono ?_
  rintro e w11 ⟨rfl, hb⟩
  refine ⟨_, rfl, ?_⟩
  have HB' := aa.mk (HB.out.trans (hb.mono HB.out.size))
  refine hK.out _ _ ⟨aM hb hHeld.1, aM hb hHeld.2.1, aM hb hHeld.2.2.1, HCV.out _ HB'.out⟩ (fun hHeld => ?_)
  clear hK K hb HB
  have HB := HB'
  clear HB'
  refine nm_ 70 ?_
  refine pu_ 19 71 33 1048575 ?_
  try rw [hz]
  refine pu_ 20 72 33 2097151 ?_
  refine pu_ 21 73 33 4194303 ?_
  refine pu_ 22 74 33 8388607 ?_
  refine pu_ 23 75 33 16777215 ?_
  refine pu_ 24 76 33 33554431 ?_
  refine pu_ 25 77 33 67108863 ?_
  refine pu_ 26 78 33 134217727 ?_
  refine tk_ 27 79 33 268435455 ?_
  refine on_ 28 80 33 536870911 (fun K hK => ?_)
  refine dO Tryz.func56 (by kernel_rfl) rfl #[.int .u8 1] (by rfl) rfl rfl (by (try simp only [List.map_toArray, List.map_cons, List.map_nil]); first | done | rfl) ?_
  refine (xG 1 w11).mono ?_
  rintro e w12 ⟨D9, n9, rfl, hR, hb⟩
  refine ⟨_, rfl, ?_⟩
  have HR8 := aa.mk (Kd.bu hR).2.2
  clear hR
  have HB' := aa.mk (HB.out.trans (hb.mono HB.out.size))
  refine hK.out _ _ ⟨aM hb hHeld.1, aM hb hHeld.2.1, aM hb hHeld.2.2.1, HCV.out _ HB'.out⟩ (fun hHeld => ?_)
  clear hK K hb HB
  have HB := HB'
  clear HB'
  refine nm_ 80 ?_
  refine on_ 29 81 33 1073741823 (fun K hK => ?_)
  refine mZ (N := some 81) (v := .string S1) (w1 := w12) (by rfl) rfl ?_ ?_
  · have h1 := Kd.lh (P := Tryz.prog) (A := D9) (c := n9) Tryz.underlying37 Tryz.underlying5 Tryz.underlying9 HR8.out
    rw [← hS1] at h1
    have h2 : (convert 37 9 (.slice D9 64 n9)).run Tryz.prog w12 = .ok (.string S1) w12 := h1
    first | (go_simp; done) | (go_simp; rfl)
  refine hK.out _ _ hHeld (fun hHeld => ?_)
  clear hK K
  refine nm_ 81 ?_
  refine pu_ 30 82 33 2147483647 ?_
  refine pu_ 31 83 33 4294967295 ?_
  refine pu_ 32 0 33 8589934591 ?_
  refine eQ (bU HT_.out (by kernel_rfl)) ?_
  clear HT_ HW_ hHeld
  go_wp2
  go_ret
  exact ⟨by simp, HBW.out.trans (HB.out.mono HBW.out.size)⟩
structure NewF (Z R : Int) (s : St) (pg : List (List Int)) : Prop where
  nv : newV Z R = (s, 0)
  ck : dH s = 0
  sn : s.snaps = []
  nx : s.next = 1
  md : pX s = some (pg, [])
  pn : dF.f Z = some (pg, [], 1, 0)
  rm : ∃ b, bY.f 1100 s.fsize s.sp = some (R, b, 0)
theorem j6 {Z R : Int} (s0 : 0 ≤ Z) (s1 : Z ≤ 65536) (h0 : 0 ≤ R) (h1 : R ≤ 65536) : ∃ s pg, NewF Z R s pg := by
  refine ⟨_, _, AP s0 s1 h0 h1, new_ok s0 s1 h0 h1, rfl, rfl, uJ s0 s1, xS s0 s1, ?_⟩
  have h := room_K 70 (rT h0 h1)
  rw [zy h0] at h
  exact h
set_option maxHeartbeats 32000000 in
set_option maxRecDepth 100000 in
theorem z_ (size room : Int) (hs : (3000 < size ∧ size ≤ 65536) ∨ (0 ≤ size ∧ size ≤ 3000)) (hr : (3000 < room ∧ room ≤ 65536) ∨ (0 ≤ room ∧ room ≤ 3000)) (w : World) :
    Calls Tryz.prog 8 #[.int .i64 size, .int .i64 room] w fun e w' => e = .returned (.bool true) ∧ Below w.heap.size w w' := by
  have hu31 := Tryz.underlying31
  have hu28 := Tryz.underlying28
  have hu34 := Tryz.underlying34
  rcases hs with hs | hs <;> rcases hr with hr | hr
  case' inl.inl =>
    obtain ⟨s, pg, hF⟩ := j6 (Z := 3000) (R := 3000) (by omega) (by omega) (by omega) (by omega)
    have HF := aa.mk hF
    have d11 : decide (3000 < size) = true := decide_eq_true (by omega)
    have d12 : decide (size ≤ 65536) = true := decide_eq_true (by omega)
    have d21 : decide (3000 < room) = true := decide_eq_true (by omega)
    have d22 : decide (room ≤ 65536) = true := decide_eq_true (by omega)
    clear hs hr hF
  case' inl.inr =>
    obtain ⟨s, pg, hF⟩ := j6 (Z := 3000) (R := room) (by omega) (by omega) (by omega) (by omega)
    have HF := aa.mk hF
    have d11 : decide (3000 < size) = true := decide_eq_true (by omega)
    have d12 : decide (size ≤ 65536) = true := decide_eq_true (by omega)
    have d21 : decide (3000 < room) = false := decide_eq_false (by omega)
    have d23 : decide (room < 0) = false := decide_eq_false (by omega)
    have d24 : decide (65536 < room) = false := decide_eq_false (by omega)
    clear hs hr hF
  case' inr.inl =>
    obtain ⟨s, pg, hF⟩ := j6 (Z := size) (R := 3000) (by omega) (by omega) (by omega) (by omega)
    have HF := aa.mk hF
    have d11 : decide (3000 < size) = false := decide_eq_false (by omega)
    have d13 : decide (size < 0) = false := decide_eq_false (by omega)
    have d14 : decide (65536 < size) = false := decide_eq_false (by omega)
    have d21 : decide (3000 < room) = true := decide_eq_true (by omega)
    have d22 : decide (room ≤ 65536) = true := decide_eq_true (by omega)
    clear hs hr hF
  case' inr.inr =>
    obtain ⟨s, pg, hF⟩ := j6 (Z := size) (R := room) (by omega) (by omega) (by omega) (by omega)
    have HF := aa.mk hF
    have d11 : decide (3000 < size) = false := decide_eq_false (by omega)
    have d13 : decide (size < 0) = false := decide_eq_false (by omega)
    have d14 : decide (65536 < size) = false := decide_eq_false (by omega)
    have d21 : decide (3000 < room) = false := decide_eq_false (by omega)
    have d23 : decide (room < 0) = false := decide_eq_false (by omega)
    have d24 : decide (65536 < room) = false := decide_eq_false (by omega)
    clear hs hr hF
  all_goals
    go_enter Tryz.func8, Tryz.ntmps8
    go_wp2_with fail
    refine (qc w).mono ?_
    rintro e w1 ⟨rfl, hb⟩
    have HB1 := aa.mk hb
    clear hb
    go_wp2_with fail
    refine (yw _ _ w1).mono ?_
    rintro e w2 ⟨a, rfl, hO, hb⟩
    rw [HF.out.nv] at hO ⊢
    go_wp2_with (refine gI (.store 31 (.tmp 5) (.tmp 30)) rfl ?_; refine gG ?_)
    refine ⟨?_⟩
    refine bF w2.heap.size (aI s a) (bg w2 _) ?_ (h1 := by simp [Value.oneCell', aI])
    have HS := aa.mk (nQ hO hb)
    obtain ⟨b1, hb1⟩ : ∃ k, k = w2.heap.size := ⟨_, rfl⟩
    unfold NIL7 at HS
    rw [← hb1] at HS ⊢
    clear hO hb hb1
    generalize (w2.alloc _).setRow b1 (aI s a) = w3 at HS ⊢
    go_wp2_with fail
    refine (dF.calls _ pg [] 1 0 w3 HF.out.pn).mono ?_
    rintro e w4 ⟨v0, v1, rfl, hS0, hR1, hb⟩
    have hS0 := Kd.S_R hS0
    obtain ⟨P0, d0, rfl⟩ := Kd.aZ hS0
    obtain ⟨P1, d1, rfl⟩ := Kd.aZ hR1
    have hC0 := Kd.bu hS0
    have hC1 := Kd.bu hR1
    have HP := aa.mk (show (Kd.C kLB w4 P0 pg.length pg ∧ pg.length ≤ d0) ∧ Kd.C k42 w4 P1 ([] : List S42).length [] ∧ ([] : List S42).length ≤ d1 from ⟨⟨hC0.2.2, hC0.2.1⟩, hC1.2.2, hC1.2.1⟩)
    have HS4 := aa.mk (HS.out.below hb)
    clear hS0 hR1 hC0 hC1 hb HS
    go_wp2_with (refine gI (.store 34 (.tmp 7) (.tmp 58)) rfl ?_; refine gG ?_)
    refine ⟨?_⟩
    have hba := (Below.refl w4.heap.size w4).alloc (Nat.le_refl _) (.cells #[.slice none 0 0, .slice none 0 0, .int .i64 0] 34)
    refine bF w4.heap.size #[.slice P0 pg.length d0, .slice P1 0 d1, .int .i64 1] (bg w4 _) ?_
    have hbs := aJ hba (g := w4.heap.size) (Nat.le_refl _) #[.slice P0 pg.length d0, .slice P1 0 d1, .int .i64 1]
    have HX := aa.mk (setRow_heap _ w4.heap.size _ #[.slice P0 pg.length d0, .slice P1 0 d1, .int .i64 1] _ _ (bg w4 (.cells #[.slice none 0 0, .slice none 0 0, .int .i64 0] 34)))
    have HS5 := aa.mk (HS4.out.below hbs)
    have HP5 := aa.mk (show (Kd.C kLB _ P0 pg.length pg ∧ pg.length ≤ d0) ∧ Kd.C k42 _ P1 ([] : List S42).length [] ∧ ([] : List S42).length ≤ d1 from ⟨⟨Kd.aN HP.out.1.1 hbs, HP.out.1.2⟩, Kd.aN HP.out.2.1 hbs, HP.out.2.2⟩)
    obtain ⟨b7, hb7⟩ : ∃ k, k = w4.heap.size := ⟨_, rfl⟩
    rw [← hb7] at HX HS5 HP5 ⊢
    clear hba hbs hb7 HS4 HP
    generalize (w4.alloc (.cells #[.slice none 0 0, .slice none 0 0, .int .i64 0] 34)).setRow b7 #[.slice P0 pg.length d0, .slice P1 0 d1, .int .i64 1] = w5 at HX HS5 HP5 ⊢
    have hx := HS5.out.hx
    unfold aI at hx
    have q4 := (ae hx 4).trans rfl
    have q5 := (ae hx 5).trans rfl
    clear hx
    go_wp2_with fail
    clear q4 q5
    obtain ⟨bb, hbb⟩ := HF.out.rm
    have hrd := HS5.out.reads
    refine (bY.calls 1100 s.fsize a.A5 a.c5 s.sp _ bb 0 w5 hrd.h5 hrd.l5 hbb).mono ?_
    rintro e w6 ⟨rfl, hb⟩
    have HX6 := aa.mk ((hb.block _ (aA HX.out)).trans HX.out)
    have HS6 := aa.mk (HS5.out.below hb)
    have HP6 := aa.mk (show (Kd.C kLB w6 P0 pg.length pg ∧ pg.length ≤ d0) ∧ Kd.C k42 w6 P1 ([] : List S42).length [] ∧ ([] : List S42).length ≤ d1 from ⟨⟨Kd.aN HP5.out.1.1 hb, HP5.out.1.2⟩, Kd.aN HP5.out.2.1 hb, HP5.out.2.2⟩)
    clear hb hbb hrd HX HS5 HP5
    go_wp2_with fail
    refine (b_.calls _ _ _ rfl).mono ?_
    rintro e w7 ⟨rfl, hd⟩
    have hb7 := hd.below
    have HX7 := aa.mk ((hb7.block _ (aA HX6.out)).trans HX6.out)
    have HS7 := aa.mk (HS6.out.below hb7)
    have HP7 := aa.mk (show (Kd.C kLB w7 P0 pg.length pg ∧ pg.length ≤ d0) ∧ Kd.C k42 w7 P1 ([] : List S42).length [] ∧ ([] : List S42).length ≤ d1 from ⟨⟨Kd.aN HP6.out.1.1 hb7, HP6.out.1.2⟩, Kd.aN HP6.out.2.1 hb7, HP6.out.2.2⟩)
    clear hd hb7 HX6 HS6 HP6
    go_wp2_with fail
    refine (b_.calls _ _ _ rfl).mono ?_
    rintro e w8 ⟨rfl, hd⟩
    have hb8 := hd.below
    have hx7 := (hb8.block _ (aA HX7.out)).trans HX7.out
    have HS8 := aa.mk (HS7.out.below hb8)
    have HP8 := aa.mk (show (Kd.C kLB w8 P0 pg.length pg ∧ pg.length ≤ d0) ∧ Kd.C k42 w8 P1 ([] : List S42).length [] ∧ ([] : List S42).length ≤ d1 from ⟨⟨Kd.aN HP7.out.1.1 hb8, HP7.out.1.2⟩, Kd.aN HP7.out.2.1 hb8, HP7.out.2.2⟩)
    have hx := HS8.out.hx
    unfold aI at hx
    have q0 := (ae hx 0).trans rfl
    have q1 := (ae hx 1).trans rfl
    have q2 := (ae hx 2).trans rfl
    have q3 := (ae hx 3).trans rfl
    have q4 := (ae hx 4).trans rfl
    have q5 := (ae hx 5).trans rfl
    have q6 := (ae hx 6).trans rfl
    have p0 := (ae hx7 0).trans rfl
    have p1 := (ae hx7 1).trans rfl
    have p2 := (ae hx7 2).trans rfl
    clear hd hb8 hx hx7 HX7 HS7 HP7
    go_wp2_with fail
    clear q0 q1 q2 q3 q4 q5 q6 p0 p1 p2
    have HSH := aa.mk (Bd s a pg [] P0 d0 pg P1 d1 [] 1 w8 HS8.out.reads (by rw [HF.out.sn]; decide) HF.out.ck HF.out.md HP8.out.1.1 HP8.out.1.2 HP8.out.2.1 HP8.out.2.2)
    rw [HF.out.nx, vw] at HSH
    refine HSH.out.mono ?_
    rintro e w9 ⟨rfl, hb⟩
    have HB9 := aa.mk (HB1.out.trans ((HS8.out.hb.trans (hb.mono HS8.out.hb.size)).mono HB1.out.size))
    clear hb HSH HS8 HP8
    go_wp2_with fail
    go_ret
    exact ⟨rfl, HB9.out⟩
set_option maxHeartbeats 32000000 in
set_option maxRecDepth 100000 in
theorem vQ (size room : Int) (hs : size < 0 ∨ 65536 < size) (w : World) :
    Calls Tryz.prog 8 #[.int .i64 size, .int .i64 room] w fun e w' => e = .returned (.bool true) ∧ Below w.heap.size w w' := by
  have hu31 := Tryz.underlying31
  have hu28 := Tryz.underlying28
  have hu34 := Tryz.underlying34
  rcases hs with hs | hs <;> rcases (by omega : (3000 < room ∧ room ≤ 65536) ∨ room ≤ 3000 ∨ 65536 < room) with hr | hr | hr
  case' inl.inl =>
    have HF := aa.mk (gp (size := size) (room := 3000) (by omega))
    have d11 : decide (3000 < size) = false := decide_eq_false (by omega)
    have d13 : decide (size < 0) = true := decide_eq_true (by omega)
    have d21 : decide (3000 < room) = true := decide_eq_true (by omega)
    have d22 : decide (room ≤ 65536) = true := decide_eq_true (by omega)
    clear hs hr
  case' inl.inr.inl =>
    have HF := aa.mk (gp (size := size) (room := room) (by omega))
    have d11 : decide (3000 < size) = false := decide_eq_false (by omega)
    have d13 : decide (size < 0) = true := decide_eq_true (by omega)
    have d21 : decide (3000 < room) = false := decide_eq_false (by omega)
    clear hs hr
  case' inl.inr.inr =>
    have HF := aa.mk (gp (size := size) (room := room) (by omega))
    have d11 : decide (3000 < size) = false := decide_eq_false (by omega)
    have d13 : decide (size < 0) = true := decide_eq_true (by omega)
    have d21 : decide (3000 < room) = true := decide_eq_true (by omega)
    have d22 : decide (room ≤ 65536) = false := decide_eq_false (by omega)
    clear hs hr
  case' inr.inl =>
    have HF := aa.mk (gp (size := size) (room := 3000) (by omega))
    have d11 : decide (3000 < size) = true := decide_eq_true (by omega)
    have d12 : decide (size ≤ 65536) = false := decide_eq_false (by omega)
    have d13 : decide (size < 0) = false := decide_eq_false (by omega)
    have d14 : decide (65536 < size) = true := decide_eq_true (by omega)
    have d21 : decide (3000 < room) = true := decide_eq_true (by omega)
    have d22 : decide (room ≤ 65536) = true := decide_eq_true (by omega)
    clear hs hr
  case' inr.inr.inl =>
    have HF := aa.mk (gp (size := size) (room := room) (by omega))
    have d11 : decide (3000 < size) = true := decide_eq_true (by omega)
    have d12 : decide (size ≤ 65536) = false := decide_eq_false (by omega)
    have d13 : decide (size < 0) = false := decide_eq_false (by omega)
    have d14 : decide (65536 < size) = true := decide_eq_true (by omega)
    have d21 : decide (3000 < room) = false := decide_eq_false (by omega)
    clear hs hr
  case' inr.inr.inr =>
    have HF := aa.mk (gp (size := size) (room := room) (by omega))
    have d11 : decide (3000 < size) = true := decide_eq_true (by omega)
    have d12 : decide (size ≤ 65536) = false := decide_eq_false (by omega)
    have d13 : decide (size < 0) = false := decide_eq_false (by omega)
    have d14 : decide (65536 < size) = true := decide_eq_true (by omega)
    have d21 : decide (3000 < room) = true := decide_eq_true (by omega)
    have d22 : decide (room ≤ 65536) = false := decide_eq_false (by omega)
    clear hs hr
  all_goals
    go_enter Tryz.func8, Tryz.ntmps8
    go_wp2_with fail
    refine (qc w).mono ?_
    rintro e w1 ⟨rfl, hb⟩
    have HB1 := aa.mk hb
    clear hb
    go_wp2_with fail
    refine (yw _ _ w1).mono ?_
    rintro e w2 ⟨a, rfl, hO, hb⟩
    rw [HF.out] at hO ⊢
    go_wp2_with (refine gI (.store 31 (.tmp 5) (.tmp 30)) rfl ?_; refine gG ?_)
    refine ⟨?_⟩
    refine bF w2.heap.size (aI nilV a) (bg w2 _) ?_ (h1 := by simp [Value.oneCell', aI])
    have HS := aa.mk (nQ hO hb)
    obtain ⟨b1, hb1⟩ : ∃ k, k = w2.heap.size := ⟨_, rfl⟩
    unfold NIL7 at HS
    rw [← hb1] at HS ⊢
    clear hO hb hb1
    generalize (w2.alloc _).setRow b1 (aI nilV a) = w3 at HS ⊢
    go_wp2_with fail
    refine (b_.calls _ _ _ rfl).mono ?_
    rintro e w4 ⟨rfl, hd⟩
    have HS4 := aa.mk (HS.out.below hd.below)
    have hx := HS4.out.hx
    have q6 : w4.cell? ⟨b1, 6, none⟩ = some (.slice a.A6 0 a.c6) := (ae hx 6).trans rfl
    have HB9 := aa.mk (HB1.out.trans (HS4.out.hb.mono HB1.out.size))
    clear hd HS HS4 hx
    go_wp2_with fail
    go_ret
    exact ⟨rfl, HB9.out⟩
set_option maxHeartbeats 32000000 in
set_option maxRecDepth 100000 in
theorem vv (size room : Int) (hs : (3000 < size ∧ size ≤ 65536) ∨ (0 ≤ size ∧ size ≤ 3000)) (hr : room < 0 ∨ 65536 < room) (w : World) :
    Calls Tryz.prog 8 #[.int .i64 size, .int .i64 room] w fun e w' => e = .returned (.bool true) ∧ Below w.heap.size w w' := by
  have hu31 := Tryz.underlying31
  have hu28 := Tryz.underlying28
  have hu34 := Tryz.underlying34
  rcases hs with hs | hs <;> rcases hr with hr | hr
  case' inl.inl =>
    have HF := aa.mk (gp (size := 3000) (room := room) (by omega))
    have d11 : decide (3000 < size) = true := decide_eq_true (by omega)
    have d12 : decide (size ≤ 65536) = true := decide_eq_true (by omega)
    have d21 : decide (3000 < room) = false := decide_eq_false (by omega)
    have d23 : decide (room < 0) = true := decide_eq_true (by omega)
    clear hs hr
  case' inl.inr =>
    have HF := aa.mk (gp (size := 3000) (room := room) (by omega))
    have d11 : decide (3000 < size) = true := decide_eq_true (by omega)
    have d12 : decide (size ≤ 65536) = true := decide_eq_true (by omega)
    have d21 : decide (3000 < room) = true := decide_eq_true (by omega)
    have d22 : decide (room ≤ 65536) = false := decide_eq_false (by omega)
    have d23 : decide (room < 0) = false := decide_eq_false (by omega)
    have d24 : decide (65536 < room) = true := decide_eq_true (by omega)
    clear hs hr
  case' inr.inl =>
    have HF := aa.mk (gp (size := size) (room := room) (by omega))
    have d11 : decide (3000 < size) = false := decide_eq_false (by omega)
    have d13 : decide (size < 0) = false := decide_eq_false (by omega)
    have d14 : decide (65536 < size) = false := decide_eq_false (by omega)
    have d21 : decide (3000 < room) = false := decide_eq_false (by omega)
    have d23 : decide (room < 0) = true := decide_eq_true (by omega)
    clear hs hr
  case' inr.inr =>
    have HF := aa.mk (gp (size := size) (room := room) (by omega))
    have d11 : decide (3000 < size) = false := decide_eq_false (by omega)
    have d13 : decide (size < 0) = false := decide_eq_false (by omega)
    have d14 : decide (65536 < size) = false := decide_eq_false (by omega)
    have d21 : decide (3000 < room) = true := decide_eq_true (by omega)
    have d22 : decide (room ≤ 65536) = false := decide_eq_false (by omega)
    have d23 : decide (room < 0) = false := decide_eq_false (by omega)
    have d24 : decide (65536 < room) = true := decide_eq_true (by omega)
    clear hs hr
  all_goals
    go_enter Tryz.func8, Tryz.ntmps8
    go_wp2_with fail
    refine (qc w).mono ?_
    rintro e w1 ⟨rfl, hb⟩
    have HB1 := aa.mk hb
    clear hb
    go_wp2_with fail
    refine (yw _ _ w1).mono ?_
    rintro e w2 ⟨a, rfl, hO, hb⟩
    rw [HF.out] at hO ⊢
    go_wp2_with (refine gI (.store 31 (.tmp 5) (.tmp 30)) rfl ?_; refine gG ?_)
    refine ⟨?_⟩
    refine bF w2.heap.size (aI nilV a) (bg w2 _) ?_ (h1 := by simp [Value.oneCell', aI])
    have HS := aa.mk (nQ hO hb)
    obtain ⟨b1, hb1⟩ : ∃ k, k = w2.heap.size := ⟨_, rfl⟩
    unfold NIL7 at HS
    rw [← hb1] at HS ⊢
    clear hO hb hb1
    generalize (w2.alloc _).setRow b1 (aI nilV a) = w3 at HS ⊢
    go_wp2_with fail
    refine (b_.calls _ _ _ rfl).mono ?_
    rintro e w4 ⟨rfl, hd⟩
    have HS4 := aa.mk (HS.out.below hd.below)
    have hx := HS4.out.hx
    have q6 : w4.cell? ⟨b1, 6, none⟩ = some (.slice a.A6 0 a.c6) := (ae hx 6).trans rfl
    have HB9 := aa.mk (HB1.out.trans (HS4.out.hb.mono HB1.out.size))
    clear hd HS HS4 hx
    go_wp2_with fail
    go_ret
    exact ⟨rfl, HB9.out⟩
def ny.f (_ _ : Int) : Option Bool := some true
theorem newl_v (size room : Int) (w : World) :
    Calls Tryz.prog 8 #[.int .i64 size, .int .i64 room] w fun e w' => e = .returned (.bool true) ∧ Below w.heap.size w w' := by
  by_cases h1 : size < 0 ∨ 65536 < size
  · exact vQ size room h1 w
  by_cases h2 : room < 0 ∨ 65536 < room
  · exact vv size room (by omega) h2 w
  exact z_ size room (by omega) (by omega) w
end Go.Proofs.YtjeeejoelmmfmaaGreat.Fn
