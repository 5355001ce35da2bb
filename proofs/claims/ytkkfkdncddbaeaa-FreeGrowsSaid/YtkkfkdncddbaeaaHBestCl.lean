-- Told by hand; its numbers filled in by a program of this session.
import Derived.Test.YtkkfkdncddbaeaaFnBase
import Derived.Test.YtkkfkdncddbaeaaHFreeAt
import Derived.Test.YtkkfkdncddbaeaaFn106
import Derived.Test.YtkkfkdncddbaeaaHRows2
import Derived.StillTailTactics
import Derived.Laws.Tables
namespace Go.Proofs.Ytkkfkdncddbaeaa.Fn
open Go.RowKit Go.Proofs.YtkkfkdncddbaeaaW.PrintWords Go.Proofs.YtkkfkdncddbaeaaW.PrintLast Go.Proofs.YtkkfkdncddbaeaaW.PrintMore
attribute [local go_sem] max2_int min2_int max_two min_two max_three min_three max_four min_four   -- for this text's walks alone
set_option linter.unusedVariables false
set_option linter.unusedSimpArgs false

/-! The closures of free.Best, and slices.MinFunc at spans. -/
def roomG (line : Int) (x : S40) : Int := wrap64 (mn (wrap64 (x.f0 + x.f1)) line - x.f0)
def roomH (line : Int) (x : S40) : Int := mn x.f1 (wrap64 (line - x.f0))
set_option maxHeartbeats 1000000 in
set_option maxRecDepth 100000 in
theorem best_del (x : S40) (bl bn : Nat) (line n : Int) (w : World) (hl : w.heap[bl]? = some (.cells #[.int .i64 line] 3 (0, 0))) (hn : w.heap[bn]? = some (.cells #[.int .i64 n] 3 (0, 0))) :
    Calls Try.prog 102 #[.agg #[.int .i64 x.f0, .int .i64 x.f1], .pointer (some ⟨bl, 0, none⟩), .pointer (some ⟨bn, 0, none⟩)] w fun e w' => e = .returned (.bool (decide (roomG line x < n))) ∧ Below w.heap.size w w' := by
  have hu40 := Try.underlying40
  have h1 := blk_lt hl
  have h2 := blk_lt hn
  have hb := (Below.refl w.heap.size w).alloc (Nat.le_refl _) (.cells #[.int .i64 x.f0, .int .i64 x.f1] 40)
  have x0 : (w.alloc (.cells #[.int .i64 x.f0, .int .i64 x.f1] 40)).cell? ⟨bl, 0, none⟩ = some (.int .i64 line) := (blk_cell ((hb.block bl h1).trans hl) 0).trans rfl
  have x1 : (w.alloc (.cells #[.int .i64 x.f0, .int .i64 x.f1] 40)).cell? ⟨bn, 0, none⟩ = some (.int .i64 n) := (blk_cell ((hb.block bn h2).trans hn) 0).trans rfl
  have HB := Aside0.mk hb
  clear hb hl hn
  go_enter Try.func102, Try.ntmps102
  go_wp2_with fail
  all_goals go_ret
  all_goals refine ⟨?_, HB.out⟩
  all_goals unfold roomG mn
  all_goals first | (rw [if_pos (by omega)]; rfl) | (rw [if_neg (by omega)]; rfl)
set_option maxHeartbeats 1000000 in
set_option maxRecDepth 100000 in
theorem best_cmp (x y : S40) (bl : Nat) (line : Int) (w : World) (hl : w.heap[bl]? = some (.cells #[.int .i64 line] 3 (0, 0))) :
    Calls Try.prog 104 #[.agg #[.int .i64 x.f0, .int .i64 x.f1], .agg #[.int .i64 y.f0, .int .i64 y.f1], .pointer (some ⟨bl, 0, none⟩)] w fun e w' => e = .returned (.int .i64 (cmpI (roomH line x) (roomH line y))) ∧ Below w.heap.size w w' := by
  have hu40 := Try.underlying40
  have h1 := blk_lt hl
  have hb := ((Below.refl w.heap.size w).alloc (Nat.le_refl _) (.cells #[.int .i64 x.f0, .int .i64 x.f1] 40)).alloc ((Below.refl w.heap.size w).alloc (Nat.le_refl _) (.cells #[.int .i64 x.f0, .int .i64 x.f1] 40)).size (.cells #[.int .i64 y.f0, .int .i64 y.f1] 40)
  have x0 : ((w.alloc (.cells #[.int .i64 x.f0, .int .i64 x.f1] 40)).alloc (.cells #[.int .i64 y.f0, .int .i64 y.f1] 40)).cell? ⟨bl, 0, none⟩ = some (.int .i64 line) := (blk_cell ((hb.block bl h1).trans hl) 0).trans rfl
  have HB := Aside0.mk hb
  clear hb hl
  go_enter Try.func104, Try.ntmps104
  go_wp2_with fail
  · have ea : roomH line x = (wrap64 (line - x.f0)) := by unfold roomH mn; first | (rw [if_pos (by omega)]; done) | (rw [if_neg (by omega)]; done)
    have eb : roomH line y = (wrap64 (line - y.f0)) := by unfold roomH mn; first | (rw [if_pos (by omega)]; done) | (rw [if_neg (by omega)]; done)
    have EA := Aside0.mk (And.intro ea eb)
    have hf : cmp_Compare_int.f (wrap64 (line - x.f0)) (wrap64 (line - y.f0)) = some (cmpI (wrap64 (line - x.f0)) (wrap64 (line - y.f0))) := cmp_f _ _
    clear ea eb
    refine (cmp_Compare_int.calls (wrap64 (line - x.f0)) (wrap64 (line - y.f0)) _ _ hf).mono ?_
    rintro e w1 ⟨rfl, hd⟩
    have HB2 := Aside0.mk (below_step HB.out hd.below)
    clear hd hf
    go_wp2
    go_ret
    exact ⟨by rw [EA.out.1, EA.out.2]; rfl, HB2.out⟩
  · have ea : roomH line x = (wrap64 (line - x.f0)) := by unfold roomH mn; first | (rw [if_pos (by omega)]; done) | (rw [if_neg (by omega)]; done)
    have eb : roomH line y = y.f1 := by unfold roomH mn; first | (rw [if_pos (by omega)]; done) | (rw [if_neg (by omega)]; done)
    have EA := Aside0.mk (And.intro ea eb)
    have hf : cmp_Compare_int.f (wrap64 (line - x.f0)) y.f1 = some (cmpI (wrap64 (line - x.f0)) y.f1) := cmp_f _ _
    clear ea eb
    refine (cmp_Compare_int.calls (wrap64 (line - x.f0)) y.f1 _ _ hf).mono ?_
    rintro e w1 ⟨rfl, hd⟩
    have HB2 := Aside0.mk (below_step HB.out hd.below)
    clear hd hf
    go_wp2
    go_ret
    exact ⟨by rw [EA.out.1, EA.out.2]; rfl, HB2.out⟩
  · have ea : roomH line x = x.f1 := by unfold roomH mn; first | (rw [if_pos (by omega)]; done) | (rw [if_neg (by omega)]; done)
    have eb : roomH line y = (wrap64 (line - y.f0)) := by unfold roomH mn; first | (rw [if_pos (by omega)]; done) | (rw [if_neg (by omega)]; done)
    have EA := Aside0.mk (And.intro ea eb)
    have hf : cmp_Compare_int.f x.f1 (wrap64 (line - y.f0)) = some (cmpI x.f1 (wrap64 (line - y.f0))) := cmp_f _ _
    clear ea eb
    refine (cmp_Compare_int.calls x.f1 (wrap64 (line - y.f0)) _ _ hf).mono ?_
    rintro e w1 ⟨rfl, hd⟩
    have HB2 := Aside0.mk (below_step HB.out hd.below)
    clear hd hf
    go_wp2
    go_ret
    exact ⟨by rw [EA.out.1, EA.out.2]; rfl, HB2.out⟩
  · have ea : roomH line x = x.f1 := by unfold roomH mn; first | (rw [if_pos (by omega)]; done) | (rw [if_neg (by omega)]; done)
    have eb : roomH line y = y.f1 := by unfold roomH mn; first | (rw [if_pos (by omega)]; done) | (rw [if_neg (by omega)]; done)
    have EA := Aside0.mk (And.intro ea eb)
    have hf : cmp_Compare_int.f x.f1 y.f1 = some (cmpI x.f1 y.f1) := cmp_f _ _
    clear ea eb
    refine (cmp_Compare_int.calls x.f1 y.f1 _ _ hf).mono ?_
    rintro e w1 ⟨rfl, hd⟩
    have HB2 := Aside0.mk (below_step HB.out hd.below)
    clear hd hf
    go_wp2
    go_ret
    exact ⟨by rw [EA.out.1, EA.out.2]; rfl, HB2.out⟩
theorem alloc_sz (w : World) (o : Obj) : (w.alloc o).heap.size = w.heap.size + 1 := Array.size_push _
theorem alloc_new (w : World) (o : Obj) : (w.alloc o).heap[w.heap.size]? = some o := Array.getElem?_push_size
/-- The least one, the first of those. -/
def minG {α : Type} (q : α → α → Int) (m : α) (l : List α) : α := l.foldl (fun m x => if q x m < 0 then x else m) m
set_option maxHeartbeats 2000000 in
set_option maxRecDepth 100000 in
theorem min_span (cl : Nat) (lb : Array Value) (q : S40 → S40 → Int) (eg : ∀ args w, (callFunc cl args).run Try.prog w = .ok (.enter cl args) w)
    (A0 : Option Addr) (c0 : Nat) (x0 : S40) (t0 : List S40) (w : World) (hr0 : Kd.C k40 w A0 (x0 :: t0).length (x0 :: t0))
    (hp : ∀ (W : World) (x y : S40), Below w.heap.size w W → Calls Try.prog cl (#[.agg #[.int .i64 x.f0, .int .i64 x.f1], .agg #[.int .i64 y.f0, .int .i64 y.f1]] ++ lb) W fun e w' => e = .returned (.int .i64 (q x y)) ∧ Below W.heap.size W w') :
    Calls Try.prog 103 #[.slice A0 (x0 :: t0).length c0, .func (.func cl) #[] lb] w fun e w' => e = .returned (.agg #[.int .i64 (minG q x0 t0).f0, .int .i64 (minG q x0 t0).f1]) ∧ Below w.heap.size w w' := by
  have hu40 := Try.underlying40
  have HR0 := Aside0.mk hr0
  have HP := Aside0.mk hp
  obtain ⟨n, hn⟩ : ∃ n, n = (x0 :: t0).length := ⟨_, rfl⟩
  have hn1 : 1 ≤ n := by rw [hn]; simp
  have hn9 : (n : Int) ≤ 9223372036854775807 := by have := hr0.2.1; omega
  have hd0 : decide ((n : Int) < 1) = false := decide_eq_false (by omega)
  obtain ⟨ad, e3, g0, g1⟩ := at_T40 hr0 0 (by omega) (by rw [← hn]; omega)
  rw [← hn]
  cases e3
  have HN := Aside0.mk hn
  have hx0 : rd_T40 (x0 :: t0) 0 = x0 := rfl
  rw [hx0] at g0 g1
  clear hr0 hp hn hx0
  have hb0 : Below w.heap.size w (w.alloc (.cells #[.int .i64 0, .int .i64 0] 40)) := (Below.refl w.heap.size w).alloc (Nat.le_refl _) _
  have g0' : (w.alloc (.cells #[.int .i64 0, .int .i64 0] 40)).cell? ad = some (.int .i64 x0.f0) := pw_cell_below hb0 g0
  have g1' : (w.alloc (.cells #[.int .i64 0, .int .i64 0] 40)).cell? ⟨ad.block, ad.off + 1, none⟩ = some (.int .i64 x0.f1) := pw_cell_below hb0 g1
  clear g0 g1
  go_enter Try.func103, Try.ntmps103
  go_wp2_with fail
  obtain ⟨b4, hb4⟩ : ∃ b, b = w.heap.size := ⟨_, rfl⟩
  have hs0 : ((w.alloc (.cells #[.int .i64 0, .int .i64 0] 40)).alloc (.cells #[.int .i64 x0.f0, .int .i64 x0.f1] 40)).heap[b4]? = some (.cells #[.int .i64 0, .int .i64 0] 40 (0, 0)) := by
    rw [hb4, Below.heap_alloc _ _ _ (by rw [alloc_sz]; exact Nat.lt_succ_self _)]
    exact alloc_new w _
  have hs1 : ((w.alloc (.cells #[.int .i64 0, .int .i64 0] 40)).alloc (.cells #[.int .i64 x0.f0, .int .i64 x0.f1] 40)).heap[b4 + 1]? = some (.cells #[.int .i64 x0.f0, .int .i64 x0.f1] 40 (0, 0)) := by
    have := alloc_new (w.alloc (.cells #[.int .i64 0, .int .i64 0] 40)) (.cells #[.int .i64 x0.f0, .int .i64 x0.f1] 40)
    have e : (w.alloc (.cells #[.int .i64 0, .int .i64 0] 40)).heap.size = b4 + 1 := by rw [alloc_sz, hb4]
    rw [e] at this
    exact this
  have hB0 : Below b4 w ((w.alloc (.cells #[.int .i64 0, .int .i64 0] 40)).alloc (.cells #[.int .i64 x0.f0, .int .i64 x0.f1] 40)) := by
    rw [hb4]
    exact hb0.alloc hb0.size _
  have HP2 := Aside0.mk (show ∀ (W : World) (x y : S40), Below b4 w W → Calls Try.prog cl (#[.agg #[.int .i64 x.f0, .int .i64 x.f1], .agg #[.int .i64 y.f0, .int .i64 y.f1]] ++ lb) W fun e w' => e = .returned (.int .i64 (q x y)) ∧ Below W.heap.size W w' by rw [hb4]; exact HP.out)
  have HB4 := Aside0.mk hb4
  rw [← hb4]
  clear HP hb0 g0' g1' hb4
  go_loopg [6] n (fun gk v6 W => ∃ (i : Nat) (m : S40), v6 = .int .i64 i ∧ Aside0 (1 ≤ i ∧ i + gk = n + 1) ∧ Aside0 (Below b4 w W) ∧ Aside0 (W.heap[b4]? = some (.cells #[.int .i64 0, .int .i64 0] 40 (0, 0))) ∧ Aside0 (W.heap[b4 + 1]? = some (.cells #[.int .i64 m.f0, .int .i64 m.f1] 40 (0, 0))) ∧ Aside0 (minG q m (t0.drop (i - 1)) = minG q x0 t0))
  case atStart => exact ⟨1, x0, rfl, ⟨Nat.le_refl _, Nat.add_comm _ _⟩, ⟨hB0⟩, ⟨hs0⟩, ⟨hs1⟩, ⟨rfl⟩⟩
  case round =>
    obtain ⟨i, m, rfl, HI, HB, HX4, HX5, HM⟩ := hrel
    by_cases hlt : i < n
    · have hd : decide ((i : Int) < (n : Int)) = true := decide_eq_true (by omega)
      have hp0 : (0 : Int) ≤ (i : Int) := by omega
      have hp1 : (i : Int) < (n : Int) := by omega
      have hC : Kd.C k40 wr (some ad) (x0 :: t0).length (x0 :: t0) := Kd.C_below HR0.out (by rw [← HB4.out]; exact HB.out)
      obtain ⟨ad', e3, g0, g1⟩ := at_T40 hC (i : Int) hp0 (by rw [← HN.out]; exact hp1)
      cases e3
      obtain ⟨k1, rfl⟩ : ∃ k, gk = k + 1 := ⟨gk - 1, by have := HI.out.2; omega⟩
      obtain ⟨x, hx⟩ : ∃ x, x = rd_T40 (x0 :: t0) (i : Int) := ⟨_, rfl⟩
      rw [← hx] at g0 g1
      have hdr : t0.drop (i - 1) = x :: t0.drop i := by
        have hil : i - 1 < t0.length := by have := HN.out; have := HI.out.1; simp at *; omega
        rw [hx]
        obtain ⟨j, rfl⟩ : ∃ j, i = j + 1 := ⟨i - 1, by have := HI.out.1; omega⟩
        have e : t0.drop (j + 1 - 1) = t0[j]'(by simpa using hil) :: t0.drop (j + 1) := by
          rw [Nat.add_sub_cancel]; exact (List.getElem_cons_drop (by simpa using hil)).symm
        rw [e]
        congr 1
        rw [rd40_get _ _ (by omega) (by simp; simp at hil; omega)]
        simp
      have y0 : wr.cell? ⟨b4 + 1, 0, none⟩ = some (.int .i64 m.f0) := (blk_cell HX5.out 0).trans rfl
      have y1 : wr.cell? ⟨b4 + 1, 1, none⟩ = some (.int .i64 m.f1) := (blk_cell HX5.out 1).trans rfl
      have hcall := HP2.out wr.drew x m (below_drew HB.out)
      have HX := Aside0.mk hdr
      rw [Int.toNat_natCast] at g0 g1
      have HG := Aside0.mk (And.intro g0 g1)
      clear hx hC hdr
      have gd0 : ({ heap := wr.heap, tape := wr.tape, drawn := wr.drawn + 1, os := wr.os, output := wr.output } : World).cell? (ad.add (i * 2)) = some (.int .i64 x.f0) := HG.out.1
      have gd1 : ({ heap := wr.heap, tape := wr.tape, drawn := wr.drawn + 1, os := wr.os, output := wr.output } : World).cell? ⟨(ad.add (i * 2)).block, (ad.add (i * 2)).off + 1, none⟩ = some (.int .i64 x.f1) := HG.out.2
      have yd0 : ({ heap := wr.heap, tape := wr.tape, drawn := wr.drawn + 1, os := wr.os, output := wr.output } : World).cell? ⟨b4 + 1, 0, none⟩ = some (.int .i64 m.f0) := y0
      have yd1 : ({ heap := wr.heap, tape := wr.tape, drawn := wr.drawn + 1, os := wr.os, output := wr.output } : World).cell? ⟨b4 + 1, 1, none⟩ = some (.int .i64 m.f1) := y1
      by_cases hq : q x m < 0
      · have hdq : decide (q x m < 0) = true := decide_eq_true hq
        go_wp2_with fail
        go_still_tail 6, (by kernel_rfl)
        change wpList _ _ _ _ _ wr.drew
        go_wp2_with (first
          | (refine wpList_store_row (P := Try.prog) rfl 40 (.tmp 5) (.tmp 31) rfl (b4 + 1) #[.int .i64 x.f0, .int .i64 x.f1] rfl rfl 40 #[.int .i64 m.f0, .int .i64 m.f1] hx5 (by kernel_rfl) rfl (by simp [Value.oneCell']) ?_)
          | (go_at_fn cl; refine hcall.mono ?_; rintro e w' ⟨rfl, hb'⟩; have z0 := pw_cell_below hb' HG.out.1; have z1 := pw_cell_below hb' HG.out.2; have hx5 : w'.heap[b4 + 1]? = some (.cells #[.int .i64 m.f0, .int .i64 m.f1] 40 (0, 0)) := (hb'.block _ (blk_lt HX5.out)).trans HX5.out))
        go_roundg k1
        case measure => omega
        case rel =>
          refine ⟨i + 1, x, by first | rfl | (simp; done) | go_num, ⟨by omega, by have := HI.out.2; omega⟩, ⟨setRow_below (below_then (below_drew HB.out) (Nat.le_trans (Nat.le_of_eq HB4.out) (below_drew HB.out).size) hb') (Nat.le_succ _) _⟩, ⟨(setRow_other _ (b4 + 1) b4 _ (by omega)).trans ((hb'.block _ (blk_lt HX4.out)).trans HX4.out)⟩, ⟨setRow_heap _ (b4 + 1) _ _ 40 (0, 0) hx5⟩, ⟨?_⟩⟩
          have h := HM.out
          rw [HX.out] at h
          have e : minG q m (x :: t0.drop i) = minG q (if q x m < 0 then x else m) (t0.drop i) := rfl
          rw [e, if_pos hq] at h
          exact h
      · have hdq : decide (q x m < 0) = false := decide_eq_false hq
        go_wp2_with fail
        go_still_tail 6, (by kernel_rfl)
        change wpList _ _ _ _ _ wr.drew
        go_wp2_with (go_at_fn cl; refine hcall.mono ?_; rintro e w' ⟨rfl, hb'⟩)
        go_roundg k1
        case measure => omega
        case rel =>
          refine ⟨i + 1, m, by first | rfl | (simp; done) | go_num, ⟨by omega, by have := HI.out.2; omega⟩, ⟨below_then (below_drew HB.out) (Nat.le_trans (Nat.le_of_eq HB4.out) (below_drew HB.out).size) hb'⟩, ⟨(hb'.block _ (blk_lt HX4.out)).trans HX4.out⟩, ⟨(hb'.block _ (blk_lt HX5.out)).trans HX5.out⟩, ⟨?_⟩⟩
          have h := HM.out
          rw [HX.out] at h
          have e : minG q m (x :: t0.drop i) = minG q (if q x m < 0 then x else m) (t0.drop i) := rfl
          rw [e, if_neg (by omega)] at h
          exact h
    · have hd : decide ((i : Int) < (n : Int)) = false := decide_eq_false (by omega)
      have hres : m = minG q x0 t0 := by
        have h := HM.out
        rw [List.drop_eq_nil_of_le (by have := HN.out; simp at this; omega)] at h
        exact h
      have HRES := Aside0.mk hres
      have y0 : wr.cell? ⟨b4 + 1, 0, none⟩ = some (.int .i64 m.f0) := (blk_cell HX5.out 0).trans rfl
      have y1 : wr.cell? ⟨b4 + 1, 1, none⟩ = some (.int .i64 m.f1) := (blk_cell HX5.out 1).trans rfl
      have hx4 := HX4.out
      clear hres
      have hst := setRow_heap wr b4 #[.int .i64 0, .int .i64 0] #[.int .i64 m.f0, .int .i64 m.f1] 40 (0, 0) hx4
      have q0 : (wr.setRow b4 #[.int .i64 m.f0, .int .i64 m.f1]).cell? ⟨b4, 0, none⟩ = some (.int .i64 m.f0) := (blk_cell hst 0).trans rfl
      have q1 : (wr.setRow b4 #[.int .i64 m.f0, .int .i64 m.f1]).cell? ⟨b4, 1, none⟩ = some (.int .i64 m.f1) := (blk_cell hst 1).trans rfl
      have hbe : Below b4 w (wr.setRow b4 #[.int .i64 m.f0, .int .i64 m.f1]) := setRow_below HB.out (Nat.le_refl _) _
      have HBE := Aside0.mk hbe
      have HST := Aside0.mk hst
      clear hbe hst
      go_wp2_with (refine wpList_store_row (P := Try.prog) rfl 40 (.tmp 4) (.tmp 32) rfl b4 #[.int .i64 m.f0, .int .i64 m.f1] rfl rfl 40 #[.int .i64 0, .int .i64 0] hx4 (by kernel_rfl) rfl (by simp [Value.oneCell']) ?_)
      (try simp only [Exit.inBlock, Exit.then])
      trace_state
      refine bodyPost_ret (results_cell_row rfl _ _ b4 40 #[.int .i64 m.f0, .int .i64 m.f1] (0, 0) _ rfl HST.out Try.underlying40 rfl (by kernel_rfl)) rfl ?_
      refine ⟨?_, by rw [← HB4.out]; exact HBE.out⟩
      rw [← HRES.out]

end Go.Proofs.Ytkkfkdncddbaeaa.Fn
