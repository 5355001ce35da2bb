-- Told by hand; its numbers filled in by a program of this session.
import Derived.Test.YtkkfkdncddbaeaaFnBase
import Derived.Test.YtkkfkdncddbaeaaHRepl
import Derived.Test.YtkkfkdncddbaeaaFn111
import Derived.Test.YtkkfkdncddbaeaaFn101
namespace Go.Proofs.Ytkkfkdncddbaeaa.Fn
open Go.RowKit Go.Proofs.YtkkfkdncddbaeaaW.PrintWords Go.Proofs.YtkkfkdncddbaeaaW.PrintLast Go.Proofs.YtkkfkdncddbaeaaW.PrintMore
attribute [local go_sem] max2_int min2_int max_two min_two max_three min_three max_four min_four   -- for this text's walks alone
set_option linter.unusedVariables false
set_option linter.unusedSimpArgs false

/-- What is left of a free span, as Go reckons. -/
def restG1 (y x : S40) : List S40 := if y.f0 < x.f0 then [⟨y.f0, wrap64 (x.f0 - y.f0)⟩] else []
def restG2 (y x : S40) : List S40 := if wrap64 (x.f0 + x.f1) < wrap64 (y.f0 + y.f1) then [⟨wrap64 (x.f0 + x.f1), wrap64 (wrap64 (y.f0 + y.f1) - wrap64 (x.f0 + x.f1))⟩] else []
def outL (l : List S40) (i : Nat) (x : S40) : List S40 := l.take i ++ (restG1 (rd_T40 l i) x ++ restG2 (rd_T40 l i) x) ++ l.drop (i + 1)
def free_out.f (l0 : List (S40)) (a1 : Int) (a2_0 : Int) (a2_1 : Int) : Option (List (S40)) := if 0 ≤ a1 ∧ a1 < l0.length ∧ l0.length ≤ 4096 then some (outL l0 a1.toNat ⟨a2_0, a2_1⟩) else none
/-- A row of the caller's own, as a value handed to Replace. -/
theorem srcV_of {w : World} {base g : Nat} {ok : Nat → Prop} {v : Value} {vs : List S40} (h : Kd.R k40 40 w base ok v vs) (hg : ∀ k, v.ownBlock = some k → k ≠ g) : SrcV w v vs g := by
  rcases R_lies flatSpan h with ⟨h1, h2⟩ | ⟨gv, cap, h1, h2, h3, h4⟩
  · exact .inl ⟨h1, h2⟩
  · obtain ⟨curv, h5⟩ := h4.toL spanLen
    subst h1
    exact .inr ⟨gv, cap, curv, rfl, h5, hg gv rfl⟩
theorem rowL_of {w : World} {base : Nat} {ok : Nat → Prop} {v : Value} {xs : List S40} (h : Kd.R k40 40 w base ok v xs) (h0 : xs ≠ []) : ∃ g c cur, v = .slice (some ⟨g, 0, none⟩) xs.length c ∧ LieL encSpan 2 40 w g c cur xs ∧ base ≤ g ∧ ok g := by
  rcases R_lies flatSpan h with ⟨h1, h2⟩ | ⟨g, cap, h1, h2, h3, h4⟩
  · exact absurd h2 h0
  · obtain ⟨cur, h5⟩ := h4.toL spanLen
    exact ⟨g, cap, cur, h1, h5, h2, h3⟩
/-- The end of 'out': the copy, and what is laid into it. -/
theorem out_tail (w0 W : World) (A0 : Option Addr) (c0 : Nat) (l0 : List S40) (i : Nat) (vs : List S40) (v : Value) (hC : Kd.C k40 W A0 l0.length l0) (hc0 : l0.length ≤ c0) (hR : Kd.R k40 40 W w0.heap.size (fun _ => True) v vs)
    (hB : Below w0.heap.size w0 W) (hi : i < l0.length) (hn : l0.length ≤ 4096) (hm : vs.length ≤ 2) :
    Calls Try.prog 101 #[.slice A0 l0.length c0] W fun e w' => ∃ s : Value, e = .returned s ∧ Below W.heap.size W w' ∧
      Calls Try.prog 142 #[s, .int .i64 i, .int .i64 ((i : Int) + 1), v] w' fun e w'' => ∃ v' : Value, e = .returned v' ∧ Kd.R k40 40 w'' w0.heap.size (fun _ => True) v' (l0.take i ++ vs ++ l0.drop (i + 1)) ∧ Below w0.heap.size w0 w'' := by
  refine (api_Span_101.calls A0 c0 l0 l0 W hC hc0 (by unfold api_Span_101.f; rw [if_pos (by omega)])).mono ?_
  rintro e w' ⟨s, rfl, hR1, hb1⟩
  have hne : l0 ≠ [] := by intro h; rw [h] at hi; simp at hi
  obtain ⟨g, c, cur, rfl, hL, hg, _⟩ := rowL_of hR1 hne
  have hV : SrcV w' v vs g := srcV_of (Kd.R_below hR hb1) (fun k hk => by
    have := Kd.R_lt hR k hk
    omega)
  refine ⟨_, rfl, hb1, ?_⟩
  have h := repl_span w0 w' w0.heap.size g c (fun _ => True) cur l0 vs v i (i + 1) hL hV (below_then hB hB.size hb1) (Nat.le_trans hB.size hg) trivial (fun _ _ => trivial) (by omega) (by omega) hn hm (fun _ => rfl)
  have e1 : ((i + 1 : Nat) : Int) = (i : Int) + 1 := by omega
  rw [e1] at h
  exact h
set_option maxHeartbeats 4000000 in
set_option maxRecDepth 100000 in
theorem free_out.calls (A0 : Option Addr) (c0 : Nat) (l0 : List (S40)) (a1 : Int) (a2_0 : Int) (a2_1 : Int) (r : List (S40)) (w : World) (hr0 : Kd.C k40 w A0 l0.length l0) (hc0 : l0.length ≤ c0) (h : free_out.f l0 a1 a2_0 a2_1 = some r) :
    Calls Try.prog 108 #[.slice A0 l0.length c0, .int .i64 a1, .agg #[.int .i64 a2_0, .int .i64 a2_1]] w fun e w' => ∃ v0_ : Value, e = .returned (v0_) ∧ Kd.R k40 40 w' w.heap.size (fun _ => True) v0_ r ∧ Below w.heap.size w w' := by
  have hu40 := Try.underlying40
  unfold free_out.f at h
  split at h
  · rename_i hc
    obtain ⟨h0, h1, h2⟩ := hc
    obtain rfl := Option.some.inj h
    obtain ⟨i, rfl⟩ : ∃ i : Nat, a1 = (i : Int) := ⟨a1.toNat, by omega⟩
    rw [Int.toNat_natCast]
    have hin : i < l0.length := by omega
    obtain ⟨ad, e3, g0, g1⟩ := at_T40 hr0 (i : Int) h0 h1
    cases e3
    obtain ⟨y, hy⟩ : ∃ y, y = rd_T40 l0 (i : Int) := ⟨_, rfl⟩
    rw [← hy] at g0 g1
    have hres : outL l0 i ⟨a2_0, a2_1⟩ = l0.take i ++ (restG1 y ⟨a2_0, a2_1⟩ ++ restG2 y ⟨a2_0, a2_1⟩) ++ l0.drop (i + 1) := by unfold outL; rw [← hy]
    rw [hres]
    have hti : ((i : Int)).toNat = i := Int.toNat_natCast i
    have hw1 : IntKind.i64.wrap ((i : Int) + 1) = (i : Int) + 1 := IntWalk.i64_in _ (by omega)
    rw [hti] at g0 g1
    obtain ⟨W0, hW0⟩ : ∃ W, W = w.alloc (.cells #[.int .i64 a2_0, .int .i64 a2_1] 40) := ⟨_, rfl⟩
    have hbel0 : Below w.heap.size w W0 := by rw [hW0]; exact (Below.refl _ _).alloc (Nat.le_refl _) _
    have g0' : (w.alloc (.cells #[.int .i64 a2_0, .int .i64 a2_1] 40)).cell? (ad.add (i * 2)) = some (.int .i64 y.f0) := by rw [← hW0]; exact pw_cell_below hbel0 g0
    have g1' : (w.alloc (.cells #[.int .i64 a2_0, .int .i64 a2_1] 40)).cell? ⟨(ad.add (i * 2)).block, (ad.add (i * 2)).off + 1, none⟩ = some (.int .i64 y.f1) := by rw [← hW0]; exact pw_cell_below hbel0 g1
    obtain ⟨b5, hb5⟩ : ∃ b, b = w.heap.size := ⟨_, rfl⟩
    obtain ⟨b7, hb7⟩ : ∃ b, b = W0.heap.size := ⟨_, rfl⟩
    obtain ⟨W1, hW1⟩ : ∃ W, W = W0.alloc (.cells #[.int .i64 y.f0, .int .i64 y.f1] 40) := ⟨_, rfl⟩
    have hx5 : W1.heap[b5]? = some (.cells #[.int .i64 a2_0, .int .i64 a2_1] 40 (0, 0)) := by rw [hW1]; refine blk_alloc ?_ _; rw [hW0, hb5]; exact blk_new w _
    have hx7 : W1.heap[b7]? = some (.cells #[.int .i64 y.f0, .int .i64 y.f1] 40 (0, 0)) := by rw [hW1, hb7]; exact blk_new W0 _
    have hbel1 : Below w.heap.size w W1 := by rw [hW1]; exact hbel0.alloc hbel0.size _
    have x0 : W1.cell? ⟨b5, 0, none⟩ = some (.int .i64 a2_0) := (blk_cell hx5 0).trans rfl
    have x1 : W1.cell? ⟨b5, 1, none⟩ = some (.int .i64 a2_1) := (blk_cell hx5 1).trans rfl
    have y0 : W1.cell? ⟨b7, 0, none⟩ = some (.int .i64 y.f0) := (blk_cell hx7 0).trans rfl
    have y1 : W1.cell? ⟨b7, 1, none⟩ = some (.int .i64 y.f1) := (blk_cell hx7 1).trans rfl
    have HR0 := Aside0.mk hr0
    have HC0 := Aside0.mk hc0
    have HI := Aside0.mk (And.intro hin h2)
    have HX5 := Aside0.mk hx5
    have HX7 := Aside0.mk hx7
    have HB1 := Aside0.mk hbel1
    have e5 : w.heap.size = b5 := hb5.symm
    have e7 : (w.alloc (.cells #[.int .i64 a2_0, .int .i64 a2_1] 40)).heap.size = b7 := by rw [← hW0, hb7]
    have e7' : w.heap.size + 1 = b7 := by rw [← e7]; simp
    have E57 := Aside0.mk (And.intro e5 (And.intro e7 e7'))
    have hWW : W1 = (w.alloc (.cells #[.int .i64 a2_0, .int .i64 a2_1] 40)).alloc (.cells #[.int .i64 y.f0, .int .i64 y.f1] 40) := by rw [hW1, hW0]
    have HWW := Aside0.mk hWW
    clear hr0 hc0 h hy hres hin h2 hW0 hW1 hb5 hb7 hx5 hx7 hbel0 hbel1 g0 g1 e5 e7 e7' hWW
    obtain ⟨s1, hs1⟩ : ∃ s : Int, s = wrap64 (a2_0 + a2_1) := ⟨_, rfl⟩
    obtain ⟨s2, hs2⟩ : ∃ s : Int, s = wrap64 (y.f0 + y.f1) := ⟨_, rfl⟩
    have HS := Aside0.mk (And.intro hs1 hs2)
    by_cases c1 : y.f0 < a2_0
    · have hd1 : decide (y.f0 < a2_0) = true := decide_eq_true c1
      have hr1 : restG1 y ⟨a2_0, a2_1⟩ = [⟨y.f0, wrap64 (a2_0 - y.f0)⟩] := by unfold restG1; rw [if_pos c1]
      have HR1 := Aside0.mk hr1
      clear hr1
      rw [HWW.out] at x0 x1 y0 y1
      rw [← E57.out.2.2] at y0 y1
      rw [← E57.out.1] at x0 x1
      go_enter Try.func108, Try.ntmps108
      go_wp2_with (first | ((with_reducible refine gate_builtin (b := .append) (xs := #[.tmp 20, .tmp 29]) rfl ?_); at_builtin; refine Kd.R_append k40 (w0 := w) w.heap.size rfl (.tmp 20) (.tmp 29) 54 40 (.agg #[(.int .i64 0), (.int .i64 0)]) 16 rfl Try.underlying54 info40 rfl (by decide) (by omega) (.slice none 0 0) ([] : List S40) (⟨y.f0, wrap64 (a2_0 - y.f0)⟩ : S40) [.int .i64 ((⟨y.f0, wrap64 (a2_0 - y.f0)⟩ : S40) : S40).f0, .int .i64 ((⟨y.f0, wrap64 (a2_0 - y.f0)⟩ : S40) : S40).f1] (fun k => k ≠ b5 ∧ k ≠ b7) (fun _ => False) rfl (by first | (go_simp; done) | (go_simp; rfl)) ?aP (fun _ hk => hk.elim) ?aF ?aO ?aB ?aS ?aL ?_; (case aP => exact k40_mkM _ _ _ ((⟨y.f0, wrap64 (a2_0 - y.f0)⟩ : S40) : S40)); (case aF => intro k hk; rw [← HWW.out] at hk; have q1 := blk_lt HX5.out; have q2 := blk_lt HX7.out; exact ⟨by omega, by omega⟩); (case aO => exact Kd.R_nil _ _ _ _ _); (case aB => rw [← HWW.out]; exact HB1.out); (case aS => rw [← HWW.out]; exact HB1.out.size); (case aL => simp); intro v1 w4 ho hb hg hat; rw [← HWW.out] at hg; have HO4 := Aside0.mk ho; have HB4 := Aside0.mk hb; have HG4 := Aside0.mk hg; clear ho hb hg hat))
      clear x0 x1 y0 y1 g0' g1'
      simp only [E57.out.2.2]
      simp only [E57.out.1]
      have HX54 := Aside0.mk ((HG4.out.block b5 (blk_lt HX5.out) (by simp [Value.ownBlock])).trans HX5.out)
      have HX74 := Aside0.mk ((HG4.out.block b7 (blk_lt HX7.out) (by simp [Value.ownBlock])).trans HX7.out)
      obtain ⟨A4, c4, rfl⟩ := Kd.R_slice HO4.out
      have x0 : w4.cell? ⟨b5, 0, none⟩ = some (.int .i64 a2_0) := (blk_cell HX54.out 0).trans rfl
      have x1 : w4.cell? ⟨b5, 1, none⟩ = some (.int .i64 a2_1) := (blk_cell HX54.out 1).trans rfl
      have y0 : w4.cell? ⟨b7, 0, none⟩ = some (.int .i64 y.f0) := (blk_cell HX74.out 0).trans rfl
      have y1 : w4.cell? ⟨b7, 1, none⟩ = some (.int .i64 y.f1) := (blk_cell HX74.out 1).trans rfl
      have hs1w : IntKind.i64.wrap (a2_0 + a2_1) = s1 := by rw [HS.out.1]; exact IntWalk.i64_left _
      have hs1w2 : wrap64 (a2_0 + a2_1) = s1 := HS.out.1.symm
      have hs2w : IntKind.i64.wrap (y.f0 + y.f1) = s2 := by rw [HS.out.2]; exact IntWalk.i64_left _
      have hs2w2 : wrap64 (y.f0 + y.f1) = s2 := HS.out.2.symm
      clear hs1 hs2
      go_quiet (fail)
      obtain ⟨W6, hW6⟩ : ∃ W, W = w4.drewN nq := ⟨_, rfl⟩
      rw [← hW6]
      have HO6 := Aside0.mk (show Kd.R k40 40 W6 w.heap.size (fun k => k ≠ b5 ∧ k ≠ b7) (.slice A4 ([] ++ [(⟨y.f0, wrap64 (a2_0 - y.f0)⟩ : S40)]).length c4) ([] ++ [(⟨y.f0, wrap64 (a2_0 - y.f0)⟩ : S40)]) by rw [hW6]; exact Kd.R_drewN HO4.out nq)
      have HB6 := Aside0.mk (show Below w.heap.size w W6 by rw [hW6]; exact pw_below_drewN HB4.out nq)
      have HX56 := Aside0.mk (show W6.heap[b5]? = some (.cells #[.int .i64 a2_0, .int .i64 a2_1] 40 (0, 0)) by rw [hW6]; exact HX54.out)
      have HX76 := Aside0.mk (show W6.heap[b7]? = some (.cells #[.int .i64 y.f0, .int .i64 y.f1] 40 (0, 0)) by rw [hW6]; exact HX74.out)
      clear hW6 x0 x1 y0 y1
      by_cases c2 : s1 < s2
      · have hd2 : decide (s1 < s2) = true := decide_eq_true c2
        have hr2 : restG2 y ⟨a2_0, a2_1⟩ = [⟨s1, wrap64 (s2 - s1)⟩] := by unfold restG2; rw [hs1w2, hs2w2, if_pos c2]
        have HR2 := Aside0.mk hr2
        clear hr2 hs1w hs1w2 hs2w hs2w2
        go_wp2_with (first | ((with_reducible refine gate_builtin (b := .append) (xs := #[.tmp 44, .tmp 50]) rfl ?_); at_builtin; refine Kd.R_append k40 (w0 := w) w.heap.size rfl (.tmp 44) (.tmp 50) 54 40 (.agg #[(.int .i64 0), (.int .i64 0)]) 16 rfl Try.underlying54 info40 rfl (by decide) (by omega) (.slice A4 ([] ++ [(⟨y.f0, wrap64 (a2_0 - y.f0)⟩ : S40)]).length c4) ([] ++ [(⟨y.f0, wrap64 (a2_0 - y.f0)⟩ : S40)]) (⟨s1, wrap64 (s2 - s1)⟩ : S40) [.int .i64 ((⟨s1, wrap64 (s2 - s1)⟩ : S40) : S40).f0, .int .i64 ((⟨s1, wrap64 (s2 - s1)⟩ : S40) : S40).f1] (fun k => k ≠ b5 ∧ k ≠ b7) (fun _ => False) rfl (by first | (go_simp; done) | (go_simp; rfl)) ?aP (fun _ hk => hk.elim) ?aF ?aO ?aB ?aS ?aL ?_; (case aP => exact k40_mkM _ _ _ ((⟨s1, wrap64 (s2 - s1)⟩ : S40) : S40)); (case aF => intro k hk; have q1 := blk_lt HX56.out; have q2 := blk_lt HX76.out; exact ⟨by omega, by omega⟩); (case aO => exact HO6.out); (case aB => exact HB6.out); (case aS => exact HB6.out.size); (case aL => simp); intro v1 w7 ho hb hg hat; have HO7 := Aside0.mk ho; have HB7 := Aside0.mk hb; clear ho hb hg hat))
        obtain ⟨A7, c7, rfl⟩ := Kd.R_slice HO7.out
        clear hd2
        go_wp2_with fail
        have hvs : restG1 y ⟨a2_0, a2_1⟩ ++ restG2 y ⟨a2_0, a2_1⟩ = (([] ++ [(⟨y.f0, wrap64 (a2_0 - y.f0)⟩ : S40)]) ++ [(⟨s1, wrap64 (s2 - s1)⟩ : S40)]) := by first | (rw [HR1.out, HR2.out]; done) | (rw [HR1.out, HR2.out]; rfl)
        have HVS := Aside0.mk hvs
        refine (out_tail w _ (some ad) c0 l0 i (([] ++ [(⟨y.f0, wrap64 (a2_0 - y.f0)⟩ : S40)]) ++ [(⟨s1, wrap64 (s2 - s1)⟩ : S40)]) _ (Kd.C_below HR0.out HB7.out) HC0.out (Kd.R_mono HO7.out (fun _ _ => trivial)) HB7.out HI.out.1 HI.out.2 (by simp)).mono ?_
        rintro e w8 ⟨s, rfl, hb8, hcall⟩
        have HCALL := Aside0.mk hcall
        clear hb8 hcall hvs
        go_wp2_with fail
        refine HCALL.out.mono ?_
        rintro e w9 ⟨v', rfl, hR9, hb9⟩
        have HR9 := Aside0.mk hR9
        have HB9 := Aside0.mk hb9
        clear hR9 hb9
        go_wp2
        go_ret
        refine ⟨_, rfl, ?_, HB9.out⟩; rw [HVS.out]; exact HR9.out
      · have hd2 : decide (s1 < s2) = false := decide_eq_false c2
        have hr2 : restG2 y ⟨a2_0, a2_1⟩ = [] := by unfold restG2; rw [hs1w2, hs2w2, if_neg c2]
        have HR2 := Aside0.mk hr2
        clear hr2 hs1w hs1w2 hs2w hs2w2
        go_wp2_with fail
        have hvs : restG1 y ⟨a2_0, a2_1⟩ ++ restG2 y ⟨a2_0, a2_1⟩ = (([] ++ [(⟨y.f0, wrap64 (a2_0 - y.f0)⟩ : S40)])) := by first | (rw [HR1.out, HR2.out]; done) | (rw [HR1.out, HR2.out]; rfl)
        have HVS := Aside0.mk hvs
        refine (out_tail w _ (some ad) c0 l0 i (([] ++ [(⟨y.f0, wrap64 (a2_0 - y.f0)⟩ : S40)])) _ (Kd.C_below HR0.out HB6.out) HC0.out (Kd.R_mono HO6.out (fun _ _ => trivial)) HB6.out HI.out.1 HI.out.2 (by simp)).mono ?_
        rintro e w8 ⟨s, rfl, hb8, hcall⟩
        have HCALL := Aside0.mk hcall
        clear hb8 hcall hvs
        go_wp2_with fail
        refine HCALL.out.mono ?_
        rintro e w9 ⟨v', rfl, hR9, hb9⟩
        have HR9 := Aside0.mk hR9
        have HB9 := Aside0.mk hb9
        clear hR9 hb9
        go_wp2
        go_ret
        refine ⟨_, rfl, ?_, HB9.out⟩; rw [HVS.out]; exact HR9.out
    · have hd1 : decide (y.f0 < a2_0) = false := decide_eq_false c1
      have hr1 : restG1 y ⟨a2_0, a2_1⟩ = [] := by unfold restG1; rw [if_neg c1]
      have HR1 := Aside0.mk hr1
      clear hr1
      rw [HWW.out] at x0 x1 y0 y1
      rw [← E57.out.2.2] at y0 y1
      rw [← E57.out.1] at x0 x1
      go_enter Try.func108, Try.ntmps108
      go_wp2_with fail
      clear x0 x1 y0 y1 g0' g1'
      rw [← HWW.out]
      simp only [E57.out.2.2]
      simp only [E57.out.1]
      have HO1 := Aside0.mk (Kd.R_nil k40 40 W1 w.heap.size (fun k => k ≠ b5 ∧ k ≠ b7))
      have x0 : W1.cell? ⟨b5, 0, none⟩ = some (.int .i64 a2_0) := (blk_cell HX5.out 0).trans rfl
      have x1 : W1.cell? ⟨b5, 1, none⟩ = some (.int .i64 a2_1) := (blk_cell HX5.out 1).trans rfl
      have y0 : W1.cell? ⟨b7, 0, none⟩ = some (.int .i64 y.f0) := (blk_cell HX7.out 0).trans rfl
      have y1 : W1.cell? ⟨b7, 1, none⟩ = some (.int .i64 y.f1) := (blk_cell HX7.out 1).trans rfl
      have hs1w : IntKind.i64.wrap (a2_0 + a2_1) = s1 := by rw [HS.out.1]; exact IntWalk.i64_left _
      have hs1w2 : wrap64 (a2_0 + a2_1) = s1 := HS.out.1.symm
      have hs2w : IntKind.i64.wrap (y.f0 + y.f1) = s2 := by rw [HS.out.2]; exact IntWalk.i64_left _
      have hs2w2 : wrap64 (y.f0 + y.f1) = s2 := HS.out.2.symm
      clear hs1 hs2
      go_quiet (fail)
      obtain ⟨W6, hW6⟩ : ∃ W, W = W1.drewN nq := ⟨_, rfl⟩
      rw [← hW6]
      have HO6 := Aside0.mk (show Kd.R k40 40 W6 w.heap.size (fun k => k ≠ b5 ∧ k ≠ b7) (.slice none 0 0) ([] : List S40) by rw [hW6]; exact Kd.R_drewN HO1.out nq)
      have HB6 := Aside0.mk (show Below w.heap.size w W6 by rw [hW6]; exact pw_below_drewN HB1.out nq)
      have HX56 := Aside0.mk (show W6.heap[b5]? = some (.cells #[.int .i64 a2_0, .int .i64 a2_1] 40 (0, 0)) by rw [hW6]; exact HX5.out)
      have HX76 := Aside0.mk (show W6.heap[b7]? = some (.cells #[.int .i64 y.f0, .int .i64 y.f1] 40 (0, 0)) by rw [hW6]; exact HX7.out)
      clear hW6 x0 x1 y0 y1
      by_cases c2 : s1 < s2
      · have hd2 : decide (s1 < s2) = true := decide_eq_true c2
        have hr2 : restG2 y ⟨a2_0, a2_1⟩ = [⟨s1, wrap64 (s2 - s1)⟩] := by unfold restG2; rw [hs1w2, hs2w2, if_pos c2]
        have HR2 := Aside0.mk hr2
        clear hr2 hs1w hs1w2 hs2w hs2w2
        go_wp2_with (first | ((with_reducible refine gate_builtin (b := .append) (xs := #[.tmp 44, .tmp 50]) rfl ?_); at_builtin; refine Kd.R_append k40 (w0 := w) w.heap.size rfl (.tmp 44) (.tmp 50) 54 40 (.agg #[(.int .i64 0), (.int .i64 0)]) 16 rfl Try.underlying54 info40 rfl (by decide) (by omega) (.slice none 0 0) ([] : List S40) (⟨s1, wrap64 (s2 - s1)⟩ : S40) [.int .i64 ((⟨s1, wrap64 (s2 - s1)⟩ : S40) : S40).f0, .int .i64 ((⟨s1, wrap64 (s2 - s1)⟩ : S40) : S40).f1] (fun k => k ≠ b5 ∧ k ≠ b7) (fun _ => False) rfl (by first | (go_simp; done) | (go_simp; rfl)) ?aP (fun _ hk => hk.elim) ?aF ?aO ?aB ?aS ?aL ?_; (case aP => exact k40_mkM _ _ _ ((⟨s1, wrap64 (s2 - s1)⟩ : S40) : S40)); (case aF => intro k hk; have q1 := blk_lt HX56.out; have q2 := blk_lt HX76.out; exact ⟨by omega, by omega⟩); (case aO => exact HO6.out); (case aB => exact HB6.out); (case aS => exact HB6.out.size); (case aL => simp); intro v1 w7 ho hb hg hat; have HO7 := Aside0.mk ho; have HB7 := Aside0.mk hb; clear ho hb hg hat))
        obtain ⟨A7, c7, rfl⟩ := Kd.R_slice HO7.out
        clear hd2
        go_wp2_with fail
        have hvs : restG1 y ⟨a2_0, a2_1⟩ ++ restG2 y ⟨a2_0, a2_1⟩ = (([] : List S40) ++ [(⟨s1, wrap64 (s2 - s1)⟩ : S40)]) := by first | (rw [HR1.out, HR2.out]; done) | (rw [HR1.out, HR2.out]; rfl)
        have HVS := Aside0.mk hvs
        refine (out_tail w _ (some ad) c0 l0 i (([] : List S40) ++ [(⟨s1, wrap64 (s2 - s1)⟩ : S40)]) _ (Kd.C_below HR0.out HB7.out) HC0.out (Kd.R_mono HO7.out (fun _ _ => trivial)) HB7.out HI.out.1 HI.out.2 (by simp)).mono ?_
        rintro e w8 ⟨s, rfl, hb8, hcall⟩
        have HCALL := Aside0.mk hcall
        clear hb8 hcall hvs
        go_wp2_with fail
        refine HCALL.out.mono ?_
        rintro e w9 ⟨v', rfl, hR9, hb9⟩
        have HR9 := Aside0.mk hR9
        have HB9 := Aside0.mk hb9
        clear hR9 hb9
        go_wp2
        go_ret
        refine ⟨_, rfl, ?_, HB9.out⟩; rw [HVS.out]; exact HR9.out
      · have hd2 : decide (s1 < s2) = false := decide_eq_false c2
        have hr2 : restG2 y ⟨a2_0, a2_1⟩ = [] := by unfold restG2; rw [hs1w2, hs2w2, if_neg c2]
        have HR2 := Aside0.mk hr2
        clear hr2 hs1w hs1w2 hs2w hs2w2
        go_wp2_with fail
        have hvs : restG1 y ⟨a2_0, a2_1⟩ ++ restG2 y ⟨a2_0, a2_1⟩ = (([] : List S40)) := by first | (rw [HR1.out, HR2.out]; done) | (rw [HR1.out, HR2.out]; rfl)
        have HVS := Aside0.mk hvs
        refine (out_tail w _ (some ad) c0 l0 i (([] : List S40)) _ (Kd.C_below HR0.out HB6.out) HC0.out (Kd.R_mono HO6.out (fun _ _ => trivial)) HB6.out HI.out.1 HI.out.2 (by simp)).mono ?_
        rintro e w8 ⟨s, rfl, hb8, hcall⟩
        have HCALL := Aside0.mk hcall
        clear hb8 hcall hvs
        go_wp2_with fail
        refine HCALL.out.mono ?_
        rintro e w9 ⟨v', rfl, hR9, hb9⟩
        have HR9 := Aside0.mk hR9
        have HB9 := Aside0.mk hb9
        clear hR9 hb9
        go_wp2
        go_ret
        refine ⟨_, rfl, ?_, HB9.out⟩; rw [HVS.out]; exact HR9.out
  · cases h

end Go.Proofs.Ytkkfkdncddbaeaa.Fn
