-- Told by hand; its numbers filled in by a program of this session.
import Derived.Test.YtkkfkdncddbaeaaFnBase
import Derived.Test.YtkkfkdncddbaeaaHReplOne
import Derived.Test.YtkkfkdncddbaeaaFn106
import Derived.Test.YtkkfkdncddbaeaaFn101
import Derived.Test.YtkkfkdncddbaeaaFn108
import Derived.Test.YtkkfkdncddbaeaaHPureT
namespace Go.Proofs.Ytkkfkdncddbaeaa.Fn
open Go.RowKit Go.Proofs.YtkkfkdncddbaeaaW.PrintWords Go.Proofs.YtkkfkdncddbaeaaW.PrintLast Go.Proofs.YtkkfkdncddbaeaaW.PrintMore
attribute [local go_sem] max2_int min2_int max_two min_two max_three min_three max_four min_four   -- for this text's walks alone
set_option linter.unusedVariables false
set_option linter.unusedSimpArgs false

/-! free.in: a span joined to the free ones that it touches. -/
def inX1 (l : List S40) (i : Nat) (x : S40) : S40 := if 0 < i ∧ wrap64 ((rd_T40 l ((i : Int) - 1)).f0 + (rd_T40 l ((i : Int) - 1)).f1) = x.f0 then ⟨(rd_T40 l ((i : Int) - 1)).f0, wrap64 ((rd_T40 l ((i : Int) - 1)).f1 + x.f1)⟩ else x
def inLo (l : List S40) (i : Nat) (x : S40) : Nat := if 0 < i ∧ wrap64 ((rd_T40 l ((i : Int) - 1)).f0 + (rd_T40 l ((i : Int) - 1)).f1) = x.f0 then i - 1 else i
def inX2 (l : List S40) (i : Nat) (x : S40) : S40 := if i < l.length ∧ wrap64 (x.f0 + x.f1) = (rd_T40 l (i : Int)).f0 then ⟨x.f0, wrap64 (x.f1 + (rd_T40 l (i : Int)).f1)⟩ else x
def inHi (l : List S40) (i : Nat) (x : S40) : Nat := if i < l.length ∧ wrap64 (x.f0 + x.f1) = (rd_T40 l (i : Int)).f0 then i + 1 else i
def inL (l : List S40) (i : Nat) (x : S40) : List S40 := l.take (inLo l i x) ++ [inX2 l i (inX1 l i x)] ++ l.drop (inHi l i (inX1 l i x))
def free_in.f (l0 : List (S40)) (a1_0 : Int) (a1_1 : Int) : Option (List (S40)) := (free_at.f l0 a1_0).bind fun i => some (inL l0 i.toNat ⟨a1_0, a1_1⟩)
/-- In plain lists. -/
theorem in_pure {size : Int} {l : List S40} {x : S40} (hs : size ≤ 65536) (hl : ∀ y ∈ l, Flag.Ins size (toP y)) (x0 : 0 ≤ x.f0) (x1 : 0 < x.f1) (x2 : x.f0 + x.f1 ≤ 65536) :
    (inL l (atL l x.f0) x).map toP = Flag.inS (l.map toP) (toP x) := by
  obtain ⟨i, hi⟩ : ∃ i, i = atL l x.f0 := ⟨_, rfl⟩
  rw [← hi]
  obtain ⟨e1, e2⟩ := Flag.ahead_take (l.map toP) x.f0
  have hil : i ≤ (l.map toP).length := by
    have := congrArg List.length (Flag.ahead_behind (l.map toP) x.f0)
    rw [List.length_append] at this
    rw [hi]; unfold atL; omega
  have hil2 : i ≤ l.length := by simpa using hil
  unfold Flag.inS
  show _ = Flag.joinTo (Flag.ahead (l.map toP) x.f0) (Flag.behind (l.map toP) x.f0) (toP x)
  rw [e1, e2, show (Flag.ahead (l.map toP) x.f0).length = i from hi.symm]
  have hrd : ∀ j : Nat, j < l.length → (l.map toP)[j]? = some (toP (rd_T40 l (j : Int))) ∧ Flag.Ins size (toP (rd_T40 l (j : Int))) := by
    intro j hj
    have hx : rd_T40 l (j : Int) = l[j] := by rw [rd40_get l (j : Int) (by omega) (by omega)]; simp
    rw [hx]
    exact ⟨by simp [hj], hl _ (List.getElem_mem hj)⟩
  have hu : 0 < i → (l.map toP)[i - 1]? = some (toP (rd_T40 l ((i : Int) - 1))) ∧ Flag.Ins size (toP (rd_T40 l ((i : Int) - 1))) := by
    intro h0
    have h := hrd (i - 1) (by omega)
    have e : ((i - 1 : Nat) : Int) = (i : Int) - 1 := by omega
    rw [e] at h
    exact h
  have hX1 : toP (inX1 l i x) = (if 0 < i ∧ (toP (rd_T40 l ((i : Int) - 1))).a + (toP (rd_T40 l ((i : Int) - 1))).n = (toP x).a then ⟨(toP (rd_T40 l ((i : Int) - 1))).a, (toP (rd_T40 l ((i : Int) - 1))).n + (toP x).n⟩ else toP x)
      ∧ inLo l i x = (if 0 < i ∧ (toP (rd_T40 l ((i : Int) - 1))).a + (toP (rd_T40 l ((i : Int) - 1))).n = (toP x).a then i - 1 else i)
      ∧ 0 ≤ (inX1 l i x).f0 ∧ 0 ≤ (inX1 l i x).f1 ∧ (inX1 l i x).f0 ≤ 65536 ∧ (inX1 l i x).f1 ≤ 131072 := by
    unfold inX1 inLo
    by_cases h0 : 0 < i
    · have hI := (hu h0).2
      have q1 : 0 < (rd_T40 l ((i : Int) - 1)).f1 := hI.n
      have q2 : 0 ≤ (rd_T40 l ((i : Int) - 1)).f0 := hI.a
      have q3 : (rd_T40 l ((i : Int) - 1)).f0 + (rd_T40 l ((i : Int) - 1)).f1 ≤ size := hI.e
      rw [w64 (n := (rd_T40 l ((i : Int) - 1)).f0 + (rd_T40 l ((i : Int) - 1)).f1) (by omega), w64 (n := (rd_T40 l ((i : Int) - 1)).f1 + x.f1) (by omega)]
      by_cases hc : 0 < i ∧ (rd_T40 l ((i : Int) - 1)).f0 + (rd_T40 l ((i : Int) - 1)).f1 = x.f0
      · rw [if_pos hc, if_pos hc]
        refine ⟨?_, ?_, q2, by show 0 ≤ _ + _; omega, by show _ ≤ _; dsimp only; omega, by show _ + _ ≤ _; omega⟩
        · exact (if_pos hc).symm
        · exact (if_pos hc).symm
      · rw [if_neg hc, if_neg hc]
        exact ⟨(if_neg hc).symm, (if_neg hc).symm, x0, by omega, by omega, by omega⟩
    · rw [if_neg (fun h => h0 h.1), if_neg (fun h => h0 h.1), if_neg (fun h => h0 h.1), if_neg (fun h => h0 h.1)]
      exact ⟨rfl, rfl, x0, by omega, by omega, by omega⟩
  obtain ⟨g1, g2, g3, g4, g5, g6⟩ := hX1
  rw [Flag.join_idx (l.map toP) i hil (toP x) (toP (inX1 l i x)) (toP (rd_T40 l ((i : Int) - 1))) (toP (rd_T40 l (i : Int))) (inLo l i x) (fun h => (hu h).1) (fun h => (hrd i (by simpa using h)).1)
    (by
      by_cases hc : 0 < i ∧ (toP (rd_T40 l ((i : Int) - 1))).a + (toP (rd_T40 l ((i : Int) - 1))).n = (toP x).a
      · rw [if_pos hc] at g1 g2
        exact .inl ⟨hc.1, hc.2, g1, g2⟩
      · rw [if_neg hc] at g1 g2
        exact .inr ⟨hc, g1, g2⟩)]
  unfold inL
  rw [List.map_append, List.map_append, List.map_take, List.map_drop, List.length_map]
  have hx2 : toP (inX2 l i (inX1 l i x)) = (if i < l.length ∧ (toP (inX1 l i x)).a + (toP (inX1 l i x)).n = (toP (rd_T40 l (i : Int))).a then ⟨(toP (inX1 l i x)).a, (toP (inX1 l i x)).n + (toP (rd_T40 l (i : Int))).n⟩ else toP (inX1 l i x))
      ∧ inHi l i (inX1 l i x) = (if i < l.length ∧ (toP (inX1 l i x)).a + (toP (inX1 l i x)).n = (toP (rd_T40 l (i : Int))).a then i + 1 else i) := by
    unfold inX2 inHi
    rw [w64 (n := (inX1 l i x).f0 + (inX1 l i x).f1) (by omega)]
    by_cases hc : i < l.length ∧ (inX1 l i x).f0 + (inX1 l i x).f1 = (rd_T40 l (i : Int)).f0
    · have hI := (hrd i hc.1).2
      have q1 : 0 < (rd_T40 l (i : Int)).f1 := hI.n
      have q2 : 0 ≤ (rd_T40 l (i : Int)).f0 := hI.a
      have q3 : (rd_T40 l (i : Int)).f0 + (rd_T40 l (i : Int)).f1 ≤ size := hI.e
      rw [w64 (n := (inX1 l i x).f1 + (rd_T40 l (i : Int)).f1) (by omega), if_pos hc, if_pos hc]
      exact ⟨(if_pos hc).symm, (if_pos hc).symm⟩
    · rw [if_neg hc, if_neg hc]
      exact ⟨(if_neg hc).symm, (if_neg hc).symm⟩
  rw [← hx2.2, ← hx2.1]
  rfl

/-- The end of 'in': the span as a literal, and what is laid into the row. -/
theorem in_tail (w0 W : World) (A1 : Option Addr) (c1 : Nat) (l0 : List S40) (lo hi : Nat) (X0 X1 : Int) (ok : Nat → Prop) (HO : Kd.R k40 40 W w0.heap.size ok (.slice A1 l0.length c1) l0) (hB : Below w0.heap.size w0 W) (hlh : lo ≤ hi) (hh : hi ≤ l0.length) (hn : l0.length ≤ 4096) :
    Calls Try.prog 142 #[.slice A1 l0.length c1, .int .i64 lo, .int .i64 hi, .slice (some ⟨W.heap.size, 0, none⟩) 1 1] (W.alloc (.cells #[.int .i64 X0, .int .i64 X1] 40)) fun e w' => ∃ v' : Value, e = .returned v' ∧ Kd.R k40 40 w' w0.heap.size (fun _ => True) v' (l0.take lo ++ [⟨X0, X1⟩] ++ l0.drop hi) ∧ Below w0.heap.size w0 w' := by
  have hV : LieL encSpan 2 40 (W.alloc (.cells #[.int .i64 X0, .int .i64 X1] 40)) W.heap.size 1 #[.int .i64 X0, .int .i64 X1] [(⟨X0, X1⟩ : S40)] := ⟨blk_new W _, rfl, Nat.le_refl _, by decide, rfl⟩
  exact repl_one w0 _ w0.heap.size (fun _ => True) A1 c1 l0 ⟨X0, X1⟩ W.heap.size 1 _ lo hi (Kd.R_mono (Kd.R_alloc HO _) (fun _ _ => trivial)) hV (fun ad h => by
    have := Kd.R_lt HO ad.block (by rw [h]; rfl)
    omega) (hB.alloc hB.size _) (by have := hB.size; simp only [World.alloc, Array.size_push]; omega) (fun _ _ => trivial) hlh hh hn
set_option maxHeartbeats 4000000 in
set_option maxRecDepth 100000 in
theorem free_in.calls (A0 : Option Addr) (c0 : Nat) (l0 : List (S40)) (a1_0 : Int) (a1_1 : Int) (r : List (S40)) (w : World) (hr0 : Kd.C k40 w A0 l0.length l0) (hc0 : l0.length ≤ c0) (h : free_in.f l0 a1_0 a1_1 = some r) :
    Calls Try.prog 109 #[.slice A0 l0.length c0, .agg #[.int .i64 a1_0, .int .i64 a1_1]] w fun e w' => ∃ v0_ : Value, e = .returned (v0_) ∧ Kd.R k40 40 w' w.heap.size (fun _ => True) v0_ r ∧ Below w.heap.size w w' := by
  have hu40 := Try.underlying40
  unfold free_in.f at h
  obtain ⟨iI, hat, h⟩ := Option.bind_eq_some_iff.mp h
  obtain rfl := Option.some.inj h
  have hlen : l0.length ≤ 1024 ∧ iI = (atL l0 a1_0 : Int) ∧ atL l0 a1_0 ≤ l0.length := by
    have hat2 := hat
    unfold free_at.f at hat2
    split at hat2
    · rename_i hc
      have h1 := (Flag.checkF_ok.1 hc.1).len
      have h2 := congrArg List.length (Flag.ahead_behind (l0.map toP) a1_0)
      rw [List.length_append, List.length_map] at h2
      refine ⟨by simpa using h1, (Option.some.inj hat2).symm, ?_⟩
      unfold atL; omega
    · cases hat2
  obtain ⟨hn, hiI, hil⟩ := hlen
  obtain ⟨i, hi⟩ : ∃ i, i = atL l0 a1_0 := ⟨_, rfl⟩
  rw [← hi] at hiI hil
  subst hiI
  rw [Int.toNat_natCast]
  obtain ⟨n, hnn⟩ : ∃ n, n = l0.length := ⟨_, rfl⟩
  rw [← hnn] at hil hn
  have HR0 := Aside0.mk hr0
  have HC0 := Aside0.mk hc0
  have HAT := Aside0.mk hat
  have HNN := Aside0.mk hnn
  rw [← hnn]
  clear hr0 hc0 h hat hi hnn
  go_enter Try.func109, Try.ntmps109
  go_wp2_with fail
  have hcl := api_Span_101.calls A0 c0 l0 l0 (w.alloc (.cells #[.int .i64 a1_0, .int .i64 a1_1] 40)) (Kd.C_alloc HR0.out _) HC0.out (by unfold api_Span_101.f; rw [if_pos (by rw [← HNN.out]; omega)])
  rw [← HNN.out] at hcl
  refine hcl.mono ?_
  rintro e w1 ⟨s, rfl, hR1, hb1⟩
  obtain ⟨A1, c1, rfl⟩ := Kd.R_slice hR1
  have HX1 := Aside0.mk ((hb1.block _ (blk_lt (blk_new w (.cells #[.int .i64 a1_0, .int .i64 a1_1] 40)))).trans (blk_new w (.cells #[.int .i64 a1_0, .int .i64 a1_1] 40)))
  have HR1 := Aside0.mk (Kd.R_mono (ok' := fun k => k ≠ w.heap.size) (Kd.R_lower (base' := w.heap.size) (Kd.R_newB hR1 (blk_new w (.cells #[.int .i64 a1_0, .int .i64 a1_1] 40))) (by simp)) (fun _ h => h.2))
  have HB1 := Aside0.mk (below_step ((Below.refl w.heap.size w).alloc (Nat.le_refl _) (.cells #[.int .i64 a1_0, .int .i64 a1_1] 40)) hb1)
  rw [← HNN.out]
  clear hR1 hb1 hcl
  have x0 : w1.cell? ⟨w.heap.size, 0, none⟩ = some (.int .i64 a1_0) := (blk_cell HX1.out 0).trans rfl
  have x1 : w1.cell? ⟨w.heap.size, 1, none⟩ = some (.int .i64 a1_1) := (blk_cell HX1.out 1).trans rfl
  go_wp2_with fail
  have hatc := free_at.calls A1 c1 l0 a1_0 (i : Int) w1 (Kd.R_reads' HR1.out).2.2 (Kd.R_reads' HR1.out).2.1 HAT.out
  rw [← HNN.out] at hatc
  refine hatc.mono ?_
  rintro e w2 ⟨rfl, hb2⟩
  have HX2 := Aside0.mk ((hb2.block _ (blk_lt HX1.out)).trans HX1.out)
  have HR2 := Aside0.mk (Kd.R_below HR1.out hb2)
  have HB2 := Aside0.mk (below_step HB1.out hb2)
  clear hb2 x0 x1 hatc
  have x0 : w2.cell? ⟨w.heap.size, 0, none⟩ = some (.int .i64 a1_0) := (blk_cell HX2.out 0).trans rfl
  have x1 : w2.cell? ⟨w.heap.size, 1, none⟩ = some (.int .i64 a1_1) := (blk_cell HX2.out 1).trans rfl
  by_cases hi0 : 0 < i
  · obtain ⟨j, hj⟩ : ∃ j : Int, j = (i : Int) - 1 := ⟨_, rfl⟩
    have hwj : IntKind.i64.wrap ((i : Int) - 1) = j := by rw [hj]; exact IntWalk.i64_in _ (by omega)
    have hwj2 : wrap64 ((i : Int) - 1) = j := by rw [hj]; exact w64 (by omega)
    have j0 : 0 ≤ j := by omega
    have j1 : j < (n : Int) := by omega
    have hd : decide (0 < (i : Int)) = true := decide_eq_true (by omega)
    have hC : Kd.C k40 w2 A1 l0.length l0 := (Kd.R_reads' HR2.out).2.2
    obtain ⟨ad, e3, g0, g1⟩ := at_T40 hC j j0 (by rw [← HNN.out]; exact j1)
    cases e3
    obtain ⟨u, hu⟩ : ∃ u, u = rd_T40 l0 j := ⟨_, rfl⟩
    rw [← hu] at g0 g1
    have HU := Aside0.mk (And.intro hu hj)
    clear hu hj hC
    obtain ⟨s1, hs1⟩ : ∃ s : Int, s = wrap64 (u.f0 + u.f1) := ⟨_, rfl⟩
    have HS1 := Aside0.mk hs1
    have hs1w : IntKind.i64.wrap (u.f0 + u.f1) = s1 := by rw [hs1]; exact IntWalk.i64_left _
    have hs1w2 : wrap64 (u.f0 + u.f1) = s1 := hs1.symm
    clear hs1
    by_cases hc1 : s1 = a1_0
    · have hb1 : (s1 == a1_0) = true := beq_iff_eq.mpr hc1
      have HC1 := Aside0.mk hc1
      obtain ⟨s3, hs3⟩ : ∃ s : Int, s = wrap64 (u.f1 + a1_1) := ⟨_, rfl⟩
      have HS3 := Aside0.mk hs3
      have hs3w : IntKind.i64.wrap (u.f1 + a1_1) = s3 := by rw [hs3]; exact IntWalk.i64_left _
      have hs3w2 : wrap64 (u.f1 + a1_1) = s3 := hs3.symm
      clear hs3
      go_wp2_with fail
      go_quiet (fail)
      obtain ⟨W3, hW3⟩ : ∃ W, W = w2.drewN nq := ⟨_, rfl⟩
      rw [← hW3]
      have HX3 := Aside0.mk (show W3.heap[w.heap.size]? = some (.cells #[.int .i64 a1_0, .int .i64 a1_1] 40 (0, 0)) by rw [hW3]; exact HX2.out)
      have HR3 := Aside0.mk (show Kd.R k40 40 W3 w.heap.size (fun k => k ≠ w.heap.size) (.slice (some ad) l0.length c1) l0 by rw [hW3]; exact Kd.R_drewN HR2.out nq)
      have HB3 := Aside0.mk (show Below w.heap.size w W3 by rw [hW3]; exact pw_below_drewN HB2.out nq)
      have HG3 := Aside0.mk (show W3.cell? (ad.add (j.toNat * 2)) = some (.int .i64 u.f0) ∧ W3.cell? ⟨(ad.add (j.toNat * 2)).block, (ad.add (j.toNat * 2)).off + 1, none⟩ = some (.int .i64 u.f1) by rw [hW3]; exact ⟨g0, g1⟩)
      clear hW3 x0 x1 g0 g1 hc1 hb1 hs1w hs1w2
      have x0 : W3.cell? ⟨w.heap.size, 0, none⟩ = some (.int .i64 a1_0) := (blk_cell HX3.out 0).trans rfl
      have x1 : W3.cell? ⟨w.heap.size, 1, none⟩ = some (.int .i64 a1_1) := (blk_cell HX3.out 1).trans rfl
      have g0 := HG3.out.1
      have g1 := HG3.out.2
      have hx3 : (W3.drew).heap[w.heap.size]? = some (.cells #[.int .i64 a1_0, .int .i64 a1_1] 40 (0, 0)) := HX3.out
      go_wp2_with fail
      go_still_tail 13, (by kernel_rfl)
      change wpList _ _ _ _ _ W3.drew
      go_wp2_with (refine wpList_store_row (P := Try.prog) rfl 40 (.tmp 3) (.tmp 51) rfl w.heap.size #[.int .i64 u.f0, .int .i64 s3] rfl rfl 40 #[.int .i64 a1_0, .int .i64 a1_1] hx3 (by kernel_rfl) rfl (by simp [Value.oneCell']) ?_)
      obtain ⟨W4, hW4⟩ : ∃ W, W = W3.drew.setRow w.heap.size #[.int .i64 u.f0, .int .i64 s3] := ⟨_, rfl⟩
      rw [← hW4]
      have hpn : ∀ a : Act, a.put none undef = a := fun _ => rfl
      rw [hpn]
      clear hpn
      have HX4 := Aside0.mk (show W4.heap[w.heap.size]? = some (.cells #[.int .i64 u.f0, .int .i64 s3] 40 (0, 0)) by rw [hW4]; exact setRow_heap _ w.heap.size _ _ 40 (0, 0) hx3)
      have HR4 := Aside0.mk (show Kd.R k40 40 W4 w.heap.size (fun k => k ≠ w.heap.size) (.slice (some ad) l0.length c1) l0 by rw [hW4]; exact Kd.R_step (Kd.R_drew HR3.out) (fun k hk _ => setRow_other _ w.heap.size k _ hk))
      have HB4 := Aside0.mk (show Below w.heap.size w W4 by rw [hW4]; exact setRow_below (below_drew HB3.out) (Nat.le_refl _) _)
      clear hW4 x0 x1 g0 g1 hx3 hs3w hs3w2
      have x0 : W4.cell? ⟨w.heap.size, 0, none⟩ = some (.int .i64 u.f0) := (blk_cell HX4.out 0).trans rfl
      have x1 : W4.cell? ⟨w.heap.size, 1, none⟩ = some (.int .i64 s3) := (blk_cell HX4.out 1).trans rfl
      have hL : inX1 l0 i ⟨a1_0, a1_1⟩ = ⟨u.f0, s3⟩ ∧ inLo l0 i ⟨a1_0, a1_1⟩ = i - 1 := by
        have hp : 0 < i ∧ wrap64 ((rd_T40 l0 ((i : Int) - 1)).f0 + (rd_T40 l0 ((i : Int) - 1)).f1) = a1_0 := ⟨hi0, by rw [← HU.out.2, ← HU.out.1, ← HS1.out]; exact HC1.out⟩
        refine ⟨?_, if_pos hp⟩
        unfold inX1
        rw [if_pos hp, ← HU.out.2, ← HU.out.1, HS3.out]
      have HL := Aside0.mk hL
      clear hL
      by_cases hin : i < n
      · have hd2 : decide ((i : Int) < (n : Int)) = true := decide_eq_true (by omega)
        have hC : Kd.C k40 W4 (some ad) l0.length l0 := (Kd.R_reads' HR4.out).2.2
        obtain ⟨ad2, e3, g0, g1⟩ := at_T40 hC (i : Int) (by omega) (by rw [← HNN.out]; omega)
        cases e3
        have i0 : (0 : Int) ≤ (i : Int) := by omega
        have i1 : (i : Int) < (n : Int) := by omega
        rw [Int.toNat_natCast] at g0 g1
        obtain ⟨y, hy⟩ : ∃ y, y = rd_T40 l0 (i : Int) := ⟨_, rfl⟩
        rw [← hy] at g0 g1
        have HY := Aside0.mk hy
        clear hy hC
        obtain ⟨s4, hs4⟩ : ∃ s : Int, s = wrap64 (u.f0 + s3) := ⟨_, rfl⟩
        have HS4 := Aside0.mk hs4
        have hs4w : IntKind.i64.wrap (u.f0 + s3) = s4 := by rw [hs4]; exact IntWalk.i64_left _
        have hs4w2 : wrap64 (u.f0 + s3) = s4 := hs4.symm
        clear hs4
        by_cases hc4 : s4 = y.f0
        · have hb4 : (s4 == y.f0) = true := beq_iff_eq.mpr hc4
          have HC4 := Aside0.mk hc4
          have hwi : IntKind.i64.wrap ((i : Int) + 1) = (i : Int) + 1 := IntWalk.i64_in _ (by omega)
          have hwi2 : wrap64 ((i : Int) + 1) = (i : Int) + 1 := w64 (by omega)
          obtain ⟨s5, hs5⟩ : ∃ s : Int, s = wrap64 (s3 + y.f1) := ⟨_, rfl⟩
          have HS5 := Aside0.mk hs5
          have hs5w : IntKind.i64.wrap (s3 + y.f1) = s5 := by rw [hs5]; exact IntWalk.i64_left _
          have hs5w2 : wrap64 (s3 + y.f1) = s5 := hs5.symm
          clear hs5
          go_wp2_with fail
          go_quiet (fail)
          obtain ⟨W5, hW5⟩ : ∃ W, W = (W4).drewN nq := ⟨_, rfl⟩
          rw [← hW5]
          have HX5 := Aside0.mk (show W5.heap[w.heap.size]? = some (.cells #[.int .i64 u.f0, .int .i64 s3] 40 (0, 0)) by rw [hW5]; exact HX4.out)
          have HR5 := Aside0.mk (show Kd.R k40 40 W5 w.heap.size (fun k => k ≠ w.heap.size) (.slice (some ad) l0.length c1) l0 by rw [hW5]; exact Kd.R_drewN HR4.out nq)
          have HB5 := Aside0.mk (show Below w.heap.size w W5 by rw [hW5]; exact pw_below_drewN HB4.out nq)
          have HG5 := Aside0.mk (show W5.cell? (ad.add (i * 2)) = some (.int .i64 y.f0) ∧ W5.cell? ⟨(ad.add (i * 2)).block, (ad.add (i * 2)).off + 1, none⟩ = some (.int .i64 y.f1) by rw [hW5]; exact ⟨g0, g1⟩)
          clear hW5 x0 x1 g0 g1 hc4 hb4 hs4w hs4w2
          have x0 : W5.cell? ⟨w.heap.size, 0, none⟩ = some (.int .i64 u.f0) := (blk_cell HX5.out 0).trans rfl
          have x1 : W5.cell? ⟨w.heap.size, 1, none⟩ = some (.int .i64 s3) := (blk_cell HX5.out 1).trans rfl
          have g0 := HG5.out.1
          have g1 := HG5.out.2
          have hfz : W5.frozen? ⟨w.heap.size, 1, none⟩ = false := blk_frozen HX5.out 1
          have hfz2 : W5.drew.frozen? ⟨w.heap.size, 1, none⟩ = false := blk_frozen HX5.out 1
          go_wp2_with fail
          go_still_tail 9, (by kernel_rfl)
          change wpList _ _ _ _ _ W5.drew
          go_wp2_with fail
          have hwd : ((W5.setCell ⟨w.heap.size, 1, none⟩ (.int .i64 s5)).alloc (.cells #[.int .i64 u.f0, .int .i64 s5] 40)).drew = (W5.drew.setCell ⟨w.heap.size, 1, none⟩ (.int .i64 s5)).alloc (.cells #[.int .i64 u.f0, .int .i64 s5] 40) := rfl
          have hwz : (W5.drew.setCell ⟨w.heap.size, 1, none⟩ (.int .i64 s5)).heap.size = W5.heap.size := by simp [World.setCell]
          have htl := in_tail w (W5.drew.setCell ⟨w.heap.size, 1, none⟩ (.int .i64 s5)) (some ad) c1 l0 (i - 1) (i + 1) u.f0 s5 _ (Kd.R_far (p := ⟨w.heap.size, 1, none⟩) (Kd.R_drew HR5.out) (fun _ h => h) _) ((below_drew HB5.out).setCell (p := ⟨w.heap.size, 1, none⟩) (Nat.le_refl _) _) (by omega) (by rw [← HNN.out]; omega) (by rw [← HNN.out]; omega)
          have e_lo : ((i - 1 : Nat) : Int) = j := by have := HU.out.2; omega
          have e_hi : ((i + 1 : Nat) : Int) = (i : Int) + 1 := by omega
          rw [← HNN.out, e_lo, e_hi, hwz] at htl
          rw [hwd]
          clear hwd hwz
          refine htl.mono ?_
          rintro e w9 ⟨v', rfl, hR9, hb9⟩
          have HR9 := Aside0.mk hR9
          have HB9 := Aside0.mk hb9
          clear hR9 hb9 htl e_lo e_hi
          go_wp2
          go_ret
          refine ⟨_, rfl, ?_, HB9.out⟩
          have hres : inL l0 i ⟨a1_0, a1_1⟩ = l0.take (i - 1) ++ [⟨u.f0, s5⟩] ++ l0.drop (i + 1) := by
            unfold inL inX2 inHi
            rw [HL.out.1, HL.out.2]
            rw [if_pos ⟨by rw [← HNN.out]; exact hin, by rw [← HY.out, ← HC4.out]; exact HS4.out.symm⟩, if_pos ⟨by rw [← HNN.out]; exact hin, by rw [← HY.out, ← HC4.out]; exact HS4.out.symm⟩, ← HY.out, ← HS5.out]
          rw [hres]; exact HR9.out
        · have hb4 : (s4 == y.f0) = false := beq_eq_false_iff_ne.mpr hc4
          have HC4 := Aside0.mk hc4
          go_wp2_with fail
          go_quiet (fail)
          obtain ⟨W5, hW5⟩ : ∃ W, W = (W4).drewN nq := ⟨_, rfl⟩
          rw [← hW5]
          have HX5 := Aside0.mk (show W5.heap[w.heap.size]? = some (.cells #[.int .i64 u.f0, .int .i64 s3] 40 (0, 0)) by rw [hW5]; exact HX4.out)
          have HR5 := Aside0.mk (show Kd.R k40 40 W5 w.heap.size (fun k => k ≠ w.heap.size) (.slice (some ad) l0.length c1) l0 by rw [hW5]; exact Kd.R_drewN HR4.out nq)
          have HB5 := Aside0.mk (show Below w.heap.size w W5 by rw [hW5]; exact pw_below_drewN HB4.out nq)
          clear hW5 x0 x1 g0 g1 hs4w hs4w2 hc4 hb4
          have x0 : W5.cell? ⟨w.heap.size, 0, none⟩ = some (.int .i64 u.f0) := (blk_cell HX5.out 0).trans rfl
          have x1 : W5.cell? ⟨w.heap.size, 1, none⟩ = some (.int .i64 s3) := (blk_cell HX5.out 1).trans rfl
          go_wp2_with fail
          have htl := in_tail w (W5) (some ad) c1 l0 (i - 1) (i) u.f0 s3 _ HR5.out HB5.out (by omega) (by rw [← HNN.out]; omega) (by rw [← HNN.out]; omega)
          have e_lo : ((i - 1 : Nat) : Int) = j := by have := HU.out.2; omega
          have e_hi : ((i : Nat) : Int) = (i : Int) := by omega
          rw [← HNN.out, e_lo, e_hi] at htl
          refine htl.mono ?_
          rintro e w9 ⟨v', rfl, hR9, hb9⟩
          have HR9 := Aside0.mk hR9
          have HB9 := Aside0.mk hb9
          clear hR9 hb9 htl e_lo e_hi
          go_wp2
          go_ret
          refine ⟨_, rfl, ?_, HB9.out⟩
          have hres : inL l0 i ⟨a1_0, a1_1⟩ = l0.take (i - 1) ++ [⟨u.f0, s3⟩] ++ l0.drop (i) := by
            unfold inL inX2 inHi
            rw [HL.out.1, HL.out.2]
            rw [if_neg (fun h => HC4.out (by rw [HS4.out, HY.out]; exact h.2)), if_neg (fun h => HC4.out (by rw [HS4.out, HY.out]; exact h.2))]
          rw [hres]; exact HR9.out
      · have hd2 : decide ((i : Int) < (n : Int)) = false := decide_eq_false (by omega)
        go_wp2_with fail
        go_quiet (fail)
        obtain ⟨W5, hW5⟩ : ∃ W, W = (W4).drewN nq := ⟨_, rfl⟩
        rw [← hW5]
        have HX5 := Aside0.mk (show W5.heap[w.heap.size]? = some (.cells #[.int .i64 u.f0, .int .i64 s3] 40 (0, 0)) by rw [hW5]; exact HX4.out)
        have HR5 := Aside0.mk (show Kd.R k40 40 W5 w.heap.size (fun k => k ≠ w.heap.size) (.slice (some ad) l0.length c1) l0 by rw [hW5]; exact Kd.R_drewN HR4.out nq)
        have HB5 := Aside0.mk (show Below w.heap.size w W5 by rw [hW5]; exact pw_below_drewN HB4.out nq)
        clear hW5 x0 x1
        have x0 : W5.cell? ⟨w.heap.size, 0, none⟩ = some (.int .i64 u.f0) := (blk_cell HX5.out 0).trans rfl
        have x1 : W5.cell? ⟨w.heap.size, 1, none⟩ = some (.int .i64 s3) := (blk_cell HX5.out 1).trans rfl
        go_wp2_with fail
        have htl := in_tail w (W5) (some ad) c1 l0 (i - 1) (i) u.f0 s3 _ HR5.out HB5.out (by omega) (by rw [← HNN.out]; omega) (by rw [← HNN.out]; omega)
        have e_lo : ((i - 1 : Nat) : Int) = j := by have := HU.out.2; omega
        have e_hi : ((i : Nat) : Int) = (i : Int) := by omega
        rw [← HNN.out, e_lo, e_hi] at htl
        refine htl.mono ?_
        rintro e w9 ⟨v', rfl, hR9, hb9⟩
        have HR9 := Aside0.mk hR9
        have HB9 := Aside0.mk hb9
        clear hR9 hb9 htl e_lo e_hi
        go_wp2
        go_ret
        refine ⟨_, rfl, ?_, HB9.out⟩
        have hres : inL l0 i ⟨a1_0, a1_1⟩ = l0.take (i - 1) ++ [⟨u.f0, s3⟩] ++ l0.drop (i) := by
          unfold inL inX2 inHi
          rw [HL.out.1, HL.out.2]
          rw [if_neg (fun h => hin (by rw [HNN.out]; exact h.1)), if_neg (fun h => hin (by rw [HNN.out]; exact h.1))]
        rw [hres]; exact HR9.out
    · have hb1 : (s1 == a1_0) = false := beq_eq_false_iff_ne.mpr hc1
      have HC1 := Aside0.mk hc1
      go_wp2_with fail
      go_quiet (fail)
      obtain ⟨W3, hW3⟩ : ∃ W, W = w2.drewN nq := ⟨_, rfl⟩
      rw [← hW3]
      have HX3 := Aside0.mk (show W3.heap[w.heap.size]? = some (.cells #[.int .i64 a1_0, .int .i64 a1_1] 40 (0, 0)) by rw [hW3]; exact HX2.out)
      have HR3 := Aside0.mk (show Kd.R k40 40 W3 w.heap.size (fun k => k ≠ w.heap.size) (.slice (some ad) l0.length c1) l0 by rw [hW3]; exact Kd.R_drewN HR2.out nq)
      have HB3 := Aside0.mk (show Below w.heap.size w W3 by rw [hW3]; exact pw_below_drewN HB2.out nq)
      clear hW3 x0 x1 g0 g1 hc1 hb1 hs1w hs1w2
      have x0 : W3.cell? ⟨w.heap.size, 0, none⟩ = some (.int .i64 a1_0) := (blk_cell HX3.out 0).trans rfl
      have x1 : W3.cell? ⟨w.heap.size, 1, none⟩ = some (.int .i64 a1_1) := (blk_cell HX3.out 1).trans rfl
      have hL : inX1 l0 i ⟨a1_0, a1_1⟩ = ⟨a1_0, a1_1⟩ ∧ inLo l0 i ⟨a1_0, a1_1⟩ = i := by
        have hne : ¬ (0 < i ∧ wrap64 ((rd_T40 l0 ((i : Int) - 1)).f0 + (rd_T40 l0 ((i : Int) - 1)).f1) = a1_0) := by
          rintro ⟨_, h⟩
          apply HC1.out
          rw [HS1.out, HU.out.1, HU.out.2]; exact h
        exact ⟨if_neg hne, if_neg hne⟩
      have HL := Aside0.mk hL
      clear hL
      by_cases hin : i < n
      · have hd2 : decide ((i : Int) < (n : Int)) = true := decide_eq_true (by omega)
        have hC : Kd.C k40 W3 (some ad) l0.length l0 := (Kd.R_reads' HR3.out).2.2
        obtain ⟨ad2, e3, g0, g1⟩ := at_T40 hC (i : Int) (by omega) (by rw [← HNN.out]; omega)
        cases e3
        have i0 : (0 : Int) ≤ (i : Int) := by omega
        have i1 : (i : Int) < (n : Int) := by omega
        rw [Int.toNat_natCast] at g0 g1
        obtain ⟨y, hy⟩ : ∃ y, y = rd_T40 l0 (i : Int) := ⟨_, rfl⟩
        rw [← hy] at g0 g1
        have HY := Aside0.mk hy
        clear hy hC
        obtain ⟨s4, hs4⟩ : ∃ s : Int, s = wrap64 (a1_0 + a1_1) := ⟨_, rfl⟩
        have HS4 := Aside0.mk hs4
        have hs4w : IntKind.i64.wrap (a1_0 + a1_1) = s4 := by rw [hs4]; exact IntWalk.i64_left _
        have hs4w2 : wrap64 (a1_0 + a1_1) = s4 := hs4.symm
        clear hs4
        by_cases hc4 : s4 = y.f0
        · have hb4 : (s4 == y.f0) = true := beq_iff_eq.mpr hc4
          have HC4 := Aside0.mk hc4
          have hwi : IntKind.i64.wrap ((i : Int) + 1) = (i : Int) + 1 := IntWalk.i64_in _ (by omega)
          have hwi2 : wrap64 ((i : Int) + 1) = (i : Int) + 1 := w64 (by omega)
          obtain ⟨s5, hs5⟩ : ∃ s : Int, s = wrap64 (a1_1 + y.f1) := ⟨_, rfl⟩
          have HS5 := Aside0.mk hs5
          have hs5w : IntKind.i64.wrap (a1_1 + y.f1) = s5 := by rw [hs5]; exact IntWalk.i64_left _
          have hs5w2 : wrap64 (a1_1 + y.f1) = s5 := hs5.symm
          clear hs5
          go_wp2_with fail
          go_quiet (fail)
          obtain ⟨W5, hW5⟩ : ∃ W, W = (W3).drewN nq := ⟨_, rfl⟩
          rw [← hW5]
          have HX5 := Aside0.mk (show W5.heap[w.heap.size]? = some (.cells #[.int .i64 a1_0, .int .i64 a1_1] 40 (0, 0)) by rw [hW5]; exact HX3.out)
          have HR5 := Aside0.mk (show Kd.R k40 40 W5 w.heap.size (fun k => k ≠ w.heap.size) (.slice (some ad) l0.length c1) l0 by rw [hW5]; exact Kd.R_drewN HR3.out nq)
          have HB5 := Aside0.mk (show Below w.heap.size w W5 by rw [hW5]; exact pw_below_drewN HB3.out nq)
          have HG5 := Aside0.mk (show W5.cell? (ad.add (i * 2)) = some (.int .i64 y.f0) ∧ W5.cell? ⟨(ad.add (i * 2)).block, (ad.add (i * 2)).off + 1, none⟩ = some (.int .i64 y.f1) by rw [hW5]; exact ⟨g0, g1⟩)
          clear hW5 x0 x1 g0 g1 hc4 hb4 hs4w hs4w2
          have x0 : W5.cell? ⟨w.heap.size, 0, none⟩ = some (.int .i64 a1_0) := (blk_cell HX5.out 0).trans rfl
          have x1 : W5.cell? ⟨w.heap.size, 1, none⟩ = some (.int .i64 a1_1) := (blk_cell HX5.out 1).trans rfl
          have g0 := HG5.out.1
          have g1 := HG5.out.2
          have hfz : W5.frozen? ⟨w.heap.size, 1, none⟩ = false := blk_frozen HX5.out 1
          have hfz2 : W5.drew.frozen? ⟨w.heap.size, 1, none⟩ = false := blk_frozen HX5.out 1
          go_wp2_with fail
          go_still_tail 9, (by kernel_rfl)
          change wpList _ _ _ _ _ W5.drew
          go_wp2_with fail
          have hwd : ((W5.setCell ⟨w.heap.size, 1, none⟩ (.int .i64 s5)).alloc (.cells #[.int .i64 a1_0, .int .i64 s5] 40)).drew = (W5.drew.setCell ⟨w.heap.size, 1, none⟩ (.int .i64 s5)).alloc (.cells #[.int .i64 a1_0, .int .i64 s5] 40) := rfl
          have hwz : (W5.drew.setCell ⟨w.heap.size, 1, none⟩ (.int .i64 s5)).heap.size = W5.heap.size := by simp [World.setCell]
          have htl := in_tail w (W5.drew.setCell ⟨w.heap.size, 1, none⟩ (.int .i64 s5)) (some ad) c1 l0 (i) (i + 1) a1_0 s5 _ (Kd.R_far (p := ⟨w.heap.size, 1, none⟩) (Kd.R_drew HR5.out) (fun _ h => h) _) ((below_drew HB5.out).setCell (p := ⟨w.heap.size, 1, none⟩) (Nat.le_refl _) _) (by omega) (by rw [← HNN.out]; omega) (by rw [← HNN.out]; omega)
          have e_lo : ((i : Nat) : Int) = (i : Int) := by omega
          have e_hi : ((i + 1 : Nat) : Int) = (i : Int) + 1 := by omega
          rw [← HNN.out, e_lo, e_hi, hwz] at htl
          rw [hwd]
          clear hwd hwz
          refine htl.mono ?_
          rintro e w9 ⟨v', rfl, hR9, hb9⟩
          have HR9 := Aside0.mk hR9
          have HB9 := Aside0.mk hb9
          clear hR9 hb9 htl e_lo e_hi
          go_wp2
          go_ret
          refine ⟨_, rfl, ?_, HB9.out⟩
          have hres : inL l0 i ⟨a1_0, a1_1⟩ = l0.take (i) ++ [⟨a1_0, s5⟩] ++ l0.drop (i + 1) := by
            unfold inL inX2 inHi
            rw [HL.out.1, HL.out.2]
            rw [if_pos ⟨by rw [← HNN.out]; exact hin, by rw [← HY.out, ← HC4.out]; exact HS4.out.symm⟩, if_pos ⟨by rw [← HNN.out]; exact hin, by rw [← HY.out, ← HC4.out]; exact HS4.out.symm⟩, ← HY.out, ← HS5.out]
          rw [hres]; exact HR9.out
        · have hb4 : (s4 == y.f0) = false := beq_eq_false_iff_ne.mpr hc4
          have HC4 := Aside0.mk hc4
          go_wp2_with fail
          go_quiet (fail)
          obtain ⟨W5, hW5⟩ : ∃ W, W = (W3).drewN nq := ⟨_, rfl⟩
          rw [← hW5]
          have HX5 := Aside0.mk (show W5.heap[w.heap.size]? = some (.cells #[.int .i64 a1_0, .int .i64 a1_1] 40 (0, 0)) by rw [hW5]; exact HX3.out)
          have HR5 := Aside0.mk (show Kd.R k40 40 W5 w.heap.size (fun k => k ≠ w.heap.size) (.slice (some ad) l0.length c1) l0 by rw [hW5]; exact Kd.R_drewN HR3.out nq)
          have HB5 := Aside0.mk (show Below w.heap.size w W5 by rw [hW5]; exact pw_below_drewN HB3.out nq)
          clear hW5 x0 x1 g0 g1 hs4w hs4w2 hc4 hb4
          have x0 : W5.cell? ⟨w.heap.size, 0, none⟩ = some (.int .i64 a1_0) := (blk_cell HX5.out 0).trans rfl
          have x1 : W5.cell? ⟨w.heap.size, 1, none⟩ = some (.int .i64 a1_1) := (blk_cell HX5.out 1).trans rfl
          go_wp2_with fail
          have htl := in_tail w (W5) (some ad) c1 l0 (i) (i) a1_0 a1_1 _ HR5.out HB5.out (by omega) (by rw [← HNN.out]; omega) (by rw [← HNN.out]; omega)
          have e_lo : ((i : Nat) : Int) = (i : Int) := by omega
          have e_hi : ((i : Nat) : Int) = (i : Int) := by omega
          rw [← HNN.out, e_lo, e_hi] at htl
          refine htl.mono ?_
          rintro e w9 ⟨v', rfl, hR9, hb9⟩
          have HR9 := Aside0.mk hR9
          have HB9 := Aside0.mk hb9
          clear hR9 hb9 htl e_lo e_hi
          go_wp2
          go_ret
          refine ⟨_, rfl, ?_, HB9.out⟩
          have hres : inL l0 i ⟨a1_0, a1_1⟩ = l0.take (i) ++ [⟨a1_0, a1_1⟩] ++ l0.drop (i) := by
            unfold inL inX2 inHi
            rw [HL.out.1, HL.out.2]
            rw [if_neg (fun h => HC4.out (by rw [HS4.out, HY.out]; exact h.2)), if_neg (fun h => HC4.out (by rw [HS4.out, HY.out]; exact h.2))]
          rw [hres]; exact HR9.out
      · have hd2 : decide ((i : Int) < (n : Int)) = false := decide_eq_false (by omega)
        go_wp2_with fail
        go_quiet (fail)
        obtain ⟨W5, hW5⟩ : ∃ W, W = (W3).drewN nq := ⟨_, rfl⟩
        rw [← hW5]
        have HX5 := Aside0.mk (show W5.heap[w.heap.size]? = some (.cells #[.int .i64 a1_0, .int .i64 a1_1] 40 (0, 0)) by rw [hW5]; exact HX3.out)
        have HR5 := Aside0.mk (show Kd.R k40 40 W5 w.heap.size (fun k => k ≠ w.heap.size) (.slice (some ad) l0.length c1) l0 by rw [hW5]; exact Kd.R_drewN HR3.out nq)
        have HB5 := Aside0.mk (show Below w.heap.size w W5 by rw [hW5]; exact pw_below_drewN HB3.out nq)
        clear hW5 x0 x1
        have x0 : W5.cell? ⟨w.heap.size, 0, none⟩ = some (.int .i64 a1_0) := (blk_cell HX5.out 0).trans rfl
        have x1 : W5.cell? ⟨w.heap.size, 1, none⟩ = some (.int .i64 a1_1) := (blk_cell HX5.out 1).trans rfl
        go_wp2_with fail
        have htl := in_tail w (W5) (some ad) c1 l0 (i) (i) a1_0 a1_1 _ HR5.out HB5.out (by omega) (by rw [← HNN.out]; omega) (by rw [← HNN.out]; omega)
        have e_lo : ((i : Nat) : Int) = (i : Int) := by omega
        have e_hi : ((i : Nat) : Int) = (i : Int) := by omega
        rw [← HNN.out, e_lo, e_hi] at htl
        refine htl.mono ?_
        rintro e w9 ⟨v', rfl, hR9, hb9⟩
        have HR9 := Aside0.mk hR9
        have HB9 := Aside0.mk hb9
        clear hR9 hb9 htl e_lo e_hi
        go_wp2
        go_ret
        refine ⟨_, rfl, ?_, HB9.out⟩
        have hres : inL l0 i ⟨a1_0, a1_1⟩ = l0.take (i) ++ [⟨a1_0, a1_1⟩] ++ l0.drop (i) := by
          unfold inL inX2 inHi
          rw [HL.out.1, HL.out.2]
          rw [if_neg (fun h => hin (by rw [HNN.out]; exact h.1)), if_neg (fun h => hin (by rw [HNN.out]; exact h.1))]
        rw [hres]; exact HR9.out
  · have hd : decide (0 < (i : Int)) = false := decide_eq_false (by omega)
    go_wp2_with fail
    go_quiet (fail)
    obtain ⟨W3, hW3⟩ : ∃ W, W = w2.drewN nq := ⟨_, rfl⟩
    rw [← hW3]
    have HX3 := Aside0.mk (show W3.heap[w.heap.size]? = some (.cells #[.int .i64 a1_0, .int .i64 a1_1] 40 (0, 0)) by rw [hW3]; exact HX2.out)
    have HR3 := Aside0.mk (show Kd.R k40 40 W3 w.heap.size (fun k => k ≠ w.heap.size) (.slice A1 l0.length c1) l0 by rw [hW3]; exact Kd.R_drewN HR2.out nq)
    have HB3 := Aside0.mk (show Below w.heap.size w W3 by rw [hW3]; exact pw_below_drewN HB2.out nq)
    clear hW3 x0 x1
    have x0 : W3.cell? ⟨w.heap.size, 0, none⟩ = some (.int .i64 a1_0) := (blk_cell HX3.out 0).trans rfl
    have x1 : W3.cell? ⟨w.heap.size, 1, none⟩ = some (.int .i64 a1_1) := (blk_cell HX3.out 1).trans rfl
    have hL : inX1 l0 i ⟨a1_0, a1_1⟩ = ⟨a1_0, a1_1⟩ ∧ inLo l0 i ⟨a1_0, a1_1⟩ = i := ⟨if_neg (fun h => hi0 h.1), if_neg (fun h => hi0 h.1)⟩
    have HL := Aside0.mk hL
    clear hL
    by_cases hin : i < n
    · have hd2 : decide ((i : Int) < (n : Int)) = true := decide_eq_true (by omega)
      have hC : Kd.C k40 W3 A1 l0.length l0 := (Kd.R_reads' HR3.out).2.2
      obtain ⟨ad, e3, g0, g1⟩ := at_T40 hC (i : Int) (by omega) (by rw [← HNN.out]; omega)
      cases e3
      have i0 : (0 : Int) ≤ (i : Int) := by omega
      have i1 : (i : Int) < (n : Int) := by omega
      rw [Int.toNat_natCast] at g0 g1
      obtain ⟨y, hy⟩ : ∃ y, y = rd_T40 l0 (i : Int) := ⟨_, rfl⟩
      rw [← hy] at g0 g1
      have HY := Aside0.mk hy
      clear hy hC
      obtain ⟨s4, hs4⟩ : ∃ s : Int, s = wrap64 (a1_0 + a1_1) := ⟨_, rfl⟩
      have HS4 := Aside0.mk hs4
      have hs4w : IntKind.i64.wrap (a1_0 + a1_1) = s4 := by rw [hs4]; exact IntWalk.i64_left _
      have hs4w2 : wrap64 (a1_0 + a1_1) = s4 := hs4.symm
      clear hs4
      by_cases hc4 : s4 = y.f0
      · have hb4 : (s4 == y.f0) = true := beq_iff_eq.mpr hc4
        have HC4 := Aside0.mk hc4
        have hwi : IntKind.i64.wrap ((i : Int) + 1) = (i : Int) + 1 := IntWalk.i64_in _ (by omega)
        have hwi2 : wrap64 ((i : Int) + 1) = (i : Int) + 1 := w64 (by omega)
        obtain ⟨s5, hs5⟩ : ∃ s : Int, s = wrap64 (a1_1 + y.f1) := ⟨_, rfl⟩
        have HS5 := Aside0.mk hs5
        have hs5w : IntKind.i64.wrap (a1_1 + y.f1) = s5 := by rw [hs5]; exact IntWalk.i64_left _
        have hs5w2 : wrap64 (a1_1 + y.f1) = s5 := hs5.symm
        clear hs5
        go_wp2_with fail
        go_quiet (fail)
        obtain ⟨W5, hW5⟩ : ∃ W, W = (W3).drewN nq := ⟨_, rfl⟩
        rw [← hW5]
        have HX5 := Aside0.mk (show W5.heap[w.heap.size]? = some (.cells #[.int .i64 a1_0, .int .i64 a1_1] 40 (0, 0)) by rw [hW5]; exact HX3.out)
        have HR5 := Aside0.mk (show Kd.R k40 40 W5 w.heap.size (fun k => k ≠ w.heap.size) (.slice (some ad) l0.length c1) l0 by rw [hW5]; exact Kd.R_drewN HR3.out nq)
        have HB5 := Aside0.mk (show Below w.heap.size w W5 by rw [hW5]; exact pw_below_drewN HB3.out nq)
        have HG5 := Aside0.mk (show W5.cell? (ad.add (i * 2)) = some (.int .i64 y.f0) ∧ W5.cell? ⟨(ad.add (i * 2)).block, (ad.add (i * 2)).off + 1, none⟩ = some (.int .i64 y.f1) by rw [hW5]; exact ⟨g0, g1⟩)
        clear hW5 x0 x1 g0 g1 hc4 hb4 hs4w hs4w2
        have x0 : W5.cell? ⟨w.heap.size, 0, none⟩ = some (.int .i64 a1_0) := (blk_cell HX5.out 0).trans rfl
        have x1 : W5.cell? ⟨w.heap.size, 1, none⟩ = some (.int .i64 a1_1) := (blk_cell HX5.out 1).trans rfl
        have g0 := HG5.out.1
        have g1 := HG5.out.2
        have hfz : W5.frozen? ⟨w.heap.size, 1, none⟩ = false := blk_frozen HX5.out 1
        have hfz2 : W5.drew.frozen? ⟨w.heap.size, 1, none⟩ = false := blk_frozen HX5.out 1
        go_wp2_with fail
        go_still_tail 9, (by kernel_rfl)
        change wpList _ _ _ _ _ W5.drew
        go_wp2_with fail
        have hwd : ((W5.setCell ⟨w.heap.size, 1, none⟩ (.int .i64 s5)).alloc (.cells #[.int .i64 a1_0, .int .i64 s5] 40)).drew = (W5.drew.setCell ⟨w.heap.size, 1, none⟩ (.int .i64 s5)).alloc (.cells #[.int .i64 a1_0, .int .i64 s5] 40) := rfl
        have hwz : (W5.drew.setCell ⟨w.heap.size, 1, none⟩ (.int .i64 s5)).heap.size = W5.heap.size := by simp [World.setCell]
        have htl := in_tail w (W5.drew.setCell ⟨w.heap.size, 1, none⟩ (.int .i64 s5)) (some ad) c1 l0 (i) (i + 1) a1_0 s5 _ (Kd.R_far (p := ⟨w.heap.size, 1, none⟩) (Kd.R_drew HR5.out) (fun _ h => h) _) ((below_drew HB5.out).setCell (p := ⟨w.heap.size, 1, none⟩) (Nat.le_refl _) _) (by omega) (by rw [← HNN.out]; omega) (by rw [← HNN.out]; omega)
        have e_lo : ((i : Nat) : Int) = (i : Int) := by omega
        have e_hi : ((i + 1 : Nat) : Int) = (i : Int) + 1 := by omega
        rw [← HNN.out, e_lo, e_hi, hwz] at htl
        rw [hwd]
        clear hwd hwz
        refine htl.mono ?_
        rintro e w9 ⟨v', rfl, hR9, hb9⟩
        have HR9 := Aside0.mk hR9
        have HB9 := Aside0.mk hb9
        clear hR9 hb9 htl e_lo e_hi
        go_wp2
        go_ret
        refine ⟨_, rfl, ?_, HB9.out⟩
        have hres : inL l0 i ⟨a1_0, a1_1⟩ = l0.take (i) ++ [⟨a1_0, s5⟩] ++ l0.drop (i + 1) := by
          unfold inL inX2 inHi
          rw [HL.out.1, HL.out.2]
          rw [if_pos ⟨by rw [← HNN.out]; exact hin, by rw [← HY.out, ← HC4.out]; exact HS4.out.symm⟩, if_pos ⟨by rw [← HNN.out]; exact hin, by rw [← HY.out, ← HC4.out]; exact HS4.out.symm⟩, ← HY.out, ← HS5.out]
        rw [hres]; exact HR9.out
      · have hb4 : (s4 == y.f0) = false := beq_eq_false_iff_ne.mpr hc4
        have HC4 := Aside0.mk hc4
        go_wp2_with fail
        go_quiet (fail)
        obtain ⟨W5, hW5⟩ : ∃ W, W = (W3).drewN nq := ⟨_, rfl⟩
        rw [← hW5]
        have HX5 := Aside0.mk (show W5.heap[w.heap.size]? = some (.cells #[.int .i64 a1_0, .int .i64 a1_1] 40 (0, 0)) by rw [hW5]; exact HX3.out)
        have HR5 := Aside0.mk (show Kd.R k40 40 W5 w.heap.size (fun k => k ≠ w.heap.size) (.slice (some ad) l0.length c1) l0 by rw [hW5]; exact Kd.R_drewN HR3.out nq)
        have HB5 := Aside0.mk (show Below w.heap.size w W5 by rw [hW5]; exact pw_below_drewN HB3.out nq)
        clear hW5 x0 x1 g0 g1 hs4w hs4w2 hc4 hb4
        have x0 : W5.cell? ⟨w.heap.size, 0, none⟩ = some (.int .i64 a1_0) := (blk_cell HX5.out 0).trans rfl
        have x1 : W5.cell? ⟨w.heap.size, 1, none⟩ = some (.int .i64 a1_1) := (blk_cell HX5.out 1).trans rfl
        go_wp2_with fail
        have htl := in_tail w (W5) (some ad) c1 l0 (i) (i) a1_0 a1_1 _ HR5.out HB5.out (by omega) (by rw [← HNN.out]; omega) (by rw [← HNN.out]; omega)
        have e_lo : ((i : Nat) : Int) = (i : Int) := by omega
        have e_hi : ((i : Nat) : Int) = (i : Int) := by omega
        rw [← HNN.out, e_lo, e_hi] at htl
        refine htl.mono ?_
        rintro e w9 ⟨v', rfl, hR9, hb9⟩
        have HR9 := Aside0.mk hR9
        have HB9 := Aside0.mk hb9
        clear hR9 hb9 htl e_lo e_hi
        go_wp2
        go_ret
        refine ⟨_, rfl, ?_, HB9.out⟩
        have hres : inL l0 i ⟨a1_0, a1_1⟩ = l0.take (i) ++ [⟨a1_0, a1_1⟩] ++ l0.drop (i) := by
          unfold inL inX2 inHi
          rw [HL.out.1, HL.out.2]
          rw [if_neg (fun h => HC4.out (by rw [HS4.out, HY.out]; exact h.2)), if_neg (fun h => HC4.out (by rw [HS4.out, HY.out]; exact h.2))]
        rw [hres]; exact HR9.out
    · have hd2 : decide ((i : Int) < (n : Int)) = false := decide_eq_false (by omega)
      go_wp2_with fail
      go_quiet (fail)
      obtain ⟨W5, hW5⟩ : ∃ W, W = (W3).drewN nq := ⟨_, rfl⟩
      rw [← hW5]
      have HX5 := Aside0.mk (show W5.heap[w.heap.size]? = some (.cells #[.int .i64 a1_0, .int .i64 a1_1] 40 (0, 0)) by rw [hW5]; exact HX3.out)
      have HR5 := Aside0.mk (show Kd.R k40 40 W5 w.heap.size (fun k => k ≠ w.heap.size) (.slice A1 l0.length c1) l0 by rw [hW5]; exact Kd.R_drewN HR3.out nq)
      have HB5 := Aside0.mk (show Below w.heap.size w W5 by rw [hW5]; exact pw_below_drewN HB3.out nq)
      clear hW5 x0 x1
      have x0 : W5.cell? ⟨w.heap.size, 0, none⟩ = some (.int .i64 a1_0) := (blk_cell HX5.out 0).trans rfl
      have x1 : W5.cell? ⟨w.heap.size, 1, none⟩ = some (.int .i64 a1_1) := (blk_cell HX5.out 1).trans rfl
      go_wp2_with fail
      have htl := in_tail w (W5) A1 c1 l0 (i) (i) a1_0 a1_1 _ HR5.out HB5.out (by omega) (by rw [← HNN.out]; omega) (by rw [← HNN.out]; omega)
      have e_lo : ((i : Nat) : Int) = (i : Int) := by omega
      have e_hi : ((i : Nat) : Int) = (i : Int) := by omega
      rw [← HNN.out, e_lo, e_hi] at htl
      refine htl.mono ?_
      rintro e w9 ⟨v', rfl, hR9, hb9⟩
      have HR9 := Aside0.mk hR9
      have HB9 := Aside0.mk hb9
      clear hR9 hb9 htl e_lo e_hi
      go_wp2
      go_ret
      refine ⟨_, rfl, ?_, HB9.out⟩
      have hres : inL l0 i ⟨a1_0, a1_1⟩ = l0.take (i) ++ [⟨a1_0, a1_1⟩] ++ l0.drop (i) := by
        unfold inL inX2 inHi
        rw [HL.out.1, HL.out.2]
        rw [if_neg (fun h => hin (by rw [HNN.out]; exact h.1)), if_neg (fun h => hin (by rw [HNN.out]; exact h.1))]
      rw [hres]; exact HR9.out

end Go.Proofs.Ytkkfkdncddbaeaa.Fn
