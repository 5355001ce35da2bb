-- Told by hand; its numbers filled in by a program of this session.
import Derived.Test.YtkkfkdncddbaeaaFnBase
import Derived.Test.YtkkfkdncddbaeaaHL05
import Derived.Test.YtkkfkdncddbaeaaFn40
import Derived.Test.YtkkfkdncddbaeaaFn89
import Derived.Test.YtkkfkdncddbaeaaFn99
import Derived.IntWalk
namespace Go.Proofs.Ytkkfkdncddbaeaa.Fn
open Go.RowKit Go.Proofs.YtkkfkdncddbaeaaW.PrintWords Go.Proofs.YtkkfkdncddbaeaaW.PrintLast Go.Proofs.YtkkfkdncddbaeaaW.PrintMore
attribute [local go_sem] max2_int min2_int max_two min_two max_three min_three max_four min_four   -- for this text's walks alone
set_option linter.unusedVariables false
set_option linter.unusedSimpArgs false

/-- What the document adds of one extent where sectors move. -/
def movesR (a n t : Int) (x : S24) : List S24 :=
  if mx x.f1 a ≥ mn (wrap64 (x.f1 + x.f2)) (wrap64 (a + n)) then [x]
  else [⟨x.f0, x.f1, wrap64 (mx x.f1 a - x.f1)⟩, ⟨wrap64 (wrap64 (x.f0 + mx x.f1 a) - x.f1), wrap64 (wrap64 (t + mx x.f1 a) - a), wrap64 (mn (wrap64 (x.f1 + x.f2)) (wrap64 (a + n)) - mx x.f1 a)⟩,
    ⟨wrap64 (wrap64 (x.f0 + mn (wrap64 (x.f1 + x.f2)) (wrap64 (a + n))) - x.f1), mn (wrap64 (x.f1 + x.f2)) (wrap64 (a + n)), wrap64 (wrap64 (x.f1 + x.f2) - mn (wrap64 (x.f1 + x.f2)) (wrap64 (a + n)))⟩]
theorem movesR_len (a n t : Int) (x : S24) : (movesR a n t x).length ≤ 3 := by unfold movesR; split <;> simp
theorem movesR_flat_len (a n t : Int) (l : List S24) : (l.flatMap (movesR a n t)).length ≤ 3 * l.length := by
  induction l with
  | nil => simp
  | cons x u ih => rw [List.flatMap_cons, List.length_append]; have := movesR_len a n t x; simp only [List.length_cons]; omega
def moveRS (l : List S24) (a n t : Int) : List S24 × Int :=
  if Flag.checkE (l.map toE) = 0 then (if n < 1 then ([], 4) else if fitsB a n = true then (if fitsB t n = true then fullS ((l.flatMap (movesR a n t)).foldl addG []) else ([], 4)) else ([], 4)) else ([], 9)
def flagstoneref05_Move.f (l0 : List (S24)) (a1_0 : Int) (a1_1 : Int) (a2 : Int) : Option ((List (S24)) × Int) := some (moveRS l0 a1_0 a1_1 a2)
theorem add_rf {l : List S24} (x : S24) (h : l.length < 2147483648) : flagstoneref05_Add.f l x.f0 x.f1 x.f2 = some (addG l x) := by unfold flagstoneref05_Add.f; rw [if_pos h]
set_option maxHeartbeats 4000000 in
set_option maxRecDepth 100000 in
theorem flagstoneref05_Move.calls (A0 : Option Addr) (c0 : Nat) (l0 : List (S24)) (a1_0 : Int) (a1_1 : Int) (a2 : Int) (r1 : List (S24)) (r2 : Int) (w : World) (hr0 : Kd.C k24 w A0 l0.length l0) (hc0 : l0.length ≤ c0) (h : flagstoneref05_Move.f l0 a1_0 a1_1 a2 = some (r1, r2)) :
    Calls Try.prog 54 #[.slice A0 l0.length c0, .agg #[.int .i64 a1_0, .int .i64 a1_1], .int .i64 a2] w fun e w' => ∃ v0_ : Value, e = .returned (.tuple #[v0_, .int .i64 r2]) ∧ Kd.R k24 24 w' w.heap.size (fun _ => True) v0_ r1 ∧ Below w.heap.size w w' := by
  have hu24 := Try.underlying24
  have hu40 := Try.underlying40
  have hcx : flagstoneref05_Check.f (2 * l0.length + 1) l0 = some (Flag.checkE (l0.map toE)) := check_r l0 (by omega)
  unfold flagstoneref05_Move.f at h
  have h := Option.some.inj h
  unfold moveRS at h
  have HR0 := Aside0.mk hr0
  have HC0 := Aside0.mk hc0
  clear hr0 hc0
  go_enter Try.func54, Try.ntmps54
  go_wp2_with fail
  obtain ⟨W0, hW0⟩ : ∃ W, W = w.alloc (.cells #[.int .i64 a1_0, .int .i64 a1_1] 40) := ⟨_, rfl⟩
  rw [← hW0]
  obtain ⟨b4, hb4⟩ : ∃ b, b = w.heap.size := ⟨_, rfl⟩
  rw [← hb4]
  have hp4 : W0.heap[b4]? = some (.cells #[.int .i64 a1_0, .int .i64 a1_1] 40 (0, 0)) := by rw [hW0, hb4]; exact blk_new w _
  have hbel : Below w.heap.size w W0 := by rw [hW0]; exact (Below.refl _ _).alloc (Nat.le_refl _) _
  refine (flagstoneref05_Check.calls (2 * l0.length + 1) A0 c0 l0 _ W0 (Kd.C_below HR0.out hbel) HC0.out hcx).mono ?_
  rintro e w1 ⟨rfl, hb1⟩
  have hp41 := (hb1.block b4 (blk_lt hp4)).trans hp4
  have hbel1 := below_step hbel hb1
  have H4 := Aside0.mk hp41
  have HBEL := Aside0.mk hbel1
  have HB4 := Aside0.mk hb4
  clear hW0 hp4 hbel hb1 hp41 hbel1 hb4
  rcases Flag.checkE_or (l0.map toE) with h0 | h0
  · rw [if_pos h0] at h
    have hl0 : l0.length ≤ 1024 := by have := (Flag.checkE_ok.1 h0).len; simpa using this
    rw [h0]
    clear h0 hcx
    have y40 : w1.cell? ⟨b4, 0, none⟩ = some (.int .i64 a1_0) := (blk_cell H4.out 0).trans rfl
    have y41 : w1.cell? ⟨b4, 1, none⟩ = some (.int .i64 a1_1) := (blk_cell H4.out 1).trans rfl
    by_cases hn : a1_1 < 1
    · have hd : decide (a1_1 < 1) = true := decide_eq_true hn
      rw [if_pos hn] at h
      simp only [Prod.mk.injEq] at h
      obtain ⟨rfl, rfl⟩ := h
      clear hn
      go_wp2
      go_ret2
      exact ⟨_, rfl, Kd.R_nil _ _ _ _ _, HBEL.out⟩
    · have hd : decide (a1_1 < 1) = false := decide_eq_false hn
      rw [if_neg hn] at h
      clear hn
      go_wp2_with fail
      refine (flagstoneref05_fits.calls a1_0 a1_1 _ w1 fits_rB).mono ?_
      rintro e w2 ⟨rfl, hdr2⟩
      have hb2 := hdr2.below
      have h42 := (hb2.block b4 (blk_lt H4.out)).trans H4.out
      have H42 := Aside0.mk h42
      have HBEL2 := Aside0.mk (below_step HBEL.out hb2)
      clear hb2 h42 y40 y41 hdr2
      have y40 : w2.cell? ⟨b4, 0, none⟩ = some (.int .i64 a1_0) := (blk_cell H42.out 0).trans rfl
      have y41 : w2.cell? ⟨b4, 1, none⟩ = some (.int .i64 a1_1) := (blk_cell H42.out 1).trans rfl
      by_cases hf1 : fitsB a1_0 a1_1 = true
      · rw [if_pos hf1] at h
        rw [hf1]
        go_wp2_with fail
        refine (flagstoneref05_fits.calls a2 a1_1 _ w2 fits_rB).mono ?_
        rintro e w3 ⟨rfl, hdr3⟩
        have hb3 := hdr3.below
        have h43 := (hb3.block b4 (blk_lt H42.out)).trans H42.out
        have H43 := Aside0.mk h43
        have HBEL3 := Aside0.mk (below_step HBEL2.out hb3)
        clear hb3 h43 y40 y41 hdr3
        by_cases hf2 : fitsB a2 a1_1 = true
        · rw [if_pos hf2] at h
          rw [hf2]
          have HH := Aside0.mk h
          clear h hf1 hf2
          go_wp2_with fail
          obtain ⟨s2, hs2⟩ : ∃ s : Int, s = wrap64 (a1_0 + a1_1) := ⟨_, rfl⟩
          have hs2w : IntKind.i64.wrap (a1_0 + a1_1) = s2 := by rw [hs2]; exact IntWalk.i64_left _
          have hs2w2 : wrap64 (a1_0 + a1_1) = s2 := hs2.symm
          have HS2E := Aside0.mk hs2
          clear hs2
          go_loopg [8, 9] l0.length (fun gk v8 v9 W => ∃ i : Int, v9 = .int .i64 i ∧ Aside0 (0 ≤ i ∧ i + gk = l0.length) ∧ Aside0 (Kd.R k24 24 W w.heap.size (fun k => k ≠ b4) v8 (((l0.take i.toNat).flatMap (movesR a1_0 a1_1 a2)).foldl addG []) ∧ Below w.heap.size w W ∧ W.heap[b4]? = some (.cells #[.int .i64 a1_0, .int .i64 a1_1] 40 (0, 0))))
          case atStart => exact ⟨0, rfl, ⟨Int.le_refl _, by simp⟩, ⟨by simpa using Kd.R_nil _ _ _ _ _, HBEL3.out, H43.out⟩⟩
          case round =>
            obtain ⟨i, rfl, HI, HS⟩ := hrel
            obtain ⟨o, ho⟩ : ∃ o, o = ((l0.take i.toNat).flatMap (movesR a1_0 a1_1 a2)).foldl addG [] := ⟨_, rfl⟩
            have hol : o.length ≤ 4096 := by
              have h1 := addG_fold_length ((l0.take i.toNat).flatMap (movesR a1_0 a1_1 a2)) []
              have h3 := movesR_flat_len a1_0 a1_1 a2 (l0.take i.toNat)
              rw [← ho] at h1
              have h2 : (l0.take i.toNat).length ≤ 1024 := by rw [List.length_take]; omega
              simp only [List.length_nil] at h1
              omega
            rw [← ho] at HS
            have HOL := Aside0.mk hol
            have HO := Aside0.mk ho
            obtain ⟨A8, c8, rfl⟩ := Kd.R_slice HS.out.1
            clear ho hol
            cases gk with
            | zero =>
              have hi : i = l0.length := by have := HI.out.2; omega
              have hd : decide (i < (l0.length : Int)) = false := decide_eq_false (by omega)
              have hfull : fullS o = (r1, r2) := by
                have h1 := HH.out
                have h2 := HO.out
                rw [hi, Int.toNat_natCast, List.take_length] at h2
                rw [h2]
                exact h1
              have HFULL := Aside0.mk hfull
              clear hi hfull
              by_cases hc : o.length > 1024
              · have hdc : decide ((1024 : Int) < (o.length : Int)) = true := decide_eq_true (by omega)
                have hf := HFULL.out
                unfold fullS at hf
                rw [if_pos hc] at hf
                simp only [Prod.mk.injEq] at hf
                obtain ⟨rfl, rfl⟩ := hf
                clear hc
                go_wp2
                go_ret2
                exact ⟨_, rfl, Kd.R_nil _ _ _ _ _, HS.out.2.1⟩
              · have hdc : decide ((1024 : Int) < (o.length : Int)) = false := decide_eq_false (by omega)
                have hf := HFULL.out
                unfold fullS at hf
                rw [if_neg hc] at hf
                simp only [Prod.mk.injEq] at hf
                obtain ⟨hf1, rfl⟩ := hf
                have HF1 := Aside0.mk hf1
                clear hc hf1
                go_wp2
                go_ret2
                refine ⟨_, rfl, ?_, HS.out.2.1⟩
                rw [← HF1.out]
                exact Kd.R_mono HS.out.1 (fun _ _ => trivial)
            | succ k1 =>
              have hp0 : 0 ≤ i := HI.out.1
              have hp1 : i < (l0.length : Int) := by have := HI.out.2; omega
              have hd : decide (i < (l0.length : Int)) = true := decide_eq_true hp1
              have hC : Kd.C k24 wr A0 l0.length l0 := Kd.C_below HR0.out HS.out.2.1
              obtain ⟨ad, e3, g0, g1, g2⟩ := at_T24 hC i hp0 hp1
              cases e3
              obtain ⟨x, hx⟩ : ∃ x, x = rd_T24 l0 i := ⟨_, rfl⟩
              rw [← hx] at g0 g1 g2
              have hst : ((l0.take (i + 1).toNat).flatMap (movesR a1_0 a1_1 a2)).foldl addG [] = (movesR a1_0 a1_1 a2 x).foldl addG o := by
                have h3 : (i + 1).toNat = i.toNat + 1 := by omega
                have h4 : i.toNat < l0.length := by omega
                have h5 : x = l0[i.toNat] := by rw [hx]; unfold rd_T24; rw [List.getD_eq_getElem?_getD, List.getElem?_eq_getElem h4]; rfl
                rw [h3, List.take_succ_eq_append_getElem h4, List.flatMap_append, List.foldl_append, ← h5, HO.out]
                simp
              have HST := Aside0.mk hst
              have HP := Aside0.mk (And.intro hp0 hp1)
              clear hx hC hst
              go_wp2_with fail
              obtain ⟨W1, hW1⟩ : ∃ W, W = wr.alloc (.cells #[.int .i64 x.f0, .int .i64 x.f1, .int .i64 x.f2] 24) := ⟨_, rfl⟩
              obtain ⟨bx, hbx⟩ : ∃ b, b = wr.heap.size := ⟨_, rfl⟩
              have hb1 : Below wr.heap.size wr W1 := by rw [hW1]; exact (Below.refl _ _).alloc (Nat.le_refl _) _
              have hx1 : W1.heap[bx]? = some (.cells #[.int .i64 x.f0, .int .i64 x.f1, .int .i64 x.f2] 24 (0, 0)) := by rw [hW1, hbx]; exact blk_new wr _
              rw [← hW1, ← hbx]
              have h4 : W1.heap[b4]? = some (.cells #[.int .i64 a1_0, .int .i64 a1_1] 40 (0, 0)) := (hb1.block b4 (blk_lt HS.out.2.2)).trans HS.out.2.2
              have hn4 : b4 ≠ bx := by have := blk_lt HS.out.2.2; omega
              have hR1 : Kd.R k24 24 W1 w.heap.size (fun k => k ≠ b4 ∧ k ≠ bx) (.slice A8 o.length c8) o := Kd.R_below (Kd.R_mono (Kd.R_bound HS.out.1) (fun k hk => ⟨hk.1, by have := hk.2.2.1; omega⟩)) hb1
              have hB1 := below_then HS.out.2.1 HS.out.2.1.size hb1
              have H1 := Aside0.mk hR1
              have HB1 := Aside0.mk hB1
              have HX1 := Aside0.mk hx1
              have H41 := Aside0.mk h4
              have HN4 := Aside0.mk hn4
              have q0 : W1.cell? ⟨bx, 0, none⟩ = some (.int .i64 x.f0) := (blk_cell hx1 0).trans rfl
              have q1 : W1.cell? ⟨bx, 1, none⟩ = some (.int .i64 x.f1) := (blk_cell hx1 1).trans rfl
              have q2 : W1.cell? ⟨bx, 2, none⟩ = some (.int .i64 x.f2) := (blk_cell hx1 2).trans rfl
              have z0 : W1.cell? ⟨b4, 0, none⟩ = some (.int .i64 a1_0) := (blk_cell h4 0).trans rfl
              have z1 : W1.cell? ⟨b4, 1, none⟩ = some (.int .i64 a1_1) := (blk_cell h4 1).trans rfl
              obtain ⟨lo, hlo⟩ : ∃ m : Int, m = mx x.f1 a1_0 := ⟨_, rfl⟩
              have hlo' : (if x.f1 < a1_0 then a1_0 else x.f1) = lo := hlo.symm
              obtain ⟨s1, hs1⟩ : ∃ s : Int, s = wrap64 (x.f1 + x.f2) := ⟨_, rfl⟩
              have hs1w : IntKind.i64.wrap (x.f1 + x.f2) = s1 := by rw [hs1]; exact IntWalk.i64_left _
              have hs1w2 : wrap64 (x.f1 + x.f2) = s1 := hs1.symm
              obtain ⟨hi_, hhi⟩ : ∃ m : Int, m = mn s1 s2 := ⟨_, rfl⟩
              have hhi' : (if s2 < s1 then s2 else s1) = hi_ := hhi.symm
              have hmv : movesR a1_0 a1_1 a2 x = if lo ≥ hi_ then [x] else [⟨x.f0, x.f1, wrap64 (lo - x.f1)⟩, ⟨wrap64 (wrap64 (x.f0 + lo) - x.f1), wrap64 (wrap64 (a2 + lo) - a1_0), wrap64 (hi_ - lo)⟩, ⟨wrap64 (wrap64 (x.f0 + hi_) - x.f1), hi_, wrap64 (s1 - hi_)⟩] := by
                unfold movesR
                rw [hs1w2, ← HS2E.out, ← hlo, ← hhi]
              have HMV := Aside0.mk hmv
              clear hW1 hbx hb1 hx1 h4 hn4 hR1 hB1 g0 g1 g2 hlo hs1 hhi hmv
              go_quiet (fail)
              by_cases hc : hi_ ≤ lo
              · have hdc : decide (hi_ ≤ lo) = true := decide_eq_true hc
                have hst2 : (movesR a1_0 a1_1 a2 x).foldl addG o = addG o x := by rw [HMV.out, if_pos hc]; rfl
                have HST2 := Aside0.mk hst2
                obtain ⟨W2, hW2⟩ : ∃ W, W = W1.drewN nq := ⟨_, rfl⟩
                rw [← hW2]
                have H2 := Aside0.mk (show Kd.R k24 24 W2 w.heap.size (fun k => k ≠ b4 ∧ k ≠ bx) (.slice A8 o.length c8) o by rw [hW2]; exact Kd.R_drewN H1.out nq)
                have HB2 := Aside0.mk (show Below w.heap.size w W2 by rw [hW2]; exact pw_below_drewN HB1.out nq)
                have HX2 := Aside0.mk (show W2.heap[bx]? = some (.cells #[.int .i64 x.f0, .int .i64 x.f1, .int .i64 x.f2] 24 (0, 0)) by rw [hW2]; exact HX1.out)
                have H42' := Aside0.mk (show W2.heap[b4]? = some (.cells #[.int .i64 a1_0, .int .i64 a1_1] 40 (0, 0)) by rw [hW2]; exact H41.out)
                clear q0 q1 q2 z0 z1 hc hst2 hW2
                have q0 : W2.cell? ⟨bx, 0, none⟩ = some (.int .i64 x.f0) := (blk_cell HX2.out 0).trans rfl
                have q1 : W2.cell? ⟨bx, 1, none⟩ = some (.int .i64 x.f1) := (blk_cell HX2.out 1).trans rfl
                have q2 : W2.cell? ⟨bx, 2, none⟩ = some (.int .i64 x.f2) := (blk_cell HX2.out 2).trans rfl
                go_wp2_with fail
                refine (flagstoneref05_Add.calls _ _ o x.f0 x.f1 x.f2 _ w W2 HB2.out H2.out (add_rf x (by have := HOL.out; omega))).mono ?_
                rintro e w3 ⟨v3, rfl, hR3, hb3, hk3⟩
                have H3 := Aside0.mk hR3
                have HB3 := Aside0.mk hb3
                have H43' := Aside0.mk ((hk3.2 b4 (blk_lt H42'.out) (fun h => h.1 rfl)).trans H42'.out)
                have HS23 := Aside0.mk (blk_lt H42'.out)
                clear hR3 hb3 hk3 q0 q1 q2
                go_wp2
                go_roundg k1
                case measure => omega
                case rel =>
                  refine ⟨i + 1, by first | rfl | (simp; done), ⟨by have := HP.out.1; omega, by have := HI.out.2; omega⟩, ?_⟩
                  rw [HST.out, HST2.out]
                  exact ⟨Kd.R_mono H3.out (fun k hk => hk.elim (fun h => h.1) (fun h => by have := HS23.out; omega)), HB3.out, H43'.out⟩
              · have hdc : decide (hi_ ≤ lo) = false := decide_eq_false hc
                obtain ⟨pa, hpa⟩ : ∃ p : S24, p = ⟨x.f0, x.f1, wrap64 (lo - x.f1)⟩ := ⟨_, rfl⟩
                obtain ⟨pb, hpb⟩ : ∃ p : S24, p = ⟨wrap64 (wrap64 (x.f0 + lo) - x.f1), wrap64 (wrap64 (a2 + lo) - a1_0), wrap64 (hi_ - lo)⟩ := ⟨_, rfl⟩
                obtain ⟨pc, hpc⟩ : ∃ p : S24, p = ⟨wrap64 (wrap64 (x.f0 + hi_) - x.f1), hi_, wrap64 (s1 - hi_)⟩ := ⟨_, rfl⟩
                have hst2 : (movesR a1_0 a1_1 a2 x).foldl addG o = addG (addG (addG o pa) pb) pc := by rw [HMV.out, if_neg hc, hpa, hpb, hpc]; rfl
                have l1 := addG_length o pa
                have l2 := addG_length (addG o pa) pb
                have fa : flagstoneref05_Add.f o x.f0 x.f1 (wrap64 (lo - x.f1)) = some (addG o pa) := by have := add_rf (l := o) pa (by have := HOL.out; omega); rw [hpa] at this ⊢; exact this
                have fb : flagstoneref05_Add.f (addG o pa) (wrap64 (wrap64 (x.f0 + lo) - x.f1)) (wrap64 (wrap64 (a2 + lo) - a1_0)) (wrap64 (hi_ - lo)) = some (addG (addG o pa) pb) := by have := add_rf (l := addG o pa) pb (by have := HOL.out; omega); rw [hpb] at this ⊢; exact this
                have fc : flagstoneref05_Add.f (addG (addG o pa) pb) (wrap64 (wrap64 (x.f0 + hi_) - x.f1)) hi_ (wrap64 (s1 - hi_)) = some (addG (addG (addG o pa) pb) pc) := by have := add_rf (l := addG (addG o pa) pb) pc (by have := HOL.out; omega); rw [hpc] at this ⊢; exact this
                have HST2 := Aside0.mk hst2
                have FA := Aside0.mk fa
                have FB := Aside0.mk fb
                have FC := Aside0.mk fc
                obtain ⟨W2, hW2⟩ : ∃ W, W = W1.drewN nq := ⟨_, rfl⟩
                rw [← hW2]
                have H2 := Aside0.mk (show Kd.R k24 24 W2 w.heap.size (fun k => k ≠ b4 ∧ k ≠ bx) (.slice A8 o.length c8) o by rw [hW2]; exact Kd.R_drewN H1.out nq)
                have HB2 := Aside0.mk (show Below w.heap.size w W2 by rw [hW2]; exact pw_below_drewN HB1.out nq)
                have HX2 := Aside0.mk (show W2.heap[bx]? = some (.cells #[.int .i64 x.f0, .int .i64 x.f1, .int .i64 x.f2] 24 (0, 0)) by rw [hW2]; exact HX1.out)
                have H42' := Aside0.mk (show W2.heap[b4]? = some (.cells #[.int .i64 a1_0, .int .i64 a1_1] 40 (0, 0)) by rw [hW2]; exact H41.out)
                clear q0 q1 q2 z0 z1 hc hst2 hW2 fa fb fc l1 l2 hpa hpb hpc
                have q0 : W2.cell? ⟨bx, 0, none⟩ = some (.int .i64 x.f0) := (blk_cell HX2.out 0).trans rfl
                have q1 : W2.cell? ⟨bx, 1, none⟩ = some (.int .i64 x.f1) := (blk_cell HX2.out 1).trans rfl
                have q2 : W2.cell? ⟨bx, 2, none⟩ = some (.int .i64 x.f2) := (blk_cell HX2.out 2).trans rfl
                go_wp2_with fail
                refine (flagstoneref05_Add.calls _ _ o _ _ _ _ w W2 HB2.out H2.out FA.out).mono ?_
                rintro e w3 ⟨v3, rfl, hR3, hb3, hk3⟩
                have hsl3 : Kd.R k24 24 w3 w.heap.size (fun k => k ≠ b4 ∧ k ≠ bx) v3 (addG o pa) := Kd.R_mono hR3 (fun k hk => hk.elim id (fun h => by have h1 := blk_lt H42'.out; have h2 := blk_lt HX2.out; exact ⟨by omega, by omega⟩))
                obtain ⟨A3_, c3_, rfl⟩ := Kd.R_slice hsl3
                have H3 := Aside0.mk hsl3
                have HB3 := Aside0.mk hb3
                have H43' := Aside0.mk ((hk3.2 b4 (blk_lt H42'.out) (fun h => h.1 rfl)).trans H42'.out)
                have HX3 := Aside0.mk ((hk3.2 bx (blk_lt HX2.out) (fun h => h.2 rfl)).trans HX2.out)
                clear hR3 hb3 hk3 q0 q1 q2 hsl3
                have q0 : w3.cell? ⟨bx, 0, none⟩ = some (.int .i64 x.f0) := (blk_cell HX3.out 0).trans rfl
                have q1 : w3.cell? ⟨bx, 1, none⟩ = some (.int .i64 x.f1) := (blk_cell HX3.out 1).trans rfl
                have q2 : w3.cell? ⟨bx, 2, none⟩ = some (.int .i64 x.f2) := (blk_cell HX3.out 2).trans rfl
                have z0 : w3.cell? ⟨b4, 0, none⟩ = some (.int .i64 a1_0) := (blk_cell H43'.out 0).trans rfl
                go_wp2_with fail
                refine (flagstoneref05_Add.calls _ _ (addG o pa) _ _ _ _ w w3 HB3.out H3.out FB.out).mono ?_
                rintro e w4 ⟨v4, rfl, hR4, hb4', hk4⟩
                have hsl4 : Kd.R k24 24 w4 w.heap.size (fun k => k ≠ b4 ∧ k ≠ bx) v4 (addG (addG o pa) pb) := Kd.R_mono hR4 (fun k hk => hk.elim id (fun h => by have h1 := blk_lt H43'.out; have h2 := blk_lt HX3.out; exact ⟨by omega, by omega⟩))
                obtain ⟨A4_, c4_, rfl⟩ := Kd.R_slice hsl4
                have H4' := Aside0.mk hsl4
                have HB4' := Aside0.mk hb4'
                have H44' := Aside0.mk ((hk4.2 b4 (blk_lt H43'.out) (fun h => h.1 rfl)).trans H43'.out)
                have HX4 := Aside0.mk ((hk4.2 bx (blk_lt HX3.out) (fun h => h.2 rfl)).trans HX3.out)
                clear z0 hR4 hb4' hk4 q0 q1 q2 hsl4
                have q0 : w4.cell? ⟨bx, 0, none⟩ = some (.int .i64 x.f0) := (blk_cell HX4.out 0).trans rfl
                have q1 : w4.cell? ⟨bx, 1, none⟩ = some (.int .i64 x.f1) := (blk_cell HX4.out 1).trans rfl
                have q2 : w4.cell? ⟨bx, 2, none⟩ = some (.int .i64 x.f2) := (blk_cell HX4.out 2).trans rfl
                have z0 : w4.cell? ⟨b4, 0, none⟩ = some (.int .i64 a1_0) := (blk_cell H44'.out 0).trans rfl
                go_wp2_with fail
                refine (flagstoneref05_Add.calls _ _ (addG (addG o pa) pb) _ _ _ _ w w4 HB4'.out H4'.out FC.out).mono ?_
                rintro e w5 ⟨v5, rfl, hR5, hb5, hk5⟩
                have H5 := Aside0.mk hR5
                have HB5 := Aside0.mk hb5
                have H45' := Aside0.mk ((hk5.2 b4 (blk_lt H44'.out) (fun h => h.1 rfl)).trans H44'.out)
                have HS45 := Aside0.mk (blk_lt H44'.out)
                clear hR5 hb5 hk5 q0 q1 q2
                go_wp2
                go_roundg k1
                case measure => omega
                case rel =>
                  refine ⟨i + 1, by first | rfl | (simp; done), ⟨by have := HP.out.1; omega, by have := HI.out.2; omega⟩, ?_⟩
                  rw [HST.out, HST2.out]
                  exact ⟨Kd.R_mono H5.out (fun k hk => hk.elim (fun h => h.1) (fun h => by have := HS45.out; omega)), HB5.out, H45'.out⟩
        · rw [if_neg hf2] at h
          simp only [Bool.not_eq_true] at hf2
          rw [hf2]
          simp only [Prod.mk.injEq] at h
          obtain ⟨rfl, rfl⟩ := h
          go_wp2
          go_ret2
          exact ⟨_, rfl, Kd.R_nil _ _ _ _ _, HBEL3.out⟩
      · rw [if_neg hf1] at h
        simp only [Bool.not_eq_true] at hf1
        rw [hf1]
        simp only [Prod.mk.injEq] at h
        obtain ⟨rfl, rfl⟩ := h
        go_wp2
        go_ret2
        exact ⟨_, rfl, Kd.R_nil _ _ _ _ _, HBEL2.out⟩
  · rw [h0] at h ⊢
    rw [if_neg (by omega)] at h
    simp only [Prod.mk.injEq] at h
    obtain ⟨rfl, rfl⟩ := h
    go_wp2
    go_ret2
    exact ⟨_, rfl, Kd.R_nil _ _ _ _ _, HBEL.out⟩

end Go.Proofs.Ytkkfkdncddbaeaa.Fn
