-- Told by hand; its numbers filled in by a program of this session.
import Derived.Test.YtkkfkdncddbaeaaFnBase
import Derived.Test.YtkkfkdncddbaeaaHL05
import Derived.Test.YtkkfkdncddbaeaaFnEq24
namespace Go.Proofs.Ytkkfkdncddbaeaa.Fn
open Go.RowKit Go.Proofs.YtkkfkdncddbaeaaW.PrintWords Go.Proofs.YtkkfkdncddbaeaaW.PrintLast Go.Proofs.YtkkfkdncddbaeaaW.PrintMore
attribute [local go_sem] max2_int min2_int max_two min_two max_three min_three max_four min_four   -- for this text's walks alone
set_option linter.unusedVariables false
set_option linter.unusedSimpArgs false

attribute [local go_sem high] eqA24
/-- What is added of one extent where sectors move. -/
def moveG (a n t : Int) (acc : List S24) (x : S24) : List S24 :=
  let from_ := wrap64 (a + wrap64 (x.f0 - x.f1))
  let end_ := wrap64 (wrap64 (a + n) + wrap64 (x.f0 - x.f1))
  let p := partG x from_ end_
  let o1 := addG acc (partG x x.f0 from_)
  addG (if p.f2 > 0 then addG o1 ⟨p.f0, wrap64 (p.f1 + wrap64 (t - a)), p.f2⟩ else o1) (partG x end_ (wrap64 (x.f0 + x.f2)))
theorem moveG_length (a n t : Int) (acc : List S24) (x : S24) : (moveG a n t acc x).length ≤ acc.length + 3 := by
  simp only [moveG]
  have h1 := addG_length acc (partG x x.f0 (wrap64 (a + wrap64 (x.f0 - x.f1))))
  split
  · have h2 := addG_length (addG acc (partG x x.f0 (wrap64 (a + wrap64 (x.f0 - x.f1))))) ⟨(partG x (wrap64 (a + wrap64 (x.f0 - x.f1))) (wrap64 (wrap64 (a + n) + wrap64 (x.f0 - x.f1)))).f0, wrap64 ((partG x (wrap64 (a + wrap64 (x.f0 - x.f1))) (wrap64 (wrap64 (a + n) + wrap64 (x.f0 - x.f1)))).f1 + wrap64 (t - a)), (partG x (wrap64 (a + wrap64 (x.f0 - x.f1))) (wrap64 (wrap64 (a + n) + wrap64 (x.f0 - x.f1)))).f2⟩
    exact Nat.le_trans (addG_length _ _) (by omega)
  · exact Nat.le_trans (addG_length _ _) (by omega)
theorem moveFold_length (a n t : Int) (l : List S24) : ∀ acc : List S24, (l.foldl (moveG a n t) acc).length ≤ acc.length + 3 * l.length := by
  induction l with
  | nil => intro acc; simp
  | cons x u ih =>
    intro acc
    have h1 := ih (moveG a n t acc x)
    have h2 := moveG_length a n t acc x
    simp only [List.foldl_cons, List.length_cons]
    omega
def moveS (l : List S24) (a n t : Int) : List S24 × Int :=
  if Flag.checkE (l.map toE) = 0 then (if n < 1 then ([], 4) else if fitsB a n = true then (if fitsB t n = true then fullS (l.foldl (moveG a n t) []) else ([], 4)) else ([], 4)) else ([], 9)
def extent_Move.f (l0 : List (S24)) (a1_0 : Int) (a1_1 : Int) (a2 : Int) : Option ((List (S24)) × Int) := some (moveS l0 a1_0 a1_1 a2)
set_option maxHeartbeats 4000000 in
set_option maxRecDepth 100000 in
theorem extent_Move.calls (A0 : Option Addr) (c0 : Nat) (l0 : List (S24)) (a1_0 : Int) (a1_1 : Int) (a2 : Int) (r1 : List (S24)) (r2 : Int) (w : World) (hr0 : Kd.C k24 w A0 l0.length l0) (hc0 : l0.length ≤ c0) (h : extent_Move.f l0 a1_0 a1_1 a2 = some (r1, r2)) :
    Calls Try.prog 34 #[.slice A0 l0.length c0, .agg #[.int .i64 a1_0, .int .i64 a1_1], .int .i64 a2] w fun e w' => ∃ v0_ : Value, e = .returned (.tuple #[v0_, .int .i64 r2]) ∧ Kd.R k24 24 w' w.heap.size (fun _ => True) v0_ r1 ∧ Below w.heap.size w w' := by
  have hu24 := Try.underlying24
  have hu40 := Try.underlying40
  have hcx : extent_Check.f (l0.length + 1) l0 = some (Flag.checkE (l0.map toE)) := check_x l0 (by omega)
  unfold extent_Move.f at h
  have h := Option.some.inj h
  unfold moveS at h
  have HR0 := Aside0.mk hr0
  have HC0 := Aside0.mk hc0
  clear hr0 hc0
  go_enter Try.func34, Try.ntmps34
  go_wp2_with fail
  obtain ⟨W0, hW0⟩ : ∃ W, W = w.alloc (.cells #[.int .i64 a1_0, .int .i64 a1_1] 40) := ⟨_, rfl⟩
  rw [← hW0]
  obtain ⟨b4, hb4⟩ : ∃ b, b = w.heap.size := ⟨_, rfl⟩
  rw [← hb4]
  have hp4 : W0.heap[b4]? = some (.cells #[.int .i64 a1_0, .int .i64 a1_1] 40 (0, 0)) := by rw [hW0, hb4]; exact blk_new w _
  have hbel : Below w.heap.size w W0 := by rw [hW0]; exact (Below.refl _ _).alloc (Nat.le_refl _) _
  refine (extent_Check.calls (l0.length + 1) A0 c0 l0 _ W0 (Kd.C_below HR0.out hbel) HC0.out hcx).mono ?_
  rintro e w1 ⟨rfl, hb1⟩
  have hp41 := (hb1.block b4 (blk_lt hp4)).trans hp4
  have hbel1 := below_step hbel hb1
  have H4 := Aside0.mk hp41
  have HBEL := Aside0.mk hbel1
  have HB4 := Aside0.mk hb4
  clear hW0 hp4 hbel hb1 hp41 hbel1 hb4
  rcases Flag.checkE_or (l0.map toE) with h0 | h0
  · rw [if_pos h0] at h
    have hl0 : l0.length ≤ 1024 := by have := (Flag.checkE_ok.1 h0).len; simpa using this
    rw [h0]
    clear h0 hcx
    have y40 : w1.cell? ⟨b4, 0, none⟩ = some (.int .i64 a1_0) := (blk_cell H4.out 0).trans rfl
    have y41 : w1.cell? ⟨b4, 1, none⟩ = some (.int .i64 a1_1) := (blk_cell H4.out 1).trans rfl
    by_cases hn : a1_1 < 1
    · have hd : decide (a1_1 < 1) = true := decide_eq_true hn
      rw [if_pos hn] at h
      simp only [Prod.mk.injEq] at h
      obtain ⟨rfl, rfl⟩ := h
      clear hn
      go_wp2
      go_ret2
      exact ⟨_, rfl, Kd.R_nil _ _ _ _ _, HBEL.out⟩
    · have hd : decide (a1_1 < 1) = false := decide_eq_false hn
      rw [if_neg hn] at h
      clear hn
      go_wp2_with fail
      refine (extent_fits.calls a1_0 a1_1 _ w1 fits_xB).mono ?_
      rintro e w2 ⟨rfl, hb2⟩
      have h42 := (hb2.block b4 (blk_lt H4.out)).trans H4.out
      have H42 := Aside0.mk h42
      have HBEL2 := Aside0.mk (below_step HBEL.out hb2)
      clear hb2 h42 y40 y41
      have y40 : w2.cell? ⟨b4, 0, none⟩ = some (.int .i64 a1_0) := (blk_cell H42.out 0).trans rfl
      have y41 : w2.cell? ⟨b4, 1, none⟩ = some (.int .i64 a1_1) := (blk_cell H42.out 1).trans rfl
      by_cases hf1 : fitsB a1_0 a1_1 = true
      · rw [if_pos hf1] at h
        rw [hf1]
        go_wp2_with fail
        refine (extent_fits.calls a2 a1_1 _ w2 fits_xB).mono ?_
        rintro e w3 ⟨rfl, hb3⟩
        have h43 := (hb3.block b4 (blk_lt H42.out)).trans H42.out
        have H43 := Aside0.mk h43
        have HBEL3 := Aside0.mk (below_step HBEL2.out hb3)
        clear hb3 h43 y40 y41
        by_cases hf2 : fitsB a2 a1_1 = true
        · rw [if_pos hf2] at h
          rw [hf2]
          have HH := Aside0.mk h
          clear h hf1 hf2
          go_wp2_with fail
          obtain ⟨W4, hW4⟩ : ∃ W, W = w3.alloc (.cells #[.slice none 0 0] 140) := ⟨_, rfl⟩
          rw [← hW4]
          obtain ⟨b9, hb9⟩ : ∃ b, b = w3.heap.size := ⟨_, rfl⟩
          rw [← hb9]
          have hp9 : W4.heap[b9]? = some (.cells #[.slice none 0 0] 140 (0, 0)) := by rw [hW4, hb9]; exact blk_new w3 _
          have hp4 : W4.heap[b4]? = some (.cells #[.int .i64 a1_0, .int .i64 a1_1] 40 (0, 0)) := by rw [hW4]; exact blk_alloc H43.out _
          have hlt4 := blk_lt H43.out
          have hge : w.heap.size ≤ w3.heap.size := by have := HB4.out; omega
          have hbel4 : Below w.heap.size w W4 := by rw [hW4]; exact HBEL3.out.alloc hge _
          have hsz4 : W4.heap.size = w3.heap.size + 1 := by rw [hW4]; simp
          have hrs : RS w w.heap.size [b9, b4] b9 [] W4 := RS.of_nil hp9 hbel4 (by omega) (by simp) (by intro k hk; simp at hk; rcases hk with rfl | rfl <;> omega)
          have n94 : b4 ≠ b9 := by omega
          have HN := Aside0.mk n94
          have HP4 := Aside0.mk hp4
          have HRS := Aside0.mk hrs
          clear hW4 hp9 hp4 hlt4 hge hbel4 hsz4 hrs n94 hb9
          go_loopg [41] l0.length (fun gk v41 W => ∃ i : Int, v41 = .int .i64 i ∧ Aside0 (0 ≤ i ∧ i + gk = l0.length) ∧ Aside0 (RS w w.heap.size [b9, b4] b9 ((l0.take i.toNat).foldl (moveG a1_0 a1_1 a2) []) W ∧ W.heap[b4]? = some (.cells #[.int .i64 a1_0, .int .i64 a1_1] 40 (0, 0))))
          case atStart => exact ⟨0, rfl, ⟨Int.le_refl _, by simp⟩, ⟨by simpa using HRS.out, HP4.out⟩⟩
          case round =>
            obtain ⟨i, rfl, HI, HS⟩ := hrel
            obtain ⟨o, ho⟩ : ∃ o, o = (l0.take i.toNat).foldl (moveG a1_0 a1_1 a2) [] := ⟨_, rfl⟩
            have hol : o.length ≤ 4096 := by
              have h1 := moveFold_length a1_0 a1_1 a2 (l0.take i.toNat) []
              rw [← ho] at h1
              have h2 : (l0.take i.toNat).length ≤ 1024 := by rw [List.length_take]; omega
              simp only [List.length_nil] at h1
              omega
            rw [← ho] at HS
            have HOL := Aside0.mk hol
            have HO := Aside0.mk ho
            clear ho hol
            cases gk with
            | zero =>
              have hi : i = l0.length := by have := HI.out.2; omega
              have hd : decide (i < (l0.length : Int)) = false := decide_eq_false (by omega)
              have hfull : extent_full.f o = some (r1, r2) := by
                have h1 := HH.out
                have h2 := HO.out
                rw [hi, Int.toNat_natCast, List.take_length] at h2
                rw [full_x, h2]
                exact congrArg some h1
              have HFULL := Aside0.mk hfull
              obtain ⟨A, c, hcc9, hR⟩ := HS.out.1.cell
              have HRR := Aside0.mk hR
              clear hi hfull hR
              go_wp2_with fail
              refine (extent_full.calls (fun k => k ∉ [b9, b4]) (.slice A o.length c) o r1 r2 w wr HS.out.1.old HRR.out HFULL.out).mono ?_
              rintro e w5 ⟨v0, rfl, hR5, hb5, _⟩
              have HR5 := Aside0.mk hR5
              have HB5 := Aside0.mk hb5
              clear hR5 hb5
              go_wp2
              go_ret2
              exact ⟨v0, rfl, Kd.R_mono HR5.out (fun _ _ => trivial), HB5.out⟩
            | succ k1 =>
              have hp0 : 0 ≤ i := HI.out.1
              have hp1 : i < (l0.length : Int) := by have := HI.out.2; omega
              have hd : decide (i < (l0.length : Int)) = true := decide_eq_true hp1
              have hC : Kd.C k24 wr A0 l0.length l0 := Kd.C_below HR0.out HS.out.1.old
              obtain ⟨ad, e3, g0, g1, g2⟩ := at_T24 hC i hp0 hp1
              cases e3
              obtain ⟨x, hx⟩ : ∃ x, x = rd_T24 l0 i := ⟨_, rfl⟩
              rw [← hx] at g0 g1 g2
              have hst : (l0.take (i + 1).toNat).foldl (moveG a1_0 a1_1 a2) [] = moveG a1_0 a1_1 a2 o x := by
                have h3 : (i + 1).toNat = i.toNat + 1 := by omega
                have h4 : i.toNat < l0.length := by omega
                have h5 : x = l0[i.toNat] := by rw [hx]; unfold rd_T24; rw [List.getD_eq_getElem?_getD, List.getElem?_eq_getElem h4]; rfl
                rw [h3, List.take_succ_eq_append_getElem h4, List.foldl_append, ← h5, HO.out]
                rfl
              have HST := Aside0.mk hst
              have HP := Aside0.mk (And.intro hp0 hp1)
              have z40 : (wr.alloc (.cells #[.int .i64 x.f0, .int .i64 x.f1, .int .i64 x.f2] 24)).cell? ⟨b4, 0, none⟩ = some (.int .i64 a1_0) := (blk_cell (blk_alloc HS.out.2 _) 0).trans rfl
              have z41 : (wr.alloc (.cells #[.int .i64 x.f0, .int .i64 x.f1, .int .i64 x.f2] 24)).cell? ⟨b4, 1, none⟩ = some (.int .i64 a1_1) := (blk_cell (blk_alloc HS.out.2 _) 1).trans rfl
              clear hx hC hst
              go_wp2_with fail
              go_quiet (fail)
              go_wp2_with fail
              obtain ⟨W1, hW1⟩ : ∃ W, W = (wr.alloc (.cells #[.int .i64 x.f0, .int .i64 x.f1, .int .i64 x.f2] 24)).drewN nq := ⟨_, rfl⟩
              obtain ⟨bx, hbx⟩ : ∃ b, b = wr.heap.size := ⟨_, rfl⟩
              have hb1 : Below wr.heap.size wr W1 := by rw [hW1]; exact pw_below_drewN ((Below.refl _ _).alloc (Nat.le_refl _) _) _
              have hx1 : W1.heap[bx]? = some (.cells #[.int .i64 x.f0, .int .i64 x.f1, .int .i64 x.f2] 24 (0, 0)) := by rw [hW1, hbx]; exact blk_drewN (blk_new wr _) _
              rw [← hW1, ← hbx]
              have h1 : RS w w.heap.size (bx :: [b9, b4]) b9 o W1 := HS.out.1.push hb1 (by omega) (blk_lt hx1)
              have h4 : W1.heap[b4]? = some (.cells #[.int .i64 a1_0, .int .i64 a1_1] 40 (0, 0)) := (hb1.block b4 (blk_lt HS.out.2)).trans HS.out.2
              have nb : bx ≠ b9 ∧ bx ≠ b4 := by
                have h9 := HS.out.1
                obtain ⟨_, _, _, _, _, _, h6⟩ := h9
                have q1 := h6 b9 (by simp)
                have q2 := h6 b4 (by simp)
                omega
              have NB := Aside0.mk nb
              have H1 := Aside0.mk h1
              have HX1 := Aside0.mk hx1
              have H41 := Aside0.mk h4
              clear hW1 hbx hb1 h1 h4 hx1 nb g0 g1 g2 z40 z41
              refine (partG_calls x x.f0 (wrap64 (a1_0 + wrap64 (x.f0 - x.f1))) W1).mono ?_
              rintro e w2' ⟨rfl, hb2⟩
              have H2 := Aside0.mk (H1.out.below hb2)
              have HX2 := Aside0.mk ((hb2.block bx (blk_lt HX1.out)).trans HX1.out)
              have H42' := Aside0.mk ((hb2.block b4 (blk_lt H41.out)).trans H41.out)
              clear hb2
              go_wp2_with fail
              refine (H2.out.add (partG x x.f0 (wrap64 (a1_0 + wrap64 (x.f0 - x.f1)))) (by have := HOL.out; omega)).mono ?_
              rintro e w3' ⟨rfl, h3, hs3, hk3⟩
              have HX3 := Aside0.mk ((hk3 bx (by simp) NB.out.1).trans HX2.out)
              have H43' := Aside0.mk ((hk3 b4 (by simp) HN.out).trans H42'.out)
              have H3 := Aside0.mk h3
              have HL3 := Aside0.mk (addG_length o (partG x x.f0 (wrap64 (a1_0 + wrap64 (x.f0 - x.f1)))))
              clear h3 hs3 hk3
              have y0 : w3'.cell? ⟨bx, 0, none⟩ = some (.int .i64 x.f0) := (blk_cell HX3.out 0).trans rfl
              have y1 : w3'.cell? ⟨bx, 1, none⟩ = some (.int .i64 x.f1) := (blk_cell HX3.out 1).trans rfl
              have y2 : w3'.cell? ⟨bx, 2, none⟩ = some (.int .i64 x.f2) := (blk_cell HX3.out 2).trans rfl
              go_wp2_with fail
              refine (partG_calls x (wrap64 (a1_0 + wrap64 (x.f0 - x.f1))) (wrap64 (wrap64 (a1_0 + a1_1) + wrap64 (x.f0 - x.f1))) w3').mono ?_
              rintro e w4' ⟨rfl, hb4'⟩
              have H4' := Aside0.mk (H3.out.below hb4')
              have HX4 := Aside0.mk ((hb4'.block bx (blk_lt HX3.out)).trans HX3.out)
              have H44 := Aside0.mk ((hb4'.block b4 (blk_lt H43'.out)).trans H43'.out)
              clear hb4' y0 y1 y2
              obtain ⟨p, hp⟩ : ∃ p, p = partG x (wrap64 (a1_0 + wrap64 (x.f0 - x.f1))) (wrap64 (wrap64 (a1_0 + a1_1) + wrap64 (x.f0 - x.f1))) := ⟨_, rfl⟩
              rw [← hp]
              have hstp : moveG a1_0 a1_1 a2 o x = addG (if p.f2 > 0 then addG (addG o (partG x x.f0 (wrap64 (a1_0 + wrap64 (x.f0 - x.f1))))) ⟨p.f0, wrap64 (p.f1 + wrap64 (a2 - a1_0)), p.f2⟩ else addG o (partG x x.f0 (wrap64 (a1_0 + wrap64 (x.f0 - x.f1))))) (partG x (wrap64 (wrap64 (a1_0 + a1_1) + wrap64 (x.f0 - x.f1))) (wrap64 (x.f0 + x.f2))) := by rw [hp]; rfl
              have HSTP := Aside0.mk hstp
              clear hstp hp
              have v40 : (w4'.alloc (.cells #[.int .i64 p.f0, .int .i64 p.f1, .int .i64 p.f2] 24)).cell? ⟨b4, 0, none⟩ = some (.int .i64 a1_0) := (blk_cell (blk_alloc H44.out _) 0).trans rfl
              by_cases hpp : 0 < p.f2
              · have hdp : decide (0 < p.f2) = true := decide_eq_true hpp
                go_wp2_with fail
                have hb5 : Below w4'.heap.size w4' (w4'.alloc (.cells #[.int .i64 p.f0, .int .i64 (wrap64 (p.f1 + wrap64 (a2 - a1_0))), .int .i64 p.f2] 24)) := (Below.refl _ _).alloc (Nat.le_refl _) _
                have H5 := Aside0.mk (H4'.out.below hb5)
                have HX5 := Aside0.mk ((hb5.block bx (blk_lt HX4.out)).trans HX4.out)
                have H45 := Aside0.mk ((hb5.block b4 (blk_lt H44.out)).trans H44.out)
                clear hb5 v40
                refine (H5.out.add ⟨p.f0, wrap64 (p.f1 + wrap64 (a2 - a1_0)), p.f2⟩ (by have := HOL.out; have := HL3.out; omega)).mono ?_
                rintro e w6 ⟨rfl, h6, hs6, hk6⟩
                have HX6 := Aside0.mk ((hk6 bx (by simp) NB.out.1).trans HX5.out)
                have H46 := Aside0.mk ((hk6 b4 (by simp) HN.out).trans H45.out)
                have H6 := Aside0.mk h6
                have HL6 := Aside0.mk (addG_length (addG o (partG x x.f0 (wrap64 (a1_0 + wrap64 (x.f0 - x.f1))))) ⟨p.f0, wrap64 (p.f1 + wrap64 (a2 - a1_0)), p.f2⟩)
                clear h6 hs6 hk6
                have y0 : w6.cell? ⟨bx, 0, none⟩ = some (.int .i64 x.f0) := (blk_cell HX6.out 0).trans rfl
                have y1 : w6.cell? ⟨bx, 1, none⟩ = some (.int .i64 x.f1) := (blk_cell HX6.out 1).trans rfl
                have y2 : w6.cell? ⟨bx, 2, none⟩ = some (.int .i64 x.f2) := (blk_cell HX6.out 2).trans rfl
                go_wp2_with fail
                clear y0 y1 y2
                refine (partG_calls x (wrap64 (wrap64 (a1_0 + a1_1) + wrap64 (x.f0 - x.f1))) (wrap64 (x.f0 + x.f2)) w6).mono ?_
                rintro e w7 ⟨rfl, hb7⟩
                have H7 := Aside0.mk (H6.out.below hb7)
                have H47 := Aside0.mk ((hb7.block b4 (blk_lt H46.out)).trans H46.out)
                clear hb7
                go_wp2_with fail
                refine (H7.out.add (partG x (wrap64 (wrap64 (a1_0 + a1_1) + wrap64 (x.f0 - x.f1))) (wrap64 (x.f0 + x.f2))) (by have := HOL.out; have := HL3.out; have := HL6.out; omega)).mono ?_
                rintro e w8 ⟨rfl, h8, hs8, hk8⟩
                have H8 := Aside0.mk h8
                have H48 := Aside0.mk ((hk8 b4 (by simp) HN.out).trans H47.out)
                clear h8 hs8 hk8
                go_wp2
                go_roundg k1
                case measure => omega
                case rel =>
                  refine ⟨i + 1, by first | rfl | (simp; done), ⟨by have := HP.out.1; omega, by have := HI.out.2; omega⟩, ?_⟩
                  rw [HST.out, HSTP.out, if_pos hpp]
                  exact ⟨H8.out.drop (by simp), H48.out⟩
              · have hdp : decide (0 < p.f2) = false := decide_eq_false hpp
                have x0 : (w4'.alloc (.cells #[.int .i64 p.f0, .int .i64 p.f1, .int .i64 p.f2] 24)).cell? ⟨bx, 0, none⟩ = some (.int .i64 x.f0) := (blk_cell (blk_alloc HX4.out _) 0).trans rfl
                have x1 : (w4'.alloc (.cells #[.int .i64 p.f0, .int .i64 p.f1, .int .i64 p.f2] 24)).cell? ⟨bx, 1, none⟩ = some (.int .i64 x.f1) := (blk_cell (blk_alloc HX4.out _) 1).trans rfl
                have x2 : (w4'.alloc (.cells #[.int .i64 p.f0, .int .i64 p.f1, .int .i64 p.f2] 24)).cell? ⟨bx, 2, none⟩ = some (.int .i64 x.f2) := (blk_cell (blk_alloc HX4.out _) 2).trans rfl
                go_wp2_with fail
                have hb5 : Below w4'.heap.size w4' (w4'.alloc (.cells #[.int .i64 p.f0, .int .i64 p.f1, .int .i64 p.f2] 24)) := (Below.refl _ _).alloc (Nat.le_refl _) _
                have H5 := Aside0.mk (H4'.out.below hb5)
                have H45 := Aside0.mk ((hb5.block b4 (blk_lt H44.out)).trans H44.out)
                clear hb5 v40 x0 x1 x2
                refine (partG_calls x (wrap64 (wrap64 (a1_0 + a1_1) + wrap64 (x.f0 - x.f1))) (wrap64 (x.f0 + x.f2)) _).mono ?_
                rintro e w7 ⟨rfl, hb7⟩
                have H7 := Aside0.mk (H5.out.below hb7)
                have H47 := Aside0.mk ((hb7.block b4 (blk_lt H45.out)).trans H45.out)
                clear hb7
                go_wp2_with fail
                refine (H7.out.add (partG x (wrap64 (wrap64 (a1_0 + a1_1) + wrap64 (x.f0 - x.f1))) (wrap64 (x.f0 + x.f2))) (by have := HOL.out; have := HL3.out; omega)).mono ?_
                rintro e w8 ⟨rfl, h8, hs8, hk8⟩
                have H8 := Aside0.mk h8
                have H48 := Aside0.mk ((hk8 b4 (by simp) HN.out).trans H47.out)
                clear h8 hs8 hk8
                go_wp2
                go_roundg k1
                case measure => omega
                case rel =>
                  refine ⟨i + 1, by first | rfl | (simp; done), ⟨by have := HP.out.1; omega, by have := HI.out.2; omega⟩, ?_⟩
                  rw [HST.out, HSTP.out, if_neg (show ¬ p.f2 > 0 by omega)]
                  exact ⟨H8.out.drop (by simp), H48.out⟩
        · rw [if_neg hf2] at h
          simp only [Bool.not_eq_true] at hf2
          rw [hf2]
          simp only [Prod.mk.injEq] at h
          obtain ⟨rfl, rfl⟩ := h
          go_wp2
          go_ret2
          exact ⟨_, rfl, Kd.R_nil _ _ _ _ _, HBEL3.out⟩
      · rw [if_neg hf1] at h
        simp only [Bool.not_eq_true] at hf1
        rw [hf1]
        simp only [Prod.mk.injEq] at h
        obtain ⟨rfl, rfl⟩ := h
        go_wp2
        go_ret2
        exact ⟨_, rfl, Kd.R_nil _ _ _ _ _, HBEL2.out⟩
  · rw [h0] at h ⊢
    rw [if_neg (by omega)] at h
    simp only [Prod.mk.injEq] at h
    obtain ⟨rfl, rfl⟩ := h
    go_wp2
    go_ret2
    exact ⟨_, rfl, Kd.R_nil _ _ _ _ _, HBEL.out⟩

end Go.Proofs.Ytkkfkdncddbaeaa.Fn
