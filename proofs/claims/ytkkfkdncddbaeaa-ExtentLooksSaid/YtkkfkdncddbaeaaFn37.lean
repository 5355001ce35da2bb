-- Told by hand; its numbers filled in by a program of this session.
import Derived.Test.YtkkfkdncddbaeaaFnBase
import Derived.Test.YtkkfkdncddbaeaaHL05
import Derived.Test.YtkkfkdncddbaeaaFnEq24
namespace Go.Proofs.Ytkkfkdncddbaeaa.Fn
open Go.RowKit Go.Proofs.YtkkfkdncddbaeaaW.PrintWords Go.Proofs.YtkkfkdncddbaeaaW.PrintLast Go.Proofs.YtkkfkdncddbaeaaW.PrintMore
attribute [local go_sem] max2_int min2_int max_two min_two max_three min_three max_four min_four   -- for this text's walks alone
set_option linter.unusedVariables false
set_option linter.unusedSimpArgs false

attribute [local go_sem high] eqA24
/-- What is told of one extent where sectors are looked at. -/
def lookStep (e : Int) (s : List S24 × Int) (x : S24) : List S24 × Int :=
  if (partG x s.2 e).f2 ≤ 0 then s else (addG (addG s.1 ⟨s.2, -1, wrap64 ((partG x s.2 e).f0 - s.2)⟩) (partG x s.2 e), wrap64 ((partG x s.2 e).f0 + (partG x s.2 e).f2))
theorem lookStep_length (e : Int) (s : List S24 × Int) (x : S24) : (lookStep e s x).1.length ≤ s.1.length + 2 := by
  unfold lookStep
  split
  · omega
  · exact Nat.le_trans (addG_length _ _) (by have := addG_length s.1 ⟨s.2, -1, wrap64 ((partG x s.2 e).f0 - s.2)⟩; omega)
theorem lookFold_length (e : Int) (l : List S24) : ∀ s : List S24 × Int, (l.foldl (lookStep e) s).1.length ≤ s.1.length + 2 * l.length := by
  induction l with
  | nil => intro s; simp
  | cons x u ih =>
    intro s
    have h1 := ih (lookStep e s x)
    have h2 := lookStep_length e s x
    simp only [List.foldl_cons, List.length_cons]
    omega
def lookL (l : List S24) (v n : Int) : List S24 :=
  addG (l.foldl (lookStep (wrap64 (v + n))) ([], v)).1 ⟨(l.foldl (lookStep (wrap64 (v + n))) ([], v)).2, -1, wrap64 (wrap64 (v + n) - (l.foldl (lookStep (wrap64 (v + n))) ([], v)).2)⟩
def lookS (l : List S24) (v n : Int) : List S24 × Int :=
  if Flag.checkE (l.map toE) = 0 then (if fitsB v n = true then (lookL l v n, 0) else ([], 4)) else ([], 9)
def extent_Look.f (l0 : List (S24)) (a1 : Int) (a2 : Int) : Option ((List (S24)) × Int) := some (lookS l0 a1 a2)
set_option maxHeartbeats 4000000 in
set_option maxRecDepth 100000 in
theorem extent_Look.calls (A0 : Option Addr) (c0 : Nat) (l0 : List (S24)) (a1 : Int) (a2 : Int) (r1 : List (S24)) (r2 : Int) (w : World) (hr0 : Kd.C k24 w A0 l0.length l0) (hc0 : l0.length ≤ c0) (h : extent_Look.f l0 a1 a2 = some (r1, r2)) :
    Calls Try.prog 37 #[.slice A0 l0.length c0, .int .i64 a1, .int .i64 a2] w fun e w' => ∃ v0_ : Value, e = .returned (.tuple #[v0_, .int .i64 r2]) ∧ Kd.R k24 24 w' w.heap.size (fun _ => True) v0_ r1 ∧ Below w.heap.size w w' := by
  have hu24 := Try.underlying24
  have hcx : extent_Check.f (l0.length + 1) l0 = some (Flag.checkE (l0.map toE)) := check_x l0 (by omega)
  unfold extent_Look.f at h
  have h := Option.some.inj h
  unfold lookS at h
  have HR0 := Aside0.mk hr0
  have HC0 := Aside0.mk hc0
  clear hr0 hc0
  go_enter Try.func37, Try.ntmps37
  go_wp2_with fail
  refine (extent_Check.calls (l0.length + 1) A0 c0 l0 _ w HR0.out HC0.out hcx).mono ?_
  rintro e w1 ⟨rfl, hb1⟩
  have HBEL := Aside0.mk (below_step (Below.refl w.heap.size w) hb1)
  clear hb1
  rcases Flag.checkE_or (l0.map toE) with h0 | h0
  · rw [if_pos h0] at h
    have hl0 : l0.length ≤ 1024 := by have := (Flag.checkE_ok.1 h0).len; simpa using this
    rw [h0]
    clear h0 hcx
    go_wp2_with fail
    refine (extent_fits.calls a1 a2 _ w1 fits_xB).mono ?_
    rintro e w3 ⟨rfl, hb2⟩
    have HBEL3 := Aside0.mk (below_step HBEL.out hb2)
    clear hb2
    by_cases hf1 : fitsB a1 a2 = true
    · rw [if_pos hf1] at h
      rw [hf1]
      have HH := Aside0.mk h
      clear h hf1
      go_wp2_with fail
      obtain ⟨W4, hW4⟩ : ∃ W, W = w3.alloc (.cells #[.slice none 0 0] 140) := ⟨_, rfl⟩
      rw [← hW4]
      obtain ⟨b9, hb9⟩ : ∃ b, b = w3.heap.size := ⟨_, rfl⟩
      rw [← hb9]
      have hp9 : W4.heap[b9]? = some (.cells #[.slice none 0 0] 140 (0, 0)) := by rw [hW4, hb9]; exact blk_new w3 _
      have hge : w.heap.size ≤ w3.heap.size := HBEL3.out.size
      have hbel4 : Below w.heap.size w W4 := by rw [hW4]; exact HBEL3.out.alloc hge _
      have hsz4 : W4.heap.size = w3.heap.size + 1 := by rw [hW4]; simp
      have hrs : RS w w.heap.size [b9] b9 [] W4 := RS.of_nil hp9 hbel4 (by omega) (by simp) (by intro k hk; simp at hk; rcases hk with rfl; omega)
      have HRS := Aside0.mk hrs
      clear hW4 hp9 hge hbel4 hsz4 hrs hb9
      obtain ⟨e_, he_⟩ : ∃ e, e = wrap64 (a1 + a2) := ⟨_, rfl⟩
      rw [← he_]
      have HE := Aside0.mk he_
      clear he_
      go_loopg [10, 30] l0.length (fun gk v10 v30 W => ∃ i at_ : Int, v10 = .int .i64 at_ ∧ v30 = .int .i64 i ∧ Aside0 (0 ≤ i ∧ i + gk = l0.length) ∧ Aside0 (at_ = ((l0.take i.toNat).foldl (lookStep e_) ([], a1)).2) ∧ Aside0 (RS w w.heap.size [b9] b9 ((l0.take i.toNat).foldl (lookStep e_) ([], a1)).1 W))
      case atStart => exact ⟨0, a1, rfl, rfl, ⟨Int.le_refl _, by simp⟩, ⟨by simp⟩, ⟨by simpa using HRS.out⟩⟩
      case round =>
        obtain ⟨i, at_, rfl, rfl, HI, HAT, HS⟩ := hrel
        obtain ⟨o, ho⟩ : ∃ o, o = ((l0.take i.toNat).foldl (lookStep e_) ([], a1)).1 := ⟨_, rfl⟩
        have hol : o.length ≤ 4096 := by
          have h1 := lookFold_length e_ (l0.take i.toNat) ([], a1)
          rw [← ho] at h1
          have h2 : (l0.take i.toNat).length ≤ 1024 := by rw [List.length_take]; omega
          simp only [List.length_nil] at h1
          omega
        rw [← ho] at HS
        have HOL := Aside0.mk hol
        have HO := Aside0.mk ho
        clear ho hol
        cases gk with
        | zero =>
          have hi : i = l0.length := by have := HI.out.2; omega
          have hd : decide (i < (l0.length : Int)) = false := decide_eq_false (by omega)
          have hres : addG o ⟨at_, -1, wrap64 (e_ - at_)⟩ = r1 ∧ 0 = r2 := by
            have h1 := HH.out
            have h2 := HO.out
            have h3 := HAT.out
            rw [hi, Int.toNat_natCast, List.take_length] at h2 h3
            rw [h2, h3]
            simp only [Prod.mk.injEq] at h1
            rw [HE.out]
            exact h1
          have HRES := Aside0.mk hres
          clear hi hres
          go_wp2_with fail
          refine (HS.out.add ⟨at_, -1, wrap64 (e_ - at_)⟩ (by have := HOL.out; omega)).mono ?_
          rintro e w5 ⟨rfl, h5, _, _⟩
          obtain ⟨A, c, hcc9, hR⟩ := h5.cell
          have H5 := Aside0.mk h5
          have HRR := Aside0.mk hR
          clear h5 hR
          go_wp2
          go_ret2
          refine ⟨_, by rw [← HRES.out.2]; rfl, ?_, H5.out.old⟩
          rw [← HRES.out.1]
          exact Kd.R_mono HRR.out (fun _ _ => trivial)
        | succ k1 =>
          have hp0 : 0 ≤ i := HI.out.1
          have hp1 : i < (l0.length : Int) := by have := HI.out.2; omega
          have hd : decide (i < (l0.length : Int)) = true := decide_eq_true hp1
          have hC : Kd.C k24 wr A0 l0.length l0 := Kd.C_below HR0.out HS.out.old
          obtain ⟨ad, e3, g0, g1, g2⟩ := at_T24 hC i hp0 hp1
          cases e3
          obtain ⟨x, hx⟩ : ∃ x, x = rd_T24 l0 i := ⟨_, rfl⟩
          rw [← hx] at g0 g1 g2
          have hst : (l0.take (i + 1).toNat).foldl (lookStep e_) ([], a1) = lookStep e_ (o, at_) x := by
            have h3 : (i + 1).toNat = i.toNat + 1 := by omega
            have h4 : i.toNat < l0.length := by omega
            have h5 : x = l0[i.toNat] := by rw [hx]; unfold rd_T24; rw [List.getD_eq_getElem?_getD, List.getElem?_eq_getElem h4]; rfl
            rw [h3, List.take_succ_eq_append_getElem h4, List.foldl_append, ← h5, HO.out, HAT.out]
            rfl
          have HST := Aside0.mk hst
          have HP := Aside0.mk (And.intro hp0 hp1)
          clear hx hC hst
          go_wp2_with fail
          refine (partG_calls x at_ e_ _).mono ?_
          rintro e w2' ⟨rfl, hb2⟩
          have hb1 : Below wr.heap.size wr (wr.alloc (.cells #[.int .i64 x.f0, .int .i64 x.f1, .int .i64 x.f2] 24)) := (Below.refl _ _).alloc (Nat.le_refl _) _
          have H2 := Aside0.mk ((HS.out.below hb1).below hb2)
          clear hb1 hb2 g0 g1 g2
          obtain ⟨p, hp⟩ : ∃ p, p = partG x at_ e_ := ⟨_, rfl⟩
          rw [← hp]
          have HPP := Aside0.mk hp
          clear hp
          by_cases hpp : p.f2 ≤ 0
          · have hdp : decide (p.f2 ≤ 0) = true := decide_eq_true hpp
            have hstp : lookStep e_ (o, at_) x = (o, at_) := by unfold lookStep; rw [← HPP.out, if_pos hpp]
            have HSTP := Aside0.mk hstp
            clear hstp
            go_wp2_with fail
            go_roundg k1
            case measure => omega
            case rel =>
              refine ⟨i + 1, at_, by first | rfl | (simp; done), by first | rfl | (simp; done), ⟨by have := HP.out.1; omega, by have := HI.out.2; omega⟩, ⟨?_⟩, ⟨?_⟩⟩
              · rw [HST.out, HSTP.out]
              · rw [HST.out, HSTP.out]
                exact H2.out.below ((Below.refl _ _).alloc (Nat.le_refl _) _)
          · have hdp : decide (p.f2 ≤ 0) = false := decide_eq_false hpp
            have hstp : lookStep e_ (o, at_) x = (addG (addG o ⟨at_, -1, wrap64 (p.f0 - at_)⟩) p, wrap64 (p.f0 + p.f2)) := by unfold lookStep; rw [← HPP.out, if_neg hpp]
            have HSTP := Aside0.mk hstp
            clear hstp hpp
            go_wp2_with fail
            obtain ⟨W5, hW5⟩ : ∃ W, W = w2'.alloc (.cells #[.int .i64 p.f0, .int .i64 p.f1, .int .i64 p.f2] 24) := ⟨_, rfl⟩
            obtain ⟨bp, hbp⟩ : ∃ b, b = w2'.heap.size := ⟨_, rfl⟩
            have hb5 : Below w2'.heap.size w2' W5 := by rw [hW5]; exact (Below.refl _ _).alloc (Nat.le_refl _) _
            have hx5 : W5.heap[bp]? = some (.cells #[.int .i64 p.f0, .int .i64 p.f1, .int .i64 p.f2] 24 (0, 0)) := by rw [hW5, hbp]; exact blk_new w2' _
            rw [← hW5, ← hbp]
            have H5 := Aside0.mk (H2.out.push hb5 (Nat.le_of_eq hbp.symm) (blk_lt hx5))
            have nb : bp ≠ b9 := by
              have h9 := H2.out
              obtain ⟨_, _, _, _, _, _, h6⟩ := h9
              have q1 := h6 b9 (by simp)
              omega
            have NB := Aside0.mk nb
            have HX5 := Aside0.mk hx5
            clear hW5 hbp hb5 hx5 nb
            refine (H5.out.add ⟨at_, -1, wrap64 (p.f0 - at_)⟩ (by have := HOL.out; omega)).mono ?_
            rintro e w6 ⟨rfl, h6, hs6, hk6⟩
            have HX6 := Aside0.mk ((hk6 bp (by simp) NB.out).trans HX5.out)
            have H6 := Aside0.mk h6
            have HL6 := Aside0.mk (addG_length o ⟨at_, -1, wrap64 (p.f0 - at_)⟩)
            clear h6 hs6 hk6
            have y0 : w6.cell? ⟨bp, 0, none⟩ = some (.int .i64 p.f0) := (blk_cell HX6.out 0).trans rfl
            have y1 : w6.cell? ⟨bp, 1, none⟩ = some (.int .i64 p.f1) := (blk_cell HX6.out 1).trans rfl
            have y2 : w6.cell? ⟨bp, 2, none⟩ = some (.int .i64 p.f2) := (blk_cell HX6.out 2).trans rfl
            go_wp2_with fail
            clear y0 y1 y2
            refine (H6.out.add p (by have := HOL.out; have := HL6.out; omega)).mono ?_
            rintro e w7 ⟨rfl, h7, hs7, hk7⟩
            have HX7 := Aside0.mk ((hk7 bp (by simp) NB.out).trans HX6.out)
            have H7 := Aside0.mk h7
            clear h7 hs7 hk7
            have y0 : w7.cell? ⟨bp, 0, none⟩ = some (.int .i64 p.f0) := (blk_cell HX7.out 0).trans rfl
            have y2 : w7.cell? ⟨bp, 2, none⟩ = some (.int .i64 p.f2) := (blk_cell HX7.out 2).trans rfl
            go_wp2
            go_roundg k1
            case measure => omega
            case rel =>
              refine ⟨i + 1, wrap64 (p.f0 + p.f2), by first | rfl | (simp; done), by first | rfl | (simp; done), ⟨by have := HP.out.1; omega, by have := HI.out.2; omega⟩, ⟨?_⟩, ⟨?_⟩⟩
              · rw [HST.out, HSTP.out]
              · rw [HST.out, HSTP.out]
                exact H7.out.drop (by simp)
    · rw [if_neg hf1] at h
      simp only [Bool.not_eq_true] at hf1
      rw [hf1]
      simp only [Prod.mk.injEq] at h
      obtain ⟨rfl, rfl⟩ := h
      go_wp2
      go_ret2
      exact ⟨_, rfl, Kd.R_nil _ _ _ _ _, HBEL3.out⟩
  · rw [h0] at h ⊢
    rw [if_neg (by omega)] at h
    simp only [Prod.mk.injEq] at h
    obtain ⟨rfl, rfl⟩ := h
    go_wp2
    go_ret2
    exact ⟨_, rfl, Kd.R_nil _ _ _ _ _, HBEL.out⟩

end Go.Proofs.Ytkkfkdncddbaeaa.Fn
