-- Told by hand; its numbers filled in by a program of this session.
import Derived.Test.YtkkfkdncddbaeaaFnBase
import Derived.Test.YtkkfkdncddbaeaaHlay_by
import Derived.Test.YtkkfkdncddbaeaaFn94
namespace Go.Proofs.Ytkkfkdncddbaeaa.Fn
open Go.RowKit Go.Proofs.YtkkfkdncddbaeaaW.PrintWords Go.Proofs.YtkkfkdncddbaeaaW.PrintLast Go.Proofs.YtkkfkdncddbaeaaW.PrintMore
attribute [local go_sem] max2_int min2_int max_two min_two max_three min_three max_four min_four   -- for this text's walks alone
set_option linter.unusedVariables false
set_option linter.unusedSimpArgs false

/-- Sectors of an extent from one on, below another one, as Go reckons. -/
def partG (x : S24) (a b : Int) : S24 := ⟨mx a x.f0, if x.f1 = -1 then x.f1 else wrap64 (x.f1 + wrap64 (mx a x.f0 - x.f0)), wrap64 (mn b (wrap64 (x.f0 + x.f2)) - mx a x.f0)⟩
theorem partG_calls (x : S24) (a b : Int) (w : World) :
    Calls Try.prog 94 #[.agg #[.int .i64 x.f0, .int .i64 x.f1, .int .i64 x.f2], .int .i64 a, .int .i64 b] w fun e w' => e = .returned (.agg #[.int .i64 (partG x a b).f0, .int .i64 (partG x a b).f1, .int .i64 (partG x a b).f2]) ∧ Below w.heap.size w w' :=
  extent_part.calls x.f0 x.f1 x.f2 a b _ _ _ w rfl
def replStep (v n : Int) (by_ : List S24) (s : List S24 × Bool) (x : S24) : List S24 × Bool :=
  let o1 := addG s.1 (partG x 0 v)
  let c := !s.2 && decide (v < wrap64 (x.f0 + x.f2))
  (addG (if c then by_.foldl addG o1 else o1) (partG x (wrap64 (v + n)) 65536), s.2 || c)
def replG (l : List S24) (v n : Int) (by_ : List S24) : List S24 :=
  let s := l.foldl (replStep v n by_) ([], false)
  if s.2 then s.1 else by_.foldl addG s.1
def extent_replaced.f (l0 : List (S24)) (a1 : Int) (a2 : Int) (l3 : List (S24)) : Option ((List (S24))) :=
  if l0.length ≤ 1024 ∧ l3.length ≤ 1024 then some (replG l0 a1 a2 l3) else none

theorem replStep_length (v n : Int) (by_ : List S24) (s : List S24 × Bool) (x : S24) : (replStep v n by_ s x).1.length ≤ s.1.length + by_.length + 2 := by
  simp only [replStep]
  have h1 := addG_length s.1 (partG x 0 v)
  have h2 := addG_fold_length by_ (addG s.1 (partG x 0 v))
  split
  · have := addG_length (by_.foldl addG (addG s.1 (partG x 0 v))) (partG x (wrap64 (v + n)) 65536); omega
  · have := addG_length (addG s.1 (partG x 0 v)) (partG x (wrap64 (v + n)) 65536); omega
theorem replFold_length (v n : Int) (by_ l : List S24) : ∀ s : List S24 × Bool, (l.foldl (replStep v n by_) s).1.length ≤ s.1.length + l.length * (by_.length + 2) := by
  induction l with
  | nil => intro s; simp
  | cons x t ih =>
    intro s
    have h1 := ih (replStep v n by_ s x)
    have h2 := replStep_length v n by_ s x
    simp only [List.foldl_cons, List.length_cons, Nat.succ_mul]
    omega

set_option maxHeartbeats 4000000 in
set_option maxRecDepth 100000 in
theorem extent_replaced.calls (A0 : Option Addr) (c0 : Nat) (l0 : List (S24)) (a1 : Int) (a2 : Int) (A3 : Option Addr) (c3 : Nat) (l3 : List (S24)) (r : List (S24)) (w : World) (hr0 : Kd.C k24 w A0 l0.length l0) (hc0 : l0.length ≤ c0) (hr3 : Kd.C k24 w A3 l3.length l3) (hc3 : l3.length ≤ c3) (h : extent_replaced.f l0 a1 a2 l3 = some r) :
    Calls Try.prog 88 #[.slice A0 l0.length c0, .int .i64 a1, .int .i64 a2, .slice A3 l3.length c3] w fun e w' => ∃ v0_ : Value, e = .returned (v0_) ∧ Kd.R k24 24 w' w.heap.size (fun _ => True) v0_ r ∧ Below w.heap.size w w' := by
  have hu24 := Try.underlying24
  have hmf : ∀ (fn : Fn) (first cap : Array Value) (w : World), (Instr.makeFunc fn first cap).run Try.prog w = .ok (.func fn first cap) w := fun _ _ _ _ => rfl
  unfold extent_replaced.f at h
  split at h
  · rename_i hlen
    obtain rfl := Option.some.inj h
    clear h
    have HR0 := Aside0.mk hr0
    have HR3 := Aside0.mk hr3
    have HLEN := Aside0.mk hlen
    have hl0 : l0.length ≤ 1024 := hlen.1
    clear hr0 hc0 hr3 hc3 hlen
    go_enter Try.func88, Try.ntmps88
    go_wp2_with fail
    obtain ⟨W0, hW0⟩ : ∃ W, W = ((w.alloc (.cells #[.slice A3 l3.length c3] 22)).alloc (.cells #[.slice none 0 0] 140)).alloc (.cells #[.bool false] 4) := ⟨_, rfl⟩
    rw [← hW0]
    obtain ⟨b7, hb7⟩ : ∃ b, b = w.heap.size := ⟨_, rfl⟩
    obtain ⟨b9, hb9⟩ : ∃ b, b = w.heap.size + 1 := ⟨_, rfl⟩
    obtain ⟨b10, hb10⟩ : ∃ b, b = w.heap.size + 2 := ⟨_, rfl⟩
    have hp7 : W0.heap[b7]? = some (.cells #[.slice A3 l3.length c3] 22 (0, 0)) := by rw [hW0, hb7]; exact blk_alloc (blk_alloc (blk_new w _) _) _
    have hp9 : W0.heap[b9]? = some (.cells #[.slice none 0 0] 140 (0, 0)) := by rw [hW0, hb9]; refine blk_alloc ?_ _; have := blk_new (w.alloc (.cells #[.slice A3 l3.length c3] 22)) (.cells #[.slice none 0 0] 140); simpa using this
    have hp10 : W0.heap[b10]? = some (.cells #[.bool false] 4 (0, 0)) := by rw [hW0, hb10]; have := blk_new ((w.alloc (.cells #[.slice A3 l3.length c3] 22)).alloc (.cells #[.slice none 0 0] 140)) (.cells #[.bool false] 4); simpa using this
    have hsz : W0.heap.size = w.heap.size + 3 := by rw [hW0]; simp
    have hbel : Below w.heap.size w W0 := by rw [hW0]; exact (((Below.refl _ _).alloc (Nat.le_refl _) _).alloc (by simp) _).alloc (by simp; omega) _
    have hrs : RS w w.heap.size [b7, b9, b10] b9 [] W0 := RS.of_nil hp9 hbel (by omega) (by simp) (by intro k hk; simp at hk; rcases hk with rfl | rfl | rfl <;> omega)
    have e9 : w.heap.size + 1 = b9 := hb9.symm
    have e10 : w.heap.size + 1 + 1 = b10 := by omega
    have e7 : w.heap.size = b7 := hb7.symm
    have HE := Aside0.mk (And.intro hb7 (And.intro hb9 hb10))
    simp only [e10]
    simp only [e9]
    simp only [e7]
    have n79 : b7 ≠ b9 := by omega
    have n710 : b7 ≠ b10 := by omega
    have n910 : b10 ≠ b9 := by omega
    have HN := Aside0.mk (And.intro n79 (And.intro n710 n910))
    have H7 := Aside0.mk hp7
    have H10 := Aside0.mk hp10
    have HRS := Aside0.mk hrs
    have HBEL := Aside0.mk hbel
    have HSZ := Aside0.mk hsz
    clear hW0 hp7 hp9 hp10 hrs hbel e9 e10 e7 hsz n79 n710 n910 hb7 hb9 hb10
    go_loopg [17] l0.length (fun gk v17 W => ∃ i : Int, v17 = .int .i64 i ∧ Aside0 (0 ≤ i ∧ i + gk = l0.length) ∧ Aside0 (RS w w.heap.size [b7, b9, b10] b9 ((l0.take i.toNat).foldl (replStep a1 a2 l3) ([], false)).1 W ∧ W.heap[b10]? = some (.cells #[.bool ((l0.take i.toNat).foldl (replStep a1 a2 l3) ([], false)).2] 4 (0, 0)) ∧ W.heap[b7]? = some (.cells #[.slice A3 l3.length c3] 22 (0, 0))))
    case atStart => exact ⟨0, rfl, ⟨Int.le_refl _, by simp⟩, ⟨by simpa using HRS.out, by simpa using H10.out, H7.out⟩⟩
    case round =>
      obtain ⟨i, rfl, HI, HS⟩ := hrel
      obtain ⟨o, ho⟩ : ∃ o, o = ((l0.take i.toNat).foldl (replStep a1 a2 l3) ([], false)).1 := ⟨_, rfl⟩
      obtain ⟨lb, hlb⟩ : ∃ lb, lb = ((l0.take i.toNat).foldl (replStep a1 a2 l3) ([], false)).2 := ⟨_, rfl⟩
      have hol : o.length + l3.length + 8 < 2147483648 := by
        have h1 := replFold_length a1 a2 l3 (l0.take i.toNat) ([], false)
        rw [← ho] at h1
        have h2 : (l0.take i.toNat).length ≤ 1024 := by rw [List.length_take]; omega
        have h3 := HLEN.out.2
        have h4 : (l0.take i.toNat).length * (l3.length + 2) ≤ 1024 * 1026 := Nat.mul_le_mul h2 (by omega)
        simp only [List.length_nil] at h1
        omega
      rw [← ho, ← hlb] at HS
      have HOL := Aside0.mk hol
      have HO := Aside0.mk ho
      have HLB := Aside0.mk hlb
      clear ho hlb hol
      cases gk with
      | zero =>
        have hi : i = l0.length := by have := HI.out.2; omega
        have hd : decide (i < (l0.length : Int)) = false := decide_eq_false (by omega)
        have HII := Aside0.mk hi
        clear hi
        have hcc10 : wr.cell? ⟨b10, 0, none⟩ = some (.bool lb) := (blk_cell HS.out.2.1 0).trans rfl
        have hrep : replG l0 a1 a2 l3 = if lb then o else l3.foldl addG o := by
          unfold replG
          rw [HO.out, HLB.out, HII.out, Int.toNat_natCast, List.take_length]
        have HREP := Aside0.mk hrep
        clear hrep
        cases lb with
        | true =>
          obtain ⟨A, c, hcc9, hR⟩ := HS.out.1.cell
          have HR := Aside0.mk hR
          have HRR := Aside0.mk (HREP.out.trans (if_pos rfl))
          clear hR HREP
          go_wp2
          go_ret
          refine ⟨.slice A o.length c, rfl, ?_, HS.out.1.old⟩
          rw [HRR.out]
          exact Kd.R_mono HR.out (fun _ _ => trivial)
        | false =>
          go_wp2_with fail
          refine (lay_by.calls w wr w.heap.size b7 b9 b10 [b7, b9, b10] o l3 A3 c3 false HS.out.1 (by simp) (by simp) HN.out.1 HN.out.2.2 HN.out.2.1 (by have := HE.out; omega) HS.out.2.2 HS.out.2.1 HR3.out (Nat.le_refl _) (by have := HOL.out; omega)).mono ?_
          rintro e w2 ⟨rfl, h2, _, _, _⟩
          obtain ⟨A, c, hcc9, hR⟩ := h2.cell
          have H2 := Aside0.mk h2
          have HR := Aside0.mk hR
          have HRR := Aside0.mk (HREP.out.trans (if_neg (by simp)))
          clear hR h2 HREP
          go_wp2
          go_ret
          refine ⟨.slice A (l3.foldl addG o).length c, rfl, ?_, H2.out.old⟩
          rw [HRR.out]
          exact Kd.R_mono HR.out (fun _ _ => trivial)
      | succ k1 =>
        have hp0 : 0 ≤ i := HI.out.1
        have hp1 : i < (l0.length : Int) := by have := HI.out.2; omega
        have hd : decide (i < (l0.length : Int)) = true := decide_eq_true hp1
        have hC : Kd.C k24 wr A0 l0.length l0 := Kd.C_below HR0.out HS.out.1.old
        obtain ⟨ad, e3, g0, g1, g2⟩ := at_T24 hC i hp0 hp1
        cases e3
        obtain ⟨x, hx⟩ : ∃ x, x = rd_T24 l0 i := ⟨_, rfl⟩
        rw [← hx] at g0 g1 g2
        have hst : (l0.take (i + 1).toNat).foldl (replStep a1 a2 l3) ([], false) = replStep a1 a2 l3 (o, lb) x := by
          have h3 : (i + 1).toNat = i.toNat + 1 := by omega
          have h4 : i.toNat < l0.length := by omega
          have h5 : x = l0[i.toNat] := by rw [hx]; unfold rd_T24; rw [List.getD_eq_getElem?_getD, List.getElem?_eq_getElem h4]; rfl
          rw [h3, List.take_succ_eq_append_getElem h4, List.foldl_append, ← h5, HO.out, HLB.out]
          rfl
        have HST := Aside0.mk hst
        have HP := Aside0.mk (And.intro hp0 hp1)
        clear hx hC hst
        go_wp2_with fail
        obtain ⟨W1, hW1⟩ : ∃ W, W = wr.alloc (.cells #[.int .i64 x.f0, .int .i64 x.f1, .int .i64 x.f2] 24) := ⟨_, rfl⟩
        obtain ⟨bx, hbx⟩ : ∃ b, b = wr.heap.size := ⟨_, rfl⟩
        have hb1 : Below wr.heap.size wr W1 := by rw [hW1]; exact (Below.refl _ _).alloc (Nat.le_refl _) _
        have hx1 : W1.heap[bx]? = some (.cells #[.int .i64 x.f0, .int .i64 x.f1, .int .i64 x.f2] 24 (0, 0)) := by rw [hW1, hbx]; exact blk_new wr _
        rw [← hW1, ← hbx]
        have h1 : RS w w.heap.size (bx :: [b7, b9, b10]) b9 o W1 := HS.out.1.push hb1 (by omega) (by rw [hW1, hbx]; simp)
        have h10 : W1.heap[b10]? = some (.cells #[.bool lb] 4 (0, 0)) := (hb1.block b10 (blk_lt HS.out.2.1)).trans HS.out.2.1
        have h7 : W1.heap[b7]? = some (.cells #[.slice A3 l3.length c3] 22 (0, 0)) := (hb1.block b7 (blk_lt HS.out.2.2)).trans HS.out.2.2
        have nb : bx ≠ b9 ∧ bx ≠ b10 := by
          have h9 := HS.out.1
          obtain ⟨_, _, _, _, _, _, h6⟩ := h9
          have q1 := h6 b9 (by simp)
          have q2 := h6 b10 (by simp)
          omega
        have NB := Aside0.mk nb
        have H1 := Aside0.mk h1
        have HX1 := Aside0.mk hx1
        have H101 := Aside0.mk h10
        have H71 := Aside0.mk h7
        clear hW1 hbx hb1 h1 h10 h7 hx1 nb g0 g1 g2
        refine (partG_calls x 0 a1 W1).mono ?_
        rintro e w2 ⟨rfl, hb2⟩
        have h2 := H1.out.below hb2
        have hx2 := (hb2.block bx (blk_lt HX1.out)).trans HX1.out
        have h102 := (hb2.block b10 (blk_lt H101.out)).trans H101.out
        have h72 := (hb2.block b7 (blk_lt H71.out)).trans H71.out
        have H2 := Aside0.mk h2
        have HX2 := Aside0.mk hx2
        have H102 := Aside0.mk h102
        have H72 := Aside0.mk h72
        clear hb2 h2 hx2 h102 h72
        go_wp2_with fail
        refine (H2.out.add (partG x 0 a1) (by have := HOL.out; omega)).mono ?_
        rintro e w3 ⟨rfl, h3, hs3, hk3⟩
        have hx3 := (hk3 bx (by simp) NB.out.1).trans HX2.out
        have h103 := (hk3 b10 (by simp) HN.out.2.2).trans H102.out
        have h73 := (hk3 b7 (by simp) HN.out.1).trans H72.out
        have hcc10 : w3.cell? ⟨b10, 0, none⟩ = some (.bool lb) := (blk_cell h103 0).trans rfl
        have y0 : w3.cell? ⟨bx, 0, none⟩ = some (.int .i64 x.f0) := (blk_cell hx3 0).trans rfl
        have y1 : w3.cell? ⟨bx, 1, none⟩ = some (.int .i64 x.f1) := (blk_cell hx3 1).trans rfl
        have y2 : w3.cell? ⟨bx, 2, none⟩ = some (.int .i64 x.f2) := (blk_cell hx3 2).trans rfl
        have hl3 := addG_length o (partG x 0 a1)
        have H3 := Aside0.mk h3
        have HX3 := Aside0.mk hx3
        have H103 := Aside0.mk h103
        have H73 := Aside0.mk h73
        have HL3 := Aside0.mk hl3
        clear h3 hs3 hk3 hx3 h103 h73 hl3
        cases lb with
        | true =>
          have hstp : replStep a1 a2 l3 (o, true) x = (addG (addG o (partG x 0 a1)) (partG x (wrap64 (a1 + a2)) 65536), true) := by simp [replStep]
          have HSTP := Aside0.mk hstp
          clear hstp
          go_wp2_with fail
          refine (partG_calls x (wrap64 (a1 + a2)) 65536 w3).mono ?_
          rintro e w5 ⟨rfl, hb5⟩
          have h5 := H3.out.below hb5
          have h105 := (hb5.block b10 (blk_lt H103.out)).trans H103.out
          have h75 := (hb5.block b7 (blk_lt H73.out)).trans H73.out
          have H5 := Aside0.mk h5
          have H105 := Aside0.mk h105
          have H75 := Aside0.mk h75
          clear hb5 h5 h105 h75 hcc10 y0 y1 y2
          go_wp2_with fail
          refine (H5.out.add (partG x (wrap64 (a1 + a2)) 65536) (by have := HOL.out; have := HL3.out; omega)).mono ?_
          rintro e w6 ⟨rfl, h6, hs6, hk6⟩
          have H6 := Aside0.mk h6
          have H106 := Aside0.mk ((hk6 b10 (by simp) HN.out.2.2).trans H105.out)
          have H76 := Aside0.mk ((hk6 b7 (by simp) HN.out.1).trans H75.out)
          clear h6 hs6 hk6
          go_wp2
          go_roundg k1
          case measure => omega
          case rel =>
            refine ⟨i + 1, by first | rfl | (simp; done), ⟨by have := HP.out.1; omega, by have := HI.out.2; omega⟩, ?_⟩
            rw [HST.out, HSTP.out]
            exact ⟨H6.out.drop (by simp), H106.out, H76.out⟩
        | false =>
          by_cases hc : a1 < wrap64 (x.f0 + x.f2)
          · have hdc : decide (a1 < wrap64 (x.f0 + x.f2)) = true := decide_eq_true hc
            have hstp : replStep a1 a2 l3 (o, false) x = (addG (l3.foldl addG (addG o (partG x 0 a1))) (partG x (wrap64 (a1 + a2)) 65536), true) := by simp [replStep, hc]
            have HSTP := Aside0.mk hstp
            clear hc hstp
            go_wp2_with fail
            refine (lay_by.calls w w3 w.heap.size b7 b9 b10 (bx :: [b7, b9, b10]) (addG o (partG x 0 a1)) l3 A3 c3 false H3.out (by simp) (by simp) HN.out.1 HN.out.2.2 HN.out.2.1 (by have := HE.out; omega) H73.out H103.out HR3.out (Nat.le_refl _) (by have := HOL.out; have := HL3.out; omega)).mono ?_
            rintro e w4 ⟨rfl, h4, hs4, h104, hk4⟩
            have hx4 := (hk4 bx (by simp) NB.out.1 NB.out.2).trans HX3.out
            have h74 := (hk4 b7 (by simp) HN.out.1 HN.out.2.1).trans H73.out
            have hl4 := addG_fold_length l3 (addG o (partG x 0 a1))
            have H4 := Aside0.mk h4
            have HX4 := Aside0.mk hx4
            have H104 := Aside0.mk h104
            have H74 := Aside0.mk h74
            have HL4 := Aside0.mk hl4
            clear h4 hs4 h104 hk4 h74 hl4 y0 y1 y2 hcc10
            have hcc10 : w4.cell? ⟨b10, 0, none⟩ = some (.bool true) := (blk_cell H104.out 0).trans rfl
            have y0 : w4.cell? ⟨bx, 0, none⟩ = some (.int .i64 x.f0) := (blk_cell hx4 0).trans rfl
            have y1 : w4.cell? ⟨bx, 1, none⟩ = some (.int .i64 x.f1) := (blk_cell hx4 1).trans rfl
            have y2 : w4.cell? ⟨bx, 2, none⟩ = some (.int .i64 x.f2) := (blk_cell hx4 2).trans rfl
            clear hx4
            go_wp2_with fail
            refine (partG_calls x (wrap64 (a1 + a2)) 65536 w4).mono ?_
            rintro e w5 ⟨rfl, hb5⟩
            have h5 := H4.out.below hb5
            have h105 := (hb5.block b10 (blk_lt H104.out)).trans H104.out
            have h75 := (hb5.block b7 (blk_lt H74.out)).trans H74.out
            have H5 := Aside0.mk h5
            have H105 := Aside0.mk h105
            have H75 := Aside0.mk h75
            clear hb5 h5 h105 h75 hcc10 y0 y1 y2
            go_wp2_with fail
            refine (H5.out.add (partG x (wrap64 (a1 + a2)) 65536) (by have := HOL.out; have := HL3.out; have := HL4.out; omega)).mono ?_
            rintro e w6 ⟨rfl, h6, hs6, hk6⟩
            have H6 := Aside0.mk h6
            have H106 := Aside0.mk ((hk6 b10 (by simp) HN.out.2.2).trans H105.out)
            have H76 := Aside0.mk ((hk6 b7 (by simp) HN.out.1).trans H75.out)
            clear h6 hs6 hk6
            go_wp2
            go_roundg k1
            case measure => omega
            case rel =>
              refine ⟨i + 1, by first | rfl | (simp; done), ⟨by have := HP.out.1; omega, by have := HI.out.2; omega⟩, ?_⟩
              rw [HST.out, HSTP.out]
              exact ⟨H6.out.drop (by simp), H106.out, H76.out⟩
          · have hdc : decide (a1 < wrap64 (x.f0 + x.f2)) = false := decide_eq_false hc
            have hstp : replStep a1 a2 l3 (o, false) x = (addG (addG o (partG x 0 a1)) (partG x (wrap64 (a1 + a2)) 65536), false) := by simp [replStep, hc]
            have HSTP := Aside0.mk hstp
            clear hc hstp
            go_wp2_with fail
            refine (partG_calls x (wrap64 (a1 + a2)) 65536 w3).mono ?_
            rintro e w5 ⟨rfl, hb5⟩
            have h5 := H3.out.below hb5
            have h105 := (hb5.block b10 (blk_lt H103.out)).trans H103.out
            have h75 := (hb5.block b7 (blk_lt H73.out)).trans H73.out
            have H5 := Aside0.mk h5
            have H105 := Aside0.mk h105
            have H75 := Aside0.mk h75
            clear hb5 h5 h105 h75 hcc10 y0 y1 y2
            go_wp2_with fail
            refine (H5.out.add (partG x (wrap64 (a1 + a2)) 65536) (by have := HOL.out; have := HL3.out; omega)).mono ?_
            rintro e w6 ⟨rfl, h6, hs6, hk6⟩
            have H6 := Aside0.mk h6
            have H106 := Aside0.mk ((hk6 b10 (by simp) HN.out.2.2).trans H105.out)
            have H76 := Aside0.mk ((hk6 b7 (by simp) HN.out.1).trans H75.out)
            clear h6 hs6 hk6
            go_wp2
            go_roundg k1
            case measure => omega
            case rel =>
              refine ⟨i + 1, by first | rfl | (simp; done), ⟨by have := HP.out.1; omega, by have := HI.out.2; omega⟩, ?_⟩
              rw [HST.out, HSTP.out]
              exact ⟨H6.out.drop (by simp), H106.out, H76.out⟩
  · cases h

end Go.Proofs.Ytkkfkdncddbaeaa.Fn
