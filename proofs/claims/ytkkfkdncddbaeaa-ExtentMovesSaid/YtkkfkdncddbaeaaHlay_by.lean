-- Told by hand; its numbers filled in by a program of this session.
import Derived.Test.YtkkfkdncddbaeaaFnBase
import Derived.Test.YtkkfkdncddbaeaaHHRow
namespace Go.Proofs.Ytkkfkdncddbaeaa.Fn
open Go.RowKit Go.Proofs.YtkkfkdncddbaeaaW.PrintWords Go.Proofs.YtkkfkdncddbaeaaW.PrintLast Go.Proofs.YtkkfkdncddbaeaaW.PrintMore
attribute [local go_sem] max2_int min2_int max_two min_two max_three min_three max_four min_four   -- for this text's walks alone
set_option linter.unusedVariables false
set_option linter.unusedSimpArgs false

set_option maxHeartbeats 1000000 in
set_option maxRecDepth 100000 in
/-- The closure of replaced: all of 'by' is laid. -/
theorem lay_by.calls (w0 w : World) (base b7 b9 b10 : Nat) (B : List Nat) (xs l3 : List S24) (A3 : Option Addr) (c3 : Nat) (lb : Bool)
    (h : RS w0 base B b9 xs w) (h7 : b7 ∈ B) (h10 : b10 ∈ B) (n7 : b7 ≠ b9) (n10 : b10 ≠ b9) (n710 : b7 ≠ b10) (hb10 : base ≤ b10)
    (hc7 : w.heap[b7]? = some (.cells #[.slice A3 l3.length c3] 22 (0, 0))) (hc10 : w.heap[b10]? = some (.cells #[.bool lb] 4 (0, 0)))
    (hr : Kd.C k24 w0 A3 l3.length l3) (hw0 : w0.heap.size ≤ base) (hlen : xs.length + l3.length < 2147483648) :
    Calls Try.prog 137 #[.pointer (some ⟨b7, 0, none⟩), .pointer (some ⟨b9, 0, none⟩), .pointer (some ⟨b10, 0, none⟩)] w fun e w' =>
      e = .returned (.tuple #[]) ∧ RS w0 base B b9 (l3.foldl addG xs) w' ∧ w.heap.size ≤ w'.heap.size ∧ w'.heap[b10]? = some (.cells #[.bool true] 4 (0, 0)) ∧ (∀ i ∈ B, i ≠ b9 → i ≠ b10 → w'.heap[i]? = w.heap[i]?) := by
  have hu24 := Try.underlying24
  have hcc7 : w.cell? ⟨b7, 0, none⟩ = some (.slice A3 l3.length c3) := (blk_cell hc7 0).trans rfl
  have HR := Aside0.mk hr
  have H := Aside0.mk h
  have H7 := Aside0.mk hc7
  have H10 := Aside0.mk hc10
  have HW := Aside0.mk hw0
  have HLEN := Aside0.mk hlen
  have HB7 := Aside0.mk h7
  have HB10 := Aside0.mk h10
  have HN := Aside0.mk (And.intro n7 (And.intro n10 (And.intro n710 hb10)))
  have hll : l3.length < 2147483648 := by omega
  clear hr h hc7 hc10 hw0 hlen h7 h10 n7 n10 n710 hb10
  go_enter Try.func137, Try.ntmps137
  go_wp2_with fail
  go_loopg [7] l3.length (fun gk v7 W => ∃ i : Int, v7 = .int .i64 i ∧ Aside0 (0 ≤ i ∧ i + gk = l3.length) ∧ Aside0 (RS w0 base B b9 ((l3.take i.toNat).foldl addG xs) W ∧ w.heap.size ≤ W.heap.size ∧ ∀ k ∈ B, k ≠ b9 → W.heap[k]? = w.heap[k]?))
  case atStart => exact ⟨0, rfl, ⟨Int.le_refl _, by simp⟩, ⟨by simpa using H.out, Nat.le_refl _, fun _ _ _ => rfl⟩⟩
  case round =>
    obtain ⟨i, rfl, HI, HS⟩ := hrel
    cases gk with
    | zero =>
      have hi : i = l3.length := by have := HI.out.2; omega
      have hd : decide (i < (l3.length : Int)) = false := decide_eq_false (by omega)
      have HII := Aside0.mk hi
      clear hi
      have hk10 := (HS.out.2.2 b10 HB10.out HN.out.2.1).trans H10.out
      have hcc10 : wr.cell? ⟨b10, 0, none⟩ = some (.bool lb) := (blk_cell hk10 0).trans rfl
      have hfz10 := blk_frozen hk10 0
      have HK10 := Aside0.mk hk10
      clear hk10
      go_wp2
      go_end0
      refine ⟨rfl, ?_, ?_, by simpa using blk_set HK10.out 0 (.bool true), ?_⟩
      · have h1 := HS.out.1
        rw [HII.out, Int.toNat_natCast, List.take_length] at h1
        exact h1.set HB10.out (Ne.symm HN.out.2.1) HN.out.2.2.2 _
      · have := HS.out.2.1
        simpa [World.setCell] using this
      · intro k hk hk9 hk10
        rw [Below.heap_setCell _ _ _ _ (by simpa using hk10)]
        exact HS.out.2.2 k hk hk9
    | succ k1 =>
      have hp0 : 0 ≤ i := HI.out.1
      have hp1 : i < (l3.length : Int) := by have := HI.out.2; omega
      have hd : decide (i < (l3.length : Int)) = true := decide_eq_true hp1
      have hC : Kd.C k24 wr A3 l3.length l3 := Kd.C_below HR.out ((HS.out.1.old).mono HW.out)
      obtain ⟨ad, e3, g0, g1, g2⟩ := at_T24 hC i hp0 hp1
      cases e3
      obtain ⟨x, hx⟩ : ∃ x, x = rd_T24 l3 i := ⟨_, rfl⟩
      rw [← hx] at g0 g1 g2
      have HX := Aside0.mk hx
      have HP := Aside0.mk (And.intro hp0 hp1)
      clear hx hC
      go_wp2_with fail
      refine ((HS.out.1.below ((Below.refl _ _).alloc (Nat.le_refl _) _)).add x ?len).mono ?_
      case len =>
        have h1 := addG_fold_length (l3.take i.toNat) xs
        have h2 : (l3.take i.toNat).length ≤ l3.length := by rw [List.length_take]; omega
        have := HLEN.out
        omega
      rintro e w2 ⟨rfl, h2, hs2, hk2⟩
      have H2 := Aside0.mk h2
      have HS2 := Aside0.mk hs2
      have HK2 := Aside0.mk hk2
      clear h2 hs2 hk2 g0 g1 g2
      go_wp2
      go_roundg k1
      case measure => omega
      case rel =>
        refine ⟨i + 1, by first | rfl | (simp; done), ⟨by have := HP.out.1; omega, by have := HI.out.2; omega⟩, ⟨?_, ?_, ?_⟩⟩
        · have h1 := H2.out
          have h3 : (i + 1).toNat = i.toNat + 1 := by have := HP.out.1; omega
          have h4 : i.toNat < l3.length := by have := HP.out; omega
          rw [h3, List.take_succ_eq_append_getElem h4, List.foldl_append]
          have h5 : x = l3[i.toNat] := by rw [HX.out]; unfold rd_T24; rw [List.getD_eq_getElem?_getD, List.getElem?_eq_getElem h4]; rfl
          rw [← h5]
          exact h1
        · have h1 := HS2.out
          have h2 := HS.out.2.1
          simp at h1
          omega
        · intro k hk hk9
          rw [HK2.out k hk hk9]
          have h1 : k < wr.heap.size := by
            obtain ⟨_, _, _, _, _, _, h6⟩ := HS.out.1
            exact h6 k hk
          rw [Below.heap_alloc _ _ _ h1]
          exact HS.out.2.2 k hk hk9

end Go.Proofs.Ytkkfkdncddbaeaa.Fn
