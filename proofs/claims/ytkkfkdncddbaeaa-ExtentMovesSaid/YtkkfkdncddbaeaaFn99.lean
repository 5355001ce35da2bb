-- Told by hand; its numbers filled in by a program of this session.
import Derived.Test.YtkkfkdncddbaeaaFnBase
import Derived.Test.YtkkfkdncddbaeaaHlist_add
namespace Go.Proofs.Ytkkfkdncddbaeaa.Fn
open Go.RowKit Go.Proofs.YtkkfkdncddbaeaaW.PrintWords Go.Proofs.YtkkfkdncddbaeaaW.PrintLast Go.Proofs.YtkkfkdncddbaeaaW.PrintMore
attribute [local go_sem] max2_int min2_int max_two min_two max_three min_three max_four min_four   -- for this text's walks alone
set_option linter.unusedVariables false
set_option linter.unusedSimpArgs false

def flagstoneref05_Add.f (l0 : List (S24)) (a1_0 : Int) (a1_1 : Int) (a1_2 : Int) : Option ((List (S24))) :=
  if l0.length < 2147483648 then some (addG l0 ⟨a1_0, a1_1, a1_2⟩) else none
set_option maxHeartbeats 4000000 in
set_option maxRecDepth 100000 in
theorem flagstoneref05_Add.calls (P0_ : Nat → Prop) (u9000_ : Value) (l0 : List (S24)) (a1_0 : Int) (a1_1 : Int) (a1_2 : Int) (r : List (S24)) (w0 w : World) (hB : Below w0.heap.size w0 w) (ho0 : Kd.R k24 24 w w0.heap.size P0_ u9000_ l0) (h : flagstoneref05_Add.f l0 a1_0 a1_1 a1_2 = some r) :
    Calls Try.prog 99 #[u9000_, .agg #[.int .i64 a1_0, .int .i64 a1_1, .int .i64 a1_2]] w fun e w' => ∃ v0_ : Value, e = .returned (v0_) ∧ Kd.R k24 24 w' w0.heap.size (fun k_ => (P0_ k_ ∨ w.heap.size ≤ k_)) v0_ r ∧ Below w0.heap.size w0 w' ∧ Kept w w' (fun k_ => P0_ k_) := by
  have hu24 := Try.underlying24
  unfold flagstoneref05_Add.f at h
  split at h
  · rename_i hlen
    obtain rfl := Option.some.inj h
    clear h
    obtain ⟨A, c, rfl, hlc, hC⟩ := Kd.R_reads ho0
    have HO0 := Aside0.mk ho0
    have HB0 := Aside0.mk hB
    have hw0 : w0.heap.size ≤ w.heap.size := hB.size
    have HW0 := Aside0.mk hw0
    clear hC ho0 hB hw0
    by_cases h2 : a1_2 < 1
    · have hd : decide (a1_2 < 1) = true := decide_eq_true h2
      have hag : addG l0 ⟨a1_0, a1_1, a1_2⟩ = l0 := by rw [addG, if_pos (show a1_2 ≤ 0 by omega)]
      have HAG := Aside0.mk hag
      clear hag h2
      go_enter Try.func99, Try.ntmps99
      go_wp2
      go_ret
      refine ⟨.slice A l0.length c, rfl, ?_, HB0.out.alloc HW0.out _, ?_⟩
      · rw [HAG.out]
        exact Kd.R_mono (Kd.R_alloc HO0.out _) (fun k hk => .inl hk)
      · exact ⟨by simp, fun i hi _ => Below.heap_alloc _ _ _ hi⟩
    · have hd : decide (a1_2 < 1) = false := decide_eq_false h2
      have h2' : ¬ a1_2 ≤ 0 := by omega
      have HN2 := Aside0.mk h2'
      clear h2 h2'
      by_cases hn : l0.length = 0
      · have hag : addG l0 ⟨a1_0, a1_1, a1_2⟩ = l0 ++ [⟨a1_0, a1_1, a1_2⟩] := by
          rw [addG, if_neg HN2.out, if_neg (by rintro ⟨h, _⟩; omega)]
        have HAG := Aside0.mk hag
        have hm : IntKind.i64.wrap ((l0.length : Int) - 1) = -1 := by rw [hn]; rfl
        have hz : (l0.length : Int) = 0 := by omega
        clear hag hn
        go_enter Try.func99, Try.ntmps99
        go_wp2_with fail
        obtain ⟨W1, hW1⟩ : ∃ W, W = w.alloc (.cells #[.int .i64 a1_0, .int .i64 a1_1, .int .i64 a1_2] 24) := ⟨_, rfl⟩
        rw [← hW1]
        have hbx : W1.heap[w.heap.size]? = some (.cells #[.int .i64 a1_0, .int .i64 a1_1, .int .i64 a1_2] 24 (0, 0)) := by rw [hW1]; exact blk_new w _
        have hsz : W1.heap.size = w.heap.size + 1 := by rw [hW1]; simp
        have hkp : ∀ i, i < w.heap.size → W1.heap[i]? = w.heap[i]? := fun i hi => by rw [hW1]; exact Below.heap_alloc _ _ _ hi
        have hO1 : Kd.R k24 24 W1 w0.heap.size P0_ (.slice A l0.length c) l0 := by rw [hW1]; exact Kd.R_alloc HO0.out _
        have hB1 : Below w0.heap.size w0 W1 := by rw [hW1]; exact HB0.out.alloc HW0.out _
        clear hW1
        have hx0 : W1.cell? ⟨w.heap.size, 0, none⟩ = some (.int .i64 a1_0) := (blk_cell hbx 0).trans rfl
        have hx1 : W1.cell? ⟨w.heap.size, 1, none⟩ = some (.int .i64 a1_1) := (blk_cell hbx 1).trans rfl
        have hx2 : W1.cell? ⟨w.heap.size, 2, none⟩ = some (.int .i64 a1_2) := (blk_cell hbx 2).trans rfl
        have HSZ := Aside0.mk hsz
        have HKP := Aside0.mk hkp
        have HO1 := Aside0.mk hO1
        have HB1 := Aside0.mk hB1
        clear hsz hkp hO1 hB1 hbx
        go_quiet (fail)
        obtain ⟨W2, hW2⟩ : ∃ W, W = W1.drewN nq := ⟨_, rfl⟩
        rw [← hW2]
        have hO2 : Kd.R k24 24 W2 w0.heap.size P0_ (.slice A l0.length c) l0 := by rw [hW2]; exact Kd.R_drewN HO1.out _
        have hB2 : Below w0.heap.size w0 W2 := by rw [hW2]; exact pw_below_drewN HB1.out _
        have hk2 : ∀ i : Nat, W2.heap[i]? = W1.heap[i]? := fun i => by rw [hW2]; rfl
        have hs2z : W2.heap.size = W1.heap.size := by rw [hW2]; rfl
        have y0 : W2.cell? ⟨w.heap.size, 0, none⟩ = some (.int .i64 a1_0) := by rw [hW2]; exact hx0
        have y1 : W2.cell? ⟨w.heap.size, 1, none⟩ = some (.int .i64 a1_1) := by rw [hW2]; exact hx1
        have y2 : W2.cell? ⟨w.heap.size, 2, none⟩ = some (.int .i64 a1_2) := by rw [hW2]; exact hx2
        have HO2 := Aside0.mk hO2
        have HB2 := Aside0.mk hB2
        have HK2 := Aside0.mk hk2
        have HS2 := Aside0.mk hs2z
        clear hW2 hO2 hB2 hk2 hs2z hx0 hx1 hx2
        go_wp2_with (at_builtin; refine Kd.R_append k24 (w0 := w0) (W := W2) w0.heap.size rfl (.tmp 86) (.tmp 88) 22 24 (.agg #[(.int .i64 0), (.int .i64 0), (.int .i64 0)]) 24 rfl Try.underlying22 info24 rfl (by decide) (by omega) (.slice A l0.length c) l0 (⟨a1_0, a1_1, a1_2⟩ : S24) [.int .i64 a1_0, .int .i64 a1_1, .int .i64 a1_2] (fun k => P0_ k ∨ w.heap.size ≤ k) (fun _ => False) rfl rfl ?aP (fun _ hk => hk.elim) ?aF ?aO ?aB ?aS ?aL ?_; (case aP => exact k24_mkM _ _ _ (⟨a1_0, a1_1, a1_2⟩ : S24)); (case aF => intro k hk; exact Or.inr (Nat.le_trans (by rw [HS2.out, HSZ.out]; omega) hk)); (case aO => exact (Kd.R_mono HO2.out (fun k hk => .inl hk))); (case aB => exact HB2.out); (case aS => rw [HS2.out, HSZ.out]; have := HW0.out; omega); (case aL => omega); intro v1 w3 hO3 hB3 hg3 hat3; have HO3 := Aside0.mk hO3; have HB3 := Aside0.mk hB3; have HG3 := Aside0.mk hg3; clear hO3 hB3 hg3 hat3)
        go_ret
        refine ⟨v1, rfl, ?_, HB3.out, ?_, fun i hi hP => ?_⟩
        · rw [HAG.out]
          exact HO3.out
        · have h1 := HG3.out.size
          have := HS2.out
          have := HSZ.out
          omega
        · have h2 := HSZ.out
          have h3 := HS2.out
          rw [HG3.out.block i (show i < W2.heap.size by omega) (fun e => hP (HO0.out.1 i e.symm))]
          exact (HK2.out i).trans (HKP.out i hi)
      · have hn1 : 0 < l0.length := by omega
        obtain ⟨y, hy⟩ : ∃ y, y = rd_T24 l0 (l0.length - 1) := ⟨_, rfl⟩
        have hag : addG l0 ⟨a1_0, a1_1, a1_2⟩ = if extent_goesOn.f y.f0 y.f1 y.f2 a1_0 a1_1 a1_2 = some true then l0.set ((l0.length : Int) - 1).toNat ⟨(rd_T24 l0 (l0.length - 1)).f0, (rd_T24 l0 (l0.length - 1)).f1, wrap64 ((rd_T24 l0 (l0.length - 1)).f2 + a1_2)⟩ else l0 ++ [⟨a1_0, a1_1, a1_2⟩] := by
          rw [addG, if_neg HN2.out, hy]
          simp only [hn1, true_and]
        have HY := Aside0.mk hy
        clear hy hn
        by_cases h0 : wrap64 (y.f0 + y.f2) = a1_0
        · have b0 : (wrap64 (y.f0 + y.f2) == a1_0) = true := beq_iff_eq.mpr h0
          have d0 : (wrap64 (y.f0 + y.f2) != a1_0) = false := bne_eq_false_iff_eq.mpr h0
          clear h0
          by_cases h1 : y.f1 = -1
          · have b1 : (y.f1 == -1) = true := beq_iff_eq.mpr h1
            have d1 : (y.f1 != -1) = false := bne_eq_false_iff_eq.mpr h1
            clear h1
            by_cases h2 : a1_1 = -1
            · have b2 : (a1_1 == -1) = true := beq_iff_eq.mpr h2
              have d2 : (a1_1 != -1) = false := bne_eq_false_iff_eq.mpr h2
              clear h2
              have hgo : extent_goesOn.f y.f0 y.f1 y.f2 a1_0 a1_1 a1_2 = some true := by simp [extent_goesOn.f, b0, b1, b2]
              rw [hgo] at hag
              rw [if_pos rfl] at hag
              have HAG := Aside0.mk hag
              clear hag hgo
              go_enter Try.func99, Try.ntmps99
              go_wp2_with fail
              obtain ⟨W1, hW1⟩ : ∃ W, W = w.alloc (.cells #[.int .i64 a1_0, .int .i64 a1_1, .int .i64 a1_2] 24) := ⟨_, rfl⟩
              rw [← hW1]
              have hbx : W1.heap[w.heap.size]? = some (.cells #[.int .i64 a1_0, .int .i64 a1_1, .int .i64 a1_2] 24 (0, 0)) := by rw [hW1]; exact blk_new w _
              have hsz : W1.heap.size = w.heap.size + 1 := by rw [hW1]; simp
              have hkp : ∀ i, i < w.heap.size → W1.heap[i]? = w.heap[i]? := fun i hi => by rw [hW1]; exact Below.heap_alloc _ _ _ hi
              have hO1 : Kd.R k24 24 W1 w0.heap.size P0_ (.slice A l0.length c) l0 := by rw [hW1]; exact Kd.R_alloc HO0.out _
              have hB1 : Below w0.heap.size w0 W1 := by rw [hW1]; exact HB0.out.alloc HW0.out _
              clear hW1
              have hx0 : W1.cell? ⟨w.heap.size, 0, none⟩ = some (.int .i64 a1_0) := (blk_cell hbx 0).trans rfl
              have hx1 : W1.cell? ⟨w.heap.size, 1, none⟩ = some (.int .i64 a1_1) := (blk_cell hbx 1).trans rfl
              have hx2 : W1.cell? ⟨w.heap.size, 2, none⟩ = some (.int .i64 a1_2) := (blk_cell hbx 2).trans rfl
              have HSZ := Aside0.mk hsz
              have HKP := Aside0.mk hkp
              have HO1 := Aside0.mk hO1
              have HB1 := Aside0.mk hB1
              clear hsz hkp hO1 hB1 hbx
              obtain ⟨g, cap, hv, hgb, hgl, cells, hgc⟩ := Kd.R_form HO1.out hn1
              injection hv with hv1 _ hv2
              subst hv1 hv2
              obtain ⟨j, hj⟩ : ∃ j : Int, j = (l0.length : Int) - 1 := ⟨_, rfl⟩
              have hi0 : 0 ≤ j := by omega
              have hi1 : j < (l0.length : Int) := by omega
              have hge : decide (0 ≤ j) = true := decide_eq_true hi0
              have hwr : IntKind.i64.wrap ((l0.length : Int) - 1) = j := by rw [hj]; exact IntWalk.i64_in _ (by omega)
              have hwr2 : (l0.length : Int) - 1 = j := hj.symm
              have hwr3 : IntKind.i64.wrap j = j := IntWalk.i64_in _ (by omega)
              have HJ := Aside0.mk hj
              clear hj
              obtain ⟨ce, hcl, hM, hcc, hfz⟩ := Kd.R_elem HO1.out z24 j hi0 hi1
              obtain rfl := k24_openM hM
              have e0 : W1.cell? ⟨g, j.toNat * 3, none⟩ = some (.int .i64 (l0.getD j.toNat z24).f0) := hcc 0 _ rfl
              have e1 : W1.cell? ⟨g, j.toNat * 3 + 1, none⟩ = some (.int .i64 (l0.getD j.toNat z24).f1) := hcc 1 _ rfl
              have e2 : W1.cell? ⟨g, j.toNat * 3 + 2, none⟩ = some (.int .i64 (l0.getD j.toNat z24).f2) := hcc 2 _ rfl
              have hy : y = l0.getD j.toNat z24 := by rw [HY.out, HJ.out]; rfl
              rw [← hy] at e0 e1 e2 hM hcc
              have HYJ := Aside0.mk hy
              clear hy
              have HCC := Aside0.mk hcc
              clear hcc hM hgc hfz hcl
              have hs1 : IntKind.i64.wrap (y.f0 + y.f2) = wrap64 (y.f0 + y.f2) := IntWalk.i64_left _
              have hs2 : IntKind.i64.wrap (y.f1 + y.f2) = wrap64 (y.f1 + y.f2) := IntWalk.i64_left _
              go_wp2_with fail
              go_quiet (fail)
              obtain ⟨s, hs⟩ : ∃ s : Int, s = wrap64 (y.f2 + a1_2) := ⟨_, rfl⟩
              have hsw : IntKind.i64.wrap (y.f2 + a1_2) = s := by rw [hs]; exact IntWalk.i64_left _
              have hsw2 : wrap64 (y.f2 + a1_2) = s := hs.symm
              have HSS := Aside0.mk hs
              clear hs
              obtain ⟨W2, hW2⟩ : ∃ W, W = W1.drewN nq := ⟨_, rfl⟩
              rw [← hW2]
              have hO2 : Kd.R k24 24 W2 w0.heap.size P0_ (.slice (some ⟨g, 0, none⟩) l0.length c) l0 := by rw [hW2]; exact Kd.R_drewN HO1.out _
              have hB2 : Below w0.heap.size w0 W2 := by rw [hW2]; exact pw_below_drewN HB1.out _
              have hk2 : ∀ i : Nat, W2.heap[i]? = W1.heap[i]? := fun i => by rw [hW2]; rfl
              have hs2z : W2.heap.size = W1.heap.size := by rw [hW2]; rfl
              have y0 : W2.cell? ⟨w.heap.size, 0, none⟩ = some (.int .i64 a1_0) := by rw [hW2]; exact hx0
              have y1 : W2.cell? ⟨w.heap.size, 1, none⟩ = some (.int .i64 a1_1) := by rw [hW2]; exact hx1
              have y2 : W2.cell? ⟨w.heap.size, 2, none⟩ = some (.int .i64 a1_2) := by rw [hW2]; exact hx2
              have f0 : W2.cell? ⟨g, j.toNat * 3, none⟩ = some (.int .i64 y.f0) := by rw [hW2]; exact e0
              have f1 : W2.cell? ⟨g, j.toNat * 3 + 1, none⟩ = some (.int .i64 y.f1) := by rw [hW2]; exact e1
              have f2 : W2.cell? ⟨g, j.toNat * 3 + 2, none⟩ = some (.int .i64 y.f2) := by rw [hW2]; exact e2
              have HCC2 : Aside0 (∀ (j_1 : Nat) (u : Value), [Value.int .i64 y.f0, .int .i64 y.f1, .int .i64 y.f2][j_1]? = some u → W2.cell? ⟨g, j.toNat * k24.sz + j_1, none⟩ = some u) := ⟨by rw [hW2]; exact HCC.out⟩
              have HO2 := Aside0.mk hO2
              have HB2 := Aside0.mk hB2
              have HK2 := Aside0.mk hk2
              have HS2 := Aside0.mk hs2z
              clear hW2 hO2 hB2 hk2 hs2z hx0 hx1 hx2 e0 e1 e2
              go_wp2_with fail
              go_still_tail 12, (by kernel_rfl)
              change wpList _ _ _ _ _ W2.drew
              refine Kd.R_store k24 (w0 := w0) (W := W2.drew) w0.heap.size rfl rfl 3 (.tmp 84) (.tmp 82) rfl 24 j 2 l0 (⟨y.f0, y.f1, s⟩ : S24) (.int .i64 s) [.int .i64 s] [.int .i64 y.f0, .int .i64 y.f1, .int .i64 y.f2] P0_ (fun _ => False) rfl rfl rfl rfl (by kernel_rfl) (by simp [Value.oneCell']) (Kd.R_drew HO2.out) hi0 hi1 rfl (fun j u hu => HCC2.out j u hu) (Nat.le_refl 3) (k24_mkM _ _ _ (⟨y.f0, y.f1, s⟩ : S24)) (fun _ hk => hk.elim) (below_drew HB2.out) ?_
              intro w3 hO3 hB3 hg3
              have HO3 := Aside0.mk hO3
              have HB3 := Aside0.mk hB3
              have HG3 := Aside0.mk hg3
              clear hO3 hB3 hg3
              go_wp2
              go_ret
              refine ⟨.slice (some ⟨g, 0, none⟩) l0.length c, rfl, ?_, HB3.out, ?_, fun i hi hP => ?_⟩
              · have hyy : y = rd_T24 l0 j := HYJ.out
                rw [HAG.out, ← HJ.out, ← hyy, ← HSS.out]
                exact Kd.R_mono HO3.out (fun k hk => .inl hk)
              · have h1 := HG3.out.size
                have h4 : W2.drew.heap.size = W2.heap.size := rfl
                have := HSZ.out
                have := HS2.out
                omega
              · have h2 := HSZ.out
                have h3 := HS2.out
                rw [HG3.out.block i (show i < W2.heap.size by omega) (fun e => hP (HO0.out.1 i e.symm))]
                exact (HK2.out i).trans (HKP.out i hi)
            · have b2 : (a1_1 == -1) = false := beq_eq_false_iff_ne.mpr h2
              have d2 : (a1_1 != -1) = true := bne_iff_ne.mpr h2
              clear h2
              have hgo : extent_goesOn.f y.f0 y.f1 y.f2 a1_0 a1_1 a1_2 = some false := by simp [extent_goesOn.f, b0, b1, b2]
              rw [hgo] at hag
              rw [if_neg (by simp)] at hag
              have HAG := Aside0.mk hag
              clear hag hgo
              go_enter Try.func99, Try.ntmps99
              go_wp2_with fail
              obtain ⟨W1, hW1⟩ : ∃ W, W = w.alloc (.cells #[.int .i64 a1_0, .int .i64 a1_1, .int .i64 a1_2] 24) := ⟨_, rfl⟩
              rw [← hW1]
              have hbx : W1.heap[w.heap.size]? = some (.cells #[.int .i64 a1_0, .int .i64 a1_1, .int .i64 a1_2] 24 (0, 0)) := by rw [hW1]; exact blk_new w _
              have hsz : W1.heap.size = w.heap.size + 1 := by rw [hW1]; simp
              have hkp : ∀ i, i < w.heap.size → W1.heap[i]? = w.heap[i]? := fun i hi => by rw [hW1]; exact Below.heap_alloc _ _ _ hi
              have hO1 : Kd.R k24 24 W1 w0.heap.size P0_ (.slice A l0.length c) l0 := by rw [hW1]; exact Kd.R_alloc HO0.out _
              have hB1 : Below w0.heap.size w0 W1 := by rw [hW1]; exact HB0.out.alloc HW0.out _
              clear hW1
              have hx0 : W1.cell? ⟨w.heap.size, 0, none⟩ = some (.int .i64 a1_0) := (blk_cell hbx 0).trans rfl
              have hx1 : W1.cell? ⟨w.heap.size, 1, none⟩ = some (.int .i64 a1_1) := (blk_cell hbx 1).trans rfl
              have hx2 : W1.cell? ⟨w.heap.size, 2, none⟩ = some (.int .i64 a1_2) := (blk_cell hbx 2).trans rfl
              have HSZ := Aside0.mk hsz
              have HKP := Aside0.mk hkp
              have HO1 := Aside0.mk hO1
              have HB1 := Aside0.mk hB1
              clear hsz hkp hO1 hB1 hbx
              obtain ⟨g, cap, hv, hgb, hgl, cells, hgc⟩ := Kd.R_form HO1.out hn1
              injection hv with hv1 _ hv2
              subst hv1 hv2
              obtain ⟨j, hj⟩ : ∃ j : Int, j = (l0.length : Int) - 1 := ⟨_, rfl⟩
              have hi0 : 0 ≤ j := by omega
              have hi1 : j < (l0.length : Int) := by omega
              have hge : decide (0 ≤ j) = true := decide_eq_true hi0
              have hwr : IntKind.i64.wrap ((l0.length : Int) - 1) = j := by rw [hj]; exact IntWalk.i64_in _ (by omega)
              have hwr2 : (l0.length : Int) - 1 = j := hj.symm
              have hwr3 : IntKind.i64.wrap j = j := IntWalk.i64_in _ (by omega)
              have HJ := Aside0.mk hj
              clear hj
              obtain ⟨ce, hcl, hM, hcc, hfz⟩ := Kd.R_elem HO1.out z24 j hi0 hi1
              obtain rfl := k24_openM hM
              have e0 : W1.cell? ⟨g, j.toNat * 3, none⟩ = some (.int .i64 (l0.getD j.toNat z24).f0) := hcc 0 _ rfl
              have e1 : W1.cell? ⟨g, j.toNat * 3 + 1, none⟩ = some (.int .i64 (l0.getD j.toNat z24).f1) := hcc 1 _ rfl
              have e2 : W1.cell? ⟨g, j.toNat * 3 + 2, none⟩ = some (.int .i64 (l0.getD j.toNat z24).f2) := hcc 2 _ rfl
              have hy : y = l0.getD j.toNat z24 := by rw [HY.out, HJ.out]; rfl
              rw [← hy] at e0 e1 e2 hM hcc
              have HYJ := Aside0.mk hy
              clear hy
              have HCC := Aside0.mk hcc
              clear hcc hM hgc hfz hcl
              have hs1 : IntKind.i64.wrap (y.f0 + y.f2) = wrap64 (y.f0 + y.f2) := IntWalk.i64_left _
              have hs2 : IntKind.i64.wrap (y.f1 + y.f2) = wrap64 (y.f1 + y.f2) := IntWalk.i64_left _
              go_wp2_with fail
              go_quiet (fail)
              obtain ⟨W2, hW2⟩ : ∃ W, W = W1.drewN nq := ⟨_, rfl⟩
              rw [← hW2]
              have hO2 : Kd.R k24 24 W2 w0.heap.size P0_ (.slice (some ⟨g, 0, none⟩) l0.length c) l0 := by rw [hW2]; exact Kd.R_drewN HO1.out _
              have hB2 : Below w0.heap.size w0 W2 := by rw [hW2]; exact pw_below_drewN HB1.out _
              have hk2 : ∀ i : Nat, W2.heap[i]? = W1.heap[i]? := fun i => by rw [hW2]; rfl
              have hs2z : W2.heap.size = W1.heap.size := by rw [hW2]; rfl
              have y0 : W2.cell? ⟨w.heap.size, 0, none⟩ = some (.int .i64 a1_0) := by rw [hW2]; exact hx0
              have y1 : W2.cell? ⟨w.heap.size, 1, none⟩ = some (.int .i64 a1_1) := by rw [hW2]; exact hx1
              have y2 : W2.cell? ⟨w.heap.size, 2, none⟩ = some (.int .i64 a1_2) := by rw [hW2]; exact hx2
              have HO2 := Aside0.mk hO2
              have HB2 := Aside0.mk hB2
              have HK2 := Aside0.mk hk2
              have HS2 := Aside0.mk hs2z
              clear hW2 hO2 hB2 hk2 hs2z hx0 hx1 hx2
              go_wp2_with (at_builtin; refine Kd.R_append k24 (w0 := w0) (W := W2) w0.heap.size rfl (.tmp 86) (.tmp 88) 22 24 (.agg #[(.int .i64 0), (.int .i64 0), (.int .i64 0)]) 24 rfl Try.underlying22 info24 rfl (by decide) (by omega) (.slice (some ⟨g, 0, none⟩) l0.length c) l0 (⟨a1_0, a1_1, a1_2⟩ : S24) [.int .i64 a1_0, .int .i64 a1_1, .int .i64 a1_2] (fun k => P0_ k ∨ w.heap.size ≤ k) (fun _ => False) rfl rfl ?aP (fun _ hk => hk.elim) ?aF ?aO ?aB ?aS ?aL ?_; (case aP => exact k24_mkM _ _ _ (⟨a1_0, a1_1, a1_2⟩ : S24)); (case aF => intro k hk; exact Or.inr (Nat.le_trans (by rw [HS2.out, HSZ.out]; omega) hk)); (case aO => exact (Kd.R_mono HO2.out (fun k hk => .inl hk))); (case aB => exact HB2.out); (case aS => rw [HS2.out, HSZ.out]; have := HW0.out; omega); (case aL => omega); intro v1 w3 hO3 hB3 hg3 hat3; have HO3 := Aside0.mk hO3; have HB3 := Aside0.mk hB3; have HG3 := Aside0.mk hg3; clear hO3 hB3 hg3 hat3)
              go_ret
              refine ⟨v1, rfl, ?_, HB3.out, ?_, fun i hi hP => ?_⟩
              · rw [HAG.out]
                exact HO3.out
              · have h1 := HG3.out.size
                have := HS2.out
                have := HSZ.out
                omega
              · have h2 := HSZ.out
                have h3 := HS2.out
                rw [HG3.out.block i (show i < W2.heap.size by omega) (fun e => hP (HO0.out.1 i e.symm))]
                exact (HK2.out i).trans (HKP.out i hi)
          · have b1 : (y.f1 == -1) = false := beq_eq_false_iff_ne.mpr h1
            have d1 : (y.f1 != -1) = true := bne_iff_ne.mpr h1
            clear h1
            by_cases h2 : a1_1 = -1
            · have b2 : (a1_1 == -1) = true := beq_iff_eq.mpr h2
              have d2 : (a1_1 != -1) = false := bne_eq_false_iff_eq.mpr h2
              clear h2
              have hgo : extent_goesOn.f y.f0 y.f1 y.f2 a1_0 a1_1 a1_2 = some false := by simp [extent_goesOn.f, b0, b1, b2]
              rw [hgo] at hag
              rw [if_neg (by simp)] at hag
              have HAG := Aside0.mk hag
              clear hag hgo
              go_enter Try.func99, Try.ntmps99
              go_wp2_with fail
              obtain ⟨W1, hW1⟩ : ∃ W, W = w.alloc (.cells #[.int .i64 a1_0, .int .i64 a1_1, .int .i64 a1_2] 24) := ⟨_, rfl⟩
              rw [← hW1]
              have hbx : W1.heap[w.heap.size]? = some (.cells #[.int .i64 a1_0, .int .i64 a1_1, .int .i64 a1_2] 24 (0, 0)) := by rw [hW1]; exact blk_new w _
              have hsz : W1.heap.size = w.heap.size + 1 := by rw [hW1]; simp
              have hkp : ∀ i, i < w.heap.size → W1.heap[i]? = w.heap[i]? := fun i hi => by rw [hW1]; exact Below.heap_alloc _ _ _ hi
              have hO1 : Kd.R k24 24 W1 w0.heap.size P0_ (.slice A l0.length c) l0 := by rw [hW1]; exact Kd.R_alloc HO0.out _
              have hB1 : Below w0.heap.size w0 W1 := by rw [hW1]; exact HB0.out.alloc HW0.out _
              clear hW1
              have hx0 : W1.cell? ⟨w.heap.size, 0, none⟩ = some (.int .i64 a1_0) := (blk_cell hbx 0).trans rfl
              have hx1 : W1.cell? ⟨w.heap.size, 1, none⟩ = some (.int .i64 a1_1) := (blk_cell hbx 1).trans rfl
              have hx2 : W1.cell? ⟨w.heap.size, 2, none⟩ = some (.int .i64 a1_2) := (blk_cell hbx 2).trans rfl
              have HSZ := Aside0.mk hsz
              have HKP := Aside0.mk hkp
              have HO1 := Aside0.mk hO1
              have HB1 := Aside0.mk hB1
              clear hsz hkp hO1 hB1 hbx
              obtain ⟨g, cap, hv, hgb, hgl, cells, hgc⟩ := Kd.R_form HO1.out hn1
              injection hv with hv1 _ hv2
              subst hv1 hv2
              obtain ⟨j, hj⟩ : ∃ j : Int, j = (l0.length : Int) - 1 := ⟨_, rfl⟩
              have hi0 : 0 ≤ j := by omega
              have hi1 : j < (l0.length : Int) := by omega
              have hge : decide (0 ≤ j) = true := decide_eq_true hi0
              have hwr : IntKind.i64.wrap ((l0.length : Int) - 1) = j := by rw [hj]; exact IntWalk.i64_in _ (by omega)
              have hwr2 : (l0.length : Int) - 1 = j := hj.symm
              have hwr3 : IntKind.i64.wrap j = j := IntWalk.i64_in _ (by omega)
              have HJ := Aside0.mk hj
              clear hj
              obtain ⟨ce, hcl, hM, hcc, hfz⟩ := Kd.R_elem HO1.out z24 j hi0 hi1
              obtain rfl := k24_openM hM
              have e0 : W1.cell? ⟨g, j.toNat * 3, none⟩ = some (.int .i64 (l0.getD j.toNat z24).f0) := hcc 0 _ rfl
              have e1 : W1.cell? ⟨g, j.toNat * 3 + 1, none⟩ = some (.int .i64 (l0.getD j.toNat z24).f1) := hcc 1 _ rfl
              have e2 : W1.cell? ⟨g, j.toNat * 3 + 2, none⟩ = some (.int .i64 (l0.getD j.toNat z24).f2) := hcc 2 _ rfl
              have hy : y = l0.getD j.toNat z24 := by rw [HY.out, HJ.out]; rfl
              rw [← hy] at e0 e1 e2 hM hcc
              have HYJ := Aside0.mk hy
              clear hy
              have HCC := Aside0.mk hcc
              clear hcc hM hgc hfz hcl
              have hs1 : IntKind.i64.wrap (y.f0 + y.f2) = wrap64 (y.f0 + y.f2) := IntWalk.i64_left _
              have hs2 : IntKind.i64.wrap (y.f1 + y.f2) = wrap64 (y.f1 + y.f2) := IntWalk.i64_left _
              go_wp2_with fail
              go_quiet (fail)
              obtain ⟨W2, hW2⟩ : ∃ W, W = W1.drewN nq := ⟨_, rfl⟩
              rw [← hW2]
              have hO2 : Kd.R k24 24 W2 w0.heap.size P0_ (.slice (some ⟨g, 0, none⟩) l0.length c) l0 := by rw [hW2]; exact Kd.R_drewN HO1.out _
              have hB2 : Below w0.heap.size w0 W2 := by rw [hW2]; exact pw_below_drewN HB1.out _
              have hk2 : ∀ i : Nat, W2.heap[i]? = W1.heap[i]? := fun i => by rw [hW2]; rfl
              have hs2z : W2.heap.size = W1.heap.size := by rw [hW2]; rfl
              have y0 : W2.cell? ⟨w.heap.size, 0, none⟩ = some (.int .i64 a1_0) := by rw [hW2]; exact hx0
              have y1 : W2.cell? ⟨w.heap.size, 1, none⟩ = some (.int .i64 a1_1) := by rw [hW2]; exact hx1
              have y2 : W2.cell? ⟨w.heap.size, 2, none⟩ = some (.int .i64 a1_2) := by rw [hW2]; exact hx2
              have HO2 := Aside0.mk hO2
              have HB2 := Aside0.mk hB2
              have HK2 := Aside0.mk hk2
              have HS2 := Aside0.mk hs2z
              clear hW2 hO2 hB2 hk2 hs2z hx0 hx1 hx2
              go_wp2_with (at_builtin; refine Kd.R_append k24 (w0 := w0) (W := W2) w0.heap.size rfl (.tmp 86) (.tmp 88) 22 24 (.agg #[(.int .i64 0), (.int .i64 0), (.int .i64 0)]) 24 rfl Try.underlying22 info24 rfl (by decide) (by omega) (.slice (some ⟨g, 0, none⟩) l0.length c) l0 (⟨a1_0, a1_1, a1_2⟩ : S24) [.int .i64 a1_0, .int .i64 a1_1, .int .i64 a1_2] (fun k => P0_ k ∨ w.heap.size ≤ k) (fun _ => False) rfl rfl ?aP (fun _ hk => hk.elim) ?aF ?aO ?aB ?aS ?aL ?_; (case aP => exact k24_mkM _ _ _ (⟨a1_0, a1_1, a1_2⟩ : S24)); (case aF => intro k hk; exact Or.inr (Nat.le_trans (by rw [HS2.out, HSZ.out]; omega) hk)); (case aO => exact (Kd.R_mono HO2.out (fun k hk => .inl hk))); (case aB => exact HB2.out); (case aS => rw [HS2.out, HSZ.out]; have := HW0.out; omega); (case aL => omega); intro v1 w3 hO3 hB3 hg3 hat3; have HO3 := Aside0.mk hO3; have HB3 := Aside0.mk hB3; have HG3 := Aside0.mk hg3; clear hO3 hB3 hg3 hat3)
              go_ret
              refine ⟨v1, rfl, ?_, HB3.out, ?_, fun i hi hP => ?_⟩
              · rw [HAG.out]
                exact HO3.out
              · have h1 := HG3.out.size
                have := HS2.out
                have := HSZ.out
                omega
              · have h2 := HSZ.out
                have h3 := HS2.out
                rw [HG3.out.block i (show i < W2.heap.size by omega) (fun e => hP (HO0.out.1 i e.symm))]
                exact (HK2.out i).trans (HKP.out i hi)
            · have b2 : (a1_1 == -1) = false := beq_eq_false_iff_ne.mpr h2
              have d2 : (a1_1 != -1) = true := bne_iff_ne.mpr h2
              clear h2
              by_cases h3 : wrap64 (y.f1 + y.f2) = a1_1
              · have b3 : (wrap64 (y.f1 + y.f2) == a1_1) = true := beq_iff_eq.mpr h3
                have d3 : (wrap64 (y.f1 + y.f2) != a1_1) = false := bne_eq_false_iff_eq.mpr h3
                clear h3
                have hgo : extent_goesOn.f y.f0 y.f1 y.f2 a1_0 a1_1 a1_2 = some true := by simp [extent_goesOn.f, b0, b1, b2, b3]
                rw [hgo] at hag
                rw [if_pos rfl] at hag
                have HAG := Aside0.mk hag
                clear hag hgo
                go_enter Try.func99, Try.ntmps99
                go_wp2_with fail
                obtain ⟨W1, hW1⟩ : ∃ W, W = w.alloc (.cells #[.int .i64 a1_0, .int .i64 a1_1, .int .i64 a1_2] 24) := ⟨_, rfl⟩
                rw [← hW1]
                have hbx : W1.heap[w.heap.size]? = some (.cells #[.int .i64 a1_0, .int .i64 a1_1, .int .i64 a1_2] 24 (0, 0)) := by rw [hW1]; exact blk_new w _
                have hsz : W1.heap.size = w.heap.size + 1 := by rw [hW1]; simp
                have hkp : ∀ i, i < w.heap.size → W1.heap[i]? = w.heap[i]? := fun i hi => by rw [hW1]; exact Below.heap_alloc _ _ _ hi
                have hO1 : Kd.R k24 24 W1 w0.heap.size P0_ (.slice A l0.length c) l0 := by rw [hW1]; exact Kd.R_alloc HO0.out _
                have hB1 : Below w0.heap.size w0 W1 := by rw [hW1]; exact HB0.out.alloc HW0.out _
                clear hW1
                have hx0 : W1.cell? ⟨w.heap.size, 0, none⟩ = some (.int .i64 a1_0) := (blk_cell hbx 0).trans rfl
                have hx1 : W1.cell? ⟨w.heap.size, 1, none⟩ = some (.int .i64 a1_1) := (blk_cell hbx 1).trans rfl
                have hx2 : W1.cell? ⟨w.heap.size, 2, none⟩ = some (.int .i64 a1_2) := (blk_cell hbx 2).trans rfl
                have HSZ := Aside0.mk hsz
                have HKP := Aside0.mk hkp
                have HO1 := Aside0.mk hO1
                have HB1 := Aside0.mk hB1
                clear hsz hkp hO1 hB1 hbx
                obtain ⟨g, cap, hv, hgb, hgl, cells, hgc⟩ := Kd.R_form HO1.out hn1
                injection hv with hv1 _ hv2
                subst hv1 hv2
                obtain ⟨j, hj⟩ : ∃ j : Int, j = (l0.length : Int) - 1 := ⟨_, rfl⟩
                have hi0 : 0 ≤ j := by omega
                have hi1 : j < (l0.length : Int) := by omega
                have hge : decide (0 ≤ j) = true := decide_eq_true hi0
                have hwr : IntKind.i64.wrap ((l0.length : Int) - 1) = j := by rw [hj]; exact IntWalk.i64_in _ (by omega)
                have hwr2 : (l0.length : Int) - 1 = j := hj.symm
                have hwr3 : IntKind.i64.wrap j = j := IntWalk.i64_in _ (by omega)
                have HJ := Aside0.mk hj
                clear hj
                obtain ⟨ce, hcl, hM, hcc, hfz⟩ := Kd.R_elem HO1.out z24 j hi0 hi1
                obtain rfl := k24_openM hM
                have e0 : W1.cell? ⟨g, j.toNat * 3, none⟩ = some (.int .i64 (l0.getD j.toNat z24).f0) := hcc 0 _ rfl
                have e1 : W1.cell? ⟨g, j.toNat * 3 + 1, none⟩ = some (.int .i64 (l0.getD j.toNat z24).f1) := hcc 1 _ rfl
                have e2 : W1.cell? ⟨g, j.toNat * 3 + 2, none⟩ = some (.int .i64 (l0.getD j.toNat z24).f2) := hcc 2 _ rfl
                have hy : y = l0.getD j.toNat z24 := by rw [HY.out, HJ.out]; rfl
                rw [← hy] at e0 e1 e2 hM hcc
                have HYJ := Aside0.mk hy
                clear hy
                have HCC := Aside0.mk hcc
                clear hcc hM hgc hfz hcl
                have hs1 : IntKind.i64.wrap (y.f0 + y.f2) = wrap64 (y.f0 + y.f2) := IntWalk.i64_left _
                have hs2 : IntKind.i64.wrap (y.f1 + y.f2) = wrap64 (y.f1 + y.f2) := IntWalk.i64_left _
                go_wp2_with fail
                go_quiet (fail)
                obtain ⟨s, hs⟩ : ∃ s : Int, s = wrap64 (y.f2 + a1_2) := ⟨_, rfl⟩
                have hsw : IntKind.i64.wrap (y.f2 + a1_2) = s := by rw [hs]; exact IntWalk.i64_left _
                have hsw2 : wrap64 (y.f2 + a1_2) = s := hs.symm
                have HSS := Aside0.mk hs
                clear hs
                obtain ⟨W2, hW2⟩ : ∃ W, W = W1.drewN nq := ⟨_, rfl⟩
                rw [← hW2]
                have hO2 : Kd.R k24 24 W2 w0.heap.size P0_ (.slice (some ⟨g, 0, none⟩) l0.length c) l0 := by rw [hW2]; exact Kd.R_drewN HO1.out _
                have hB2 : Below w0.heap.size w0 W2 := by rw [hW2]; exact pw_below_drewN HB1.out _
                have hk2 : ∀ i : Nat, W2.heap[i]? = W1.heap[i]? := fun i => by rw [hW2]; rfl
                have hs2z : W2.heap.size = W1.heap.size := by rw [hW2]; rfl
                have y0 : W2.cell? ⟨w.heap.size, 0, none⟩ = some (.int .i64 a1_0) := by rw [hW2]; exact hx0
                have y1 : W2.cell? ⟨w.heap.size, 1, none⟩ = some (.int .i64 a1_1) := by rw [hW2]; exact hx1
                have y2 : W2.cell? ⟨w.heap.size, 2, none⟩ = some (.int .i64 a1_2) := by rw [hW2]; exact hx2
                have f0 : W2.cell? ⟨g, j.toNat * 3, none⟩ = some (.int .i64 y.f0) := by rw [hW2]; exact e0
                have f1 : W2.cell? ⟨g, j.toNat * 3 + 1, none⟩ = some (.int .i64 y.f1) := by rw [hW2]; exact e1
                have f2 : W2.cell? ⟨g, j.toNat * 3 + 2, none⟩ = some (.int .i64 y.f2) := by rw [hW2]; exact e2
                have HCC2 : Aside0 (∀ (j_1 : Nat) (u : Value), [Value.int .i64 y.f0, .int .i64 y.f1, .int .i64 y.f2][j_1]? = some u → W2.cell? ⟨g, j.toNat * k24.sz + j_1, none⟩ = some u) := ⟨by rw [hW2]; exact HCC.out⟩
                have HO2 := Aside0.mk hO2
                have HB2 := Aside0.mk hB2
                have HK2 := Aside0.mk hk2
                have HS2 := Aside0.mk hs2z
                clear hW2 hO2 hB2 hk2 hs2z hx0 hx1 hx2 e0 e1 e2
                go_wp2_with fail
                go_still_tail 12, (by kernel_rfl)
                change wpList _ _ _ _ _ W2.drew
                refine Kd.R_store k24 (w0 := w0) (W := W2.drew) w0.heap.size rfl rfl 3 (.tmp 84) (.tmp 82) rfl 24 j 2 l0 (⟨y.f0, y.f1, s⟩ : S24) (.int .i64 s) [.int .i64 s] [.int .i64 y.f0, .int .i64 y.f1, .int .i64 y.f2] P0_ (fun _ => False) rfl rfl rfl rfl (by kernel_rfl) (by simp [Value.oneCell']) (Kd.R_drew HO2.out) hi0 hi1 rfl (fun j u hu => HCC2.out j u hu) (Nat.le_refl 3) (k24_mkM _ _ _ (⟨y.f0, y.f1, s⟩ : S24)) (fun _ hk => hk.elim) (below_drew HB2.out) ?_
                intro w3 hO3 hB3 hg3
                have HO3 := Aside0.mk hO3
                have HB3 := Aside0.mk hB3
                have HG3 := Aside0.mk hg3
                clear hO3 hB3 hg3
                go_wp2
                go_ret
                refine ⟨.slice (some ⟨g, 0, none⟩) l0.length c, rfl, ?_, HB3.out, ?_, fun i hi hP => ?_⟩
                · have hyy : y = rd_T24 l0 j := HYJ.out
                  rw [HAG.out, ← HJ.out, ← hyy, ← HSS.out]
                  exact Kd.R_mono HO3.out (fun k hk => .inl hk)
                · have h1 := HG3.out.size
                  have h4 : W2.drew.heap.size = W2.heap.size := rfl
                  have := HSZ.out
                  have := HS2.out
                  omega
                · have h2 := HSZ.out
                  have h3 := HS2.out
                  rw [HG3.out.block i (show i < W2.heap.size by omega) (fun e => hP (HO0.out.1 i e.symm))]
                  exact (HK2.out i).trans (HKP.out i hi)
              · have b3 : (wrap64 (y.f1 + y.f2) == a1_1) = false := beq_eq_false_iff_ne.mpr h3
                have d3 : (wrap64 (y.f1 + y.f2) != a1_1) = true := bne_iff_ne.mpr h3
                clear h3
                have hgo : extent_goesOn.f y.f0 y.f1 y.f2 a1_0 a1_1 a1_2 = some false := by simp [extent_goesOn.f, b0, b1, b2, b3]
                rw [hgo] at hag
                rw [if_neg (by simp)] at hag
                have HAG := Aside0.mk hag
                clear hag hgo
                go_enter Try.func99, Try.ntmps99
                go_wp2_with fail
                obtain ⟨W1, hW1⟩ : ∃ W, W = w.alloc (.cells #[.int .i64 a1_0, .int .i64 a1_1, .int .i64 a1_2] 24) := ⟨_, rfl⟩
                rw [← hW1]
                have hbx : W1.heap[w.heap.size]? = some (.cells #[.int .i64 a1_0, .int .i64 a1_1, .int .i64 a1_2] 24 (0, 0)) := by rw [hW1]; exact blk_new w _
                have hsz : W1.heap.size = w.heap.size + 1 := by rw [hW1]; simp
                have hkp : ∀ i, i < w.heap.size → W1.heap[i]? = w.heap[i]? := fun i hi => by rw [hW1]; exact Below.heap_alloc _ _ _ hi
                have hO1 : Kd.R k24 24 W1 w0.heap.size P0_ (.slice A l0.length c) l0 := by rw [hW1]; exact Kd.R_alloc HO0.out _
                have hB1 : Below w0.heap.size w0 W1 := by rw [hW1]; exact HB0.out.alloc HW0.out _
                clear hW1
                have hx0 : W1.cell? ⟨w.heap.size, 0, none⟩ = some (.int .i64 a1_0) := (blk_cell hbx 0).trans rfl
                have hx1 : W1.cell? ⟨w.heap.size, 1, none⟩ = some (.int .i64 a1_1) := (blk_cell hbx 1).trans rfl
                have hx2 : W1.cell? ⟨w.heap.size, 2, none⟩ = some (.int .i64 a1_2) := (blk_cell hbx 2).trans rfl
                have HSZ := Aside0.mk hsz
                have HKP := Aside0.mk hkp
                have HO1 := Aside0.mk hO1
                have HB1 := Aside0.mk hB1
                clear hsz hkp hO1 hB1 hbx
                obtain ⟨g, cap, hv, hgb, hgl, cells, hgc⟩ := Kd.R_form HO1.out hn1
                injection hv with hv1 _ hv2
                subst hv1 hv2
                obtain ⟨j, hj⟩ : ∃ j : Int, j = (l0.length : Int) - 1 := ⟨_, rfl⟩
                have hi0 : 0 ≤ j := by omega
                have hi1 : j < (l0.length : Int) := by omega
                have hge : decide (0 ≤ j) = true := decide_eq_true hi0
                have hwr : IntKind.i64.wrap ((l0.length : Int) - 1) = j := by rw [hj]; exact IntWalk.i64_in _ (by omega)
                have hwr2 : (l0.length : Int) - 1 = j := hj.symm
                have hwr3 : IntKind.i64.wrap j = j := IntWalk.i64_in _ (by omega)
                have HJ := Aside0.mk hj
                clear hj
                obtain ⟨ce, hcl, hM, hcc, hfz⟩ := Kd.R_elem HO1.out z24 j hi0 hi1
                obtain rfl := k24_openM hM
                have e0 : W1.cell? ⟨g, j.toNat * 3, none⟩ = some (.int .i64 (l0.getD j.toNat z24).f0) := hcc 0 _ rfl
                have e1 : W1.cell? ⟨g, j.toNat * 3 + 1, none⟩ = some (.int .i64 (l0.getD j.toNat z24).f1) := hcc 1 _ rfl
                have e2 : W1.cell? ⟨g, j.toNat * 3 + 2, none⟩ = some (.int .i64 (l0.getD j.toNat z24).f2) := hcc 2 _ rfl
                have hy : y = l0.getD j.toNat z24 := by rw [HY.out, HJ.out]; rfl
                rw [← hy] at e0 e1 e2 hM hcc
                have HYJ := Aside0.mk hy
                clear hy
                have HCC := Aside0.mk hcc
                clear hcc hM hgc hfz hcl
                have hs1 : IntKind.i64.wrap (y.f0 + y.f2) = wrap64 (y.f0 + y.f2) := IntWalk.i64_left _
                have hs2 : IntKind.i64.wrap (y.f1 + y.f2) = wrap64 (y.f1 + y.f2) := IntWalk.i64_left _
                go_wp2_with fail
                go_quiet (fail)
                obtain ⟨W2, hW2⟩ : ∃ W, W = W1.drewN nq := ⟨_, rfl⟩
                rw [← hW2]
                have hO2 : Kd.R k24 24 W2 w0.heap.size P0_ (.slice (some ⟨g, 0, none⟩) l0.length c) l0 := by rw [hW2]; exact Kd.R_drewN HO1.out _
                have hB2 : Below w0.heap.size w0 W2 := by rw [hW2]; exact pw_below_drewN HB1.out _
                have hk2 : ∀ i : Nat, W2.heap[i]? = W1.heap[i]? := fun i => by rw [hW2]; rfl
                have hs2z : W2.heap.size = W1.heap.size := by rw [hW2]; rfl
                have y0 : W2.cell? ⟨w.heap.size, 0, none⟩ = some (.int .i64 a1_0) := by rw [hW2]; exact hx0
                have y1 : W2.cell? ⟨w.heap.size, 1, none⟩ = some (.int .i64 a1_1) := by rw [hW2]; exact hx1
                have y2 : W2.cell? ⟨w.heap.size, 2, none⟩ = some (.int .i64 a1_2) := by rw [hW2]; exact hx2
                have HO2 := Aside0.mk hO2
                have HB2 := Aside0.mk hB2
                have HK2 := Aside0.mk hk2
                have HS2 := Aside0.mk hs2z
                clear hW2 hO2 hB2 hk2 hs2z hx0 hx1 hx2
                go_wp2_with (at_builtin; refine Kd.R_append k24 (w0 := w0) (W := W2) w0.heap.size rfl (.tmp 86) (.tmp 88) 22 24 (.agg #[(.int .i64 0), (.int .i64 0), (.int .i64 0)]) 24 rfl Try.underlying22 info24 rfl (by decide) (by omega) (.slice (some ⟨g, 0, none⟩) l0.length c) l0 (⟨a1_0, a1_1, a1_2⟩ : S24) [.int .i64 a1_0, .int .i64 a1_1, .int .i64 a1_2] (fun k => P0_ k ∨ w.heap.size ≤ k) (fun _ => False) rfl rfl ?aP (fun _ hk => hk.elim) ?aF ?aO ?aB ?aS ?aL ?_; (case aP => exact k24_mkM _ _ _ (⟨a1_0, a1_1, a1_2⟩ : S24)); (case aF => intro k hk; exact Or.inr (Nat.le_trans (by rw [HS2.out, HSZ.out]; omega) hk)); (case aO => exact (Kd.R_mono HO2.out (fun k hk => .inl hk))); (case aB => exact HB2.out); (case aS => rw [HS2.out, HSZ.out]; have := HW0.out; omega); (case aL => omega); intro v1 w3 hO3 hB3 hg3 hat3; have HO3 := Aside0.mk hO3; have HB3 := Aside0.mk hB3; have HG3 := Aside0.mk hg3; clear hO3 hB3 hg3 hat3)
                go_ret
                refine ⟨v1, rfl, ?_, HB3.out, ?_, fun i hi hP => ?_⟩
                · rw [HAG.out]
                  exact HO3.out
                · have h1 := HG3.out.size
                  have := HS2.out
                  have := HSZ.out
                  omega
                · have h2 := HSZ.out
                  have h3 := HS2.out
                  rw [HG3.out.block i (show i < W2.heap.size by omega) (fun e => hP (HO0.out.1 i e.symm))]
                  exact (HK2.out i).trans (HKP.out i hi)
        · have b0 : (wrap64 (y.f0 + y.f2) == a1_0) = false := beq_eq_false_iff_ne.mpr h0
          have d0 : (wrap64 (y.f0 + y.f2) != a1_0) = true := bne_iff_ne.mpr h0
          clear h0
          have hgo : extent_goesOn.f y.f0 y.f1 y.f2 a1_0 a1_1 a1_2 = some false := by simp [extent_goesOn.f, b0]
          rw [hgo] at hag
          rw [if_neg (by simp)] at hag
          have HAG := Aside0.mk hag
          clear hag hgo
          go_enter Try.func99, Try.ntmps99
          go_wp2_with fail
          obtain ⟨W1, hW1⟩ : ∃ W, W = w.alloc (.cells #[.int .i64 a1_0, .int .i64 a1_1, .int .i64 a1_2] 24) := ⟨_, rfl⟩
          rw [← hW1]
          have hbx : W1.heap[w.heap.size]? = some (.cells #[.int .i64 a1_0, .int .i64 a1_1, .int .i64 a1_2] 24 (0, 0)) := by rw [hW1]; exact blk_new w _
          have hsz : W1.heap.size = w.heap.size + 1 := by rw [hW1]; simp
          have hkp : ∀ i, i < w.heap.size → W1.heap[i]? = w.heap[i]? := fun i hi => by rw [hW1]; exact Below.heap_alloc _ _ _ hi
          have hO1 : Kd.R k24 24 W1 w0.heap.size P0_ (.slice A l0.length c) l0 := by rw [hW1]; exact Kd.R_alloc HO0.out _
          have hB1 : Below w0.heap.size w0 W1 := by rw [hW1]; exact HB0.out.alloc HW0.out _
          clear hW1
          have hx0 : W1.cell? ⟨w.heap.size, 0, none⟩ = some (.int .i64 a1_0) := (blk_cell hbx 0).trans rfl
          have hx1 : W1.cell? ⟨w.heap.size, 1, none⟩ = some (.int .i64 a1_1) := (blk_cell hbx 1).trans rfl
          have hx2 : W1.cell? ⟨w.heap.size, 2, none⟩ = some (.int .i64 a1_2) := (blk_cell hbx 2).trans rfl
          have HSZ := Aside0.mk hsz
          have HKP := Aside0.mk hkp
          have HO1 := Aside0.mk hO1
          have HB1 := Aside0.mk hB1
          clear hsz hkp hO1 hB1 hbx
          obtain ⟨g, cap, hv, hgb, hgl, cells, hgc⟩ := Kd.R_form HO1.out hn1
          injection hv with hv1 _ hv2
          subst hv1 hv2
          obtain ⟨j, hj⟩ : ∃ j : Int, j = (l0.length : Int) - 1 := ⟨_, rfl⟩
          have hi0 : 0 ≤ j := by omega
          have hi1 : j < (l0.length : Int) := by omega
          have hge : decide (0 ≤ j) = true := decide_eq_true hi0
          have hwr : IntKind.i64.wrap ((l0.length : Int) - 1) = j := by rw [hj]; exact IntWalk.i64_in _ (by omega)
          have hwr2 : (l0.length : Int) - 1 = j := hj.symm
          have hwr3 : IntKind.i64.wrap j = j := IntWalk.i64_in _ (by omega)
          have HJ := Aside0.mk hj
          clear hj
          obtain ⟨ce, hcl, hM, hcc, hfz⟩ := Kd.R_elem HO1.out z24 j hi0 hi1
          obtain rfl := k24_openM hM
          have e0 : W1.cell? ⟨g, j.toNat * 3, none⟩ = some (.int .i64 (l0.getD j.toNat z24).f0) := hcc 0 _ rfl
          have e1 : W1.cell? ⟨g, j.toNat * 3 + 1, none⟩ = some (.int .i64 (l0.getD j.toNat z24).f1) := hcc 1 _ rfl
          have e2 : W1.cell? ⟨g, j.toNat * 3 + 2, none⟩ = some (.int .i64 (l0.getD j.toNat z24).f2) := hcc 2 _ rfl
          have hy : y = l0.getD j.toNat z24 := by rw [HY.out, HJ.out]; rfl
          rw [← hy] at e0 e1 e2 hM hcc
          have HYJ := Aside0.mk hy
          clear hy
          have HCC := Aside0.mk hcc
          clear hcc hM hgc hfz hcl
          have hs1 : IntKind.i64.wrap (y.f0 + y.f2) = wrap64 (y.f0 + y.f2) := IntWalk.i64_left _
          have hs2 : IntKind.i64.wrap (y.f1 + y.f2) = wrap64 (y.f1 + y.f2) := IntWalk.i64_left _
          go_wp2_with fail
          go_quiet (fail)
          obtain ⟨W2, hW2⟩ : ∃ W, W = W1.drewN nq := ⟨_, rfl⟩
          rw [← hW2]
          have hO2 : Kd.R k24 24 W2 w0.heap.size P0_ (.slice (some ⟨g, 0, none⟩) l0.length c) l0 := by rw [hW2]; exact Kd.R_drewN HO1.out _
          have hB2 : Below w0.heap.size w0 W2 := by rw [hW2]; exact pw_below_drewN HB1.out _
          have hk2 : ∀ i : Nat, W2.heap[i]? = W1.heap[i]? := fun i => by rw [hW2]; rfl
          have hs2z : W2.heap.size = W1.heap.size := by rw [hW2]; rfl
          have y0 : W2.cell? ⟨w.heap.size, 0, none⟩ = some (.int .i64 a1_0) := by rw [hW2]; exact hx0
          have y1 : W2.cell? ⟨w.heap.size, 1, none⟩ = some (.int .i64 a1_1) := by rw [hW2]; exact hx1
          have y2 : W2.cell? ⟨w.heap.size, 2, none⟩ = some (.int .i64 a1_2) := by rw [hW2]; exact hx2
          have HO2 := Aside0.mk hO2
          have HB2 := Aside0.mk hB2
          have HK2 := Aside0.mk hk2
          have HS2 := Aside0.mk hs2z
          clear hW2 hO2 hB2 hk2 hs2z hx0 hx1 hx2
          go_wp2_with (at_builtin; refine Kd.R_append k24 (w0 := w0) (W := W2) w0.heap.size rfl (.tmp 86) (.tmp 88) 22 24 (.agg #[(.int .i64 0), (.int .i64 0), (.int .i64 0)]) 24 rfl Try.underlying22 info24 rfl (by decide) (by omega) (.slice (some ⟨g, 0, none⟩) l0.length c) l0 (⟨a1_0, a1_1, a1_2⟩ : S24) [.int .i64 a1_0, .int .i64 a1_1, .int .i64 a1_2] (fun k => P0_ k ∨ w.heap.size ≤ k) (fun _ => False) rfl rfl ?aP (fun _ hk => hk.elim) ?aF ?aO ?aB ?aS ?aL ?_; (case aP => exact k24_mkM _ _ _ (⟨a1_0, a1_1, a1_2⟩ : S24)); (case aF => intro k hk; exact Or.inr (Nat.le_trans (by rw [HS2.out, HSZ.out]; omega) hk)); (case aO => exact (Kd.R_mono HO2.out (fun k hk => .inl hk))); (case aB => exact HB2.out); (case aS => rw [HS2.out, HSZ.out]; have := HW0.out; omega); (case aL => omega); intro v1 w3 hO3 hB3 hg3 hat3; have HO3 := Aside0.mk hO3; have HB3 := Aside0.mk hB3; have HG3 := Aside0.mk hg3; clear hO3 hB3 hg3 hat3)
          go_ret
          refine ⟨v1, rfl, ?_, HB3.out, ?_, fun i hi hP => ?_⟩
          · rw [HAG.out]
            exact HO3.out
          · have h1 := HG3.out.size
            have := HS2.out
            have := HSZ.out
            omega
          · have h2 := HSZ.out
            have h3 := HS2.out
            rw [HG3.out.block i (show i < W2.heap.size by omega) (fun e => hP (HO0.out.1 i e.symm))]
            exact (HK2.out i).trans (HKP.out i hi)
  · cases h

end Go.Proofs.Ytkkfkdncddbaeaa.Fn
