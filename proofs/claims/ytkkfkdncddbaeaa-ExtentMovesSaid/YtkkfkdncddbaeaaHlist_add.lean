-- Told by hand; its numbers filled in by a program of this session.
import Derived.Test.YtkkfkdncddbaeaaFnBase
import Derived.Test.YtkkfkdncddbaeaaFn98
import Derived.Deep.RegionLaw
import Derived.StillTailTactics
import Derived.IntWalk
namespace Go.Proofs.Ytkkfkdncddbaeaa.Fn
open Go.RowKit Go.Proofs.YtkkfkdncddbaeaaW.PrintWords Go.Proofs.YtkkfkdncddbaeaaW.PrintLast Go.Proofs.YtkkfkdncddbaeaaW.PrintMore
attribute [local go_sem] max2_int min2_int max_two min_two max_three min_three max_four min_four   -- for this text's walks alone
set_option linter.unusedVariables false
set_option linter.unusedSimpArgs false

def addG (xs : List S24) (x : S24) : List S24 :=
  if x.f2 ≤ 0 then xs else
    if 0 < xs.length ∧ extent_goesOn.f (rd_T24 xs (xs.length - 1)).f0 (rd_T24 xs (xs.length - 1)).f1 (rd_T24 xs (xs.length - 1)).f2 x.f0 x.f1 x.f2 = some true then
      xs.set ((xs.length : Int) - 1).toNat ⟨(rd_T24 xs (xs.length - 1)).f0, (rd_T24 xs (xs.length - 1)).f1, wrap64 ((rd_T24 xs (xs.length - 1)).f2 + x.f2)⟩
    else xs ++ [x]

/-- What add leaves: the variable at block b holds the row xs. -/
def AddPost (b : Nat) (v : Value) (xs : List S24) (w w0 : World) (ok : Nat → Prop) (base : Nat) (w' : World) : Prop :=
  ∃ v', w'.heap[b]? = some (.cells #[v'] 140 (0, 0)) ∧ Kd.R k24 24 w' base ok v' xs ∧ Below base w0 w' ∧ w.heap.size ≤ w'.heap.size ∧
    (∀ i, i < w.heap.size → i ≠ b → some i ≠ v.ownBlock → w'.heap[i]? = w.heap[i]?) ∧ (v'.ownBlock = v.ownBlock ∨ ∃ k, v'.ownBlock = some k ∧ w.heap.size ≤ k)

set_option maxHeartbeats 4000000 in
set_option maxRecDepth 100000 in
theorem list_add.calls (b : Nat) (v : Value) (xs : List S24) (x0 x1 x2 : Int) (w w0 : World) (ok : Nat → Prop) (base : Nat)
    (hb : w.heap[b]? = some (.cells #[v] 140 (0, 0))) (HO : Kd.R k24 24 w base ok v xs) (hokb : ∀ k, ok k → k ≠ b) (hfresh : ∀ k, w.heap.size ≤ k → ok k)
    (hB : Below base w0 w) (hbase : base ≤ b) (hlen : xs.length < 2147483648) :
    Calls Try.prog 93 #[.pointer (some ⟨b, 0, none⟩), .agg #[.int .i64 x0, .int .i64 x1, .int .i64 x2]] w fun e w' => e = .returned (.tuple #[]) ∧ AddPost b v (addG xs ⟨x0, x1, x2⟩) w w0 ok base w' := by
  have hcb : w.cell? ⟨b, 0, none⟩ = some v := blk_cell hb 0
  have hfb : w.frozen? ⟨b, 0, none⟩ = false := blk_frozen hb 0
  have hu24 := Try.underlying24
  have hblt : b < w.heap.size := blk_lt hb
  have hvb : some b ≠ v.ownBlock := Kd.R_away HO hokb
  have HO' := Aside0.mk HO
  have HB' := Aside0.mk hB
  have HF' := Aside0.mk hfresh
  have HK' := Aside0.mk hokb
  have HV' := Aside0.mk hvb
  have HBS' := Aside0.mk hbase
  have HBK := Aside0.mk hb
  clear HO hB hfresh hokb hbase hvb hb
  by_cases h2 : x2 ≤ 0
  · have hd : decide (x2 ≤ 0) = true := decide_eq_true h2
    go_enter Try.func93, Try.ntmps93
    go_wp2
    refine bodyPost_ret (results_none rfl _ _ _) rfl ⟨rfl, v, ?_, ?_, ?_, ?_, ?_, ?_⟩
    · exact (Below.heap_alloc _ _ _ hblt).trans HBK.out
    · rw [addG, if_pos h2]; exact Kd.R_alloc HO'.out _
    · exact HB'.out.alloc (by have := HBS'.out; omega) _
    · simp
    · intro i hi _ _; exact Below.heap_alloc _ _ _ hi
    · exact .inl rfl
  · have hd : decide (x2 ≤ 0) = false := decide_eq_false h2
    obtain ⟨A, c, rfl, hlc, hC⟩ := Kd.R_reads HO'.out
    have HC' := Aside0.mk hC
    clear hC
    by_cases hn : xs.length = 0
    · have hd1 : decide (0 < xs.length) = false := decide_eq_false (by omega)
      have hd2 : decide (0 < (xs.length : Int)) = false := decide_eq_false (by omega)
      have hag : addG xs ⟨x0, x1, x2⟩ = xs ++ [⟨x0, x1, x2⟩] := by
        rw [addG, if_neg h2, if_neg (by rintro ⟨h, _⟩; omega)]
      have HAG := Aside0.mk hag
      have HN := Aside0.mk hn
      clear hag hn
      go_enter Try.func93, Try.ntmps93
      go_wp2_with fail
      obtain ⟨W1, hW1⟩ : ∃ W, W = w.alloc (.cells #[.int .i64 x0, .int .i64 x1, .int .i64 x2] 24) := ⟨_, rfl⟩
      rw [← hW1]
      have hbx : W1.heap[w.heap.size]? = some (.cells #[.int .i64 x0, .int .i64 x1, .int .i64 x2] 24 (0, 0)) := by rw [hW1]; simpa using heap_alloc_new w _
      have hsz : W1.heap.size = w.heap.size + 1 := by rw [hW1]; simp
      have hkp : ∀ i, i < w.heap.size → W1.heap[i]? = w.heap[i]? := fun i hi => by rw [hW1]; exact Below.heap_alloc _ _ _ hi
      have hO1 : Kd.R k24 24 W1 base ok (.slice A xs.length c) xs := by rw [hW1]; exact Kd.R_alloc HO'.out _
      have hB1 : Below base w0 W1 := by rw [hW1]; exact HB'.out.alloc (by have := HBS'.out; omega) _
      have hb1 : W1.heap[b]? = some (.cells #[.slice A xs.length c] 140 (0, 0)) := (hkp b hblt).trans HBK.out
      clear hW1
      have hcb1 : W1.cell? ⟨b, 0, none⟩ = some (.slice A xs.length c) := (blk_cell hb1 0).trans rfl
      have hfb1 := blk_frozen hb1 0
      have hx0 : W1.cell? ⟨w.heap.size, 0, none⟩ = some (.int .i64 x0) := (blk_cell hbx 0).trans rfl
      have hx1 : W1.cell? ⟨w.heap.size, 1, none⟩ = some (.int .i64 x1) := (blk_cell hbx 1).trans rfl
      have hx2 : W1.cell? ⟨w.heap.size, 2, none⟩ = some (.int .i64 x2) := (blk_cell hbx 2).trans rfl
      have HBX := Aside0.mk hbx
      have HSZ := Aside0.mk hsz
      have HKP := Aside0.mk hkp
      have HO1 := Aside0.mk hO1
      have HB1 := Aside0.mk hB1
      have HBK1 := Aside0.mk hb1
      clear hbx hsz hkp hO1 hB1 hb1 hcb hfb
      go_quiet (fail)
      obtain ⟨w2, hw2⟩ : ∃ W, W = W1.drewN nq := ⟨_, rfl⟩
      rw [← hw2]
      have hs2 : W1.heap.size ≤ w2.heap.size := by rw [hw2]; exact Nat.le_refl _
      have hk2 : ∀ i, i < W1.heap.size → w2.heap[i]? = W1.heap[i]? := fun i hi => by rw [hw2]; rfl
      have hB2 : Below base w0 w2 := by rw [hw2]; exact pw_below_drewN HB1.out _
      clear hw2
      have hbx2 := (hk2 w.heap.size (by rw [HSZ.out]; omega)).trans HBX.out
      have hb2 := (hk2 b (by rw [HSZ.out]; omega)).trans HBK1.out
      have hO2 : Kd.R k24 24 w2 base ok (.slice A xs.length c) xs := Kd.R_step HO1.out (fun k _ hk => hk2 k hk)
      have hcb2 : w2.cell? ⟨b, 0, none⟩ = some (.slice A xs.length c) := (blk_cell hb2 0).trans rfl
      have hfb2 := blk_frozen hb2 0
      have hy0 : w2.cell? ⟨w.heap.size, 0, none⟩ = some (.int .i64 x0) := (blk_cell hbx2 0).trans rfl
      have hy1 : w2.cell? ⟨w.heap.size, 1, none⟩ = some (.int .i64 x1) := (blk_cell hbx2 1).trans rfl
      have hy2 : w2.cell? ⟨w.heap.size, 2, none⟩ = some (.int .i64 x2) := (blk_cell hbx2 2).trans rfl
      have HK2 := Aside0.mk hk2
      have HS2 := Aside0.mk hs2
      have HB2 := Aside0.mk hB2
      have HO2 := Aside0.mk hO2
      have HBK2 := Aside0.mk hb2
      have hcb2a : ∀ o, (w2.alloc o).cell? ⟨b, 0, none⟩ = some (.slice A xs.length c) := fun o => (blk_cell (blk_alloc hb2 o) 0).trans rfl
      clear hk2 hs2 hB2 hO2 hbx2 hb2 hcb1 hfb1 hx0 hx1 hx2
      go_wp2_with fail
      go_region_law ((refine Kd.R_append_step k24 (w0 := w0) (W := w2.drew) base rfl (.tmp 41) (.tmp 43) 140 24 (.agg #[(.int .i64 0), (.int .i64 0), (.int .i64 0)]) 24 rfl Try.underlying140 info24 rfl (by decide) (by omega) (.slice A xs.length c) xs (⟨x0, x1, x2⟩ : S24) [.int .i64 x0, .int .i64 x1, .int .i64 x2] ok (fun _ => False) rfl rfl ?aP (fun _ hk => hk.elim) ?aF ?aO ?aB ?aS ?aL ?_; (case aP => exact k24_mkM _ _ _ (⟨x0, x1, x2⟩ : S24)); (case aF => intro k hk; exact HF'.out k (Nat.le_trans (by show w.heap.size ≤ w2.heap.size; have := HS2.out; rw [HSZ.out] at this; omega) hk)); (case aO => exact Kd.R_drew HO2.out); (case aB => exact below_drew HB2.out); (case aS => show base ≤ w2.heap.size; have := HBS'.out; have := HS2.out; rw [HSZ.out] at this; omega); (case aL => omega); intro v1 w3 hO3 hB3 hg3 hat3; obtain ⟨A1, c1, rfl⟩ := Kd.R_slice hO3; have hl3 : (xs ++ [(⟨x0, x1, x2⟩ : S24)]).length = xs.length + 1 := (by simp); rw [hl3] at hO3 hat3; clear hl3; have hb3 := blk_grown (w := w2.drew) (w1 := w3) HBK2.out hg3 HV'.out; have hcb3 : w3.cell? ⟨b, 0, none⟩ = some (.slice A xs.length c) := (blk_cell hb3 0).trans rfl; have hfb3 := blk_frozen hb3 0; have HO3 := Aside0.mk hO3; have HB3 := Aside0.mk hB3; have HG3 := Aside0.mk hg3; have HA3 := Aside0.mk hat3; have HBK3 := Aside0.mk hb3; clear hO3 hB3 hg3 hat3 hb3))
      go_wp2
      all_goals
        go_end0
        refine ⟨rfl, .slice A1 (xs.length + 1) c1, (by simpa using blk_set HBK3.out 0 (.slice A1 (xs.length + 1) c1)), ?_, ?_, ?_, ?_, ?_⟩
        · rw [HAG.out]
          exact Kd.R_far (p := ⟨b, 0, none⟩) HO3.out (fun k hk => HK'.out k hk) _
        · exact HB3.out.setCell (p := ⟨b, 0, none⟩) HBS'.out _
        · have h1 := HG3.out.size
          have h2 := HS2.out
          rw [HSZ.out] at h2
          have h3 : (w3.setCell ⟨b, 0, none⟩ (.slice A1 (xs.length + 1) c1)).heap.size = w3.heap.size := by simp [World.setCell]
          rw [h3]
          have h4 : w2.drew.heap.size = w2.heap.size := rfl
          omega
        · intro i hi hib hiv
          rw [Below.heap_setCell _ _ _ _ (by simpa using hib)]
          have h2 := HS2.out
          rw [HSZ.out] at h2
          rw [HG3.out.block i (show i < w2.heap.size by omega) hiv]
          show w2.heap[i]? = _
          rw [HK2.out i (by rw [HSZ.out]; omega), HKP.out i hi]
        · rcases HA3.out with h1 | ⟨k, h1, h2⟩
          · exact .inl h1
          · exact .inr ⟨k, h1, by have h3 := HS2.out; rw [HSZ.out] at h3; have h4 : w2.drew.heap.size = w2.heap.size := rfl; omega⟩
    · have hn1 : 0 < xs.length := by omega
      have hd1 : decide (0 < xs.length) = true := decide_eq_true hn1
      have hd2 : decide (0 < (xs.length : Int)) = true := decide_eq_true (by omega)
      obtain ⟨q, hq⟩ : ∃ q, extent_goesOn.f (rd_T24 xs (xs.length - 1)).f0 (rd_T24 xs (xs.length - 1)).f1 (rd_T24 xs (xs.length - 1)).f2 x0 x1 x2 = some q := ⟨_, rfl⟩
      cases q
      · have hag : addG xs ⟨x0, x1, x2⟩ = xs ++ [⟨x0, x1, x2⟩] := by
          rw [addG, if_neg h2, if_neg (by rintro ⟨_, h⟩; rw [hq] at h; cases h)]
        have HAG := Aside0.mk hag
        have HQ := Aside0.mk hq
        clear hag hq
        go_enter Try.func93, Try.ntmps93
        go_wp2_with fail
        obtain ⟨W1, hW1⟩ : ∃ W, W = w.alloc (.cells #[.int .i64 x0, .int .i64 x1, .int .i64 x2] 24) := ⟨_, rfl⟩
        rw [← hW1]
        have hbx : W1.heap[w.heap.size]? = some (.cells #[.int .i64 x0, .int .i64 x1, .int .i64 x2] 24 (0, 0)) := by rw [hW1]; simpa using heap_alloc_new w _
        have hsz : W1.heap.size = w.heap.size + 1 := by rw [hW1]; simp
        have hkp : ∀ i, i < w.heap.size → W1.heap[i]? = w.heap[i]? := fun i hi => by rw [hW1]; exact Below.heap_alloc _ _ _ hi
        have hO1 : Kd.R k24 24 W1 base ok (.slice A xs.length c) xs := by rw [hW1]; exact Kd.R_alloc HO'.out _
        have hB1 : Below base w0 W1 := by rw [hW1]; exact HB'.out.alloc (by have := HBS'.out; omega) _
        have hb1 : W1.heap[b]? = some (.cells #[.slice A xs.length c] 140 (0, 0)) := (hkp b hblt).trans HBK.out
        clear hW1
        have hcb1 : W1.cell? ⟨b, 0, none⟩ = some (.slice A xs.length c) := (blk_cell hb1 0).trans rfl
        have hfb1 := blk_frozen hb1 0
        have hx0 : W1.cell? ⟨w.heap.size, 0, none⟩ = some (.int .i64 x0) := (blk_cell hbx 0).trans rfl
        have hx1 : W1.cell? ⟨w.heap.size, 1, none⟩ = some (.int .i64 x1) := (blk_cell hbx 1).trans rfl
        have hx2 : W1.cell? ⟨w.heap.size, 2, none⟩ = some (.int .i64 x2) := (blk_cell hbx 2).trans rfl
        have HBX := Aside0.mk hbx
        have HSZ := Aside0.mk hsz
        have HKP := Aside0.mk hkp
        have HO1 := Aside0.mk hO1
        have HB1 := Aside0.mk hB1
        have HBK1 := Aside0.mk hb1
        clear hbx hsz hkp hO1 hB1 hb1 hcb hfb
        obtain ⟨g, cap, hv, hgb, hgl, cells, hgc⟩ := Kd.R_form HO1.out hn1
        injection hv with hv1 _ hv2
        subst hv1 hv2
        obtain ⟨j, hj⟩ : ∃ j : Int, j = (xs.length : Int) - 1 := ⟨_, rfl⟩
        have hi0 : 0 ≤ j := by omega
        have hi1 : j < (xs.length : Int) := by omega
        have hwr : IntKind.i64.wrap ((xs.length : Int) - 1) = j := by rw [hj]; exact IntWalk.i64_in _ (by omega)
        have hwr2 : (xs.length : Int) - 1 = j := hj.symm
        have hwr3 : IntKind.i64.wrap j = j := IntWalk.i64_in _ (by omega)
        have HJ := Aside0.mk hj
        clear hj
        have he := Kd.R_elem HO1.out z24 j hi0 hi1
        obtain ⟨ce, hcl, hM, hcc, hfz⟩ := he
        obtain rfl := k24_openM hM
        have e0 : W1.cell? ⟨g, j.toNat * 3, none⟩ = some (.int .i64 (xs.getD j.toNat z24).f0) := hcc 0 _ rfl
        have e1 : W1.cell? ⟨g, j.toNat * 3 + 1, none⟩ = some (.int .i64 (xs.getD j.toNat z24).f1) := hcc 1 _ rfl
        have e2 : W1.cell? ⟨g, j.toNat * 3 + 2, none⟩ = some (.int .i64 (xs.getD j.toNat z24).f2) := hcc 2 _ rfl
        obtain ⟨y, hy⟩ : ∃ y, y = xs.getD j.toNat z24 := ⟨_, rfl⟩
        rw [← hy] at e0 e1 e2 hM hcc
        have hqy : extent_goesOn.f y.f0 y.f1 y.f2 x0 x1 x2 = some false := by rw [hy, HJ.out]; exact HQ.out
        have HQY := Aside0.mk hqy
        have HY := Aside0.mk hy
        clear hy hqy
        have HCC := Aside0.mk hcc
        have HM := Aside0.mk hM
        have HGC := Aside0.mk hgc
        clear hcc hM hgc hfz hcl
        go_still_tail 11, (by kernel_rfl)
        change wpList _ _ _ _ _ W1.drew
        go_wp2_with (go_at_call 98; refine (extent_goesOn.calls _ _ _ _ _ _ false _ HQY.out).mono ?_; rintro e w2 ⟨rfl, hbw⟩; have HBW := Aside0.mk hbw; clear hbw)
        have hs2 : W1.heap.size ≤ w2.heap.size := HBW.out.size
        have hk2 : ∀ i, i < W1.heap.size → w2.heap[i]? = W1.heap[i]? := fun i hi => HBW.out.block i hi
        have hB2 : Below base w0 w2 := HB1.out.trans ⟨HBW.out.os, HBW.out.tape, HBW.out.output, HBW.out.size, fun k hk => HBW.out.block k (by show k < W1.heap.size; rw [HSZ.out]; have := HBS'.out; omega)⟩
        have hbx2 := (hk2 w.heap.size (by rw [HSZ.out]; omega)).trans HBX.out
        have hb2 := (hk2 b (by rw [HSZ.out]; omega)).trans HBK1.out
        have hO2 : Kd.R k24 24 w2 base ok (.slice (some ⟨g, 0, none⟩) xs.length c) xs := Kd.R_step HO1.out (fun k _ hk => hk2 k hk)
        have hcb2 : w2.cell? ⟨b, 0, none⟩ = some (.slice (some ⟨g, 0, none⟩) xs.length c) := (blk_cell hb2 0).trans rfl
        have hfb2 := blk_frozen hb2 0
        have hy0 : w2.cell? ⟨w.heap.size, 0, none⟩ = some (.int .i64 x0) := (blk_cell hbx2 0).trans rfl
        have hy1 : w2.cell? ⟨w.heap.size, 1, none⟩ = some (.int .i64 x1) := (blk_cell hbx2 1).trans rfl
        have hy2 : w2.cell? ⟨w.heap.size, 2, none⟩ = some (.int .i64 x2) := (blk_cell hbx2 2).trans rfl
        have HK2 := Aside0.mk hk2
        have HS2 := Aside0.mk hs2
        have HB2 := Aside0.mk hB2
        have HO2 := Aside0.mk hO2
        have HBK2 := Aside0.mk hb2
        have hcb2a : ∀ o, (w2.alloc o).cell? ⟨b, 0, none⟩ = some (.slice (some ⟨g, 0, none⟩) xs.length c) := fun o => (blk_cell (blk_alloc hb2 o) 0).trans rfl
        clear hk2 hs2 hB2 hO2 hbx2 hb2 hcb1 hfb1 hx0 hx1 hx2
        go_wp2_with fail
        go_region_law ((refine Kd.R_append_step k24 (w0 := w0) (W := w2.drew) base rfl (.tmp 41) (.tmp 43) 140 24 (.agg #[(.int .i64 0), (.int .i64 0), (.int .i64 0)]) 24 rfl Try.underlying140 info24 rfl (by decide) (by omega) (.slice (some ⟨g, 0, none⟩) xs.length c) xs (⟨x0, x1, x2⟩ : S24) [.int .i64 x0, .int .i64 x1, .int .i64 x2] ok (fun _ => False) rfl rfl ?aP (fun _ hk => hk.elim) ?aF ?aO ?aB ?aS ?aL ?_; (case aP => exact k24_mkM _ _ _ (⟨x0, x1, x2⟩ : S24)); (case aF => intro k hk; exact HF'.out k (Nat.le_trans (by show w.heap.size ≤ w2.heap.size; have := HS2.out; rw [HSZ.out] at this; omega) hk)); (case aO => exact Kd.R_drew HO2.out); (case aB => exact below_drew HB2.out); (case aS => show base ≤ w2.heap.size; have := HBS'.out; have := HS2.out; rw [HSZ.out] at this; omega); (case aL => omega); intro v1 w3 hO3 hB3 hg3 hat3; obtain ⟨A1, c1, rfl⟩ := Kd.R_slice hO3; have hl3 : (xs ++ [(⟨x0, x1, x2⟩ : S24)]).length = xs.length + 1 := (by simp); rw [hl3] at hO3 hat3; clear hl3; have hb3 := blk_grown (w := w2.drew) (w1 := w3) HBK2.out hg3 HV'.out; have hcb3 : w3.cell? ⟨b, 0, none⟩ = some (.slice (some ⟨g, 0, none⟩) xs.length c) := (blk_cell hb3 0).trans rfl; have hfb3 := blk_frozen hb3 0; have HO3 := Aside0.mk hO3; have HB3 := Aside0.mk hB3; have HG3 := Aside0.mk hg3; have HA3 := Aside0.mk hat3; have HBK3 := Aside0.mk hb3; clear hO3 hB3 hg3 hat3 hb3))
        go_wp2
        all_goals
          go_end0
          refine ⟨rfl, .slice A1 (xs.length + 1) c1, (by simpa using blk_set HBK3.out 0 (.slice A1 (xs.length + 1) c1)), ?_, ?_, ?_, ?_, ?_⟩
          · rw [HAG.out]
            exact Kd.R_far (p := ⟨b, 0, none⟩) HO3.out (fun k hk => HK'.out k hk) _
          · exact HB3.out.setCell (p := ⟨b, 0, none⟩) HBS'.out _
          · have h1 := HG3.out.size
            have h2 := HS2.out
            rw [HSZ.out] at h2
            have h3 : (w3.setCell ⟨b, 0, none⟩ (.slice A1 (xs.length + 1) c1)).heap.size = w3.heap.size := by simp [World.setCell]
            rw [h3]
            have h4 : w2.drew.heap.size = w2.heap.size := rfl
            omega
          · intro i hi hib hiv
            rw [Below.heap_setCell _ _ _ _ (by simpa using hib)]
            have h2 := HS2.out
            rw [HSZ.out] at h2
            rw [HG3.out.block i (show i < w2.heap.size by omega) hiv]
            show w2.heap[i]? = _
            rw [HK2.out i (by rw [HSZ.out]; omega), HKP.out i hi]
          · rcases HA3.out with h1 | ⟨k, h1, h2⟩
            · exact .inl h1
            · exact .inr ⟨k, h1, by have h3 := HS2.out; rw [HSZ.out] at h3; have h4 : w2.drew.heap.size = w2.heap.size := rfl; omega⟩
      · have hag : addG xs ⟨x0, x1, x2⟩ = xs.set ((xs.length : Int) - 1).toNat ⟨(rd_T24 xs (xs.length - 1)).f0, (rd_T24 xs (xs.length - 1)).f1, wrap64 ((rd_T24 xs (xs.length - 1)).f2 + x2)⟩ := by
          rw [addG, if_neg h2, if_pos ⟨hn1, hq⟩]
        have HAG := Aside0.mk hag
        have HQ := Aside0.mk hq
        clear hag hq
        go_enter Try.func93, Try.ntmps93
        go_wp2_with fail
        obtain ⟨W1, hW1⟩ : ∃ W, W = w.alloc (.cells #[.int .i64 x0, .int .i64 x1, .int .i64 x2] 24) := ⟨_, rfl⟩
        rw [← hW1]
        have hbx : W1.heap[w.heap.size]? = some (.cells #[.int .i64 x0, .int .i64 x1, .int .i64 x2] 24 (0, 0)) := by rw [hW1]; simpa using heap_alloc_new w _
        have hsz : W1.heap.size = w.heap.size + 1 := by rw [hW1]; simp
        have hkp : ∀ i, i < w.heap.size → W1.heap[i]? = w.heap[i]? := fun i hi => by rw [hW1]; exact Below.heap_alloc _ _ _ hi
        have hO1 : Kd.R k24 24 W1 base ok (.slice A xs.length c) xs := by rw [hW1]; exact Kd.R_alloc HO'.out _
        have hB1 : Below base w0 W1 := by rw [hW1]; exact HB'.out.alloc (by have := HBS'.out; omega) _
        have hb1 : W1.heap[b]? = some (.cells #[.slice A xs.length c] 140 (0, 0)) := (hkp b hblt).trans HBK.out
        clear hW1
        have hcb1 : W1.cell? ⟨b, 0, none⟩ = some (.slice A xs.length c) := (blk_cell hb1 0).trans rfl
        have hfb1 := blk_frozen hb1 0
        have hx0 : W1.cell? ⟨w.heap.size, 0, none⟩ = some (.int .i64 x0) := (blk_cell hbx 0).trans rfl
        have hx1 : W1.cell? ⟨w.heap.size, 1, none⟩ = some (.int .i64 x1) := (blk_cell hbx 1).trans rfl
        have hx2 : W1.cell? ⟨w.heap.size, 2, none⟩ = some (.int .i64 x2) := (blk_cell hbx 2).trans rfl
        have HBX := Aside0.mk hbx
        have HSZ := Aside0.mk hsz
        have HKP := Aside0.mk hkp
        have HO1 := Aside0.mk hO1
        have HB1 := Aside0.mk hB1
        have HBK1 := Aside0.mk hb1
        clear hbx hsz hkp hO1 hB1 hb1 hcb hfb
        obtain ⟨g, cap, hv, hgb, hgl, cells, hgc⟩ := Kd.R_form HO1.out hn1
        injection hv with hv1 _ hv2
        subst hv1 hv2
        obtain ⟨j, hj⟩ : ∃ j : Int, j = (xs.length : Int) - 1 := ⟨_, rfl⟩
        have hi0 : 0 ≤ j := by omega
        have hi1 : j < (xs.length : Int) := by omega
        have hwr : IntKind.i64.wrap ((xs.length : Int) - 1) = j := by rw [hj]; exact IntWalk.i64_in _ (by omega)
        have hwr2 : (xs.length : Int) - 1 = j := hj.symm
        have hwr3 : IntKind.i64.wrap j = j := IntWalk.i64_in _ (by omega)
        have HJ := Aside0.mk hj
        clear hj
        have he := Kd.R_elem HO1.out z24 j hi0 hi1
        obtain ⟨ce, hcl, hM, hcc, hfz⟩ := he
        obtain rfl := k24_openM hM
        have e0 : W1.cell? ⟨g, j.toNat * 3, none⟩ = some (.int .i64 (xs.getD j.toNat z24).f0) := hcc 0 _ rfl
        have e1 : W1.cell? ⟨g, j.toNat * 3 + 1, none⟩ = some (.int .i64 (xs.getD j.toNat z24).f1) := hcc 1 _ rfl
        have e2 : W1.cell? ⟨g, j.toNat * 3 + 2, none⟩ = some (.int .i64 (xs.getD j.toNat z24).f2) := hcc 2 _ rfl
        obtain ⟨y, hy⟩ : ∃ y, y = xs.getD j.toNat z24 := ⟨_, rfl⟩
        rw [← hy] at e0 e1 e2 hM hcc
        have hqy : extent_goesOn.f y.f0 y.f1 y.f2 x0 x1 x2 = some true := by rw [hy, HJ.out]; exact HQ.out
        have HQY := Aside0.mk hqy
        have HY := Aside0.mk hy
        clear hy hqy
        have HCC := Aside0.mk hcc
        have HM := Aside0.mk hM
        have HGC := Aside0.mk hgc
        clear hcc hM hgc hfz hcl
        go_still_tail 11, (by kernel_rfl)
        change wpList _ _ _ _ _ W1.drew
        go_wp2_with (go_at_call 98; refine (extent_goesOn.calls _ _ _ _ _ _ true _ HQY.out).mono ?_; rintro e w2 ⟨rfl, hbw⟩; have HBW := Aside0.mk hbw; clear hbw)
        have hs2 : W1.heap.size ≤ w2.heap.size := HBW.out.size
        have hk2 : ∀ i, i < W1.heap.size → w2.heap[i]? = W1.heap[i]? := fun i hi => HBW.out.block i hi
        have hB2 : Below base w0 w2 := HB1.out.trans ⟨HBW.out.os, HBW.out.tape, HBW.out.output, HBW.out.size, fun k hk => HBW.out.block k (by show k < W1.heap.size; rw [HSZ.out]; have := HBS'.out; omega)⟩
        have hbx2 := (hk2 w.heap.size (by rw [HSZ.out]; omega)).trans HBX.out
        have hb2 := (hk2 b (by rw [HSZ.out]; omega)).trans HBK1.out
        have hO2 : Kd.R k24 24 w2 base ok (.slice (some ⟨g, 0, none⟩) xs.length c) xs := Kd.R_step HO1.out (fun k _ hk => hk2 k hk)
        have hcb2 : w2.cell? ⟨b, 0, none⟩ = some (.slice (some ⟨g, 0, none⟩) xs.length c) := (blk_cell hb2 0).trans rfl
        have hfb2 := blk_frozen hb2 0
        have hy0 : w2.cell? ⟨w.heap.size, 0, none⟩ = some (.int .i64 x0) := (blk_cell hbx2 0).trans rfl
        have hy1 : w2.cell? ⟨w.heap.size, 1, none⟩ = some (.int .i64 x1) := (blk_cell hbx2 1).trans rfl
        have hy2 : w2.cell? ⟨w.heap.size, 2, none⟩ = some (.int .i64 x2) := (blk_cell hbx2 2).trans rfl
        obtain ⟨ce2, hcl2, hM2, hcc2, hfz2⟩ := Kd.R_elem hO2 z24 j hi0 hi1
        rw [← HY.out] at hM2
        obtain rfl := k24_openM hM2
        have f0 : w2.cell? ⟨g, j.toNat * 3, none⟩ = some (.int .i64 y.f0) := hcc2 0 _ rfl
        have f1 : w2.cell? ⟨g, j.toNat * 3 + 1, none⟩ = some (.int .i64 y.f1) := hcc2 1 _ rfl
        have f2 : w2.cell? ⟨g, j.toNat * 3 + 2, none⟩ = some (.int .i64 y.f2) := hcc2 2 _ rfl
        obtain ⟨s, hs⟩ : ∃ s : Int, s = wrap64 (y.f2 + x2) := ⟨_, rfl⟩
        have hsw : IntKind.i64.wrap (y.f2 + x2) = s := by rw [hs]; exact IntWalk.i64_left _
        have hsw2 : wrap64 (y.f2 + x2) = s := hs.symm
        have HSS := Aside0.mk hs
        have HCC2 := Aside0.mk hcc2
        have HK2 := Aside0.mk hk2
        have HS2 := Aside0.mk hs2
        have HB2 := Aside0.mk hB2
        have HO2 := Aside0.mk hO2
        have HBK2 := Aside0.mk hb2
        clear hs hcc2 hM2 hcl2 hfz2 hk2 hs2 hB2 hO2 hbx2 hb2 hcb1 hfb1 hx0 hx1 hx2 e0 e1 e2
        go_wp2_with fail
        go_still_tail 13, (by kernel_rfl)
        change wpList _ _ _ _ _ w2.drew
        refine Kd.R_store k24 (w0 := w0) (W := w2.drew) base rfl rfl 3 (.tmp 37) (.tmp 35) rfl 24 j 2 xs (⟨y.f0, y.f1, s⟩ : S24) (.int .i64 s) [.int .i64 s] [.int .i64 y.f0, .int .i64 y.f1, .int .i64 y.f2] ok (fun _ => False) rfl rfl rfl rfl (by kernel_rfl) (by simp [Value.oneCell']) (Kd.R_drew HO2.out) hi0 hi1 rfl (fun j u hu => HCC2.out j u hu) (Nat.le_refl 3) (k24_mkM _ _ _ (⟨y.f0, y.f1, s⟩ : S24)) (fun _ hk => hk.elim) (below_drew HB2.out) ?_
        intro w3 hO3 hB3 hg3
        have HO3 := Aside0.mk hO3
        have HB3 := Aside0.mk hB3
        have HG3 := Aside0.mk hg3
        clear hO3 hB3 hg3
        go_wp2
        refine bodyPost_ret (results_none rfl _ _ _) rfl ⟨rfl, .slice (some ⟨g, 0, none⟩) xs.length c, blk_grown (w := w2.drew) (w1 := w3) HBK2.out HG3.out (by simpa [Value.ownBlock] using HV'.out), ?_, HB3.out, ?_, ?_, .inl rfl⟩
        · have hyy : y = rd_T24 xs j := HY.out
          rw [HAG.out, ← HJ.out, ← hyy, ← HSS.out]
          exact HO3.out
        · have h1 := HG3.out.size
          have h2 := HS2.out
          rw [HSZ.out] at h2
          have h4 : w2.drew.heap.size = w2.heap.size := rfl
          omega
        · intro i hi hib hiv
          have h2 := HS2.out
          rw [HSZ.out] at h2
          rw [HG3.out.block i (show i < w2.heap.size by omega) (by simpa [Value.ownBlock] using hiv)]
          show w2.heap[i]? = _
          rw [HK2.out i (by rw [HSZ.out]; omega), HKP.out i hi]

end Go.Proofs.Ytkkfkdncddbaeaa.Fn
