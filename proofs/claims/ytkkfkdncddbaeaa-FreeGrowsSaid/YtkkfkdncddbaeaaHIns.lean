-- Told by hand; its numbers filled in by a program of this session.
import Derived.Test.YtkkfkdncddbaeaaFnBase
import Derived.Test.YtkkfkdncddbaeaaHRepl
namespace Go.Proofs.Ytkkfkdncddbaeaa.Fn
open Go.RowKit Go.Proofs.YtkkfkdncddbaeaaW.PrintWords Go.Proofs.YtkkfkdncddbaeaaW.PrintLast Go.Proofs.YtkkfkdncddbaeaaW.PrintMore
attribute [local go_sem] max2_int min2_int max_two min_two max_three min_three max_four min_four   -- for this text's walks alone
set_option linter.unusedVariables false
set_option linter.unusedSimpArgs false

/-! slices.Insert at a row of spans of the caller's own. -/
set_option maxHeartbeats 4000000 in
set_option maxRecDepth 100000 in
theorem ins_end (w0 w : World) (base : Nat) (ok : Nat → Prop) (A : Option Addr) (c : Nat) (xs vs : List S40) (gv : Nat) (cv : Nat) (curv : Array Value) (HO : Kd.R k40 40 w base ok (.slice A xs.length c) xs) (hV : LieL encSpan 2 40 w gv cv curv vs)
    (hB : Below base w0 w) (hbw : base ≤ w.heap.size) (hfr : ∀ k, w.heap.size ≤ k → ok k) (hn : xs.length ≤ 4096) (hm : vs.length ≤ 2) (hm0 : 0 < vs.length) :
    Calls Try.prog 155 #[.slice A xs.length c, .int .i64 (xs.length : Int), .slice (some ⟨gv, 0, none⟩) vs.length cv] w fun e w' => ∃ v' : Value, e = .returned v' ∧ Kd.R k40 40 w' base ok v' (xs ++ vs) ∧ Below base w0 w' := by
  have hu40 := Try.underlying40
  have hmc : Kd.C k40 w (some ⟨gv, 0, none⟩) vs.length vs := (Kd.R_reads' (hV.R (base := 0) (ok := fun _ => True) (Nat.zero_le _) trivial)).2.2
  have hnc : xs.length ≤ c := (Kd.R_reads' HO).2.1
  have hcm : c ≤ 9223372036854775807 := by
    rcases R_lies flatSpan HO with ⟨h1, h2⟩ | ⟨g, cap, h1, h2, h3, h4⟩
    · injection h1 with _ _ h5; omega
    · injection h1 with _ _ h5
      obtain ⟨cur, _, _, _, h6, _⟩ := h4
      unfold maxLen at h6
      omega
  obtain ⟨n, hnn⟩ : ∃ n, n = xs.length := ⟨_, rfl⟩
  obtain ⟨m, hmm⟩ : ∃ m, m = vs.length := ⟨_, rfl⟩
  rw [← hnn] at hn hnc HO
  rw [← hmm] at hm hm0 hmc
  have b1 : (0 : Int) ≤ (n : Int) := by omega
  have b2 : ((m : Int) == 0) = false := by simp; omega
  have b3 : ¬ ((m : Int) = 0) := by omega
  have HO' := Aside0.mk HO
  have HMC := Aside0.mk hmc
  have HB := Aside0.mk hB
  have HX := Aside0.mk (And.intro hbw (And.intro hfr (And.intro hnn hmm)))
  rw [← hnn, ← hmm]
  clear HO hmc hV hB hbw hfr hnn hmm
  go_enter Try.func155, Try.ntmps155
  go_wp2_with (first | ((with_reducible refine gate_builtin (b := .append) (xs := #[.tmp 23, .tmp 24]) rfl ?_); at_builtin; refine Kd.R_append_rows k40 (w0 := w0) base rfl (.tmp 23) (.tmp 24) 54 40 (.agg #[(.int .i64 0), (.int .i64 0)]) 16 rfl Try.underlying54 info40 rfl (by decide) (by omega) (.slice A n c) xs vs _ _ _ ok (fun _ => False) rfl rfl ?aO ?aR (fun _ _ h => h) (fun _ h => h.elim) ?aF ?aB ?aS ?aL ?_; (case aR => exact HMC.out); (case aB => exact HB.out); (case aF => exact HX.out.2.1); (case aO => exact HO'.out); (case aS => exact HX.out.1); (case aL => rw [← HX.out.2.2.1]; omega); intro v1 w3 ho hb hg hat; have HO := Aside0.mk ho; have HB3 := Aside0.mk hb; clear ho hb hg hat))
  all_goals
    go_ret
    exact ⟨_, rfl, HO.out, HB3.out⟩
set_option maxHeartbeats 4000000 in
set_option maxRecDepth 100000 in
theorem ins_mid (w0 w : World) (base g c : Nat) (ok : Nat → Prop) (cur : Array Value) (xs vs : List S40) (gv cv : Nat) (curv : Array Value) (i : Nat) (hL : LieL encSpan 2 40 w g c cur xs) (hLv : LieL encSpan 2 40 w gv cv curv vs) (hgv : gv ≠ g)
    (hB : Below base w0 w) (hbg : base ≤ g) (hok : ok g) (hfr : ∀ k, w.heap.size ≤ k → ok k) (hin : i < xs.length) (hn : xs.length ≤ 4096) (hm1 : vs.length = 1) :
    Calls Try.prog 155 #[.slice (some ⟨g, 0, none⟩) xs.length c, .int .i64 i, .slice (some ⟨gv, 0, none⟩) vs.length cv] w fun e w' => ∃ v' : Value, e = .returned v' ∧ Kd.R k40 40 w' base ok v' (xs.take i ++ vs ++ xs.drop i) ∧ Below base w0 w' := by
  have hu40 := Try.underlying40
  have hnc : xs.length ≤ c := hL.2.2.1
  have hcm : c ≤ 9223372036854775807 := by have := hL.2.2.2.1; unfold maxLen at this; omega
  obtain ⟨n, hnn⟩ : ∃ n, n = xs.length := ⟨_, rfl⟩
  rw [← hnn] at hin hn hnc
  have b1 : (0 : Int) ≤ (i : Int) := by omega
  have b2 : (i : Int) ≤ (n : Int) := by omega
  have hwz : ∀ z : Int, 0 ≤ z → z ≤ 100000 → IntKind.i64.wrap z = z ∧ wrap64 z = z := fun z h1 h2 => ⟨IntWalk.i64_in _ ⟨by omega, by omega⟩, w64 ⟨by omega, by omega⟩⟩
  have hq1 : (n : Int) + 1 ≤ 100000 := by omega
  have hq2 : (i : Int) + 1 ≤ 100000 := by omega
  have hq3 : (0 : Int) ≤ (n : Int) + 1 - (i : Int) := by omega
  have hq4 : (n : Int) + 1 - (i : Int) ≤ 100000 := by omega
  have HW := Aside0.mk (And.intro (hwz ((n : Int) + 1) (by omega) hq1) (And.intro (hwz ((i : Int) + 1) (by omega) hq2) (hwz ((n : Int) + 1 - (i : Int)) hq3 hq4)))
  have hdl1 : 1 ≤ n + 1 - i := by omega
  have hdl2 : n - i ≤ n + 1 - (i + 1) := by omega
  have hdl3 : n - i ≤ n + 1 - i := by omega
  have hdl4 : n + 1 - (i + 1) = n - i := by omega
  have HDL := Aside0.mk (And.intro hdl1 (And.intro hdl2 (And.intro hdl3 hdl4)))
  clear hdl1 hdl2 hdl3 hdl4
  clear hwz hq1 hq2 hq3 hq4
  have b3 : ((i : Int) == (n : Int)) = false := by simp; omega
  have b4 : ¬ ((i : Int) = (n : Int)) := by omega
  have b5 : ¬ (c = i) := by omega
  have b6 : i ≤ n := by omega
  have b7 : (i : Int) ≤ (c : Int) := by omega
  have hx1 : (0 : Int) ≤ (i : Int) + 1 := by omega
  have hx2 : (0 : Int) ≤ (n : Int) + 1 := by omega
  have htn : ((i : Int) + 1).toNat = i + 1 := by omega
  have htn2 : ((n : Int) + 1).toNat = n + 1 := by omega
  have hx3 : (i : Int) + 1 ≤ (n : Int) + 1 := by omega
  have hx4 : (i : Int) ≤ (n : Int) + 1 := by omega
  have HL := Aside0.mk hL
  have HLV := Aside0.mk hLv
  have HB := Aside0.mk hB
  have HOK := Aside0.mk (And.intro hbg (And.intro hok hfr))
  have HNN := Aside0.mk hnn
  have HM1 := Aside0.mk hm1
  rw [← hnn, hm1]
  obtain ⟨i0, hi0', hz0⟩ := Option.map_eq_some_iff.1 info40
  simp only [Prod.mk.injEq] at hz0
  have HI0 := Aside0.mk (And.intro hi0' hz0)
  have hfv : (vs.flatMap encSpan).length = 1 * 2 := by rw [flat_len (enc := encSpan) spanLen, hm1]
  have hfd : ((xs.drop i).flatMap encSpan).length = (n - i) * 2 := by rw [flat_len (enc := encSpan) spanLen, List.length_drop, ← hnn]
  have hxl : (xs.take i).length = i := by rw [List.length_take, ← hnn]; omega
  have hpl : ((xs.take i).flatMap encSpan).length = i * 2 := by rw [flat_len (enc := encSpan) spanLen, hxl]
  have hlen : (xs.take i ++ vs ++ xs.drop i).length = n + 1 := by simp only [List.length_append, hxl, hm1, List.length_drop, ← hnn]; omega
  have hvsrc : ∀ {W : World}, LieL encSpan 2 40 W gv cv curv vs → ∀ t u, (vs.flatMap encSpan)[t]? = some u → W.cell? ((⟨gv, 0, none⟩ : Addr).add t) = some u := fun h t u hu => by have := h.src spanLen 0 t u (by simpa using hu); simpa using this
  by_cases hr : n + 1 > c
  · have hdr : decide ((c : Int) < (n : Int) + 1) = true := decide_eq_true (by omega)
    obtain ⟨G, hG⟩ : ∃ G, G = grownCap w (n + 1) c 40 := ⟨_, rfl⟩
    have hGt : n + 1 ≤ G := by rw [hG]; exact grownCap_ge w _ _ _
    have hGm : G ≤ maxLen := by rw [hG]; exact grownCap_le_maxLen w (n + 1) c 40 (by unfold maxLen; omega)
    obtain ⟨ROW, hROW⟩ : ∃ ROW : Array Value, ROW = ((xs.take i).flatMap encSpan).toArray ++ Builtin.zeroCells (Value.agg #[.int .i64 0, .int .i64 0]).cells (n + 1 - i) ++ Builtin.zeroCells (Value.agg #[.int .i64 0, .int .i64 0]).cells (G - (n + 1)) := ⟨_, rfl⟩
    have hrz : ∀ ty, (Builtin.append_ #[54, 3] ty #[.slice (some ⟨g, 0, none⟩) i c, .int .i64 ((n : Int) + 1 - (i : Int))]).run Try.prog w = .ok (.slice (some ⟨w.heap.size, 0, none⟩) (n + 1) G) (w.drew.alloc (.cells ROW 40)) := fun ty => by
      obtain ⟨hi0', hz0a, hz0b, hz0c⟩ := HI0.out
      have hold : (Builtin.firstCells i0.size i (.slice (some ⟨g, 0, none⟩) i c)).run Try.prog w.drew = .ok ((xs.take i).flatMap encSpan).toArray w.drew := by
        rw [hz0b]
        refine run_firstCells_some w.drew 2 i ⟨g, 0, none⟩ i c ((xs.take i).flatMap encSpan) hpl (fun t u hu => ?_)
        have h1 := (HL.out.cut spanLen i (by rw [← hnn]; exact b6)).src spanLen 0 t u (by simpa using hu)
        simpa using h1
      have e1 : i + (n + 1 - i) = n + 1 := by omega
      have h := Lib.run_append_grow_zeros (P := Try.prog) w 54 3 ty 40 i0 _ .i64 .i64 Try.underlying54 Try.underlying3 hi0' hz0a (some ⟨g, 0, none⟩) i c _ hold (n + 1 - i) (by omega) (by rw [hz0b]; decide) (by omega) (by omega) (by rw [hz0c]; omega) (by
        rw [hz0c, e1]
        exact growslice_fits (by omega) (by omega))
      have e2 : (n : Int) + 1 - (i : Int) = ((n + 1 - i : Nat) : Int) := by omega
      rw [e1] at h
      rw [e2, hROW, hG]
      exact h
    have hROWs : ROW.size = G * 2 := by
      rw [hROW]
      simp only [Array.size_append, List.size_toArray, hpl, Builtin.zeroCells, Array.size_map, Array.size_range, Value.cells, List.size_toArray, List.length_cons, List.length_nil]
      omega
    have hb5 : ¬ (G = i) := by omega
    have hb6 : ¬ (G = i + 1) := by omega
    have hLN : LieL encSpan 2 40 (w.drew.alloc (.cells ROW 40)) w.heap.size G ROW (xs.take i) := by
      refine ⟨blk_new w.drew _, hROWs, by omega, hGm, ?_⟩
      rw [hROW, hxl]
      simp only [Array.toList_append]
      rw [List.append_assoc]
      exact take_app_len _ _ _ hpl
    obtain ⟨N, hN⟩ : ∃ N, N = w.heap.size := ⟨_, rfl⟩
    obtain ⟨W3, hW3⟩ : ∃ W, W = w.drew.alloc (.cells ROW 40) := ⟨_, rfl⟩
    rw [← hW3, ← hN] at hLN
    have hgN : g ≠ N := by have := blk_lt HL.out.1; omega
    have hL3 : LieL encSpan 2 40 W3 g c cur xs := HL.out.same (by rw [hW3]; exact Below.heap_alloc w.drew _ _ (blk_lt HL.out.1))
    have hV3 : LieL encSpan 2 40 W3 gv cv curv vs := HLV.out.same (by rw [hW3]; exact Below.heap_alloc w.drew _ _ (blk_lt HLV.out.1))
    have hBN : base ≤ N := by have h1 := HOK.out.1; have h2 := blk_lt HL.out.1; omega
    have hB3 : Below base w0 W3 := by rw [hW3]; exact (below_drew HB.out).alloc (by show base ≤ w.heap.size; rw [← hN]; exact hBN) _
    have hcpA : ∀ ty dl, Nat.min 1 dl = 1 → (Builtin.copy_ #[54, 54] ty #[.slice (some ⟨N, i * 2, none⟩) dl (G - i), .slice (some ⟨gv, 0, none⟩) 1 cv]).run Try.prog W3 = .ok (goInt (Nat.min 1 dl)) (W3.setRow N (ROW.toList.take (i * 2) ++ vs.flatMap encSpan ++ ROW.toList.drop (i * 2 + (vs.flatMap encSpan).length)).toArray) := fun ty dl hdl =>
      run_copy_k W3 54 54 ty 40 N (i * 2) dl (G - i) ⟨gv, 0, none⟩ 1 cv ROW 40 (vs.flatMap encSpan) 2 Try.underlying54 Try.sizeOf40 hLN.1 (by rw [hdl]; exact hfv) (hvsrc hV3) (by rw [hfv, hROWs]; omega) (flat_one vs)
    have hLN1 := hLN.put spanLen (ys := vs) (i := i) (by omega) (by rw [hm1]; omega)
    obtain ⟨ROW1, hROW1⟩ : ∃ R : Array Value, R = (ROW.toList.take (i * 2) ++ vs.flatMap encSpan ++ ROW.toList.drop (i * 2 + (vs.flatMap encSpan).length)).toArray := ⟨_, rfl⟩
    rw [← hROW1] at hcpA hLN1
    obtain ⟨W4, hW4⟩ : ∃ W, W = W3.setRow N ROW1 := ⟨_, rfl⟩
    rw [← hW4] at hcpA hLN1
    have e1 : (xs.take i).take i = xs.take i := by rw [List.take_take, Nat.min_self]
    rw [e1] at hLN1
    have hL4 : LieL encSpan 2 40 W4.drew g c cur xs := hL3.same (by rw [hW4]; exact setRow_other W3 N g ROW1 hgN)
    have hLN1d : LieL encSpan 2 40 W4.drew N G ROW1 (xs.take i ++ vs) := hLN1.same rfl
    have hcpB : ∀ ty dl, Nat.min (n - i) dl = n - i → (Builtin.copy_ #[54, 54] ty #[.slice (some ⟨N, (i + 1) * 2, none⟩) dl (G - (i + 1)), .slice (some ⟨g, i * 2, none⟩) (n - i) (c - i)]).run Try.prog W4.drew = .ok (goInt (Nat.min (n - i) dl)) (W4.drew.setRow N (ROW1.toList.take ((i + 1) * 2) ++ (xs.drop i).flatMap encSpan ++ ROW1.toList.drop ((i + 1) * 2 + ((xs.drop i).flatMap encSpan).length)).toArray) := fun ty dl hdl =>
      run_copy_k W4.drew 54 54 ty 40 N ((i + 1) * 2) dl (G - (i + 1)) ⟨g, i * 2, none⟩ (n - i) (c - i) ROW1 40 ((xs.drop i).flatMap encSpan) 2 Try.underlying54 Try.sizeOf40 hLN1d.1 (by rw [hdl]; exact hfd) (fun t u hu => hL4.src spanLen i t u hu) (by rw [hfd, hLN1d.2.1]; omega) (flat_one _)
    have hl1 : (xs.take i ++ vs).length = i + 1 := by rw [List.length_append, hxl, hm1]
    have hLN2 := hLN1d.put spanLen (ys := xs.drop i) (i := i + 1) (by rw [hl1]; exact Nat.le_refl _) (by rw [List.length_drop, ← hnn]; omega)
    obtain ⟨ROW2, hROW2⟩ : ∃ R : Array Value, R = (ROW1.toList.take ((i + 1) * 2) ++ (xs.drop i).flatMap encSpan ++ ROW1.toList.drop ((i + 1) * 2 + ((xs.drop i).flatMap encSpan).length)).toArray := ⟨_, rfl⟩
    rw [← hROW2] at hcpB hLN2
    have e2 : (xs.take i ++ vs).take (i + 1) = xs.take i ++ vs := List.take_of_length_le (by rw [hl1]; exact Nat.le_refl _)
    rw [e2] at hLN2
    have hRes := hLN2.R (base := base) (ok := ok) hBN (HOK.out.2.2 N (by rw [hN]; exact Nat.le_refl _))
    rw [hlen] at hRes
    have hB5 : Below base w0 (W4.drew.setRow N ROW2) := setRow_below (below_drew (by rw [hW4]; exact setRow_below hB3 hBN ROW1)) hBN ROW2
    have HRES := Aside0.mk (And.intro hRes hB5)
    have hx5 : (i : Int) ≤ (G : Int) := by omega
    have hcpA2 := fun ty => hcpA ty (n + 1 - i) (Nat.min_eq_left HDL.out.1)
    have hcpB2 := fun ty => hcpB ty (n + 1 - (i + 1)) (Nat.min_eq_left HDL.out.2.1)
    have hcpB3 := fun ty => hcpB ty (n - i) (Nat.min_eq_left (Nat.le_refl _))
    rw [← hN, ← hW3] at hrz
    clear hROW1 hROW2 hW3 hW4 hLN hLN1 hLN1d hLN2 hL3 hV3 hL4 hB3 hB5 hRes e1 e2 hlen hpl hxl hROW hROWs hG hgN hN hBN hGm hcpA hcpB hl1 hfv hfd hvsrc hnn hm1 hi0' hz0 hL hLv hB hbg hok hfr hgv hin
    obtain ⟨⟨hw1, hw1'⟩, ⟨hw2, hw2'⟩, ⟨hw3, hw3'⟩⟩ := HW.out
    go_enter Try.func155, Try.ntmps155
    go_wp2_with (first
      | (at_builtin; refine Lib.wpList_append_run _ rfl _ _ _ _ rfl _ _ rfl rfl _ _ (hrz _) ?_)
      | (at_builtin; refine wpList_copy_runI _ rfl _ _ 54 54 rfl _ _ rfl rfl (hcpA2 _) ?_))
    go_still_tail 8, (by kernel_rfl)
    change wpList _ _ _ _ _ W4.drew
    refine wpList_copy_runI W4.drew rfl _ _ 54 54 rfl _ _ rfl rfl (by first | exact hcpB2 _ | exact hcpB3 _) ?_
    go_wp2
    go_ret
    exact ⟨_, rfl, HRES.out.1, HRES.out.2⟩
  · have hdr : decide ((c : Int) < (n : Int) + 1) = false := decide_eq_false (by omega)
    have hb6 : ¬ (c = i + 1) := by omega
    have hx5 : (n : Int) + 1 ≤ (c : Int) := by omega
    have hcv0 : cur.size ≠ 0 := by rw [HL.out.2.1]; omega
    have hov : ∀ lb cb, (callFunc 156 #[.slice (some ⟨gv, 0, none⟩) 1 cv, .slice (some ⟨g, (i + 1) * 2, none⟩) lb cb]).run Try.prog w = .ok (.value (.bool false)) w := fun lb cb => by
      rw [run_callFunc_extern Try.func156 (by kernel_rfl) (by kernel_rfl) (by kernel_rfl) (e := Extern.SlicesOverlaps.overlaps #[54, 54] #[4]) (by kernel_rfl),
        Lib.run_overlaps_apart w 54 4 40 Try.underlying54 2 Try.sizeOf40 ⟨gv, 0, none⟩ ⟨g, (i + 1) * 2, none⟩ 1 cv lb cb hgv 40 40 curv.size cur.size (by simp [World.shape?, HLV.out.1]) (by simp [World.shape?, HL.out.1]) hcv0 (blk_frozen HLV.out.1 _) (blk_frozen HLV.out.1 _)]
      rfl
    have hcp1 : ∀ ty dl sl, Nat.min sl dl = n - i → (Builtin.copy_ #[54, 54] ty #[.slice (some ⟨g, (i + 1) * 2, none⟩) dl (c - (i + 1)), .slice (some ⟨g, i * 2, none⟩) sl (c - i)]).run Try.prog w.drew = .ok (goInt (Nat.min sl dl)) (w.drew.setRow g (cur.toList.take ((i + 1) * 2) ++ (xs.drop i).flatMap encSpan ++ cur.toList.drop ((i + 1) * 2 + ((xs.drop i).flatMap encSpan).length)).toArray) := fun ty dl sl hdl =>
      run_copy_k w.drew 54 54 ty 40 g ((i + 1) * 2) dl (c - (i + 1)) ⟨g, i * 2, none⟩ sl (c - i) cur 40 ((xs.drop i).flatMap encSpan) 2 Try.underlying54 Try.sizeOf40 HL.out.1 (by rw [hdl]; exact hfd) (fun t u hu => (HL.out.same (w1 := w.drew) rfl).src spanLen i t u hu) (by rw [hfd, HL.out.2.1]; omega) (flat_one _)
    have hxl1 : (xs.take (i + 1)).length = i + 1 := by rw [List.length_take, ← hnn]; omega
    have hdl : (xs.drop i).length = n - i := by rw [List.length_drop, hnn]
    have hL3 := (HL.out.same (w1 := w.drew) rfl).put spanLen (ys := xs.drop i) (i := i + 1) (by rw [← hnn]; omega) (by rw [hdl]; omega)
    obtain ⟨cur1, hcur1⟩ : ∃ R : Array Value, R = (cur.toList.take ((i + 1) * 2) ++ (xs.drop i).flatMap encSpan ++ cur.toList.drop ((i + 1) * 2 + ((xs.drop i).flatMap encSpan).length)).toArray := ⟨_, rfl⟩
    rw [← hcur1] at hcp1 hL3
    have hB3 : Below base w0 (w.drew.setRow g cur1) := setRow_below (below_drew HB.out) HOK.out.1 cur1
    have hV3 : LieL encSpan 2 40 (w.drew.setRow g cur1) gv cv curv vs := HLV.out.same (setRow_other w.drew g gv cur1 hgv)
    obtain ⟨W3, hW3⟩ : ∃ W, W = w.drew.setRow g cur1 := ⟨_, rfl⟩
    rw [← hW3] at hcp1 hL3 hB3 hV3
    have hcp2 : ∀ ty dl, Nat.min 1 dl = 1 → (Builtin.copy_ #[54, 54] ty #[.slice (some ⟨g, i * 2, none⟩) dl (c - i), .slice (some ⟨gv, 0, none⟩) 1 cv]).run Try.prog W3 = .ok (goInt (Nat.min 1 dl)) (W3.setRow g (cur1.toList.take (i * 2) ++ vs.flatMap encSpan ++ cur1.toList.drop (i * 2 + (vs.flatMap encSpan).length)).toArray) := fun ty dl hdl =>
      run_copy_k W3 54 54 ty 40 g (i * 2) dl (c - i) ⟨gv, 0, none⟩ 1 cv cur1 40 (vs.flatMap encSpan) 2 Try.underlying54 Try.sizeOf40 hL3.1 (by rw [hdl]; exact hfv) (hvsrc hV3) (by rw [hfv, hL3.2.1]; omega) (flat_one vs)
    have hL4 := hL3.put_mid spanLen (ys := vs) (i := i) (by rw [List.length_append, hxl1, hm1]; omega)
    have e3 : (xs.take (i + 1) ++ xs.drop i).take i = xs.take i := by rw [List.take_append, List.take_take, Nat.min_eq_left (by omega), hxl1]; simp [show i - (i + 1) = 0 by omega]
    have e4 : (xs.take (i + 1) ++ xs.drop i).drop (i + vs.length) = xs.drop i := by rw [hm1]; exact drop_app_len _ _ _ hxl1
    rw [e3, e4] at hL4
    obtain ⟨cur2, hcur2⟩ : ∃ R : Array Value, R = (cur1.toList.take (i * 2) ++ vs.flatMap encSpan ++ cur1.toList.drop (i * 2 + (vs.flatMap encSpan).length)).toArray := ⟨_, rfl⟩
    rw [← hcur2] at hcp2 hL4
    have hres := hL4.R (base := base) (ok := ok) HOK.out.1 HOK.out.2.1
    rw [hlen] at hres
    have HRES := Aside0.mk (And.intro hres (setRow_below hB3 HOK.out.1 cur2))
    have hcpA2 := fun ty => hcp1 ty (n - i) (n + 1 - i) (Nat.min_eq_right HDL.out.2.2.1)
    have hcpA3 := fun ty => hcp1 ty (n + 1 - (i + 1)) (n + 1 - i) (by rw [HDL.out.2.2.2]; exact Nat.min_eq_right HDL.out.2.2.1)
    have hcpB2 := fun ty => hcp2 ty (n + 1 - i) (Nat.min_eq_left HDL.out.1)
    clear hcur1 hcur2 hW3 hL3 hB3 hV3 hL4 e3 e4 hlen hres hxl hdl hcv0 hxl1 hcp1 hcp2 hfv hfd hvsrc hnn hm1 hi0' hz0 hL hLv hB hbg hok hfr hgv hin hpl
    obtain ⟨⟨hw1, hw1'⟩, ⟨hw2, hw2'⟩, ⟨hw3, hw3'⟩⟩ := HW.out
    go_enter Try.func155, Try.ntmps155
    go_wp2_with (simp only [hov])
    go_still_tail 8, (by kernel_rfl)
    change wpList _ _ _ _ _ w.drew
    refine wpList_copy_runI w.drew rfl _ _ 54 54 rfl _ _ rfl rfl (by first | exact hcpA2 _ | exact hcpA3 _) ?_
    go_wp2_with (at_builtin; refine wpList_copy_runI _ rfl _ _ 54 54 rfl _ _ rfl rfl (hcpB2 _) ?_)
    go_ret
    exact ⟨_, rfl, HRES.out.1, HRES.out.2⟩

end Go.Proofs.Ytkkfkdncddbaeaa.Fn
