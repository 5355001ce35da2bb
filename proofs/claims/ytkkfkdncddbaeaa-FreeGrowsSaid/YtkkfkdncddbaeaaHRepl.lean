-- Told by hand; its numbers filled in by a program of this session.
import Derived.Test.YtkkfkdncddbaeaaFnBase
import Derived.Test.YtkkfkdncddbaeaaHNums
import Derived.Test.YtkkfkdncddbaeaaHRows2
import Derived.Test.YtkkfkdncddbaeaaHSortSpan
import Derived.IntWalk
import Derived.Deep.RegionLaw
import Derived.StillTailTactics
namespace Go.Proofs.Ytkkfkdncddbaeaa.Fn
open Go.RowKit Go.Proofs.YtkkfkdncddbaeaaW.PrintWords Go.Proofs.YtkkfkdncddbaeaaW.PrintLast Go.Proofs.YtkkfkdncddbaeaaW.PrintMore
attribute [local go_sem] max2_int min2_int max_two min_two max_three min_three max_four min_four   -- for this text's walks alone
set_option linter.unusedVariables false
set_option linter.unusedSimpArgs false

/-! slices.Replace and slices.Insert at a row of spans of the caller's own. -/
/-- The values that come in: none, or a row in another block. -/
def SrcV (w : World) (v : Value) (vs : List S40) (g : Nat) : Prop :=
  (v = .slice none 0 0 ∧ vs = []) ∨ ∃ gv cv curv, v = .slice (some ⟨gv, 0, none⟩) vs.length cv ∧ LieL encSpan 2 40 w gv cv curv vs ∧ gv ≠ g
theorem spanLen (x : S40) : (encSpan x).length = 2 := rfl
theorem flat_one (l : List S40) : ∀ v ∈ l.flatMap encSpan, v.oneCell' = true := by
  intro v hv
  obtain ⟨x, _, hx⟩ := List.mem_flatMap.1 hv
  exact flatSpan.one x v hx
/-- A row known by its block, as a row of the caller's own. -/
theorem LieL.R {w : World} {g cap : Nat} {cur : Array Value} {xs : List S40} {base : Nat} {ok : Nat → Prop} (h : LieL encSpan 2 40 w g cap cur xs) (hb : base ≤ g) (hg : ok g) : Kd.R k40 40 w base ok (.slice (some ⟨g, 0, none⟩) xs.length cap) xs :=
  R_of_lies flatSpan hb hg (h.to spanLen)
theorem LieL.of_own {w : World} {g c n base : Nat} {xs : List S40} (h : w.ownsRow base 40 2 (.slice (some ⟨g, 0, none⟩) n c) n (xs.flatMap encSpan)) : n = xs.length ∧ ∃ cur, LieL encSpan 2 40 w g c cur xs := by
  obtain ⟨h1, h2⟩ := h
  rw [flat_len (enc := encSpan) spanLen] at h1
  have hn : n = xs.length := by omega
  subst hn
  rcases h2 with ⟨h3, _⟩ | ⟨g', cap, cur, h3, h4, h5, h6, h7, h8, h9⟩
  · cases h3
  · injection h3 with h10 _ h11
    injection h10 with h10
    injection h10 with h10
    subst h10 h11
    exact ⟨rfl, cur, h5, h8, h6, h7, h9⟩
theorem LieL.own {w : World} {g c base : Nat} {cur : Array Value} {xs : List S40} (h : LieL encSpan 2 40 w g c cur xs) (hb : base ≤ g) : w.ownsRow base 40 2 (.slice (some ⟨g, 0, none⟩) xs.length c) xs.length (xs.flatMap encSpan) :=
  ⟨flat_len (enc := encSpan) spanLen xs, .inr ⟨g, c, cur, rfl, hb, h.1, h.2.2.1, h.2.2.2.1, h.2.1, h.2.2.2.2⟩⟩
theorem take_three {β : Type} (a b c : List β) (n : Nat) (h : a.length + b.length = n) : (a ++ b ++ c).take n = a ++ b := take_app_len _ _ _ (by rw [List.length_append]; exact h)
theorem drop_three {β : Type} (xs vs : List β) (i j : Nat) (hi : i ≤ xs.length) (h : i + vs.length ≤ j) : (xs.take i ++ vs ++ xs.drop (i + vs.length)).drop j = xs.drop j := by
  have h1 : (xs.take i ++ vs).length = i + vs.length := by rw [List.length_append, List.length_take]; omega
  rw [List.drop_append, List.drop_of_length_le (by omega), h1, List.nil_append, List.drop_drop]
  congr 1; omega
section
open Go.Lib
variable {P : Program}
theorem wpList_clear_run (w : World) {ops : Array Oper} {rest : List Oper} {o : Oper} {a : Act} {Q : Exit → Act → World → Prop} (hgd : o.guard = none) (s : Operand) (t : TypeId)
    (ho : o.op = .call { callee := .builtin .clear, args := #[s], argTypes := #[t] }) (u : Value) (hs : a.eval s = u) {v' : Value} {w' : World}
    (hr : (Builtin.clear_ #[t] o.type #[u]).run P w = .ok v' w') (h : wpList P ops Q rest (a.put o.dst v') w') : wpList P ops Q (o :: rest) a w := by
  refine wpList_plain hgd fun K hK => ?_
  unfold Oper.wp execOp
  simp only [ho, resolve, invoke, builtin, Sem.run_bind, Sem.run_pure, Result.andThen_ok, List.map_toArray, List.map_cons, List.map_nil, hs, hr]
  exact hK _ _ h
end
set_option maxHeartbeats 4000000 in
set_option maxRecDepth 100000 in
theorem repl_span (w0 w : World) (base g c : Nat) (ok : Nat → Prop) (cur : Array Value) (xs vs : List S40) (v : Value) (i j : Nat) (hL : LieL encSpan 2 40 w g c cur xs) (hV : SrcV w v vs g)
    (hB : Below base w0 w) (hbg : base ≤ g) (hok : ok g) (hfr : ∀ k, w.heap.size ≤ k → ok k) (hij : i < j) (hjn : j ≤ xs.length) (hn : xs.length ≤ 4096) (hm : vs.length ≤ 2) (hm2 : vs.length = 2 → j = i + 1) :
    Calls Try.prog 142 #[.slice (some ⟨g, 0, none⟩) xs.length c, .int .i64 i, .int .i64 j, v] w fun e w' => ∃ v' : Value, e = .returned v' ∧ Kd.R k40 40 w' base ok v' (xs.take i ++ vs ++ xs.drop j) ∧ Below base w0 w' := by
  have hu40 := Try.underlying40
  have hus := Try.underlying54
  have hsz : ∀ w, (Go.sizeOf 40).run Try.prog w = .ok 2 w := Try.sizeOf40
  have hnc : xs.length ≤ c := hL.2.2.1
  have hcm : c ≤ 9223372036854775807 := by have := hL.2.2.2.1; unfold maxLen at this; omega
  obtain ⟨n, hnn⟩ : ∃ n, n = xs.length := ⟨_, rfl⟩
  obtain ⟨m, hmm⟩ : ∃ m, m = vs.length := ⟨_, rfl⟩
  rw [← hmm] at hm hm2
  rw [← hnn] at hjn hn hnc
  have hi0 : (0 : Int) ≤ (i : Int) := by omega
  have b1 : (i : Int) ≤ (j : Int) := by omega
  have b2 : (j : Int) ≤ (n : Int) := by omega
  have b2c : (j : Int) ≤ (c : Int) := by omega
  have b1c : (i : Int) ≤ (c : Int) := by omega
  have b3 : ((i : Int) == (j : Int)) = false := by simp; omega
  have b4 : ¬ ((i : Int) = (j : Int)) := by omega
  have b5 : ¬ (c = i) := by omega
  have b6 : i ≤ n := by omega
  have HL := Aside0.mk hL
  have HB := Aside0.mk hB
  have HOK := Aside0.mk (And.intro hbg (And.intro hok hfr))
  rw [← hnn]
  obtain ⟨i0, hi0', hz0⟩ := Option.map_eq_some_iff.1 info40
  simp only [Prod.mk.injEq] at hz0
  have HI0 := Aside0.mk (And.intro hi0' hz0)
  clear hL hB hbg hok hfr hi0' hz0
  have hVV : ∃ (ao : Option Addr) (cv : Nat), v = .slice ao m cv ∧ (ao = none → m = 0 ∧ cv = 0) ∧ ∀ ad, ao = some ad → ∃ gv curv, ad = ⟨gv, 0, none⟩ ∧ LieL encSpan 2 40 w gv cv curv vs ∧ gv ≠ g := by
    rcases hV with ⟨rfl, rfl⟩ | ⟨gv, cv, curv, rfl, hLv, hgv⟩
    · exact ⟨none, 0, by rw [hmm]; rfl, fun _ => ⟨by rw [hmm]; rfl, rfl⟩, fun ad h => (by cases h)⟩
    · exact ⟨some ⟨gv, 0, none⟩, cv, by rw [hmm], fun h => (by cases h), fun ad h => by injection h with h; exact ⟨gv, curv, h.symm, hLv, hgv⟩⟩
  obtain ⟨ao, cv, rfl, hao0, hao⟩ := hVV
  have HAO0 := Aside0.mk hao0
  have HAO := Aside0.mk hao
  have hmc : Kd.C k40 w ao m vs := by
    cases ao with
    | none =>
      have h0 := (hao0 rfl).1
      have hv0 : vs = [] := List.eq_nil_of_length_eq_zero (by omega)
      subst hv0
      rw [h0]
      exact Kd.C_nil k40 w
    | some ad =>
      obtain ⟨gv, curv, rfl, hLv, _⟩ := hao ad rfl
      rw [hmm]
      exact (Kd.R_reads' (hLv.R (base := 0) (ok := fun _ => True) (Nat.zero_le _) trivial)).2.2
  have HMC := Aside0.mk hmc
  clear hV hao0 hao hmc
  · by_cases hjn' : j = n
    · have hdj : xs.drop j = [] := List.drop_of_length_le (by omega)
      have b7 : ((j : Int) == (n : Int)) = true := by simp; omega
      have hxl : (xs.take i).length = i := by rw [List.length_take]; omega
      have HDJ := Aside0.mk hdj
      have HXL := Aside0.mk hxl
      have HMM := Aside0.mk hmm
      have HNN := Aside0.mk hnn
      have hLi := HL.out.cut spanLen i (by omega)
      by_cases hlt : i + m < n
      · have hbd : decide ((i : Int) + (m : Int) < (n : Int)) = true := decide_eq_true (by omega)
        have hb6 : ¬ (c = i + m) := by omega
        have hx1 : (0 : Int) ≤ (i : Int) + (m : Int) := by omega
        have hx2 : (i : Int) + (m : Int) ≤ (n : Int) := by omega
        have htn : ((i : Int) + (m : Int)).toNat = i + m := by omega
        have hap : ∃ w1 cur1, (∀ ty, (Builtin.append_ #[54, 54] ty #[.slice (some ⟨g, 0, none⟩) i c, .slice ao m cv]).run Try.prog w = .ok (.slice (some ⟨g, 0, none⟩) (i + m) c) w1) ∧ LieL encSpan 2 40 w1 g c cur1 (xs.take i ++ vs) ∧ Below base w0 w1 := by
          obtain ⟨hi0', hz0a, hz0b, hz0c⟩ := HI0.out
          have hown := hLi.own HOK.out.1
          rw [hxl] at hown
          cases ao with
          | none =>
            obtain ⟨hm0, hc0⟩ := HAO0.out rfl
            have hv0 : vs = [] := List.eq_nil_of_length_eq_zero (by rw [← hmm]; exact hm0)
            subst hv0 hc0
            rw [hm0]
            refine ⟨w, cur, fun ty => ?_, by simpa using hLi, HB.out⟩
            have hrun := run_append_owned_none (P := Try.prog) w base 54 ty 40 i0 2 Try.underlying54 hi0' _ i _ hown
            exact hrun
          | some ad =>
            obtain ⟨gv, curv, rfl, hLv, hgv⟩ := HAO.out ad rfl
            obtain ⟨w', hrun, r1, r2⟩ := run_append_fits (P := Try.prog) w base 54 54 40 i0 2 Try.underlying54 hi0' hz0b g i c _ hown ⟨gv, 0, none⟩ m cv (vs.flatMap encSpan) (by rw [flat_len (enc := encSpan) spanLen, hmm]) (fun t u hu => by have := hLv.src spanLen 0 t u (by simpa using hu); simpa using this) (flat_one vs) (by omega)
            rw [← List.flatMap_append] at r1
            obtain ⟨_, cur1, hL1⟩ := LieL.of_own r1
            refine ⟨w', cur1, fun ty => hrun, hL1, ⟨r2.os.trans HB.out.os, r2.tape.trans HB.out.tape, r2.output.trans HB.out.output, Nat.le_trans HB.out.size r2.size, fun k hk => ?_⟩⟩
            have h1 := HOK.out.1
            have h2 := blk_lt HL.out.1
            rw [r2.block k (by omega) (by intro h; injection h with h; omega)]
            exact HB.out.block k hk
        obtain ⟨w1, cur1, hrun, hL1, hB1⟩ := hap
        have hl1 : (xs.take i ++ vs).length = i + m := by rw [List.length_append, hxl, hmm]
        obtain ⟨zs, hzl, hclr⟩ := run_clear_k (P := Try.prog) w1 54 40 0 (.agg #[.int .i64 0, .int .i64 0]) Try.underlying54 Try.zeroValue40 g ((i + m) * 2) (n - (i + m)) (c - (i + m)) cur1 40 hL1.1 (by rw [hL1.2.1]; show (i + m) * 2 + (n - (i + m)) * 2 ≤ c * 2; omega) (by intro u hu; simp [Value.cells] at hu; rw [hu]; rfl) (by omega)
        obtain ⟨cur3, hcur3⟩ : ∃ R : Array Value, R = (cur1.toList.take ((i + m) * 2) ++ zs ++ cur1.toList.drop ((i + m) * 2 + zs.length)).toArray := ⟨_, rfl⟩
        rw [← hcur3] at hclr
        have hc2l : (cur1.toList.take ((i + m) * 2)).length = (i + m) * 2 := by
          rw [List.length_take, (show cur1.toList.length = cur1.size from Array.length_toList), hL1.2.1]
          omega
        have hzl2 : zs.length = (n - (i + m)) * 2 := hzl
        have hL5 := hL1.behind (cur' := cur3) ((i + m) * 2) (by rw [hl1]; exact Nat.le_refl _) (by rw [hcur3, List.size_toArray, List.length_append, List.length_append, hc2l, List.length_drop, (show cur1.toList.length = cur1.size from Array.length_toList), hL1.2.1, hzl2]; omega) (by rw [hcur3, List.append_assoc]; exact take_app_len _ _ _ hc2l)
        have hres := hL5.R (base := base) (ok := ok) HOK.out.1 HOK.out.2.1
        rw [hl1] at hres
        have HRES := Aside0.mk (And.intro hres (setRow_below hB1 HOK.out.1 cur3))
        clear hcur3 hc2l hzl hzl2 hL5 hres hl1 hL1 hB1 hLi hdj hxl hm2 hnn hmm hsz
        go_enter Try.func142, Try.ntmps142
        go_wp2_with (first
          | (at_builtin; refine Lib.wpList_append_run _ rfl _ _ _ _ rfl _ _ rfl rfl _ _ (hrun _) ?_)
          | (at_builtin; refine wpList_clear_run _ rfl _ 54 rfl _ rfl hclr ?_))
        go_ret
        refine ⟨_, rfl, ?_, HRES.out.2⟩
        have h := HRES.out.1
        rw [HDJ.out, List.append_nil]
        exact h
      · have hbd : decide ((i : Int) + (m : Int) < (n : Int)) = false := decide_eq_false (by omega)
        have hRi : Kd.R k40 40 w base ok (.slice (some ⟨g, 0, none⟩) i c) (xs.take i) := by
          have h := hLi.R (base := base) (ok := ok) HOK.out.1 HOK.out.2.1
          rw [hxl] at h
          exact h
        have HRI := Aside0.mk hRi
        clear hLi hdj hxl hm2 hnn hmm hsz hRi
        go_enter Try.func142, Try.ntmps142
        go_wp2_with (first | ((with_reducible refine gate_builtin (b := .append) (xs := #[.tmp 32, .tmp 33]) rfl ?_); at_builtin; refine Kd.R_append_rows k40 (w0 := w0) base rfl (.tmp 32) (.tmp 33) 54 40 (.agg #[(.int .i64 0), (.int .i64 0)]) 16 rfl Try.underlying54 info40 rfl (by decide) (by omega) (.slice (some ⟨g, 0, none⟩) i c) (xs.take i) vs _ _ _ ok (fun _ => False) rfl rfl ?aO ?aR (fun _ _ h => h) (fun _ h => h.elim) ?aF ?aB ?aS ?aL ?_; (case aR => exact HMC.out); (case aB => exact HB.out); (case aF => exact HOK.out.2.2); (case aO => exact HRI.out); (case aS => have h1 := HOK.out.1; have h2 := blk_lt HL.out.1; omega); (case aL => rw [HXL.out]; omega); intro v1 w3 ho hb hg hat; have hl3 : (xs.take i ++ vs).length = i + m := (by rw [List.length_append, HXL.out, HMM.out]); obtain ⟨A3, c3, hv3⟩ := Kd.R_slice ho; rw [hl3] at hv3; subst hv3; have HO := Aside0.mk ho; have HB3 := Aside0.mk hb; clear ho hb hg hat hl3))
        go_ret
        refine ⟨_, rfl, ?_, HB3.out⟩
        rw [HDJ.out, List.append_nil]
        exact HO.out
    · have hmv : ∀ h : m ≠ 0, ∃ gv curv, ao = some ⟨gv, 0, none⟩ ∧ LieL encSpan 2 40 w gv cv curv vs ∧ gv ≠ g := by
        intro h
        cases ao with
        | none => exact absurd (HAO0.out rfl).1 h
        | some ad =>
          obtain ⟨gv, curv, rfl, h1, h2⟩ := HAO.out ad rfl
          exact ⟨gv, curv, rfl, h1, h2⟩
      have HMV := Aside0.mk hmv
      clear hmv
      have b7 : ((j : Int) == (n : Int)) = false := by simp; omega
      have b8 : ¬ ((j : Int) = (n : Int)) := by omega
      have b9 : ¬ (c = j) := by omega
      have hw1 : IntKind.i64.wrap ((i : Int) + (m : Int)) = (i : Int) + (m : Int) := by rw [IntKind.wrap_i64]; omega
      have hw1' : wrap64 ((i : Int) + (m : Int)) = (i : Int) + (m : Int) := w64 (by omega)
      obtain ⟨tot, htot⟩ : ∃ tot : Nat, tot = i + m + (n - j) := ⟨_, rfl⟩
      have et : (i : Int) + (m : Int) + ((n - j : Nat) : Int) = (tot : Int) := by omega
      have en : ((n - j : Nat) : Int) = (n : Int) - (j : Int) := by omega
      have ht4 : (tot : Int) ≤ 8192 := by omega
      have hw2 : IntKind.i64.wrap ((i : Int) + (m : Int) + ((n - j : Nat) : Int)) = (tot : Int) := by rw [et]; exact IntWalk.i64_in _ (by omega)
      have hw2' : wrap64 ((i : Int) + (m : Int) + ((n - j : Nat) : Int)) = (tot : Int) := by rw [et]; exact w64 (by omega)
      have hw3 : IntKind.i64.wrap ((i : Int) + (m : Int) + ((n : Int) - (j : Int))) = (tot : Int) := by rw [← en]; exact hw2
      have hw3' : wrap64 ((i : Int) + (m : Int) + ((n : Int) - (j : Int))) = (tot : Int) := by rw [← en]; exact hw2'
      clear et en ht4
      have HT := Aside0.mk htot
      have HM2 := Aside0.mk hm2
      have HNN := Aside0.mk hnn
      have HMM := Aside0.mk hmm
      have hmlen : m ≤ 9223372036854775807 := by omega
      clear htot hm2 hnn hmm hsz
      go_enter Try.func142, Try.ntmps142
      go_wp2_with fail
      go_quiet (fail)
      obtain ⟨W2, hW2⟩ : ∃ W, W = w.drewN nq := ⟨_, rfl⟩
      rw [← hW2]
      have HL2 := Aside0.mk (show LieL encSpan 2 40 W2 g c cur xs by rw [hW2]; exact HL.out.same rfl)
      have HMV2 := Aside0.mk (show ∀ h : m ≠ 0, ∃ gv curv, ao = some ⟨gv, 0, none⟩ ∧ LieL encSpan 2 40 W2 gv cv curv vs ∧ gv ≠ g by rw [hW2]; exact HMV.out)
      have HB2 := Aside0.mk (show Below base w0 W2 by rw [hW2]; exact pw_below_drewN HB.out nq)
      have HSZ2 := Aside0.mk (show W2.heap.size = w.heap.size by rw [hW2]; rfl)
      clear hW2
      have hmin1 : Nat.min m (tot - i) = m := Nat.min_eq_left (by have := HT.out; omega)
      have hmin2 : Nat.min (n - j) (tot - (i + m)) = n - j := Nat.min_eq_left (by have := HT.out; omega)
      have hfv : (vs.flatMap encSpan).length = m * 2 := by rw [flat_len (enc := encSpan) spanLen, HMM.out]
      have hfd : ((xs.drop j).flatMap encSpan).length = (n - j) * 2 := by rw [flat_len (enc := encSpan) spanLen, List.length_drop, HNN.out]
      have htn : ((i : Int) + (m : Int)).toNat = i + m := by omega
      have hx1 : (0 : Int) ≤ (i : Int) + (m : Int) := by omega
      have hx2 : (i : Int) ≤ (tot : Int) := by have := HT.out; omega
      have hx3 : (i : Int) + (m : Int) ≤ (tot : Int) := by have := HT.out; omega
      have HF := Aside0.mk (And.intro hmin1 (And.intro hmin2 (And.intro hfv hfd)))
      clear hmin1 hmin2 hfv hfd
      by_cases hr : tot > c
      · have hdr : decide ((c : Int) < (tot : Int)) = true := decide_eq_true (by omega)
        obtain ⟨gv, curv, rfl, hLV2, hgv⟩ := HMV2.out (by have := HT.out; omega)
        have HLV2 := Aside0.mk hLV2
        clear hLV2
        have hw4 : IntKind.i64.wrap ((tot : Int) - (i : Int)) = (tot : Int) - (i : Int) := IntWalk.i64_in _ (by have := HT.out; omega)
        have hw4' : wrap64 ((tot : Int) - (i : Int)) = (tot : Int) - (i : Int) := w64 (by have := HT.out; omega)
        obtain ⟨G, hG⟩ : ∃ G, G = grownCap W2 tot c 40 := ⟨_, rfl⟩
        have hGt : tot ≤ G := by rw [hG]; exact grownCap_ge W2 _ _ _
        have hGm : G ≤ maxLen := by rw [hG]; exact grownCap_le_maxLen W2 tot c 40 (by have := HT.out; unfold maxLen; omega)
        obtain ⟨ROW, hROW⟩ : ∃ ROW : Array Value, ROW = ((xs.take i).flatMap encSpan).toArray ++ Builtin.zeroCells (Value.agg #[.int .i64 0, .int .i64 0]).cells (tot - i) ++ Builtin.zeroCells (Value.agg #[.int .i64 0, .int .i64 0]).cells (G - tot) := ⟨_, rfl⟩
        have hrz : ∀ ty, (Builtin.append_ #[54, 3] ty #[.slice (some ⟨g, 0, none⟩) i c, .int .i64 ((tot : Int) - (i : Int))]).run Try.prog W2 = .ok (.slice (some ⟨W2.heap.size, 0, none⟩) tot G) (W2.drew.alloc (.cells ROW 40)) := fun ty => by
          obtain ⟨hi0', hz0a, hz0b, hz0c⟩ := HI0.out
          have hold : (Builtin.firstCells i0.size i (.slice (some ⟨g, 0, none⟩) i c)).run Try.prog W2.drew = .ok ((xs.take i).flatMap encSpan).toArray W2.drew := by
            rw [hz0b]
            refine run_firstCells_some W2.drew 2 i ⟨g, 0, none⟩ i c ((xs.take i).flatMap encSpan) (by rw [flat_len (enc := encSpan) spanLen, List.length_take, ← HNN.out, Nat.min_eq_left b6]) (fun t u hu => ?_)
            have h1 := (HL2.out.cut spanLen i (by rw [← HNN.out]; exact b6)).src spanLen 0 t u (by simpa using hu)
            simpa using h1
          have h := Lib.run_append_grow_zeros (P := Try.prog) W2 54 3 ty 40 i0 _ .i64 .i64 Try.underlying54 Try.underlying3 hi0' hz0a (some ⟨g, 0, none⟩) i c _ hold (tot - i) (by have := HT.out; omega) (by rw [hz0b]; decide) (by omega) (by have := HT.out; omega) (by rw [hz0c]; have := HT.out; omega) (by
            have e1 : i + (tot - i) = tot := by have := HT.out; omega
            rw [hz0c, e1]
            exact growslice_fits (by omega) (by have := HT.out; omega))
          have e1 : i + (tot - i) = tot := by have := HT.out; omega
          have e2 : (tot : Int) - (i : Int) = ((tot - i : Nat) : Int) := by omega
          rw [e1] at h
          rw [e2, hROW, hG]
          exact h
        have hROWs : ROW.size = G * 2 := by
          rw [hROW]
          have e1 : ((xs.take i).flatMap encSpan).length = i * 2 := by rw [flat_len (enc := encSpan) spanLen, List.length_take, ← HNN.out, Nat.min_eq_left b6]
          simp only [Array.size_append, List.size_toArray, e1, Builtin.zeroCells, Array.size_map, Array.size_range, Value.cells, List.size_toArray, List.length_cons, List.length_nil]
          omega
        have hb5 : ¬ (G = i) := by omega
        have hpl : ((xs.take i).flatMap encSpan).length = i * 2 := by rw [flat_len (enc := encSpan) spanLen, List.length_take, ← HNN.out, Nat.min_eq_left b6]
        have hxl : (xs.take i).length = i := by rw [List.length_take, ← HNN.out]; omega
        have hLN : LieL encSpan 2 40 (W2.drew.alloc (.cells ROW 40)) W2.heap.size G ROW (xs.take i) := by
          refine ⟨blk_new W2.drew _, hROWs, by omega, hGm, ?_⟩
          rw [hROW, hxl]
          simp only [Array.toList_append]
          rw [List.append_assoc]
          exact take_app_len _ _ _ hpl
        obtain ⟨N, hN⟩ : ∃ N, N = W2.heap.size := ⟨_, rfl⟩
        obtain ⟨W3, hW3⟩ : ∃ W, W = W2.drew.alloc (.cells ROW 40) := ⟨_, rfl⟩
        rw [← hW3, ← hN] at hLN
        have hgN : g ≠ N := by have := blk_lt HL2.out.1; omega
        have hgvN : gv ≠ N := by have := blk_lt HLV2.out.1; omega
        have hL3 : LieL encSpan 2 40 W3 g c cur xs := HL2.out.same (by rw [hW3]; exact Below.heap_alloc W2.drew _ _ (blk_lt HL2.out.1))
        have hV3 : LieL encSpan 2 40 W3 gv cv curv vs := HLV2.out.same (by rw [hW3]; exact Below.heap_alloc W2.drew _ _ (blk_lt HLV2.out.1))
        have hBN : base ≤ N := by rw [hN]; exact HB2.out.size |> fun h => by have := HOK.out.1; have := blk_lt HL2.out.1; omega
        have hB3 : Below base w0 W3 := by rw [hW3]; exact (below_drew HB2.out).alloc (by show base ≤ W2.heap.size; rw [← hN]; exact hBN) _
        have hcpA : ∀ ty, (Builtin.copy_ #[54, 54] ty #[.slice (some ⟨N, i * 2, none⟩) (tot - i) (G - i), .slice (some ⟨gv, 0, none⟩) m cv]).run Try.prog W3 = .ok (goInt (Nat.min m (tot - i))) (W3.setRow N (ROW.toList.take (i * 2) ++ vs.flatMap encSpan ++ ROW.toList.drop (i * 2 + (vs.flatMap encSpan).length)).toArray) := fun ty =>
          run_copy_k W3 54 54 ty 40 N (i * 2) (tot - i) (G - i) ⟨gv, 0, none⟩ m cv ROW 40 (vs.flatMap encSpan) 2 Try.underlying54 Try.sizeOf40 hLN.1 (by rw [HF.out.1]; exact HF.out.2.2.1) (fun t u hu => by have := hV3.src spanLen 0 t u (by simpa using hu); simpa using this) (by rw [HF.out.2.2.1, hROWs]; have := HT.out; omega) (flat_one vs)
        have hLN1 := hLN.put spanLen (ys := vs) (i := i) (by omega) (by rw [← HMM.out]; have := HT.out; omega)
        obtain ⟨ROW1, hROW1⟩ : ∃ R : Array Value, R = (ROW.toList.take (i * 2) ++ vs.flatMap encSpan ++ ROW.toList.drop (i * 2 + (vs.flatMap encSpan).length)).toArray := ⟨_, rfl⟩
        rw [← hROW1] at hcpA hLN1
        obtain ⟨W4, hW4⟩ : ∃ W, W = W3.setRow N ROW1 := ⟨_, rfl⟩
        rw [← hW4] at hcpA hLN1
        have e1 : (xs.take i).take i = xs.take i := by rw [List.take_take, Nat.min_self]
        rw [e1] at hLN1
        have hL4 : LieL encSpan 2 40 W4.drew g c cur xs := hL3.same (by rw [hW4]; exact setRow_other W3 N g ROW1 hgN)
        have hLN1d : LieL encSpan 2 40 W4.drew N G ROW1 (xs.take i ++ vs) := hLN1.same rfl
        have hcpB : ∀ ty, (Builtin.copy_ #[54, 54] ty #[.slice (some ⟨N, (i + m) * 2, none⟩) (tot - (i + m)) (G - (i + m)), .slice (some ⟨g, j * 2, none⟩) (n - j) (c - j)]).run Try.prog W4.drew = .ok (goInt (Nat.min (n - j) (tot - (i + m)))) (W4.drew.setRow N (ROW1.toList.take ((i + m) * 2) ++ (xs.drop j).flatMap encSpan ++ ROW1.toList.drop ((i + m) * 2 + ((xs.drop j).flatMap encSpan).length)).toArray) := fun ty =>
          run_copy_k W4.drew 54 54 ty 40 N ((i + m) * 2) (tot - (i + m)) (G - (i + m)) ⟨g, j * 2, none⟩ (n - j) (c - j) ROW1 40 ((xs.drop j).flatMap encSpan) 2 Try.underlying54 Try.sizeOf40 hLN1d.1 (by rw [HF.out.2.1]; exact HF.out.2.2.2) (fun t u hu => hL4.src spanLen j t u hu) (by rw [HF.out.2.2.2, hLN1d.2.1]; have := HT.out; omega) (flat_one _)
        have hLN2 := hLN1d.put spanLen (ys := xs.drop j) (i := i + m) (by rw [List.length_append, hxl, ← HMM.out]; exact Nat.le_refl _) (by rw [List.length_drop, ← HNN.out]; have := HT.out; omega)
        obtain ⟨ROW2, hROW2⟩ : ∃ R : Array Value, R = (ROW1.toList.take ((i + m) * 2) ++ (xs.drop j).flatMap encSpan ++ ROW1.toList.drop ((i + m) * 2 + ((xs.drop j).flatMap encSpan).length)).toArray := ⟨_, rfl⟩
        rw [← hROW2] at hcpB hLN2
        have e2 : (xs.take i ++ vs).take (i + m) = xs.take i ++ vs := List.take_of_length_le (by rw [List.length_append, hxl, ← HMM.out]; exact Nat.le_refl _)
        rw [e2] at hLN2
        have hlen : (xs.take i ++ vs ++ xs.drop j).length = tot := by simp only [List.length_append, hxl, List.length_drop, ← HMM.out, ← HNN.out]; have := HT.out; omega
        have hRes := hLN2.R (base := base) (ok := ok) hBN (HOK.out.2.2 N (by rw [hN, HSZ2.out]; exact Nat.le_refl _))
        rw [hlen] at hRes
        have hB5 : Below base w0 (W4.drew.setRow N ROW2) := setRow_below (below_drew (by rw [hW4]; exact setRow_below hB3 hBN ROW1)) hBN ROW2
        have HRES := Aside0.mk (And.intro hRes hB5)
        have hb6 : ¬ (G = i + m) := by have := HT.out; omega
        have hx4 : (i : Int) ≤ (G : Int) := by omega
        rw [← hN, ← hW3] at hrz
        clear hROW1 hROW2 hW3 hW4 hLN hLN1 hLN1d hLN2 hL3 hV3 hL4 hB3 hB5 hRes e1 e2 hlen hpl hxl hROW hROWs hG hgN hgvN hN hBN hGm
        go_wp2_with (first
          | (at_builtin; refine Lib.wpList_append_run _ rfl _ _ _ _ rfl _ _ rfl rfl _ _ (hrz _) ?_)
          | (at_builtin; refine wpList_copy_runI _ rfl _ _ 54 54 rfl _ _ rfl rfl (hcpA _) ?_))
        go_still_tail 9, (by kernel_rfl)
        change wpList _ _ _ _ _ W4.drew
        refine wpList_copy_runI W4.drew rfl _ _ 54 54 rfl _ _ rfl rfl (hcpB _) ?_
        go_wp2
        go_ret
        exact ⟨_, rfl, HRES.out.1, HRES.out.2⟩
      · have hdr : decide ((c : Int) < (tot : Int)) = false := decide_eq_false (by omega)
        by_cases hd : i + m ≤ j
        · have hdd : decide ((i : Int) + (m : Int) ≤ (j : Int)) = true := decide_eq_true (by omega)
          have hb6 : ¬ (c = i + m) := by omega
          have hD1 : ∃ W3 cur1, (∀ ty, (Builtin.copy_ #[54, 54] ty #[.slice (some ⟨g, i * 2, none⟩) (tot - i) (c - i), .slice ao m cv]).run Try.prog W2 = .ok (goInt (Nat.min m (tot - i))) W3) ∧ LieL encSpan 2 40 W3 g c cur1 (xs.take i ++ vs ++ xs.drop (i + vs.length)) ∧ Below base w0 W3 := by
            by_cases hm0 : m = 0
            · have hv0 : vs = [] := List.eq_nil_of_length_eq_zero (by rw [← HMM.out]; exact hm0)
              subst hv0 hm0
              refine ⟨W2, cur, fun ty => ?_, ?_, HB2.out⟩
              · cases ao with
                | none =>
                  have := (HAO0.out rfl).2
                  subst this
                  have h1 := run_copy_nil_k (P := Try.prog) W2 54 54 ty 40 g (i * 2) (tot - i) (c - i) 2 Try.underlying54 Try.sizeOf40
                  rw [h1]
                  simp
                | some ad =>
                  have h1 := run_copy_k (P := Try.prog) W2 54 54 ty 40 g (i * 2) (tot - i) (c - i) ad 0 cv cur 40 [] 2 Try.underlying54 Try.sizeOf40 HL2.out.1 (by simp) (fun t u hu => by simp at hu) (by rw [HL2.out.2.1]; simp; omega) (fun v hv => by cases hv)
                  rw [h1]
                  congr 1
                  simp only [List.append_nil, List.length_nil, Nat.add_zero, List.take_append_drop, Array.toArray_toList]
                  exact setRow_self W2 g cur 40 (0, 0) HL2.out.1
              · simpa using HL2.out
            · obtain ⟨gv, curv, rfl, hLV2, hgv⟩ := HMV2.out hm0
              refine ⟨_, _, fun ty => run_copy_k W2 54 54 ty 40 g (i * 2) (tot - i) (c - i) ⟨gv, 0, none⟩ m cv cur 40 (vs.flatMap encSpan) 2 Try.underlying54 Try.sizeOf40 HL2.out.1 (by rw [HF.out.1]; exact HF.out.2.2.1) (fun t u hu => by have := hLV2.src spanLen 0 t u (by simpa using hu); simpa using this) (by rw [HF.out.2.2.1, HL2.out.2.1]; omega) (flat_one vs), HL2.out.put_mid spanLen (ys := vs) (i := i) (by rw [← HMM.out, ← HNN.out]; omega), setRow_below HB2.out HOK.out.1 _⟩
          obtain ⟨W3, cur1, hcp1, hL3, hB3⟩ := hD1
          have hL3d : LieL encSpan 2 40 W3.drew g c cur1 (xs.take i ++ vs ++ xs.drop (i + vs.length)) := hL3.same rfl
          have hcp2 : ∀ ty, (Builtin.copy_ #[54, 54] ty #[.slice (some ⟨g, (i + m) * 2, none⟩) (tot - (i + m)) (c - (i + m)), .slice (some ⟨g, j * 2, none⟩) (n - j) (c - j)]).run Try.prog W3.drew = .ok (goInt (Nat.min (n - j) (tot - (i + m)))) (W3.drew.setRow g (cur1.toList.take ((i + m) * 2) ++ (xs.drop j).flatMap encSpan ++ cur1.toList.drop ((i + m) * 2 + ((xs.drop j).flatMap encSpan).length)).toArray) := fun ty =>
            run_copy_k W3.drew 54 54 ty 40 g ((i + m) * 2) (tot - (i + m)) (c - (i + m)) ⟨g, j * 2, none⟩ (n - j) (c - j) cur1 40 ((xs.drop j).flatMap encSpan) 2 Try.underlying54 Try.sizeOf40 hL3d.1 (by rw [HF.out.2.1]; exact HF.out.2.2.2) (fun t u hu => hL3d.src spanLen j t u (by rw [drop_three xs vs i j (by rw [← HNN.out]; exact b6) (by rw [← HMM.out]; exact hd)]; exact hu)) (by rw [HF.out.2.2.2, hL3d.2.1]; have := HT.out; omega) (flat_one _)
          have hxl : (xs.take i).length = i := by rw [List.length_take, ← HNN.out]; omega
          have hL4 := hL3d.put spanLen (ys := xs.drop j) (i := i + m) (by simp only [List.length_append, hxl, ← HMM.out]; omega) (by rw [List.length_drop, ← HNN.out]; have := HT.out; omega)
          obtain ⟨cur2, hcur2⟩ : ∃ R : Array Value, R = (cur1.toList.take ((i + m) * 2) ++ (xs.drop j).flatMap encSpan ++ cur1.toList.drop ((i + m) * 2 + ((xs.drop j).flatMap encSpan).length)).toArray := ⟨_, rfl⟩
          rw [← hcur2] at hcp2 hL4
          rw [take_three _ _ _ (i + m) (by rw [hxl, ← HMM.out])] at hL4
          have hlen : (xs.take i ++ vs ++ xs.drop j).length = tot := by simp only [List.length_append, hxl, List.length_drop, ← HMM.out, ← HNN.out]; have := HT.out; omega
          have hB4 : Below base w0 (W3.drew.setRow g cur2) := setRow_below (below_drew hB3) HOK.out.1 cur2
          obtain ⟨W4, hW4⟩ : ∃ W, W = W3.drew.setRow g cur2 := ⟨_, rfl⟩
          rw [← hW4] at hcp2 hL4 hB4
          have HL4 := Aside0.mk hL4
          have HB4 := Aside0.mk hB4
          have HLEN := Aside0.mk hlen
          clear hcur2 hW4 hL3 hL3d hL4 hB4 hlen hxl hB3
          go_wp2_with (at_builtin; refine wpList_copy_runI _ rfl _ _ 54 54 rfl _ _ rfl rfl (hcp1 _) ?_)
          go_still_tail 9, (by kernel_rfl)
          change wpList _ _ _ _ _ W3.drew
          refine wpList_copy_runI W3.drew rfl _ _ 54 54 rfl _ _ rfl rfl (hcp2 _) ?_
          have hres : Kd.R k40 40 W4 base ok (.slice (some ⟨g, 0, none⟩) tot c) (xs.take i ++ vs ++ xs.drop j) := by
            have h := HL4.out.R (base := base) (ok := ok) HOK.out.1 HOK.out.2.1
            rw [HLEN.out] at h
            exact h
          have HRES := Aside0.mk hres
          clear hres
          by_cases hz : tot = n
          · have hcl : ∀ ty a cc, (Builtin.clear_ #[54] ty #[.slice a 0 cc]).run Try.prog W4 = .ok (.tuple #[]) W4 := fun ty a cc => run_clear_none W4 54 40 ty Try.underlying54 a cc
            by_cases hcn : c = n
            · go_wp2_with fail
              go_ret
              refine ⟨_, rfl, ?_, HB4.out⟩
              have h := HRES.out
              rw [hz, hcn] at h
              first | exact h | (rw [List.append_assoc] at h; exact h)
            · go_wp2_with fail
              go_ret
              refine ⟨_, rfl, ?_, HB4.out⟩
              have h := HRES.out
              rw [hz] at h
              first | exact h | (rw [List.append_assoc] at h; exact h)
          · have htn2 : tot < n := by have := HT.out; omega
            have hb7 : ¬ (c = tot) := by omega
            have hx5 : (tot : Int) ≤ (n : Int) := by omega
            obtain ⟨zs, hzl, hclr⟩ := run_clear_k (P := Try.prog) W4 54 40 0 (.agg #[.int .i64 0, .int .i64 0]) Try.underlying54 Try.zeroValue40 g (tot * 2) (n - tot) (c - tot) cur2 40 HL4.out.1 (by rw [HL4.out.2.1]; show tot * 2 + (n - tot) * 2 ≤ c * 2; omega) (by intro u hu; simp [Value.cells] at hu; rw [hu]; rfl) (by omega)
            obtain ⟨cur3, hcur3⟩ : ∃ R : Array Value, R = (cur2.toList.take (tot * 2) ++ zs ++ cur2.toList.drop (tot * 2 + zs.length)).toArray := ⟨_, rfl⟩
            rw [← hcur3] at hclr
            have hc2l : (cur2.toList.take (tot * 2)).length = tot * 2 := by
              rw [List.length_take, (show cur2.toList.length = cur2.size from Array.length_toList), HL4.out.2.1]
              omega
            have hzl2 : zs.length = (n - tot) * 2 := hzl
            have hL5 := HL4.out.behind (cur' := cur3) (tot * 2) (by rw [HLEN.out]; exact Nat.le_refl _) (by rw [hcur3, List.size_toArray, List.length_append, List.length_append, hc2l, List.length_drop, (show cur2.toList.length = cur2.size from Array.length_toList), HL4.out.2.1, hzl2]; omega) (by rw [hcur3, List.append_assoc]; exact take_app_len _ _ _ hc2l)
            have hres5 : Kd.R k40 40 (W4.setRow g cur3) base ok (.slice (some ⟨g, 0, none⟩) tot c) (xs.take i ++ vs ++ xs.drop j) := by
              have h := hL5.R (base := base) (ok := ok) HOK.out.1 HOK.out.2.1
              rw [HLEN.out] at h
              exact h
            have HRES5 := Aside0.mk hres5
            clear hcur3 hc2l hzl hzl2 hL5 hres5
            go_wp2_with (at_builtin; refine wpList_clear_run _ rfl _ 54 rfl _ rfl hclr ?_)
            go_ret
            exact ⟨_, rfl, HRES5.out, setRow_below HB4.out HOK.out.1 cur3⟩
        · have hdd : decide ((i : Int) + (m : Int) ≤ (j : Int)) = false := decide_eq_false (by omega)
          obtain ⟨gv, curv, rfl, hLV2, hgv⟩ := HMV2.out (by omega)
          have hb6 : ¬ (c = i + m) := by have := HT.out; omega
          have hcv0 : curv.size ≠ 0 := by
            have h1 := hLV2.2.1
            have h2 := hLV2.2.2.1
            rw [← HMM.out] at h2
            omega
          have hov : ∀ cc, (callFunc 156 #[.slice (some ⟨g, (i + m) * 2, none⟩) (tot - (i + m)) cc, .slice (some ⟨gv, 0, none⟩) m cv]).run Try.prog W2 = .ok (.value (.bool false)) W2 := fun cc => by
            rw [run_callFunc_extern Try.func156 (by kernel_rfl) (by kernel_rfl) (by kernel_rfl) (e := Extern.SlicesOverlaps.overlaps #[54, 54] #[4]) (by kernel_rfl),
              Lib.run_overlaps_apart W2 54 4 40 Try.underlying54 2 Try.sizeOf40 ⟨g, (i + m) * 2, none⟩ ⟨gv, 0, none⟩ (tot - (i + m)) cc m cv (fun h => hgv h.symm) 40 40 cur.size curv.size (by simp [World.shape?, HL2.out.1]) (by simp [World.shape?, hLV2.1]) hcv0 (blk_frozen HL2.out.1 _) (blk_frozen HL2.out.1 _)]
            rfl
          have hxl : (xs.take (i + m)).length = i + m := by rw [List.length_take, ← HNN.out]; have := HM2.out; omega
          have hdl : (xs.drop j).length = n - j := by rw [List.length_drop, HNN.out]
          have hcp1 : ∀ ty, (Builtin.copy_ #[54, 54] ty #[.slice (some ⟨g, (i + m) * 2, none⟩) (tot - (i + m)) (c - (i + m)), .slice (some ⟨g, j * 2, none⟩) (n - j) (c - j)]).run Try.prog W2.drew = .ok (goInt (Nat.min (n - j) (tot - (i + m)))) (W2.drew.setRow g (cur.toList.take ((i + m) * 2) ++ (xs.drop j).flatMap encSpan ++ cur.toList.drop ((i + m) * 2 + ((xs.drop j).flatMap encSpan).length)).toArray) := fun ty =>
            run_copy_k W2.drew 54 54 ty 40 g ((i + m) * 2) (tot - (i + m)) (c - (i + m)) ⟨g, j * 2, none⟩ (n - j) (c - j) cur 40 ((xs.drop j).flatMap encSpan) 2 Try.underlying54 Try.sizeOf40 HL2.out.1 (by rw [HF.out.2.1]; exact HF.out.2.2.2) (fun t u hu => (HL2.out.same (w1 := W2.drew) rfl).src spanLen j t u hu) (by rw [HF.out.2.2.2, HL2.out.2.1]; have := HT.out; omega) (flat_one _)
          have hL3 := (HL2.out.same (w1 := W2.drew) rfl).put spanLen (ys := xs.drop j) (i := i + m) (by rw [← HNN.out]; have := HM2.out; omega) (by rw [hdl]; have := HT.out; omega)
          obtain ⟨cur1, hcur1⟩ : ∃ R : Array Value, R = (cur.toList.take ((i + m) * 2) ++ (xs.drop j).flatMap encSpan ++ cur.toList.drop ((i + m) * 2 + ((xs.drop j).flatMap encSpan).length)).toArray := ⟨_, rfl⟩
          rw [← hcur1] at hcp1 hL3
          have hB3 : Below base w0 (W2.drew.setRow g cur1) := setRow_below (below_drew HB2.out) HOK.out.1 cur1
          have hV3 : LieL encSpan 2 40 (W2.drew.setRow g cur1) gv cv curv vs := hLV2.same (setRow_other W2.drew g gv cur1 hgv)
          obtain ⟨W3, hW3⟩ : ∃ W, W = W2.drew.setRow g cur1 := ⟨_, rfl⟩
          rw [← hW3] at hcp1 hL3 hB3 hV3
          have hcp2 : ∀ ty, (Builtin.copy_ #[54, 54] ty #[.slice (some ⟨g, i * 2, none⟩) (tot - i) (c - i), .slice (some ⟨gv, 0, none⟩) m cv]).run Try.prog W3 = .ok (goInt (Nat.min m (tot - i))) (W3.setRow g (cur1.toList.take (i * 2) ++ vs.flatMap encSpan ++ cur1.toList.drop (i * 2 + (vs.flatMap encSpan).length)).toArray) := fun ty =>
            run_copy_k W3 54 54 ty 40 g (i * 2) (tot - i) (c - i) ⟨gv, 0, none⟩ m cv cur1 40 (vs.flatMap encSpan) 2 Try.underlying54 Try.sizeOf40 hL3.1 (by rw [HF.out.1]; exact HF.out.2.2.1) (fun t u hu => by have := hV3.src spanLen 0 t u (by simpa using hu); simpa using this) (by rw [HF.out.2.2.1, hL3.2.1]; have := HT.out; omega) (flat_one vs)
          have hL4 := hL3.put_mid spanLen (ys := vs) (i := i) (by rw [List.length_append, hxl, ← HMM.out]; omega)
          have e3 : (xs.take (i + m) ++ xs.drop j).take i = xs.take i := by rw [List.take_append, List.take_take, Nat.min_eq_left (by omega), hxl]; simp [show i - (i + m) = 0 by omega]
          have e4 : (xs.take (i + m) ++ xs.drop j).drop (i + vs.length) = xs.drop j := by rw [← HMM.out]; exact drop_app_len _ _ _ hxl
          rw [e3, e4] at hL4
          obtain ⟨cur2, hcur2⟩ : ∃ R : Array Value, R = (cur1.toList.take (i * 2) ++ vs.flatMap encSpan ++ cur1.toList.drop (i * 2 + (vs.flatMap encSpan).length)).toArray := ⟨_, rfl⟩
          rw [← hcur2] at hcp2 hL4
          have hlen : (xs.take i ++ vs ++ xs.drop j).length = tot := by simp only [List.length_append, hdl, ← HMM.out, List.length_take, ← HNN.out]; have := HT.out; omega
          have hres := hL4.R (base := base) (ok := ok) HOK.out.1 HOK.out.2.1
          rw [hlen] at hres
          have HRES := Aside0.mk (And.intro hres (setRow_below hB3 HOK.out.1 cur2))
          clear hcur1 hcur2 hW3 hL3 hB3 hV3 hL4 e3 e4 hlen hres hxl hdl hcv0 hLV2 hd
          go_wp2_with (simp only [hov])
          go_still_tail 9, (by kernel_rfl)
          change wpList _ _ _ _ _ W2.drew
          refine wpList_copy_runI W2.drew rfl _ _ 54 54 rfl _ _ rfl rfl (hcp1 _) ?_
          go_wp2_with (at_builtin; refine wpList_copy_runI _ rfl _ _ 54 54 rfl _ _ rfl rfl (hcp2 _) ?_)
          go_ret
          exact ⟨_, rfl, HRES.out.1, HRES.out.2⟩

end Go.Proofs.Ytkkfkdncddbaeaa.Fn
