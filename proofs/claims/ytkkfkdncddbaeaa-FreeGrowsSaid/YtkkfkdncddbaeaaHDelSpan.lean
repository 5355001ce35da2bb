-- Told by hand; its numbers filled in by a program of this session.
import Derived.Test.YtkkfkdncddbaeaaFnBase
import Derived.Test.YtkkfkdncddbaeaaHIdxSpan
import Derived.Test.YtkkfkdncddbaeaaHRepl
import Derived.Test.YtkkfkdncddbaeaaFn108
import Derived.Test.YtkkfkdncddbaeaaHBestCl
namespace Go.Proofs.Ytkkfkdncddbaeaa.Fn
open Go.RowKit Go.Proofs.YtkkfkdncddbaeaaW.PrintWords Go.Proofs.YtkkfkdncddbaeaaW.PrintLast Go.Proofs.YtkkfkdncddbaeaaW.PrintMore
attribute [local go_sem] max2_int min2_int max_two min_two max_three min_three max_four min_four   -- for this text's walks alone
set_option linter.unusedVariables false
set_option linter.unusedSimpArgs false

/-! slices.DeleteFunc at a row of spans of the caller's own. -/
section
variable {P : Program}
theorem run_storeVar_at (w : World) (g o : Nat) (t ty : TypeId) (cur cells : Array Value) (hg : w.heap[g]? = some (.cells cur t (0, 0))) (hi : (P.info? ty).map (·.size) = some cells.size)
    (hf : o + cells.size ≤ cur.size) (h1 : ∀ v ∈ cells.toList, v.oneCell' = true) :
    (storeVar ty ⟨g, o, none⟩ (.agg cells)).run P w = .ok () (w.setRow g (cur.toList.take o ++ cells.toList ++ cur.toList.drop (o + cells.toList.length)).toArray) := by
  have hst := run_storeCells_at P g o t cells.toList 0 cur w hg (by simpa using hf) h1
  simp only [Nat.add_zero] at hst
  cases hq : P.info? ty with
  | none => simp [hq] at hi
  | some i =>
    have hs : cells.size = i.size := by simp [hq] at hi; omega
    simp [storeVar, sizeOf, typeInfo, hq, Value.cells, hs, hst]
theorem wpList_store_at {ops : Array Oper} {rest : List Oper} {o : Oper} {a : Act} {w : World} {Q : Exit → Act → World → Prop} (hgd : o.guard = none) (ty : TypeId) (x y : Operand) (ho : o.op = .store ty x y)
    (A : Addr) (g k : Nat) (hA : A = ⟨g, k, none⟩) (cells : Array Value) (hx : a.eval x = .pointer (some A)) (hy : a.eval y = .agg cells)
    (t : TypeId) (cur : Array Value) (hg : w.heap[g]? = some (.cells cur t (0, 0))) (hi : (P.info? ty).map (·.size) = some cells.size)
    (hf : k + cells.size ≤ cur.size) (h1 : ∀ v ∈ cells.toList, v.oneCell' = true)
    (h : wpList P ops Q rest (a.put o.dst undef) (w.setRow g (cur.toList.take k ++ cells.toList ++ cur.toList.drop (k + cells.toList.length)).toArray)) : wpList P ops Q (o :: rest) a w := by
  subst hA
  refine wpList_plain hgd fun K hK => ?_
  unfold Oper.wp execOp
  simp only [ho, hx, hy, Instr.storeAt, Instr.sureAddr, Sem.run_bind, Sem.run_pure, Result.andThen_ok, run_storeVar_at w g k t ty cur cells hg hi hf h1]
  exact hK _ _ h
end
set_option maxHeartbeats 4000000 in
set_option maxRecDepth 100000 in
theorem del_span (cl : Nat) (lb : Array Value) (p : S40 → Bool) (eg : ∀ args w, (callFunc cl args).run Try.prog w = .ok (.enter cl args) w)
    (w0 w : World) (base : Nat) (ok : Nat → Prop) (xs : List S40) (v : Value) (hR : Kd.R k40 40 w base ok v xs) (hB : Below base w0 w) (hbw : base ≤ w.heap.size) (hn : xs.length ≤ 4096)
    (hp : ∀ (W : World) (x : S40), Below base w0 W → Calls Try.prog cl (#[.agg #[.int .i64 x.f0, .int .i64 x.f1]] ++ lb) W fun e w' => e = .returned (.bool (p x)) ∧ Below W.heap.size W w') :
    Calls Try.prog 100 #[v, .func (.func cl) #[] lb] w fun e w' => ∃ v', e = .returned v' ∧ Kd.R k40 40 w' base ok v' (xs.filter fun x => !p x) ∧ Below base w0 w' := by
  have hu40 := Try.underlying40
  obtain ⟨A0, c0, rfl⟩ := Kd.R_slice hR
  obtain ⟨h1, h2, hC⟩ := Kd.R_reads' hR
  have hidx := idx_span cl lb p eg A0 c0 xs w hC (fun W x hW => (hp W x (below_then hB hbw hW)).mono fun e w' ⟨h1, h2⟩ => ⟨h1, below_then hW hW.size h2⟩)
  have HR := Aside0.mk hR
  have HB := Aside0.mk (And.intro hB hbw)
  have HP := Aside0.mk hp
  obtain ⟨n, hnn⟩ : ∃ n, n = xs.length := ⟨_, rfl⟩
  rw [← hnn] at hn hidx HR
  rw [← hnn]
  have HNN := Aside0.mk hnn
  clear hR hB hbw hp hC h1 h2 hnn
  by_cases hm : idxF p xs = -1
  · have hq : xs.filter (fun x => !p x) = xs := by
      refine List.filter_eq_self.2 fun x hx => ?_
      have : xs.findIdx? p = none := by
        unfold idxF at hm
        split at hm
        · rename_i i hi; omega
        · rename_i hi; exact hi
      have := List.findIdx?_eq_none_iff.1 this x hx
      simp [this]
    have HQ := Aside0.mk hq
    have hmi : idxF p xs = -1 := hm
    rw [hmi] at hidx
    have HI := Aside0.mk hidx
    clear hq hm hmi hidx
    go_enter Try.func100, Try.ntmps100
    go_wp2_with fail
    refine HI.out.mono ?_
    rintro e w1 ⟨rfl, hb⟩
    have HB1 := Aside0.mk hb
    clear hb
    go_wp2_with fail
    go_ret
    exact ⟨_, rfl, by rw [HQ.out]; exact Kd.R_below HR.out HB1.out, below_then HB.out.1 HB.out.2 HB1.out⟩
  · obtain ⟨k, hk, hki⟩ : ∃ k : Nat, xs.findIdx? p = some k ∧ idxF p xs = (k : Int) := by
      unfold idxF at hm ⊢
      cases hq : xs.findIdx? p with
      | none => rw [hq] at hm; exact absurd rfl hm
      | some k => exact ⟨k, rfl, rfl⟩
    obtain ⟨hkn, hkp, hka⟩ := List.findIdx?_eq_some_iff_getElem.1 hk
    rw [hki] at hidx
    have HI := Aside0.mk hidx
    have hne : xs ≠ [] := by intro h; rw [h] at hkn; simp at hkn
    have hR2 := HR.out
    rw [HNN.out] at hR2
    obtain ⟨g, c, cur, hv, hL, hbg, hok⟩ := rowL_of hR2 hne
    injection hv with hv1 hv2 hv3
    subst hv1 hv3
    have hf0 : (xs.take (k + 1)).filter (fun x => !p x) = xs.take k := by
      rw [List.take_succ_eq_append_getElem hkn, List.filter_append]
      have e1 : (xs.take k).filter (fun x => !p x) = xs.take k := List.filter_eq_self.2 fun x hx => by
        obtain ⟨j, hj, rfl⟩ := List.mem_iff_getElem.1 hx
        rw [List.length_take] at hj
        have := hka j (by omega)
        rw [List.getElem_take]
        simpa using this
      have e2 : [xs[k]].filter (fun x => !p x) = [] := by simp [hkp]
      rw [e1, e2, List.append_nil]
    have hkn' : k < n := by rw [HNN.out]; exact hkn
    have HL := Aside0.mk hL
    have HK := Aside0.mk (And.intro hbg (And.intro hok hf0))
    have hnc : n ≤ c0 := by have := hL.2.2.1; rw [HNN.out]; exact this
    have hcm : c0 ≤ 9223372036854775807 := by have := hL.2.2.2.1; unfold maxLen at this; omega
    have hw1 : IntKind.i64.wrap ((k : Int) + 1) = (k : Int) + 1 := IntWalk.i64_in _ (by omega)
    have hw2 : ((k : Int) == -1) = false := by first | (simp; done) | (simp; omega)
    have hw3 : ¬ ((k : Int) = -1) := by omega
    clear hk hki hkp hka hidx hne hR2 hL hbg hok hf0 hm hkn
    go_enter Try.func100, Try.ntmps100
    go_wp2_with fail
    refine HI.out.mono ?_
    rintro e w1 ⟨rfl, hb⟩
    have HB1 := Aside0.mk (below_then HB.out.1 HB.out.2 hb)
    have HL1 := Aside0.mk (HL.out.same (hb.block _ (blk_lt HL.out.1)))
    clear hb
    go_wp2_with fail
    go_loopg [5, 6] (n - (k + 1)) (fun gk v5 v6 W => ∃ (i j : Nat) (cu : Array Value) (ys : List S40), v5 = .int .i64 i ∧ v6 = .int .i64 j ∧ Aside0 (i < j ∧ j + gk = n) ∧ Aside0 (Below base w0 W) ∧ Aside0 (LieL encSpan 2 40 W g c0 cu ys) ∧ Aside0 (ys.length = n ∧ ys.take i = (xs.take j).filter (fun x => !p x) ∧ ys.drop j = xs.drop j))
    case atStart => exact ⟨k, k + 1, cur, xs, rfl, rfl, ⟨by omega, by omega⟩, ⟨HB1.out⟩, ⟨HL1.out⟩, ⟨HNN.out.symm, HK.out.2.2.symm, rfl⟩⟩
    case round =>
      obtain ⟨i, j, cu, ys, rfl, rfl, HIJ, HBW, HLW, HY⟩ := hrel
      by_cases hlt : j < n
      · have hd : decide ((j : Int) < (n : Int)) = true := decide_eq_true (by omega)
        obtain ⟨k1, rfl⟩ : ∃ k, gk = k + 1 := ⟨gk - 1, by have := HIJ.out.2; omega⟩
        have hC : Kd.C k40 wr (some ⟨g, 0, none⟩) ys.length ys := (Kd.R_reads' (HLW.out.R (base := base) (ok := ok) HK.out.1 HK.out.2.1)).2.2
        have hp0 : (0 : Int) ≤ (j : Int) := by omega
        have hp1 : (j : Int) < (n : Int) := by omega
        have hi0 : (0 : Int) ≤ (i : Int) := by omega
        have hi1 : (i : Int) < (n : Int) := by have := HIJ.out.1; omega
        obtain ⟨ad', e3, g0, g1⟩ := at_T40 hC (j : Int) hp0 (by rw [HY.out.1]; exact hp1)
        cases e3
        obtain ⟨x, hx⟩ : ∃ x, x = rd_T40 ys (j : Int) := ⟨_, rfl⟩
        rw [← hx] at g0 g1
        rw [Int.toNat_natCast, add_at, Nat.zero_add] at g0 g1
        have g0' : wr.cell? ⟨g, j * 2, none⟩ = some (.int .i64 x.f0) := g0
        have g1' : wr.cell? ⟨g, j * 2 + 1, none⟩ = some (.int .i64 x.f1) := g1
        clear g0 g1
        have hjx : j < xs.length := by rw [← HNN.out]; exact hlt
        have hjy : j < ys.length := by rw [HY.out.1]; exact hlt
        have hxx : x = xs[j] := by
          have h1 : ys[j] = xs[j] := by
            have h2 := HY.out.2.2
            rw [← List.getElem_cons_drop hjy, ← List.getElem_cons_drop hjx] at h2
            exact (List.cons.inj h2).1
          rw [hx, rd40_get ys (j : Int) hp0 (by omega)]
          simpa using h1
        have htk : (xs.take (j + 1)).filter (fun x => !p x) = ys.take i ++ [x].filter (fun x => !p x) := by
          rw [List.take_succ_eq_append_getElem hjx, List.filter_append, ← HY.out.2.1, ← hxx]
        have hdj : ys.drop (j + 1) = xs.drop (j + 1) := by
          have h2 := HY.out.2.2
          rw [← List.getElem_cons_drop hjy, ← List.getElem_cons_drop hjx] at h2
          exact (List.cons.inj h2).2
        have HT := Aside0.mk (And.intro htk hdj)
        have hba : Below wr.heap.size wr (wr.alloc (.cells #[.int .i64 x.f0, .int .i64 x.f1] 40)) := (Below.refl _ _).alloc (Nat.le_refl _) _
        have HBA := Aside0.mk (below_then HBW.out (Nat.le_trans HK.out.1 (Nat.le_of_lt (blk_lt HLW.out.1))) hba)
        have HBAS := Aside0.mk (show base ≤ (wr.alloc (.cells #[.int .i64 x.f0, .int .i64 x.f1] 40)).heap.size by rw [alloc_sz]; have h1 := HK.out.1; have h2 := blk_lt HLW.out.1; omega)
        have HLA := Aside0.mk (HLW.out.same (hba.block _ (blk_lt HLW.out.1)))
        have hbx : (wr.alloc (.cells #[.int .i64 x.f0, .int .i64 x.f1] 40)).heap[wr.heap.size]? = some (.cells #[.int .i64 x.f0, .int .i64 x.f1] 40 (0, 0)) := alloc_new _ _
        have HGB := Aside0.mk (show g < wr.heap.size from blk_lt HLW.out.1)
        have HBX := Aside0.mk hbx
        have HFIT := Aside0.mk (show i * 2 + 2 ≤ cu.size by have h1 := HLW.out.2.1; have h2 := HIJ.out.1; rw [h1]; omega)
        have hcall := HP.out _ x HBA.out
        clear hx hxx htk hdj hjx hjy hba hbx hC
        cases hq : p x with
        | true =>
          rw [hq] at hcall
          have HQ := Aside0.mk hq
          go_wp2_with (go_at_fn cl; refine hcall.mono ?_; rintro e w' ⟨rfl, hb'⟩)
          go_roundg k1
          case measure => omega
          case rel =>
            refine ⟨i, j + 1, cu, ys, rfl, by first | rfl | (simp; done) | go_num, ⟨by have := HIJ.out.1; omega, by have := HIJ.out.2; omega⟩, ⟨below_then HBA.out HBAS.out hb'⟩, ⟨HLA.out.same (hb'.block _ (blk_lt HLA.out.1))⟩, ⟨HY.out.1, ?_, HT.out.2⟩⟩
            rw [HT.out.1]; simp [HQ.out]
        | false =>
          rw [hq] at hcall
          have HQ := Aside0.mk hq
          go_wp2_with (first
            | (refine wpList_store_at (P := Try.prog) rfl 40 (.tmp 33) (.tmp 32) rfl _ g (i * 2) rfl #[.int .i64 x.f0, .int .i64 x.f1] rfl rfl 40 cu hlw (by kernel_rfl) hfit (by simp [Value.oneCell']) ?_)
            | (go_at_fn cl; refine hcall.mono ?_; rintro e w' ⟨rfl, hb'⟩; have hlw := (hb'.block _ (blk_lt HLA.out.1)).trans HLA.out.1; have hfit := HFIT.out; have z0 : w'.cell? ⟨wr.heap.size, 0, none⟩ = some (.int .i64 x.f0) := (blk_cell ((hb'.block _ (blk_lt HBX.out)).trans HBX.out) 0).trans rfl; have z1 : w'.cell? ⟨wr.heap.size, 1, none⟩ = some (.int .i64 x.f1) := (blk_cell ((hb'.block _ (blk_lt HBX.out)).trans HBX.out) 1).trans rfl))
          go_roundg k1
          case measure => omega
          case rel =>
            have hput := (HLA.out.same (w1 := w') (hb'.block _ (blk_lt HLA.out.1))).put_mid spanLen (ys := [x]) (i := i) (by rw [HY.out.1]; simp; omega)
            have hrow : (cu.toList.take (i * 2) ++ [x].flatMap encSpan ++ cu.toList.drop (i * 2 + ([x].flatMap encSpan).length)).toArray = (cu.toList.take (i * 2) ++ .int .i64 x.f0 :: .int .i64 x.f1 :: cu.toList.drop (i * 2 + 2)).toArray := by rw [List.append_assoc]; rfl
            rw [hrow] at hput
            refine ⟨i + 1, j + 1, _, ys.take i ++ [x] ++ ys.drop (i + [x].length), by first | rfl | (simp; done) | go_num, by first | rfl | (simp; done) | go_num, ⟨by have := HIJ.out.1; omega, by have := HIJ.out.2; omega⟩, ⟨setRow_below (below_then HBA.out HBAS.out hb') HK.out.1 _⟩, ⟨hput⟩, ⟨?_, ?_, ?_⟩⟩
            · have h1 := HY.out.1
              have h2 := HIJ.out.1
              simp; omega
            · have hl : (ys.take i).length = i := by rw [List.length_take, HY.out.1]; omega
              rw [take_app_len _ _ _ (by rw [List.length_append, hl]; rfl), HT.out.1]
              simp [HQ.out]
            · have hl : (ys.take i).length = i := by rw [List.length_take, HY.out.1]; omega
              have h2 := HIJ.out.1
              rw [List.drop_append, List.drop_of_length_le (by rw [List.length_append, hl]; simp; omega), List.nil_append, List.drop_drop, ← HT.out.2, List.length_append, hl]
              congr 1
              simp; omega
      · have hd : decide ((j : Int) < (n : Int)) = false := decide_eq_false (by omega)
        have hjn : j = n := by have := HIJ.out.2; omega
        have hi0 : (0 : Int) ≤ (i : Int) := by omega
        have hi1 : (i : Int) ≤ (n : Int) := by have := HIJ.out.1; omega
        have hin : i < n := by have := HIJ.out.1; omega
        have hb7 : ¬ (c0 = i) := by omega
        have hi2 : (i : Int) ≤ (c0 : Int) := by omega
        have hres : ys.take i = xs.filter (fun x => !p x) := by
          rw [HY.out.2.1, hjn, List.take_of_length_le (by rw [← HNN.out]; exact Nat.le_refl _)]
        obtain ⟨zs, hzl, hclr⟩ := run_clear_k (P := Try.prog) wr 54 40 0 (.agg #[.int .i64 0, .int .i64 0]) Try.underlying54 Try.zeroValue40 g (i * 2) (n - i) (c0 - i) cu 40 HLW.out.1 (by rw [HLW.out.2.1]; show i * 2 + (n - i) * 2 ≤ c0 * 2; omega) (by intro u hu; simp [Value.cells] at hu; rw [hu]; rfl) (by omega)
        obtain ⟨cur3, hcur3⟩ : ∃ R : Array Value, R = (cu.toList.take (i * 2) ++ zs ++ cu.toList.drop (i * 2 + zs.length)).toArray := ⟨_, rfl⟩
        rw [← hcur3] at hclr
        have hc2l : (cu.toList.take (i * 2)).length = i * 2 := by
          rw [List.length_take, (show cu.toList.length = cu.size from Array.length_toList), HLW.out.2.1]
          omega
        have hzl2 : zs.length = (n - i) * 2 := hzl
        have hli : (ys.take i).length = i := by rw [List.length_take, HY.out.1]; omega
        have hL5 := (HLW.out.cut spanLen i (by rw [HY.out.1]; omega)).behind (cur' := cur3) (i * 2) (by rw [hli]; exact Nat.le_refl _) (by rw [hcur3, List.size_toArray, List.length_append, List.length_append, hc2l, List.length_drop, (show cu.toList.length = cu.size from Array.length_toList), HLW.out.2.1, hzl2]; omega) (by rw [hcur3, List.append_assoc]; exact take_app_len _ _ _ hc2l)
        have hr := hL5.R (base := base) (ok := ok) HK.out.1 HK.out.2.1
        rw [hli, hres] at hr
        have HRES := Aside0.mk (And.intro hr (setRow_below HBW.out HK.out.1 cur3))
        clear hcur3 hc2l hzl hzl2 hli hL5 hr hres hjn
        go_wp2_with (at_builtin; refine wpList_clear_run _ rfl _ 54 rfl _ rfl hclr ?_)
        go_ret
        exact ⟨_, rfl, HRES.out.1, HRES.out.2⟩

end Go.Proofs.Ytkkfkdncddbaeaa.Fn
