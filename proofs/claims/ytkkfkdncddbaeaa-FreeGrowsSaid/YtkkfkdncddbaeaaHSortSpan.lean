-- Told by hand; its numbers filled in by a program of this session.
import Derived.Test.YtkkfkdncddbaeaaFnBase
import Derived.Test.YtkkfkdncddbaeaaHLies
import Derived.Test.YtkkfkdncddbaeaaFn97
import Derived.Shelf.SlSortCmp.WholeK
import Derived.Shelf.SlSortCmp.NoneTotal
namespace Go.Proofs.Ytkkfkdncddbaeaa.Fn
open Go.RowKit Go.Proofs.YtkkfkdncddbaeaaW.PrintWords Go.Proofs.YtkkfkdncddbaeaaW.PrintLast Go.Proofs.YtkkfkdncddbaeaaW.PrintMore
attribute [local go_sem] max2_int min2_int max_two min_two max_three min_three max_four min_four   -- for this text's walks alone
set_option linter.unusedVariables false
set_option linter.unusedSimpArgs false

/-! slices.SortFunc at spans, laid out of the library's proof over any program. -/
def sortSpan_ren : Go.Shelf.Ren := ⟨fun | 6 => 132 | 15 => 147 | 14 => 154 | 28 => 169 | 29 => 170 | 20 => 179 | 21 => 180 | 22 => 181 | 23 => 182 | 24 => 183 | 25 => 184 | 26 => 185 | 27 => 186 | 46 => 198 | 47 => 190 | 48 => 191 | 49 => 199 | 50 => 200 | 57 => 205 | n => n, fun | 22 => 54 | 24 => 40 | 25 => 156 | 3 => 3 | 39 => 183 | 0 => 0 | 53 => 213 | 55 => 215 | 4 => 4 | 46 => 207 | 45 => 206 | 50 => 147 | 5 => 5 | 9 => 9 | 66 => 226 | 70 => 230 | 76 => 238 | 77 => 50 | n => n, fun | n => n⟩
theorem sortSpan : Go.Proofs.SlLaysF0.n6 Try.prog sortSpan_ren := {
  mixed := by kernel_rfl,
  f6 := ⟨Try.f132.name, by decide, Try.func132.trans (congrArg some (by kernel_rfl))⟩,
  f14 := ⟨Try.f154.name, by decide, Try.func154.trans (congrArg some (by kernel_rfl))⟩,
  f15 := Try.func147.trans (congrArg some (by kernel_rfl)),
  f20 := ⟨Try.f179.name, by decide, Try.func179.trans (congrArg some (by kernel_rfl))⟩,
  f21 := ⟨Try.f180.name, by decide, Try.func180.trans (congrArg some (by kernel_rfl))⟩,
  f22 := ⟨Try.f181.name, by decide, Try.func181.trans (congrArg some (by kernel_rfl))⟩,
  f23 := ⟨Try.f182.name, by decide, Try.func182.trans (congrArg some (by kernel_rfl))⟩,
  f24 := ⟨Try.f183.name, by decide, Try.func183.trans (congrArg some (by kernel_rfl))⟩,
  f25 := ⟨Try.f184.name, by decide, Try.func184.trans (congrArg some (by kernel_rfl))⟩,
  f26 := ⟨Try.f185.name, by decide, Try.func185.trans (congrArg some (by kernel_rfl))⟩,
  f27 := ⟨Try.f186.name, by decide, Try.func186.trans (congrArg some (by kernel_rfl))⟩,
  f28 := Try.func169.trans (congrArg some (by kernel_rfl)),
  f29 := Try.func170.trans (congrArg some (by kernel_rfl)),
  f46 := ⟨Try.f198.name, by decide, Try.func198.trans (congrArg some (by kernel_rfl))⟩,
  f47 := Try.func190.trans (congrArg some (by kernel_rfl)),
  f48 := Try.func191.trans (congrArg some (by kernel_rfl)),
  f49 := ⟨Try.f199.name, by decide, Try.func199.trans (congrArg some (by kernel_rfl))⟩,
  f50 := ⟨Try.f200.name, by decide, Try.func200.trans (congrArg some (by kernel_rfl))⟩,
  f57 := ⟨Try.f205.name, by decide, Try.func205.trans (congrArg some (by kernel_rfl))⟩,
  t0 := Try.underlying0,
  a0 := Try.isAgg0,
  z0 := Try.sizeOf0,
  v0 := Try.zeroValue0,
  t3 := Try.underlying3,
  a3 := Try.isAgg3,
  z3 := Try.sizeOf3,
  v3 := Try.zeroValue3,
  t4 := Try.underlying4,
  a4 := Try.isAgg4,
  z4 := Try.sizeOf4,
  v4 := Try.zeroValue4,
  t5 := Try.underlying5,
  a5 := Try.isAgg5,
  z5 := Try.sizeOf5,
  v5 := Try.zeroValue5,
  t9 := Try.underlying9,
  a9 := Try.isAgg9,
  z9 := Try.sizeOf9,
  v9 := Try.zeroValue9,
  t22 := Try.underlying54,
  a22 := Try.isAgg54,
  z22 := Try.sizeOf54,
  v22 := Try.zeroValue54,
  t25 := Try.underlying156,
  a25 := Try.isAgg156,
  z25 := Try.sizeOf156,
  v25 := Try.zeroValue156,
  t39 := Try.underlying183,
  a39 := Try.isAgg183,
  z39 := Try.sizeOf183,
  v39 := Try.zeroValue183,
  t45 := Try.underlying206,
  a45 := Try.isAgg206,
  z45 := Try.sizeOf206,
  v45 := Try.zeroValue206,
  t46 := Try.underlying207,
  a46 := Try.isAgg207,
  z46 := Try.sizeOf207,
  v46 := Try.zeroValue207,
  t50 := Try.underlying147,
  a50 := Try.isAgg147,
  z50 := Try.sizeOf147,
  v50 := Try.zeroValue147,
  t53 := Try.underlying213,
  a53 := Try.isAgg213,
  z53 := Try.sizeOf213,
  v53 := Try.zeroValue213,
  t55 := Try.underlying215,
  a55 := Try.isAgg215,
  z55 := Try.sizeOf215,
  v55 := Try.zeroValue215,
  t66 := Try.underlying226,
  a66 := Try.isAgg226,
  z66 := Try.sizeOf226,
  v66 := Try.zeroValue226,
  t70 := Try.underlying230,
  a70 := Try.isAgg230,
  z70 := Try.sizeOf230,
  v70 := Try.zeroValue230,
  t76 := Try.underlying238,
  a76 := Try.isAgg238,
  z76 := Try.sizeOf238,
  v76 := Try.zeroValue238,
  t77 := Try.underlying50,
  a77 := Try.isAgg50,
  z77 := Try.sizeOf50,
  v77 := Try.zeroValue50 }
instance inhab40 : Inhabited S40 := ⟨z40⟩
def encSpan (x : S40) : List Value := [.int .i64 x.f0, .int .i64 x.f1]
theorem flatSpan : Flat k40 encSpan :=
  ⟨fun _ => rfl, by decide, fun x v hv => by
    simp only [encSpan, List.mem_cons, List.not_mem_nil, or_false] at hv
    rcases hv with rfl | rfl <;> rfl, fun h => k40_openM h, fun w base ok x => k40_mkM w base ok x⟩
/-- Two spans, by where they begin. -/
def cmpAt (x y : S40) : Int := if x.f0 < y.f0 then -1 else if y.f0 < x.f0 then 1 else 0
open Go.Sort Go.Proofs in
theorem lt_cmpAt (x y : S40) : ltOf cmpAt x y = decide (x.f0 < y.f0) := by
  unfold ltOf cmpAt
  by_cases h1 : x.f0 < y.f0
  · simp [h1]
  · by_cases h2 : y.f0 < x.f0 <;> simp [h1, h2]
open Go.Sort Go.Proofs in
theorem swo_cmpAt : SWO (ltOf cmpAt) where
  irrefl x := by rw [lt_cmpAt]; simp
  trans x y z h1 h2 := by rw [lt_cmpAt] at *; simp at *; omega
  ntrans x y z h1 h2 := by rw [lt_cmpAt] at *; simp at *; omega
theorem cmp_f (a b : Int) : cmp_Compare_int.f a b = some (if a < b then -1 else if b < a then 1 else 0) := by
  unfold cmp_Compare_int.f cmp_isNaN_int.f
  simp only [bne_self_eq_false, Option.bind_some, Bool.false_eq_true, if_false]
  split
  · rfl
  · split
    · rfl
    · rfl
set_option maxHeartbeats 1000000 in
set_option maxRecDepth 100000 in
open Go.Proofs Go.Sort in
/-- Join's closure, in whatever world. -/
theorem join_cmp (x y : S40) (W : World) : Calls Try.prog 143 #[.agg #[.int .i64 x.f0, .int .i64 x.f1], .agg #[.int .i64 y.f0, .int .i64 y.f1]] W fun e w' => e = .returned (.int .i64 (cmpAt x y)) ∧ ∃ q os', w' = grow (W.drewN q) os' := by
  have hu40 := Try.underlying40
  have hf : cmp_Compare_int.f x.f0 y.f0 = some (cmpAt x y) := cmp_f x.f0 y.f0
  go_enter Try.func143, Try.ntmps143
  go_wp2_with fail
  refine (cmp_Compare_int.calls x.f0 y.f0 _ _ hf).mono ?_
  rintro e w1 ⟨rfl, ⟨q, rfl⟩⟩
  clear hf
  go_wp2
  go_ret
  exact ⟨rfl, q, _, by rw [alloc_eq_grow, alloc_eq_grow, grow_grow]; rfl⟩
open Go.Proofs Go.Sort in
/-- slices.SortFunc at a row of spans that is the caller's own. -/
theorem sort_span (cl : Nat) (eg : ∀ args w, (callFunc cl args).run Try.prog w = .ok (.enter cl args) w)
    (hcl : ∀ (x y : S40) (W : World), Calls Try.prog cl #[.agg #[.int .i64 x.f0, .int .i64 x.f1], .agg #[.int .i64 y.f0, .int .i64 y.f1]] W fun e w' => e = .returned (.int .i64 (cmpAt x y)) ∧ ∃ q os', w' = grow (W.drewN q) os')
    {w0 w : World} {base : Nat} {ok : Nat → Prop} {v : Value} {xs : List S40} (HO : Kd.R k40 40 w base ok v xs) (HB : Go.RowKit.Below base w0 w) (hbase : base ≤ w.heap.size) (hlen : xs.length < 4611686018427387904) :
    Calls Try.prog 132 #[v, .func (.func cl) #[] #[]] w fun e w' => e = .returned (.tuple #[]) ∧ ∃ ys : List S40, ys.Perm xs ∧ (ys.Pairwise fun a b => a.f0 ≤ b.f0) ∧ Kd.R k40 40 w' base ok v ys ∧ Go.RowKit.Below base w0 w' ∧ w.heap.size ≤ w'.heap.size ∧ (∀ i, i < w.heap.size → some i ≠ v.ownBlock → w'.heap[i]? = w.heap[i]?) := by
  rcases R_lies flatSpan HO with ⟨rfl, rfl⟩ | ⟨g, cap, rfl, hg, hok, hL⟩
  · refine (AnyF.slices_SortFunc_none sortSpan none 0 (.func (.func cl) #[] #[]) w).mono ?_
    rintro e w' ⟨rfl, rfl⟩
    exact ⟨rfl, [], List.Perm.nil, List.Pairwise.nil, HO, HB, Nat.le_refl _, fun _ _ _ => rfl⟩
  · have hk : ∀ x : S40, (encSpan x).length = 2 := fun _ => rfl
    have hcon := AnyQ.slices_SortFunc sortSpan 2 Try.isAgg40 Try.sizeOf40 encSpan hk flatSpan.one cmpAt swo_cmpAt cl #[] g 0 cap xs.toArray w eg (fun m os dk hd x y => hcl x y _) (hL.holds hk (by decide)) hL.block (by simpa using hlen)
    refine Calls.mono hcon ?_
    rintro e w' ⟨rfl, d', n, os, hp, hs, rfl⟩
    obtain ⟨h1, h2, h3⟩ := sort_list hp hs
    have h4 := hL.sorted (n := n) (os := os) hk (by decide) h1
    refine ⟨rfl, d'.toList, h2, h3.imp (fun {a b} h => ?_), ?_, sorted_below HB hg hbase, ?_, fun i hi hne => ?_⟩
    · rw [lt_cmpAt] at h
      have := of_decide_eq_false h
      omega
    · have h5 := R_of_lies (base := base) (ok := ok) flatSpan hg hok h4
      have e1 : d'.toList.length = xs.length := by simpa using h1
      rw [e1] at h5
      exact h5
    · exact size_sortWorldK_c encSpan 2 w g 0 n d' os
    · rw [sorted_heap 2 g n d' os i hi, if_neg (fun h => hne (by rw [h]; rfl))]

end Go.Proofs.Ytkkfkdncddbaeaa.Fn
