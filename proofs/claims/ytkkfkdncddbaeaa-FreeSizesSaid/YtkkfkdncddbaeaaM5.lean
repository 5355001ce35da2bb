/- Part 5 of the walk: printed by programs of this session (by way of the kit's print) or told by hand. -/
import Derived.Test.YtkkfkdncddbaeaaM4
import Derived.Shelf.SlSortCmp.WholeK
import Derived.Shelf.SlSortCmp.NoneTotal
import Derived.Deep.RegionLaw
import Derived.StillTailTactics
import Derived.IntWalk
import Derived.Shelf.SlicesQ.IndexFunc
import Derived.Laws.CopyRow
import Derived.Lib.AppendZerosOnto
import Derived.Laws.Externs
import Derived.Lib.Overlaps
import Derived.Shelf.Spec.SlicesInsert
import Derived.Laws.Tables
namespace Go.Proofs.Ytkkfkdncddbaeaa.Fn
open Go.RowKit Go.Proofs.YtkkfkdncddbaeaaW.PrintWords Go.Proofs.YtkkfkdncddbaeaaW.PrintLast Go.Proofs.YtkkfkdncddbaeaaW.PrintMore
attribute [local go_sem] max2_int min2_int max_two min_two max_three min_three max_four min_four
set_option linter.unusedVariables false
set_option linter.unusedSimpArgs false
structure Flat {α : Type} (d : Kd α) (enc : α → List Value) : Prop where
  len : ∀ x, (enc x).length = d.sz
  pos : 0 < d.sz
  one : ∀ x, ∀ v ∈ enc x, v.oneCell' = true
  openM : ∀ {w : World} {base : Nat} {ok : Nat → Prop} {x : α} {cs : List Value}, d.M w base ok x cs → cs = enc x
  mkM : ∀ (w : World) (base : Nat) (ok : Nat → Prop) (x : α), d.M w base ok x (enc x)
def Lies {α : Type} (enc : α → List Value) (k e : Nat) (w : World) (g cap : Nat) (xs : List α) : Prop :=
  ∃ cur : Array Value, w.heap[g]? = some (.cells cur e (0, 0)) ∧ cur.size = cap * k ∧ xs.length ≤ cap ∧ cap ≤ maxLen ∧
    ∀ j x, xs[j]? = some x → ∀ i v, (enc x)[i]? = some v → cur[j * k + i]? = some v
section
variable {α : Type} {d : Kd α} {enc : α → List Value} {e : Nat} {w : World} {base : Nat} {ok : Nat → Prop} {v : Value} {xs : List α}
theorem R_lies (F : Flat d enc) (h : d.R e w base ok v xs) : (v = .slice none 0 0 ∧ xs = []) ∨ ∃ g cap, v = .slice (some ⟨g, 0, none⟩) xs.length cap ∧ base ≤ g ∧ ok g ∧ Lies enc d.sz e w g cap xs := by
  obtain ⟨hok, inner, ⟨hlen, hown⟩, hr⟩ := h
  rcases hown with ⟨h1, h2⟩ | ⟨g, cap, cur, h1, hb, hh, h2, h3, h4, h5⟩
  · exact .inl ⟨h1, List.eq_nil_of_length_eq_zero h2⟩
  · subst h1
    refine .inr ⟨g, cap, rfl, hb, hok g rfl, cur, hh, h4, h2, h3, fun j x hj i u hu => ?_⟩
    have h6 := F.openM (hr.2 j x hj)
    have hi : i < d.sz := by
      have := (List.getElem?_eq_some_iff.1 hu).1
      rw [F.len] at this
      exact this
    rw [← h6, List.getElem?_take_of_lt hi, List.getElem?_drop, ← h5] at hu
    have h7 := (List.getElem?_eq_some_iff.1 hu).1
    rw [List.length_take] at h7
    rw [List.getElem?_take_of_lt (by omega), Array.getElem?_toList] at hu
    exact hu
theorem R_of_lies (F : Flat d enc) {g cap : Nat} (hb : base ≤ g) (hg : ok g) (h : Lies enc d.sz e w g cap xs) : d.R e w base ok (.slice (some ⟨g, 0, none⟩) xs.length cap) xs := by
  obtain ⟨cur, hh, h1, h2, h3, h4⟩ := h
  have hle : xs.length * d.sz ≤ cur.size := by rw [h1]; exact Nat.mul_le_mul_right _ h2
  refine ⟨fun k hk => ?_, cur.toList.take (xs.length * d.sz), ⟨?_, .inr ⟨g, cap, cur, rfl, hb, hh, h2, h3, h1, rfl⟩⟩, ?_, fun j p hj => ?_⟩
  · have : g = k := by simpa [Value.ownBlock] using hk
    rw [← this]; exact hg
  · rw [List.length_take, Array.length_toList]; exact Nat.min_eq_left hle
  · rw [List.length_take, Array.length_toList]; exact Nat.min_eq_left hle
  · have hjl : j < xs.length := (List.getElem?_eq_some_iff.1 hj).1
    have he : ((cur.toList.take (xs.length * d.sz)).drop (j * d.sz)).take d.sz = enc p := by
      apply List.ext_getElem?
      intro i
      by_cases hi : i < d.sz
      · have hm : j * d.sz + i < xs.length * d.sz := by
          have : (j + 1) * d.sz ≤ xs.length * d.sz := Nat.mul_le_mul_right _ hjl
          rw [Nat.add_mul, Nat.one_mul] at this
          omega
        rw [List.getElem?_take_of_lt hi, List.getElem?_drop, List.getElem?_take_of_lt hm, Array.getElem?_toList]
        have hl : i < (enc p).length := by rw [F.len]; exact hi
        rw [List.getElem?_eq_getElem hl]
        exact h4 j p hj i _ (List.getElem?_eq_getElem hl)
      · rw [List.getElem?_eq_none (by rw [List.length_take]; omega), List.getElem?_eq_none (by rw [F.len]; omega)]
    rw [he]
    exact F.mkM _ _ _ _
theorem R_new_nil (d : Kd α) (e : Nat) (w : World) (base : Nat) (ok : Nat → Prop) (hb : base ≤ w.heap.size) (hok : ok w.heap.size) : d.R e (w.alloc (.cells #[] e)) base ok (.slice (some ⟨w.heap.size, 0, none⟩) 0 0) [] := by
  refine ⟨fun k hk => ?_, [], ⟨by simp, .inr ⟨w.heap.size, 0, #[], rfl, hb, blk_new w _, Nat.le_refl _, by unfold maxLen; omega, by simp, by simp⟩⟩, Reps.none _ _⟩
  have : w.heap.size = k := by simpa [Value.ownBlock] using hk
  rw [← this]; exact hok
theorem Lies.block {k g cap : Nat} (h : Lies enc k e w g cap xs) : g < w.heap.size := by
  obtain ⟨cur, hh, _⟩ := h
  exact blk_lt hh
theorem Lies.far {k g cap : Nat} {w1 : World} (h : Lies enc k e w g cap xs) (hk : w1.heap[g]? = w.heap[g]?) : Lies enc k e w1 g cap xs := by
  obtain ⟨cur, hh, h2⟩ := h
  exact ⟨cur, hk.trans hh, h2⟩
open Go.Sort Go.Proofs in
theorem Lies.holds [Inhabited α] {k g cap : Nat} (hk : ∀ x, (enc x).length = k) (h0 : 0 < k) (h : Lies enc k e w g cap xs) : HoldsK enc k w g 0 xs.toArray := by
  obtain ⟨cur, hh, h1, h2, h3, h4⟩ := h
  intro j hj
  rw [size_flatK] at hj
  have hjk : j / k < xs.length := by
    rw [Nat.div_lt_iff_lt_mul h0]
    simpa using hj
  have hm : j % k < k := Nat.mod_lt _ h0
  have e1 : xs[j / k]? = some xs[j / k] := List.getElem?_eq_getElem hjk
  have hl : j % k < (enc xs[j / k]).length := by rw [hk]; exact hm
  have h5 := h4 (j / k) _ e1 (j % k) _ (List.getElem?_eq_getElem hl)
  have e2 : j / k * k + j % k = j := Nat.div_add_mod' j k
  rw [e2] at h5
  refine ⟨?_, ?_⟩
  · rw [Nat.zero_add, blk_cell hh, h5, get_flatK enc k _ j hj]
    have e3 : xs.toArray[j / k]! = xs[j / k] := by rw [getElem!_pos xs.toArray (j / k) (by simpa using hjk)]; simp
    rw [e3, getElem!_pos (enc xs[j / k]) (j % k) hl]
    rfl
  · exact blk_frozen hh _
open Go.Sort Go.Proofs in
theorem sorted_heap [Inhabited α] (k g n : Nat) (d' : Array α) (os : Array Obj) (i : Nat) (hi : i < w.heap.size) : (sortWorldK enc k w g 0 n d' os).heap[i]? = if g = i then (w.heap[i]?).map (onCells (putCells id 0 (flatK enc k d'))) else w.heap[i]? := by
  unfold sortWorldK grow putRowK putRow mapBlock Sort.ahead
  dsimp only
  rw [Array.getElem?_append_left (by rw [Array.size_modify]; exact hi), Array.getElem?_modify]
open Go.Sort Go.Proofs in
theorem Lies.sorted [Inhabited α] {k g cap n : Nat} {d' : Array α} {os : Array Obj} (hk : ∀ x, (enc x).length = k) (h0 : 0 < k) (h : Lies enc k e w g cap xs) (hd : d'.size = xs.length) : Lies enc k e (sortWorldK enc k w g 0 n d' os) g cap d'.toList := by
  have hg := h.block
  obtain ⟨cur, hh, h1, h2, h3, h4⟩ := h
  refine ⟨putCells id 0 (flatK enc k d') cur, ?_, ?_, by simpa [hd] using h2, h3, fun j x hj i u hu => ?_⟩
  · rw [sorted_heap k g n d' os g hg, if_pos rfl, hh]
    rfl
  · unfold putCells
    rw [Array.size_mapIdx, h1]
  · have hjl : j < d'.size := by
      have := (List.getElem?_eq_some_iff.1 hj).1
      simpa using this
    have hi : i < k := by
      have := (List.getElem?_eq_some_iff.1 hu).1
      rw [hk] at this
      exact this
    have hlt : j * k + i < d'.size * k := by
      have : (j + 1) * k ≤ d'.size * k := Nat.mul_le_mul_right _ hjl
      rw [Nat.add_mul, Nat.one_mul] at this
      omega
    have hc : j * k + i < cur.size := by
      rw [h1]
      have : d'.size * k ≤ cap * k := Nat.mul_le_mul_right _ (by omega)
      omega
    have e1 : (j * k + i) / k = j := by rw [Nat.mul_comm, Nat.mul_add_div h0, Nat.div_eq_of_lt hi, Nat.add_zero]
    have e2 : (j * k + i) % k = i := by rw [Nat.mul_comm, Nat.mul_add_mod, Nat.mod_eq_of_lt hi]
    unfold putCells
    rw [Array.getElem?_mapIdx, Array.getElem?_eq_getElem hc, Option.map_some, if_pos ⟨Nat.zero_le _, by rw [size_flatK]; omega⟩, Nat.sub_zero, get_flatK enc k d' _ hlt, e1, e2]
    have e3 : d'[j]! = x := by
      rw [getElem!_pos d' j hjl]
      rw [Array.getElem?_toList, Array.getElem?_eq_getElem hjl] at hj
      exact Option.some.inj hj
    have hil : i < (enc x).length := by rw [hk]; exact hi
    rw [e3, getElem!_pos (enc x) i hil]
    rw [List.getElem?_eq_getElem hil] at hu
    exact hu
open Go.Sort Go.Proofs in
theorem sorted_below [Inhabited α] {k g n : Nat} {d' : Array α} {os : Array Obj} {w0 : World} (h : Go.RowKit.Below base w0 w) (hg : base ≤ g) (hb : base ≤ w.heap.size) : Go.RowKit.Below base w0 (sortWorldK enc k w g 0 n d' os) := by
  refine ⟨h.os, h.tape, h.output, Nat.le_trans h.size ?_, fun i hi => ?_⟩
  · exact size_sortWorldK_c enc k w g 0 n d' os
  · rw [sorted_heap k g n d' os i (by omega), if_neg (by omega)]
    exact h.block i hi
open Go.Sort Go.Proofs in
theorem sort_list [Inhabited α] {lt : α → α → Bool} {xs : List α} {d' : Array α} (hp : PermIn 0 xs.toArray.size xs.toArray d') (hs : SortedIn lt 0 xs.toArray.size d') : d'.size = xs.length ∧ d'.toList.Perm xs ∧ d'.toList.Pairwise fun a b => lt b a = false := by
  obtain ⟨h1, _, h2⟩ := hp
  have hsz : d'.size = xs.length := by simpa using h1
  have e1 : d'.extract 0 xs.toArray.size = d' := by rw [← h1]; exact Array.extract_size
  have e2 : xs.toArray.extract 0 xs.toArray.size = xs.toArray := Array.extract_size
  rw [e1, e2] at h2
  refine ⟨hsz, by simpa using h2, ?_⟩
  rw [List.pairwise_iff_getElem]
  intro i j hi hj hij
  have := hs i j (Nat.zero_le _) hij (by rw [← h1]; simpa using hj)
  rw [getElem!_pos d' j (by simpa using hj), getElem!_pos d' i (by simpa using hi)] at this
  simpa using this
end
end Go.Proofs.Ytkkfkdncddbaeaa.Fn
namespace Go.Proofs.Ytkkfkdncddbaeaa.Fn
open Go.RowKit Go.Proofs.YtkkfkdncddbaeaaW.PrintWords Go.Proofs.YtkkfkdncddbaeaaW.PrintLast Go.Proofs.YtkkfkdncddbaeaaW.PrintMore
attribute [local go_sem] max2_int min2_int max_two min_two max_three min_three max_four min_four
set_option linter.unusedVariables false
set_option linter.unusedSimpArgs false
def sortSpan_ren : Go.Shelf.Ren := ⟨fun | 6 => 132 | 15 => 147 | 14 => 154 | 28 => 169 | 29 => 170 | 20 => 179 | 21 => 180 | 22 => 181 | 23 => 182 | 24 => 183 | 25 => 184 | 26 => 185 | 27 => 186 | 46 => 198 | 47 => 190 | 48 => 191 | 49 => 199 | 50 => 200 | 57 => 205 | n => n, fun | 22 => 54 | 24 => 40 | 25 => 156 | 3 => 3 | 39 => 183 | 0 => 0 | 53 => 213 | 55 => 215 | 4 => 4 | 46 => 207 | 45 => 206 | 50 => 147 | 5 => 5 | 9 => 9 | 66 => 226 | 70 => 230 | 76 => 238 | 77 => 50 | n => n, fun | n => n⟩
theorem sortSpan : Go.Proofs.SlLaysF0.n6 Try.prog sortSpan_ren := {
  mixed := by kernel_rfl,
  f6 := ⟨Try.f132.name, by decide, Try.func132.trans (congrArg some (by kernel_rfl))⟩,
  f14 := ⟨Try.f154.name, by decide, Try.func154.trans (congrArg some (by kernel_rfl))⟩,
  f15 := Try.func147.trans (congrArg some (by kernel_rfl)),
  f20 := ⟨Try.f179.name, by decide, Try.func179.trans (congrArg some (by kernel_rfl))⟩,
  f21 := ⟨Try.f180.name, by decide, Try.func180.trans (congrArg some (by kernel_rfl))⟩,
  f22 := ⟨Try.f181.name, by decide, Try.func181.trans (congrArg some (by kernel_rfl))⟩,
  f23 := ⟨Try.f182.name, by decide, Try.func182.trans (congrArg some (by kernel_rfl))⟩,
  f24 := ⟨Try.f183.name, by decide, Try.func183.trans (congrArg some (by kernel_rfl))⟩,
  f25 := ⟨Try.f184.name, by decide, Try.func184.trans (congrArg some (by kernel_rfl))⟩,
  f26 := ⟨Try.f185.name, by decide, Try.func185.trans (congrArg some (by kernel_rfl))⟩,
  f27 := ⟨Try.f186.name, by decide, Try.func186.trans (congrArg some (by kernel_rfl))⟩,
  f28 := Try.func169.trans (congrArg some (by kernel_rfl)),
  f29 := Try.func170.trans (congrArg some (by kernel_rfl)),
  f46 := ⟨Try.f198.name, by decide, Try.func198.trans (congrArg some (by kernel_rfl))⟩,
  f47 := Try.func190.trans (congrArg some (by kernel_rfl)),
  f48 := Try.func191.trans (congrArg some (by kernel_rfl)),
  f49 := ⟨Try.f199.name, by decide, Try.func199.trans (congrArg some (by kernel_rfl))⟩,
  f50 := ⟨Try.f200.name, by decide, Try.func200.trans (congrArg some (by kernel_rfl))⟩,
  f57 := ⟨Try.f205.name, by decide, Try.func205.trans (congrArg some (by kernel_rfl))⟩,
  t0 := Try.underlying0,
  a0 := Try.isAgg0,
  z0 := Try.sizeOf0,
  v0 := Try.zeroValue0,
  t3 := Try.underlying3,
  a3 := Try.isAgg3,
  z3 := Try.sizeOf3,
  v3 := Try.zeroValue3,
  t4 := Try.underlying4,
  a4 := Try.isAgg4,
  z4 := Try.sizeOf4,
  v4 := Try.zeroValue4,
  t5 := Try.underlying5,
  a5 := Try.isAgg5,
  z5 := Try.sizeOf5,
  v5 := Try.zeroValue5,
  t9 := Try.underlying9,
  a9 := Try.isAgg9,
  z9 := Try.sizeOf9,
  v9 := Try.zeroValue9,
  t22 := Try.underlying54,
  a22 := Try.isAgg54,
  z22 := Try.sizeOf54,
  v22 := Try.zeroValue54,
  t25 := Try.underlying156,
  a25 := Try.isAgg156,
  z25 := Try.sizeOf156,
  v25 := Try.zeroValue156,
  t39 := Try.underlying183,
  a39 := Try.isAgg183,
  z39 := Try.sizeOf183,
  v39 := Try.zeroValue183,
  t45 := Try.underlying206,
  a45 := Try.isAgg206,
  z45 := Try.sizeOf206,
  v45 := Try.zeroValue206,
  t46 := Try.underlying207,
  a46 := Try.isAgg207,
  z46 := Try.sizeOf207,
  v46 := Try.zeroValue207,
  t50 := Try.underlying147,
  a50 := Try.isAgg147,
  z50 := Try.sizeOf147,
  v50 := Try.zeroValue147,
  t53 := Try.underlying213,
  a53 := Try.isAgg213,
  z53 := Try.sizeOf213,
  v53 := Try.zeroValue213,
  t55 := Try.underlying215,
  a55 := Try.isAgg215,
  z55 := Try.sizeOf215,
  v55 := Try.zeroValue215,
  t66 := Try.underlying226,
  a66 := Try.isAgg226,
  z66 := Try.sizeOf226,
  v66 := Try.zeroValue226,
  t70 := Try.underlying230,
  a70 := Try.isAgg230,
  z70 := Try.sizeOf230,
  v70 := Try.zeroValue230,
  t76 := Try.underlying238,
  a76 := Try.isAgg238,
  z76 := Try.sizeOf238,
  v76 := Try.zeroValue238,
  t77 := Try.underlying50,
  a77 := Try.isAgg50,
  z77 := Try.sizeOf50,
  v77 := Try.zeroValue50 }
instance inhab40 : Inhabited S40 := ⟨z40⟩
def encSpan (x : S40) : List Value := [.int .i64 x.f0, .int .i64 x.f1]
theorem flatSpan : Flat k40 encSpan :=
  ⟨fun _ => rfl, by decide, fun x v hv => by
    simp only [encSpan, List.mem_cons, List.not_mem_nil, or_false] at hv
    rcases hv with rfl | rfl <;> rfl, fun h => k40_openM h, fun w base ok x => k40_mkM w base ok x⟩
def cmpAt (x y : S40) : Int := if x.f0 < y.f0 then -1 else if y.f0 < x.f0 then 1 else 0
open Go.Sort Go.Proofs in
theorem lt_cmpAt (x y : S40) : ltOf cmpAt x y = decide (x.f0 < y.f0) := by
  unfold ltOf cmpAt
  by_cases h1 : x.f0 < y.f0
  · simp [h1]
  · by_cases h2 : y.f0 < x.f0 <;> simp [h1, h2]
open Go.Sort Go.Proofs in
theorem swo_cmpAt : SWO (ltOf cmpAt) where
  irrefl x := by rw [lt_cmpAt]; simp
  trans x y z h1 h2 := by rw [lt_cmpAt] at *; simp at *; omega
  ntrans x y z h1 h2 := by rw [lt_cmpAt] at *; simp at *; omega
theorem cmp_f (a b : Int) : cmp_Compare_int.f a b = some (if a < b then -1 else if b < a then 1 else 0) := by
  unfold cmp_Compare_int.f cmp_isNaN_int.f
  simp only [bne_self_eq_false, Option.bind_some, Bool.false_eq_true, if_false]
  split
  · rfl
  · split
    · rfl
    · rfl
open Go.Proofs Go.Sort in
theorem sort_span (cl : Nat) (eg : ∀ args w, (callFunc cl args).run Try.prog w = .ok (.enter cl args) w)
    (hcl : ∀ (x y : S40) (W : World), Calls Try.prog cl #[.agg #[.int .i64 x.f0, .int .i64 x.f1], .agg #[.int .i64 y.f0, .int .i64 y.f1]] W fun e w' => e = .returned (.int .i64 (cmpAt x y)) ∧ ∃ q os', w' = grow (W.drewN q) os')
    {w0 w : World} {base : Nat} {ok : Nat → Prop} {v : Value} {xs : List S40} (HO : Kd.R k40 40 w base ok v xs) (HB : Go.RowKit.Below base w0 w) (hbase : base ≤ w.heap.size) (hlen : xs.length < 4611686018427387904) :
    Calls Try.prog 132 #[v, .func (.func cl) #[] #[]] w fun e w' => e = .returned (.tuple #[]) ∧ ∃ ys : List S40, ys.Perm xs ∧ (ys.Pairwise fun a b => a.f0 ≤ b.f0) ∧ Kd.R k40 40 w' base ok v ys ∧ Go.RowKit.Below base w0 w' ∧ w.heap.size ≤ w'.heap.size ∧ (∀ i, i < w.heap.size → some i ≠ v.ownBlock → w'.heap[i]? = w.heap[i]?) := by
  rcases R_lies flatSpan HO with ⟨rfl, rfl⟩ | ⟨g, cap, rfl, hg, hok, hL⟩
  · refine (AnyF.slices_SortFunc_none sortSpan none 0 (.func (.func cl) #[] #[]) w).mono ?_
    rintro e w' ⟨rfl, rfl⟩
    exact ⟨rfl, [], List.Perm.nil, List.Pairwise.nil, HO, HB, Nat.le_refl _, fun _ _ _ => rfl⟩
  · have hk : ∀ x : S40, (encSpan x).length = 2 := fun _ => rfl
    have hcon := AnyQ.slices_SortFunc sortSpan 2 Try.isAgg40 Try.sizeOf40 encSpan hk flatSpan.one cmpAt swo_cmpAt cl #[] g 0 cap xs.toArray w eg (fun m os dk hd x y => hcl x y _) (hL.holds hk (by decide)) hL.block (by simpa using hlen)
    refine Calls.mono hcon ?_
    rintro e w' ⟨rfl, d', n, os, hp, hs, rfl⟩
    obtain ⟨h1, h2, h3⟩ := sort_list hp hs
    have h4 := hL.sorted (n := n) (os := os) hk (by decide) h1
    refine ⟨rfl, d'.toList, h2, h3.imp (fun {a b} h => ?_), ?_, sorted_below HB hg hbase, ?_, fun i hi hne => ?_⟩
    · rw [lt_cmpAt] at h
      have := of_decide_eq_false h
      omega
    · have h5 := R_of_lies (base := base) (ok := ok) flatSpan hg hok h4
      have e1 : d'.toList.length = xs.length := by simpa using h1
      rw [e1] at h5
      exact h5
    · exact size_sortWorldK_c encSpan 2 w g 0 n d' os
    · rw [sorted_heap 2 g n d' os i hi, if_neg (fun h => hne (by rw [h]; rfl))]
end Go.Proofs.Ytkkfkdncddbaeaa.Fn
namespace Go.Proofs.Ytkkfkdncddbaeaa.Fn
open Go.RowKit Go.Proofs.YtkkfkdncddbaeaaW.PrintWords Go.Proofs.YtkkfkdncddbaeaaW.PrintLast Go.Proofs.YtkkfkdncddbaeaaW.PrintMore
attribute [local go_sem] max2_int min2_int max_two min_two max_three min_three max_four min_four
set_option linter.unusedVariables false
set_option linter.unusedSimpArgs false
def api_Span_101.f (l0 : List (S40)) : Option (List (S40)) := if l0.length < 8796093022208 then some l0 else none
set_option maxHeartbeats 2000000 in
set_option maxRecDepth 100000 in
theorem api_Span_101.calls (A0 : Option Addr) (c0 : Nat) (l0 : List (S40)) (r : List (S40)) (w : World) (hr0 : Kd.C k40 w A0 l0.length l0) (hc0 : l0.length ≤ c0) (h : api_Span_101.f l0 = some r) :
    Calls Try.prog 101 #[.slice A0 l0.length c0] w fun e w' => ∃ v0_ : Value, e = .returned (v0_) ∧ Kd.R k40 40 w' w.heap.size (fun _ => True) v0_ r ∧ Below w.heap.size w w' := by
  unfold api_Span_101.f at h
  split at h
  · rename_i hl
    obtain rfl := Option.some.inj h
    have hq : ∀ (w : World) (a : Option Addr) (n c n' c' : Nat), (binOp .eql 54 (.slice a n c) (.slice none n' c')).run Try.prog w = .ok (.bool a.isNone) w := fun w a n c n' c' => Lib.run_eql_slice_nil w _ _ a n c n' c' Try.underlying54
    have HR0 := Aside0.mk hr0
    have HC0 := Aside0.mk hc0
    have HL := Aside0.mk hl
    cases A0 with
    | none =>
      have hn : l0 = [] := by
        cases l0 with
        | nil => rfl
        | cons x t =>
          obtain ⟨_, _, h3⟩ := hr0
          obtain ⟨ad, h4, _⟩ := h3 (by simp)
          cases h4
      subst hn
      clear hr0 hc0 hl h
      go_enter Try.func101, Try.ntmps101
      go_wp2
      go_ret
      exact ⟨_, rfl, Kd.R_nil _ _ _ _ _, Below.refl _ _⟩
    | some ad =>
      have HN := Aside0.mk (R_new_nil k40 40 w w.heap.size (fun _ => True) (Nat.le_refl _) trivial)
      have HB := Aside0.mk ((Below.refl w.heap.size w).alloc (Nat.le_refl _) (.cells #[] 40))
      clear hr0 hc0 hl h
      go_enter Try.func101, Try.ntmps101
      go_wp2_with (first | ((with_reducible refine gate_builtin (b := .append) (xs := #[.tmp 5, .tmp 6]) rfl ?_); at_builtin; refine Kd.R_append_rows k40 (w0 := w) w.heap.size rfl (.tmp 5) (.tmp 6) 54 40 (.agg #[(.int .i64 0), (.int .i64 0)]) 16 rfl Try.underlying54 info40 rfl (by decide) (by omega) (.slice (some ⟨w.heap.size, 0, none⟩) 0 0) ([] : List S40) l0 _ _ _ (fun _ => True) (fun _ => False) rfl rfl ?aO ?aR (fun _ _ h => h) (fun _ h => h.elim) ?aF ?aB ?aS ?aL ?_; (case aR => exact Kd.C_alloc HR0.out _); (case aB => exact HB.out); (case aF => exact (fun _ _ => trivial)); (case aO => exact HN.out); (case aS => simp); (case aL => have := HL.out; simp only [List.length_nil]; omega); intro v1 w3 ho hb hg hat; have HO := Aside0.mk ho; have HB3 := Aside0.mk hb; clear ho hb hg hat))
      go_ret
      exact ⟨_, rfl, HO.out, HB3.out⟩
  · cases h
end Go.Proofs.Ytkkfkdncddbaeaa.Fn
namespace Go.Proofs.Ytkkfkdncddbaeaa.Fn
open Go.RowKit Go.Proofs.YtkkfkdncddbaeaaW.PrintWords Go.Proofs.YtkkfkdncddbaeaaW.PrintLast Go.Proofs.YtkkfkdncddbaeaaW.PrintMore
attribute [local go_sem] max2_int min2_int max_two min_two max_three min_three max_four min_four
set_option linter.unusedVariables false
set_option linter.unusedSimpArgs false
def toP (x : S40) : Flag.Sp := ⟨x.f0, x.f1⟩
structure OkSp (x : S40) : Prop where
  a : 0 ≤ x.f0
  n : 0 < x.f1
  e : x.f0 + x.f1 ≤ 1099511627776
instance okSp_dec (x : S40) : Decidable (OkSp x) := decidable_of_iff (0 ≤ x.f0 ∧ 0 < x.f1 ∧ x.f0 + x.f1 ≤ 1099511627776) ⟨fun h => ⟨h.1, h.2.1, h.2.2⟩, fun h => ⟨h.a, h.n, h.e⟩⟩
def sortL (l : List S40) : List S40 := l.mergeSort fun a b => decide (a.f0 ≤ b.f0)
theorem sortL_perm (l : List S40) : (sortL l).Perm l := List.mergeSort_perm l _
theorem sortL_sorted (l : List S40) : (sortL l).Pairwise fun a b => a.f0 ≤ b.f0 := by
  have h := List.pairwise_mergeSort (le := fun a b : S40 => decide (a.f0 ≤ b.f0)) (fun a b c h1 h2 => by simp at *; omega) (fun a b => by simp; omega) l
  exact h.imp (fun {a b} h => by simpa using h)
theorem rising_toP {l : List S40} (h : l.Pairwise fun a b => a.f0 ≤ b.f0) : Flag.risingS (l.map toP) := List.pairwise_map.2 h
end Go.Proofs.Ytkkfkdncddbaeaa.Fn
namespace Go.Proofs.Ytkkfkdncddbaeaa.Fn
open Go.RowKit Go.Proofs.YtkkfkdncddbaeaaW.PrintWords Go.Proofs.YtkkfkdncddbaeaaW.PrintLast Go.Proofs.YtkkfkdncddbaeaaW.PrintMore
attribute [local go_sem] max2_int min2_int max_two min_two max_three min_three max_four min_four
set_option linter.unusedVariables false
set_option linter.unusedSimpArgs false
def cmpI (a b : Int) : Int := if a < b then -1 else if b < a then 1 else 0
def keyE (x : S40) : Int := wrap64 (x.f0 + x.f1)
set_option maxHeartbeats 1000000 in
set_option maxRecDepth 100000 in
theorem at_cmp (x : S40) (v : Int) (w : World) :
    Calls Try.prog 141 #[.agg #[.int .i64 x.f0, .int .i64 x.f1], .int .i64 v] w fun e w' => e = .returned (.int .i64 (cmpI (keyE x) (wrap64 (v + 1)))) ∧ Below w.heap.size w w' := by
  have hu40 := Try.underlying40
  go_enter Try.func141, Try.ntmps141
  go_wp2_with fail
  have hf : cmp_Compare_int.f (wrap64 (x.f0 + x.f1)) (wrap64 (v + 1)) = some (cmpI (keyE x) (wrap64 (v + 1))) := cmp_f _ _
  refine (cmp_Compare_int.calls (wrap64 (x.f0 + x.f1)) (wrap64 (v + 1)) _ _ hf).mono ?_
  rintro e w1 ⟨rfl, hd⟩
  have HB := Aside0.mk (below_step ((Below.refl w.heap.size w).alloc (Nat.le_refl _) (.cells #[.int .i64 x.f0, .int .i64 x.f1] 40)) hd.below)
  clear hd hf
  go_wp2
  go_ret
  exact ⟨rfl, HB.out⟩
set_option maxHeartbeats 2000000 in
set_option maxRecDepth 100000 in
theorem bsearch_span (A0 : Option Addr) (c0 : Nat) (l0 : List S40) (v : Int) (w : World) (hr0 : Kd.C k40 w A0 l0.length l0) (hlen : l0.length ≤ 1024)
    (hs : ∀ i j : Int, 0 ≤ i → i < j → j < l0.length → keyE (rd_T40 l0 i) < keyE (rd_T40 l0 j)) :
    Calls Try.prog 140 #[.slice A0 l0.length c0, .int .i64 v, .func (.func 141) #[] #[]] w fun e w' => ∃ i : Int, 0 ≤ i ∧ i ≤ l0.length ∧ (∀ j : Int, 0 ≤ j → j < i → keyE (rd_T40 l0 j) < wrap64 (v + 1)) ∧ (∀ j : Int, i ≤ j → j < l0.length → wrap64 (v + 1) ≤ keyE (rd_T40 l0 j)) ∧ e = .returned (.tuple #[.int .i64 i, .bool (decide (i < l0.length) && (keyE (rd_T40 l0 i) == wrap64 (v + 1)))]) ∧ Below w.heap.size w w' := by
  have hu40 := Try.underlying40
  have HR0 := Aside0.mk hr0
  have HS := Aside0.mk hs
  clear hr0 hs
  go_enter Try.func140, Try.ntmps140
  go_wp2_with fail
  go_loopg [9, 10] l0.length (fun gk v9 v10 W => ∃ lo hi : Int, v9 = .int .i64 lo ∧ v10 = .int .i64 hi ∧ Aside0 (0 ≤ lo ∧ lo ≤ hi ∧ hi ≤ l0.length ∧ hi - lo ≤ gk) ∧ Aside0 ((∀ j : Int, 0 ≤ j → j < lo → keyE (rd_T40 l0 j) < wrap64 (v + 1)) ∧ (∀ j : Int, hi ≤ j → j < l0.length → wrap64 (v + 1) ≤ keyE (rd_T40 l0 j))) ∧ Aside0 (Below w.heap.size w W))
  case atStart => exact ⟨0, l0.length, rfl, rfl, ⟨Int.le_refl _, by omega, Int.le_refl _, by omega⟩, ⟨fun j h1 h2 => by omega, fun j h1 h2 => by omega⟩, ⟨Below.refl _ _⟩⟩
  case round =>
    obtain ⟨lo, hi, rfl, rfl, HI, HQ, HB⟩ := hrel
    by_cases hlt : lo < hi
    · have hd : decide (lo < hi) = true := decide_eq_true hlt
      obtain ⟨h1, h2, h3, h4⟩ := HI.out
      have hlen64 : (l0.length : Int) ≤ 1024 := by omega
      obtain ⟨k1, rfl⟩ : ∃ k, gk = k + 1 := ⟨gk - 1, by omega⟩
      have m0 : lo ≤ (lo + hi) / 2 := by omega
      have m1 : (lo + hi) / 2 < hi := by omega
      have q0 : 0 ≤ (lo + hi) / 2 := by omega
      have q1 : (lo + hi) / 2 < (l0.length : Int) := by omega
      have hC : Kd.C k40 wr A0 l0.length l0 := Kd.C_below HR0.out HB.out
      obtain ⟨ad, e3, g0, g1⟩ := at_T40 hC ((lo + hi) / 2) q0 q1
      cases e3
      obtain ⟨x, hx⟩ : ∃ x, x = rd_T40 l0 ((lo + hi) / 2) := ⟨_, rfl⟩
      rw [← hx] at g0 g1
      have HX := Aside0.mk hx
      have HM := Aside0.mk (And.intro m0 m1)
      clear hx hC
      go_wp2_with fail
      refine (at_cmp x v _).mono ?_
      rintro e w1 ⟨rfl, hb1⟩
      have HB1 := Aside0.mk (below_step HB.out hb1)
      clear hb1 g0 g1
      by_cases hc : keyE x < wrap64 (v + 1)
      · have hcv : cmpI (keyE x) (wrap64 (v + 1)) = -1 := by unfold cmpI; rw [if_pos hc]
        rw [hcv]
        go_wp2
        go_roundg k1
        case measure => omega
        case rel =>
          refine ⟨(lo + hi) / 2 + 1, hi, by first | rfl | (simp; done), by first | rfl | (simp; done), ⟨by omega, by omega, by omega, by omega⟩, ⟨fun j h5 h6 => ?_, HQ.out.2⟩, HB1⟩
          by_cases h7 : j = (lo + hi) / 2
          · rw [h7, ← HX.out]; exact hc
          · have := HS.out j ((lo + hi) / 2) h5 (by omega) q1
            rw [← HX.out] at this
            omega
      · have hcv : 0 ≤ cmpI (keyE x) (wrap64 (v + 1)) := by unfold cmpI; rw [if_neg hc]; split <;> omega
        have hdc : decide (cmpI (keyE x) (wrap64 (v + 1)) < 0) = false := decide_eq_false (by omega)
        go_wp2
        go_roundg k1
        case measure => omega
        case rel =>
          refine ⟨lo, (lo + hi) / 2, by first | rfl | (simp; done), by first | rfl | (simp; done), ⟨by omega, by omega, by omega, by omega⟩, ⟨HQ.out.1, fun j h5 h6 => ?_⟩, HB1⟩
          by_cases h7 : j = (lo + hi) / 2
          · rw [h7, ← HX.out]; omega
          · have := HS.out ((lo + hi) / 2) j q0 (by omega) h6
            rw [← HX.out] at this
            omega
    · have hd : decide (lo < hi) = false := decide_eq_false hlt
      obtain ⟨h1, h2, h3, h4⟩ := HI.out
      by_cases hn : lo < (l0.length : Int)
      · have hdn : decide (lo < (l0.length : Int)) = true := decide_eq_true hn
        have hC : Kd.C k40 wr A0 l0.length l0 := Kd.C_below HR0.out HB.out
        obtain ⟨ad, e3, g0, g1⟩ := at_T40 hC lo h1 hn
        cases e3
        obtain ⟨x, hx⟩ : ∃ x, x = rd_T40 l0 lo := ⟨_, rfl⟩
        rw [← hx] at g0 g1
        have HX := Aside0.mk hx
        clear hx hC
        go_wp2_with fail
        refine (at_cmp x v _).mono ?_
        rintro e w1 ⟨rfl, hb1⟩
        have HB1 := Aside0.mk (below_step HB.out hb1)
        clear hb1 g0 g1
        have hce : (cmpI (keyE x) (wrap64 (v + 1)) == 0) = (keyE x == wrap64 (v + 1)) := by
          unfold cmpI
          rcases Int.lt_trichotomy (keyE x) (wrap64 (v + 1)) with h5 | h5 | h5
          · rw [if_pos h5]; have : ¬ keyE x = wrap64 (v + 1) := by omega
            simp [this]
          · simp [h5]
          · rw [if_neg (by omega), if_pos h5]; have : ¬ keyE x = wrap64 (v + 1) := by omega
            simp [this]
        go_wp2
        go_ret2
        refine ⟨lo, h1, by omega, HQ.out.1, fun j h5 h6 => HQ.out.2 j (by omega) h6, ?_, HB1.out⟩
        rw [hdn, ← HX.out, ← hce]
        rfl
      · have hdn : decide (lo < (l0.length : Int)) = false := decide_eq_false hn
        go_wp2
        go_ret2
        refine ⟨lo, h1, by omega, HQ.out.1, fun j h5 h6 => HQ.out.2 j (by omega) h6, ?_, HB.out⟩
        rw [hdn]
        rfl
end Go.Proofs.Ytkkfkdncddbaeaa.Fn
namespace Go.Proofs.Ytkkfkdncddbaeaa.Fn
open Go.RowKit Go.Proofs.YtkkfkdncddbaeaaW.PrintWords Go.Proofs.YtkkfkdncddbaeaaW.PrintLast Go.Proofs.YtkkfkdncddbaeaaW.PrintMore
attribute [local go_sem] max2_int min2_int max_two min_two max_three min_three max_four min_four
set_option linter.unusedVariables false
set_option linter.unusedSimpArgs false
theorem takeWhile_len {α : Type} (p : α → Bool) (l : List α) : ∀ i : Nat, i ≤ l.length → (∀ j (hj : j < l.length), j < i → p l[j] = true) → (∀ hi : i < l.length, p l[i] = false) → (l.takeWhile p).length = i := by
  induction l with
  | nil => intro i h _ _; simp at h; simp [h]
  | cons x t ih =>
    intro i h h1 h2
    cases i with
    | zero =>
      have := h2 (by simp)
      rw [List.takeWhile_cons_of_neg (by simpa using this)]; rfl
    | succ i =>
      have h0 := h1 0 (by simp) (by omega)
      rw [List.takeWhile_cons_of_pos (by simpa using h0), List.length_cons, ih i (by simpa using h) (fun j hj hji => h1 (j + 1) (by simp; omega) (by omega)) (fun hi => h2 (by simp; omega))]
theorem rd40_get (l : List S40) (j : Int) (h0 : 0 ≤ j) (h1 : j < l.length) : rd_T40 l j = l[j.toNat]'(by omega) := by
  unfold rd_T40; rw [List.getD_eq_getElem?_getD, List.getElem?_eq_getElem (by omega)]; rfl
def atL (l : List S40) (s : Int) : Nat := (Flag.ahead (l.map toP) s).length
def free_at.f (l0 : List (S40)) (a1 : Int) : Option Int := if Flag.checkF 65536 (l0.map toP) = 0 ∧ -1 ≤ a1 ∧ a1 ≤ 1099511627776 then some (atL l0 a1 : Int) else none
theorem nfs_get {l : List S40} (h : Flag.NFs (l.map toP)) (i j : Nat) (hij : i < j) (hj : j < l.length) : (l[i]'(by omega)).f0 + (l[i]'(by omega)).f1 < l[j].f0 := by
  have e : l = l.take i ++ l[i]'(by omega) :: l.drop (i + 1) := by rw [List.getElem_cons_drop, List.take_append_drop]
  have h2 := h
  rw [e, List.map_append] at h2
  obtain ⟨_, h3, _⟩ := Flag.NFs_of_append h2
  have hm : l[j] ∈ l.drop (i + 1) := by
    have : (l.drop (i + 1))[j - (i + 1)]'(by rw [List.length_drop]; omega) = l[j] := by rw [List.getElem_drop]; congr 1; omega
    rw [← this]; exact List.getElem_mem _
  exact h3.after (toP l[j]) (List.mem_map_of_mem hm)
set_option maxHeartbeats 1000000 in
set_option maxRecDepth 100000 in
theorem free_at.calls (A0 : Option Addr) (c0 : Nat) (l0 : List (S40)) (a1 : Int) (r : Int) (w : World) (hr0 : Kd.C k40 w A0 l0.length l0) (hc0 : l0.length ≤ c0) (h : free_at.f l0 a1 = some r) :
    Calls Try.prog 106 #[.slice A0 l0.length c0, .int .i64 a1] w fun e w' => e = .returned (.int .i64 r) ∧ Below w.heap.size w w' := by
  unfold free_at.f at h
  split at h
  · rename_i hc
    obtain ⟨hck, ha, hb⟩ := hc
    have hm := Flag.checkF_ok.1 hck
    obtain rfl := Option.some.inj h
    have hlen : l0.length ≤ 1024 := by have := hm.len; simpa using this
    have hins : ∀ x ∈ l0, 0 < x.f1 ∧ 0 ≤ x.f0 ∧ x.f0 + x.f1 ≤ 65536 := fun x hx => by
      have := hm.ins _ (List.mem_map_of_mem hx)
      exact ⟨this.n, this.a, this.e⟩
    have hkey : ∀ j : Int, 0 ≤ j → j < l0.length → ∃ hj : j.toNat < l0.length, keyE (rd_T40 l0 j) = l0[j.toNat].f0 + l0[j.toNat].f1 := by
      intro j h0 h1
      have hj : j.toNat < l0.length := by omega
      refine ⟨hj, ?_⟩
      rw [rd40_get l0 j h0 h1]
      have := hins _ (List.getElem_mem hj)
      exact w64 (by omega)
    have hT : wrap64 (a1 + 1) = a1 + 1 := w64 (by omega)
    have hsort : ∀ i j : Int, 0 ≤ i → i < j → j < l0.length → keyE (rd_T40 l0 i) < keyE (rd_T40 l0 j) := by
      intro i j h0 h1 h2
      obtain ⟨hi', e1⟩ := hkey i h0 (by omega)
      obtain ⟨hj', e2⟩ := hkey j (by omega) h2
      rw [e1, e2]
      have h3 := nfs_get hm.nf i.toNat j.toNat (by omega) hj'
      have := (hins _ (List.getElem_mem hj')).1
      omega
    have HR0 := Aside0.mk hr0
    have HK := Aside0.mk hkey
    have HT := Aside0.mk hT
    have hbs := bsearch_span A0 c0 l0 a1 w hr0 hlen hsort
    clear hr0 hkey hT hsort hins hm hck h
    go_enter Try.func106, Try.ntmps106
    go_wp2_with fail
    refine hbs.mono ?_
    rintro e w2 ⟨i, i0, i1, il, ig, rfl, hb2⟩
    have hres : (atL l0 a1 : Int) = i := by
      unfold atL Flag.ahead
      have h1 := takeWhile_len (fun x : Flag.Sp => decide (x.a + x.n ≤ a1)) (l0.map toP) i.toNat (by simp; omega) (fun j hj hji => by
        have hj : j < l0.length := by simpa using hj
        have h2 := il (j : Int) (by omega) (by omega)
        obtain ⟨h3, h4⟩ := HK.out (j : Int) (by omega) (by omega)
        rw [h4, HT.out] at h2
        simp only [List.getElem_map]
        apply decide_eq_true
        show (l0[j]).f0 + (l0[j]).f1 ≤ a1
        have e : (l0[((j : Int)).toNat]'h3) = l0[j] := by congr 1
        rw [e] at h2
        omega) (fun hj => by
        have hj : i.toNat < l0.length := by simpa using hj
        have h2 := ig i (Int.le_refl _) (by omega)
        obtain ⟨h3, h4⟩ := HK.out i i0 (by omega)
        rw [h4, HT.out] at h2
        simp only [List.getElem_map]
        apply decide_eq_false
        show ¬ ((l0[i.toNat]).f0 + (l0[i.toNat]).f1 ≤ a1)
        omega)
      rw [h1]; omega
    have HRES := Aside0.mk hres
    have HB2 := Aside0.mk hb2
    clear il ig hb2 hres
    go_wp2
    go_ret
    exact ⟨by rw [HRES.out]; rfl, HB2.out⟩
  · cases h
end Go.Proofs.Ytkkfkdncddbaeaa.Fn
namespace Go.Proofs.Ytkkfkdncddbaeaa.Fn
open Go.RowKit Go.Proofs.YtkkfkdncddbaeaaW.PrintWords Go.Proofs.YtkkfkdncddbaeaaW.PrintLast Go.Proofs.YtkkfkdncddbaeaaW.PrintMore
attribute [local go_sem] max2_int min2_int max_two min_two max_three min_three max_four min_four
set_option linter.unusedVariables false
set_option linter.unusedSimpArgs false
theorem inside6 (x : S40) (size : Int) (h0 : 0 ≤ size) (h1 : size ≤ 65536) : free_inside.f x.f0 x.f1 size = some (decide (0 < x.f1 ∧ 0 ≤ x.f0 ∧ x.f0 + x.f1 ≤ size)) := by
  unfold free_inside.f
  split
  · split
    · split
      · rw [w64 (by omega)]
        congr 1
        exact decide_eq_decide.2 (by omega)
      · congr 1; exact (decide_eq_false (by omega)).symm
    · congr 1; exact (decide_eq_false (by omega)).symm
  · congr 1; exact (decide_eq_false (by omega)).symm
theorem restF_cons (size e : Int) (x : S40) (t : List Flag.Sp) : Flag.restF size e (toP x :: t) = (decide (0 < x.f1) && decide (0 ≤ x.f0) && decide (x.f0 + x.f1 ≤ size) && decide (e < x.f0) && Flag.restF size (x.f0 + x.f1) t) := rfl
theorem check6_l (size : Int) (h0 : 0 ≤ size) (h1 : size ≤ 65536) (l : List S40) (hl : l.length ≤ 1024) (sp : List S40) : ∀ (m i : Nat) (last : Int), i + m = l.length → free_Check.l0 (m + 1) last l (l.length : Int) (i : Int) size sp = some (if Flag.restF size last ((l.drop i).map toP) = true then 0 else 9) := by
  intro m
  induction m with
  | zero =>
    intro i last hi
    rw [List.drop_eq_nil_of_le (by omega)]
    unfold free_Check.l0
    rw [if_neg (by omega)]
    simp [Flag.restF]
  | succ m ih =>
    intro i last hi
    have hil : i < l.length := by omega
    rw [← List.getElem_cons_drop hil, List.map_cons, restF_cons]
    unfold free_Check.l0
    have hx : rd_T40 l (i : Int) = l[i] := by rw [rd40_get l (i : Int) (by omega) (by omega)]; simp
    rw [if_pos (by omega), if_pos (by omega), if_pos (by omega), hx, inside6 _ size h0 h1, Option.bind_some]
    by_cases hin : 0 < l[i].f1 ∧ 0 ≤ l[i].f0 ∧ l[i].f0 + l[i].f1 ≤ size
    · rw [if_pos (decide_eq_true hin)]
      have hw : wrap64 (l[i].f0 + l[i].f1) = l[i].f0 + l[i].f1 := w64 (by omega)
      have hw2 : wrap64 ((i : Int) + 1) = ((i + 1 : Nat) : Int) := by rw [w64 (by omega)]; omega
      rw [hw, hw2]
      by_cases hc : l[i].f0 ≤ last
      · rw [if_pos hc, decide_eq_false (show ¬ (last < l[i].f0) by omega)]
        simp
      · rw [if_neg hc, ih (i + 1) _ (by omega), decide_eq_true (show last < l[i].f0 by omega), decide_eq_true hin.1, decide_eq_true hin.2.1, decide_eq_true hin.2.2]
        simp
    · rw [if_neg (by simpa using hin)]
      have : (decide (0 < l[i].f1) && decide (0 ≤ l[i].f0) && decide (l[i].f0 + l[i].f1 ≤ size)) = false := by
        rw [Bool.eq_false_iff]
        intro h
        simp only [Bool.and_eq_true, decide_eq_true_eq] at h
        exact hin ⟨h.1.1, h.1.2, h.2⟩
      rw [this]
      simp
theorem check6 (size : Int) (l : List S40) : ∃ k, free_Check.f k size l = some (Flag.checkF size (l.map toP)) := by
  refine ⟨l.length + 3, ?_⟩
  unfold free_Check.f Flag.checkF
  by_cases h0 : size < 0
  · rw [if_pos h0, if_neg (by omega)]; unfold free_Check.j0; rfl
  · by_cases h1 : size > 65536
    · rw [if_neg h0, if_pos h1, if_neg (by omega)]; unfold free_Check.j0; rfl
    · rw [if_neg h0, if_neg h1]
      by_cases h2 : (l.length : Int) > 1024
      · rw [decide_eq_true h2, if_neg (by rw [List.length_map]; omega)]; unfold free_Check.j0; rfl
      · rw [decide_eq_false h2]
        have hj : free_Check.j0 (l.length + 3) false size l = free_Check.l0 (l.length + 1 + 1) (-1) l (l.length : Int) 0 size l := by unfold free_Check.j0; exact if_neg Bool.false_ne_true
        rw [hj]
        have h := check6_l size (by omega) (by omega) l (by omega) l l.length 0 (-1) (by omega)
        have h' := (free_Check.mono_l (l.length + 1)).2 (-1) l (l.length : Int) 0 size l _ h
        rw [List.drop_zero] at h'
        rw [h']
        congr 1
        have e : ((0 ≤ size ∧ size ≤ 65536) ∧ (l.map toP).length ≤ 1024 ∧ Flag.restF size (-1) (l.map toP) = true) ↔ Flag.restF size (-1) (l.map toP) = true := ⟨fun h => h.2.2, fun h => ⟨by omega, by rw [List.length_map]; omega, h⟩⟩
        by_cases hr : Flag.restF size (-1) (l.map toP) = true
        · rw [if_pos hr, if_pos (e.2 hr)]
        · rw [if_neg hr, if_neg (fun h => hr (e.1 h))]
end Go.Proofs.Ytkkfkdncddbaeaa.Fn
namespace Go.Proofs.Ytkkfkdncddbaeaa.Fn
open Go.RowKit Go.Proofs.YtkkfkdncddbaeaaW.PrintWords Go.Proofs.YtkkfkdncddbaeaaW.PrintLast Go.Proofs.YtkkfkdncddbaeaaW.PrintMore
attribute [local go_sem] max2_int min2_int max_two min_two max_three min_three max_four min_four
set_option linter.unusedVariables false
set_option linter.unusedSimpArgs false
def idxF {α : Type} (p : α → Bool) (l : List α) : Int := match l.findIdx? p with
  | some i => (i : Int)
  | none => -1
theorem idxF_hit {α : Type} {p : α → Bool} {l : List α} {k : Nat} (hk : k < l.length) (h : p l[k] = true) (ha : ∀ j (hj : j < k), p (l[j]'(by omega)) = false) : idxF p l = (k : Int) := by
  have : l.findIdx? p = some k := List.findIdx?_eq_some_iff_getElem.2 ⟨hk, h, fun j hj => by simpa using ha j hj⟩
  unfold idxF; rw [this]
theorem idxF_miss {α : Type} {p : α → Bool} {l : List α} (ha : ∀ x ∈ l, p x = false) : idxF p l = -1 := by
  have : l.findIdx? p = none := List.findIdx?_eq_none_iff.2 ha
  unfold idxF; rw [this]
set_option maxHeartbeats 2000000 in
set_option maxRecDepth 100000 in
theorem idx_span (cl : Nat) (lb : Array Value) (p : S40 → Bool) (eg : ∀ args w, (callFunc cl args).run Try.prog w = .ok (.enter cl args) w)
    (A0 : Option Addr) (c0 : Nat) (l0 : List S40) (w : World) (hr0 : Kd.C k40 w A0 l0.length l0)
    (hp : ∀ (W : World) (x : S40), Below w.heap.size w W → Calls Try.prog cl (#[.agg #[.int .i64 x.f0, .int .i64 x.f1]] ++ lb) W fun e w' => e = .returned (.bool (p x)) ∧ Below w.heap.size w w') :
    Calls Try.prog 139 #[.slice A0 l0.length c0, .func (.func cl) #[] lb] w fun e w' => e = .returned (.int .i64 (idxF p l0)) ∧ Below w.heap.size w w' := by
  have hu40 := Try.underlying40
  have HR0 := Aside0.mk hr0
  have HP := Aside0.mk hp
  clear hr0 hp
  go_enter Try.func139, Try.ntmps139
  go_wp2
  go_loopg [5, 8] l0.length (fun gk _ v8 W => ∃ i : Int, v8 = .int .i64 i ∧ Aside0 (0 ≤ i ∧ i + gk = l0.length) ∧ Aside0 (Below w.heap.size w W) ∧ Aside0 (∀ j (hj : j < l0.length), (j : Int) < i → p l0[j] = false))
  case atStart => exact ⟨0, rfl, ⟨Int.le_refl _, by simp⟩, ⟨Below.refl _ w⟩, ⟨fun j hj h => by omega⟩⟩
  case round =>
    obtain ⟨i, rfl, HI, HB, HA⟩ := hrel
    cases gk with
    | zero =>
      have hi : i = l0.length := by have := HI.out.2; omega
      have hd : decide (i < (l0.length : Int)) = false := decide_eq_false (by omega)
      have hr : idxF p l0 = -1 := idxF_miss (fun x hx => by
        obtain ⟨j, hj, rfl⟩ := List.mem_iff_getElem.1 hx
        exact HA.out j hj (by omega))
      have HRES := Aside0.mk hr
      clear hi hr
      go_wp2
      go_ret
      exact ⟨by rw [HRES.out]; rfl, HB.out⟩
    | succ k1 =>
      have hp0 : 0 ≤ i := HI.out.1
      have hp1 : i < (l0.length : Int) := by have := HI.out.2; omega
      have hd : decide (i < (l0.length : Int)) = true := decide_eq_true hp1
      have hC : Kd.C k40 wr A0 l0.length l0 := Kd.C_below HR0.out HB.out
      have hlen64 : (l0.length : Int) ≤ 9223372036854775807 := by have := HR0.out.2.1; omega
      obtain ⟨ad, e3, g0, g1⟩ := at_T40 hC i hp0 hp1
      cases e3
      obtain ⟨x, hx⟩ : ∃ x, x = rd_T40 l0 i := ⟨_, rfl⟩
      rw [← hx] at g0 g1
      have hxi : x = l0[i.toNat]'(by omega) := by rw [hx]; unfold rd_T40; rw [List.getD_eq_getElem?_getD, List.getElem?_eq_getElem (by omega)]; rfl
      have hcall := HP.out wr x HB.out
      have HX := Aside0.mk hxi
      have HPI := Aside0.mk (And.intro hp0 hp1)
      clear hx hC hxi
      cases hq : p x with
      | true =>
        rw [hq] at hcall
        have hres : idxF p l0 = i := by
          have h1 := idxF_hit (p := p) (l := l0) (k := i.toNat) (by omega) (by rw [← HX.out]; exact hq) (fun j hj => HA.out j (by omega) (by omega))
          rw [h1]; omega
        have HRES := Aside0.mk hres
        clear hres
        go_wp2_with (go_at_fn cl; refine hcall.mono ?_; rintro e w' ⟨rfl, hb'⟩)
        go_ret
        exact ⟨by rw [HRES.out]; rfl, hb'⟩
      | false =>
        rw [hq] at hcall
        have HQ := Aside0.mk hq
        go_wp2_with (go_at_fn cl; refine hcall.mono ?_; rintro e w' ⟨rfl, hb'⟩)
        go_roundg k1
        case measure => omega
        case rel =>
          refine ⟨i + 1, by first | rfl | (simp; done) | go_num, ⟨by have := HPI.out.1; omega, by have := HI.out.2; omega⟩, ⟨hb'⟩, ⟨fun j hj h => ?_⟩⟩
          by_cases e : (j : Int) = i
          · have e2 : j = i.toNat := by omega
            subst e2
            rw [← HX.out]; exact HQ.out
          · exact HA.out j hj (by omega)
end Go.Proofs.Ytkkfkdncddbaeaa.Fn
namespace Go.Proofs.Ytkkfkdncddbaeaa.Fn
open Go.RowKit Go.Proofs.YtkkfkdncddbaeaaW.PrintWords Go.Proofs.YtkkfkdncddbaeaaW.PrintLast Go.Proofs.YtkkfkdncddbaeaaW.PrintMore
attribute [local go_sem] max2_int min2_int max_two min_two max_three min_three max_four min_four
set_option linter.unusedVariables false
set_option linter.unusedSimpArgs false
section
variable {α : Type} {d : Kd α} {enc : α → List Value} {e : Nat} {w : World} {base : Nat} {ok : Nat → Prop} {v : Value} {xs : List α} {k g cap : Nat}
def LieL (enc : α → List Value) (k e : Nat) (w : World) (g cap : Nat) (cur : Array Value) (xs : List α) : Prop :=
  w.heap[g]? = some (.cells cur e (0, 0)) ∧ cur.size = cap * k ∧ xs.length ≤ cap ∧ cap ≤ maxLen ∧ cur.toList.take (xs.length * k) = xs.flatMap enc
theorem flat_len (hk : ∀ x, (enc x).length = k) (l : List α) : (l.flatMap enc).length = l.length * k := by
  induction l with
  | nil => simp
  | cons x t ih => rw [List.flatMap_cons, List.length_append, hk, ih, List.length_cons, Nat.succ_mul]; omega
theorem flat_take (hk : ∀ x, (enc x).length = k) (l : List α) (j : Nat) : (l.flatMap enc).take (j * k) = (l.take j).flatMap enc := by
  induction l generalizing j with
  | nil => simp
  | cons x t ih =>
    cases j with
    | zero => simp
    | succ j => rw [List.take_succ_cons, List.flatMap_cons, List.flatMap_cons, ← ih, List.take_append, hk, Nat.succ_mul, List.take_of_length_le (by rw [hk]; omega)]; congr 2; omega
theorem flat_drop (hk : ∀ x, (enc x).length = k) (l : List α) (j : Nat) : (l.flatMap enc).drop (j * k) = (l.drop j).flatMap enc := by
  induction l generalizing j with
  | nil => simp
  | cons x t ih =>
    cases j with
    | zero => simp
    | succ j => rw [List.drop_succ_cons, List.flatMap_cons, ← ih, List.drop_append, hk, Nat.succ_mul, List.drop_of_length_le (by rw [hk]; omega), List.nil_append]; congr 1; omega
theorem flat_get (hk : ∀ x, (enc x).length = k) (l : List α) (j : Nat) (x : α) (hj : l[j]? = some x) (i : Nat) (u : Value) (hu : (enc x)[i]? = some u) : (l.flatMap enc)[j * k + i]? = some u := by
  have h1 := flat_drop (enc := enc) hk l j
  have hjl := (List.getElem?_eq_some_iff.1 hj).1
  have h2 : l.drop j = x :: l.drop (j + 1) := by
    rw [← List.getElem_cons_drop hjl]
    have := (List.getElem?_eq_some_iff.1 hj).2
    rw [this]
  rw [h2, List.flatMap_cons] at h1
  have h3 : ((l.flatMap enc).drop (j * k))[i]? = some u := by
    rw [h1, List.getElem?_append_left (List.getElem?_eq_some_iff.1 hu).1]
    exact hu
  rwa [List.getElem?_drop] at h3
theorem flat_inj (hk : ∀ x, (enc x).length = k) (cs : List Value) : ∀ (l : List α), cs.length = l.length * k → (∀ j x, l[j]? = some x → ∀ i u, (enc x)[i]? = some u → cs[j * k + i]? = some u) → cs = l.flatMap enc := by
  intro l hl h
  apply List.ext_getElem?
  intro t
  by_cases ht : t < cs.length
  · have hk0 : 0 < k := by
      rcases Nat.eq_zero_or_pos k with h0 | h0
      · rw [h0, Nat.mul_zero] at hl; omega
      · exact h0
    have hj : t / k < l.length := by rw [Nat.div_lt_iff_lt_mul hk0]; omega
    have e1 : l[t / k]? = some l[t / k] := List.getElem?_eq_getElem hj
    have hm : t % k < (enc l[t / k]).length := by rw [hk]; exact Nat.mod_lt _ hk0
    have e2 := List.getElem?_eq_getElem hm
    have e3 : t / k * k + t % k = t := Nat.div_add_mod' t k
    have h1 := h _ _ e1 _ _ e2
    have h2 := flat_get (enc := enc) hk l _ _ e1 _ _ e2
    rw [e3] at h1 h2
    rw [h1, h2]
  · rw [List.getElem?_eq_none (by omega), List.getElem?_eq_none (by rw [flat_len hk]; omega)]
theorem Lies.toL (hk : ∀ x, (enc x).length = k) (h : Lies enc k e w g cap xs) : ∃ cur, LieL enc k e w g cap cur xs := by
  obtain ⟨cur, h1, h2, h3, h4, h5⟩ := h
  refine ⟨cur, h1, h2, h3, h4, flat_inj hk _ xs ?_ ?_⟩
  · rw [List.length_take, (show cur.toList.length = cur.size from Array.length_toList), h2]
    exact Nat.min_eq_left (Nat.mul_le_mul_right _ h3)
  · intro j x hj i u hu
    have hjl := (List.getElem?_eq_some_iff.1 hj).1
    have hi : i < k := by have := (List.getElem?_eq_some_iff.1 hu).1; rw [hk] at this; exact this
    have : (j + 1) * k ≤ xs.length * k := Nat.mul_le_mul_right _ hjl
    rw [Nat.add_mul, Nat.one_mul] at this
    rw [List.getElem?_take_of_lt (by omega), Array.getElem?_toList]
    exact h5 j x hj i u hu
theorem LieL.to (hk : ∀ x, (enc x).length = k) {cur : Array Value} (h : LieL enc k e w g cap cur xs) : Lies enc k e w g cap xs := by
  obtain ⟨h1, h2, h3, h4, h5⟩ := h
  refine ⟨cur, h1, h2, h3, h4, fun j x hj i u hu => ?_⟩
  have hjl := (List.getElem?_eq_some_iff.1 hj).1
  have hi : i < k := by have := (List.getElem?_eq_some_iff.1 hu).1; rw [hk] at this; exact this
  have : (j + 1) * k ≤ xs.length * k := Nat.mul_le_mul_right _ hjl
  rw [Nat.add_mul, Nat.one_mul] at this
  have h6 := flat_get (enc := enc) hk xs j x hj i u hu
  rw [← h5, List.getElem?_take_of_lt (by omega), Array.getElem?_toList] at h6
  exact h6
theorem LieL.cell {cur : Array Value} (h : LieL enc k e w g cap cur xs) (o j : Nat) (u : Value) (hj : cur.toList[o + j]? = some u) : w.cell? ((⟨g, o, none⟩ : Addr).add j) = some u := by
  rw [add_at, blk_cell h.1, ← Array.getElem?_toList]
  exact hj
end
section
variable {P : Program}
theorem run_copy_k (w : World) (dT sT ty elem : TypeId) (g o dLen dCap : Nat) (a : Addr) (sLen sCap : Nat) (cur : Array Value) (t : TypeId) (cs : List Value) (k : Nat)
    (hu : P.underlying dT = some (.slice elem)) (hs : ∀ w, (Go.sizeOf elem).run P w = .ok k w)
    (hg : w.heap[g]? = some (.cells cur t (0, 0))) (hn : cs.length = Nat.min sLen dLen * k)
    (hsrc : ∀ j v, cs[j]? = some v → w.cell? (a.add j) = some v) (hfit : o + cs.length ≤ cur.size) (h1 : ∀ v ∈ cs, v.oneCell' = true) :
    (Builtin.copy_ #[dT, sT] ty #[.slice (some ⟨g, o, none⟩) dLen dCap, .slice (some a) sLen sCap]).run P w =
      .ok (goInt (Nat.min sLen dLen)) (w.setRow g (cur.toList.take o ++ cs ++ cur.toList.drop (o + cs.length)).toArray) := by
  have hl := run_loadCells_list (P := P) w a cs hsrc
  have hst := run_storeCells_at P g o t cs 0 cur w hg (by simpa using hfit) h1
  rw [hn] at hl
  simp only [Nat.add_zero] at hst
  simp [Builtin.copy_, run_underlying hu, Builtin.lenOf, Builtin.firstCells, hs, hl, hst]
theorem run_copy_nil_k (w : World) (dT sT ty elem : TypeId) (g o dLen dCap : Nat) (k : Nat) (hu : P.underlying dT = some (.slice elem)) (hs : ∀ w, (Go.sizeOf elem).run P w = .ok k w) :
    (Builtin.copy_ #[dT, sT] ty #[.slice (some ⟨g, o, none⟩) dLen dCap, .slice none 0 0]).run P w = .ok (goInt 0) w := by
  simp [Builtin.copy_, run_underlying hu, Builtin.lenOf, Builtin.firstCells, hs, storeCells]
theorem run_clear_k (w : World) (t e ty : TypeId) (z : Value) (ht : P.underlying t = some (.slice e)) (hv : ∀ w, (zeroValue e).run P w = .ok z w) (g o n c : Nat) (cur : Array Value) (te : TypeId)
    (hg : w.heap[g]? = some (.cells cur te (0, 0))) (hfit : o + n * z.cells.size ≤ cur.size) (h1 : ∀ v ∈ z.cells.toList, v.oneCell' = true) (hn : 0 < n) :
    ∃ zs : List Value, zs.length = n * z.cells.size ∧ (Builtin.clear_ #[t] ty #[.slice (some ⟨g, o, none⟩) n c]).run P w = .ok (.tuple #[]) (w.setRow g (cur.toList.take o ++ zs ++ cur.toList.drop (o + zs.length)).toArray) := by
  refine ⟨(Builtin.zeroCells z.cells n).toList, by simp [Builtin.zeroCells], ?_⟩
  have hz1 : ∀ v ∈ (Builtin.zeroCells z.cells n).toList, v.oneCell' = true := by
    intro v hv'
    simp only [Builtin.zeroCells, Array.toList_map, List.mem_map] at hv'
    obtain ⟨i, hi, rfl⟩ := hv'
    have hi : i < n * z.cells.size := by simpa using hi
    have hs0 : 0 < z.cells.size := by
      rcases Nat.eq_zero_or_pos z.cells.size with h0 | h0
      · rw [h0, Nat.mul_zero] at hi; omega
      · exact h0
    have hm := Nat.mod_lt i hs0
    rw [getElem!_pos z.cells _ hm]
    exact h1 _ (by simp)
  have hst := run_storeCells_at P g o te (Builtin.zeroCells z.cells n).toList 0 cur w hg (by simp [Builtin.zeroCells]; omega) hz1
  simp only [Nat.add_zero] at hst
  obtain ⟨m, rfl⟩ : ∃ m, n = m + 1 := ⟨n - 1, by omega⟩
  simp [Builtin.clear_, run_underlying ht, hv, hst]
theorem run_clear_none (w : World) (t e ty : TypeId) (ht : P.underlying t = some (.slice e)) (a : Option Addr) (c : Nat) :
    (Builtin.clear_ #[t] ty #[.slice a 0 c]).run P w = .ok (.tuple #[]) w := by
  cases a <;> simp [Builtin.clear_, run_underlying ht]
end
section
variable {α : Type} {enc : α → List Value} {e : Nat} {w : World} {k g cap : Nat}
theorem take_app_len {β : Type} (a b : List β) (n : Nat) (h : a.length = n) : (a ++ b).take n = a := by subst h; simp
theorem drop_app_len {β : Type} (a b : List β) (n : Nat) (h : a.length = n) : (a ++ b).drop n = b := by subst h; simp
theorem LieL.put (hk : ∀ x, (enc x).length = k) {cur : Array Value} {xs ys : List α} {i : Nat} (h : LieL enc k e w g cap cur xs) (hi : i ≤ xs.length) (hc : i + ys.length ≤ cap) :
    LieL enc k e (w.setRow g (cur.toList.take (i * k) ++ ys.flatMap enc ++ cur.toList.drop (i * k + (ys.flatMap enc).length)).toArray) g cap (cur.toList.take (i * k) ++ ys.flatMap enc ++ cur.toList.drop (i * k + (ys.flatMap enc).length)).toArray (xs.take i ++ ys) := by
  obtain ⟨h1, h2, h3, h4, h5⟩ := h
  have hfl := flat_len (enc := enc) hk ys
  have hik : i * k ≤ xs.length * k := Nat.mul_le_mul_right _ hi
  have hck : (i + ys.length) * k ≤ cap * k := Nat.mul_le_mul_right _ hc
  rw [Nat.add_mul] at hck
  have hl1 : (cur.toList.take (i * k)).length = i * k := by rw [List.length_take, (show cur.toList.length = cur.size from Array.length_toList), h2]; exact Nat.min_eq_left (by omega)
  have hpre : cur.toList.take (i * k) = (xs.take i).flatMap enc := by
    rw [← flat_take (enc := enc) hk xs i, ← h5, List.take_take, Nat.min_eq_left hik]
  have hxl : (xs.take i).length = i := by rw [List.length_take]; omega
  refine ⟨setRow_heap w g cur _ e (0, 0) h1, ?_, by rw [List.length_append, hxl]; exact hc, h4, ?_⟩
  · rw [List.size_toArray, List.length_append, List.length_append, hl1, List.length_drop, (show cur.toList.length = cur.size from Array.length_toList), h2, hfl]; omega
  · rw [List.length_append, hxl, List.flatMap_append, ← hpre, Nat.add_mul]
    exact take_app_len _ _ _ (by rw [List.length_append, hl1, hfl])
theorem LieL.cut (hk : ∀ x, (enc x).length = k) {cur : Array Value} {xs : List α} (h : LieL enc k e w g cap cur xs) (i : Nat) (hi : i ≤ xs.length) : LieL enc k e w g cap cur (xs.take i) := by
  obtain ⟨h1, h2, h3, h4, h5⟩ := h
  have hik : i * k ≤ xs.length * k := Nat.mul_le_mul_right _ hi
  have hxl : (xs.take i).length = i := by rw [List.length_take]; omega
  refine ⟨h1, h2, by omega, h4, ?_⟩
  rw [hxl, ← flat_take (enc := enc) hk xs i, ← h5, List.take_take, Nat.min_eq_left hik]
theorem LieL.behind {cur cur' : Array Value} {xs : List α} (h : LieL enc k e w g cap cur xs) (o : Nat) (ho : xs.length * k ≤ o) (hs : cur'.size = cur.size) (hc : cur'.toList.take o = cur.toList.take o) : LieL enc k e (w.setRow g cur') g cap cur' xs := by
  obtain ⟨h1, h2, h3, h4, h5⟩ := h
  refine ⟨setRow_heap w g cur _ e (0, 0) h1, by rw [hs, h2], h3, h4, ?_⟩
  have e1 : cur'.toList.take (xs.length * k) = (cur'.toList.take o).take (xs.length * k) := by rw [List.take_take, Nat.min_eq_left ho]
  rw [e1, hc, List.take_take, Nat.min_eq_left ho, h5]
theorem setRow_below {B : Nat} {w0 w : World} (h : Below B w0 w) (hg : B ≤ g) (cs : Array Value) : Below B w0 (w.setRow g cs) :=
  ⟨h.os, h.tape, h.output, by rw [setRow_size]; exact h.size, fun i hi => by rw [setRow_other w g i cs (by omega)]; exact h.block i hi⟩
end
section
variable {α : Type} {enc : α → List Value} {e : Nat} {w : World} {k g cap : Nat}
theorem LieL.put_mid (hk : ∀ x, (enc x).length = k) {cur : Array Value} {xs ys : List α} {i : Nat} (h : LieL enc k e w g cap cur xs) (hi : i + ys.length ≤ xs.length) :
    LieL enc k e (w.setRow g (cur.toList.take (i * k) ++ ys.flatMap enc ++ cur.toList.drop (i * k + (ys.flatMap enc).length)).toArray) g cap (cur.toList.take (i * k) ++ ys.flatMap enc ++ cur.toList.drop (i * k + (ys.flatMap enc).length)).toArray (xs.take i ++ ys ++ xs.drop (i + ys.length)) := by
  have hp := h.put hk (ys := ys) (show i ≤ xs.length by omega) (by have := h.2.2.1; omega)
  obtain ⟨h1, h2, h3, h4, h5⟩ := h
  have hfl := flat_len (enc := enc) hk ys
  have hxl : (xs.take i).length = i := by rw [List.length_take]; omega
  refine ⟨hp.1, hp.2.1, ?_, h4, ?_⟩
  · simp only [List.length_append, hxl, List.length_drop]; omega
  · have hlen : (xs.take i ++ ys ++ xs.drop (i + ys.length)).length = xs.length := by simp only [List.length_append, hxl, List.length_drop]; omega
    rw [hlen, List.flatMap_append]
    have h6 := hp.2.2.2.2
    simp only at h6 ⊢
    have hpl : (xs.take i ++ ys).length = i + ys.length := by rw [List.length_append, hxl]
    rw [hpl, Nat.add_mul] at h6
    have hl1 : (cur.toList.take (i * k)).length = i * k := by
      rw [List.length_take, (show cur.toList.length = cur.size from Array.length_toList), h2]
      exact Nat.min_eq_left (Nat.mul_le_mul_right _ (by omega))
    have hA : (cur.toList.take (i * k) ++ ys.flatMap enc).length = i * k + ys.length * k := by rw [List.length_append, hl1, hfl]
    have hle : i * k + ys.length * k ≤ xs.length * k := by rw [← Nat.add_mul]; exact Nat.mul_le_mul_right _ hi
    have h7 : cur.toList.take (i * k) ++ ys.flatMap enc = (xs.take i ++ ys).flatMap enc := by
      rw [← h6]
      exact (take_app_len _ _ _ hA).symm
    rw [List.take_append, List.take_of_length_le (by rw [hA]; exact hle), h7]
    congr 1
    rw [← h7, hA, hfl, ← flat_drop (enc := enc) hk xs (i + ys.length), ← h5, Nat.add_mul, List.drop_take]
theorem LieL.src (hk : ∀ x, (enc x).length = k) {cur : Array Value} {xs : List α} (h : LieL enc k e w g cap cur xs) (j : Nat) : ∀ t u, ((xs.drop j).flatMap enc)[t]? = some u → w.cell? ((⟨g, j * k, none⟩ : Addr).add t) = some u := by
  intro t u ht
  refine h.cell _ _ _ ?_
  rw [← flat_drop (enc := enc) hk xs j, ← h.2.2.2.2, List.getElem?_drop] at ht
  have hl := (List.getElem?_eq_some_iff.1 ht).1
  rw [List.length_take] at hl
  rw [List.getElem?_take_of_lt (by omega)] at ht
  exact ht
theorem LieL.same {w1 : World} {cur : Array Value} {xs : List α} (h : LieL enc k e w g cap cur xs) (hk : w1.heap[g]? = w.heap[g]?) : LieL enc k e w1 g cap cur xs := ⟨hk.trans h.1, h.2⟩
end
end Go.Proofs.Ytkkfkdncddbaeaa.Fn
namespace Go.Proofs.Ytkkfkdncddbaeaa.Fn
open Go.RowKit Go.Proofs.YtkkfkdncddbaeaaW.PrintWords Go.Proofs.YtkkfkdncddbaeaaW.PrintLast Go.Proofs.YtkkfkdncddbaeaaW.PrintMore
attribute [local go_sem] max2_int min2_int max_two min_two max_three min_three max_four min_four
set_option linter.unusedVariables false
set_option linter.unusedSimpArgs false
def SrcV (w : World) (v : Value) (vs : List S40) (g : Nat) : Prop :=
  (v = .slice none 0 0 ∧ vs = []) ∨ ∃ gv cv curv, v = .slice (some ⟨gv, 0, none⟩) vs.length cv ∧ LieL encSpan 2 40 w gv cv curv vs ∧ gv ≠ g
theorem spanLen (x : S40) : (encSpan x).length = 2 := rfl
theorem flat_one (l : List S40) : ∀ v ∈ l.flatMap encSpan, v.oneCell' = true := by
  intro v hv
  obtain ⟨x, _, hx⟩ := List.mem_flatMap.1 hv
  exact flatSpan.one x v hx
theorem LieL.R {w : World} {g cap : Nat} {cur : Array Value} {xs : List S40} {base : Nat} {ok : Nat → Prop} (h : LieL encSpan 2 40 w g cap cur xs) (hb : base ≤ g) (hg : ok g) : Kd.R k40 40 w base ok (.slice (some ⟨g, 0, none⟩) xs.length cap) xs :=
  R_of_lies flatSpan hb hg (h.to spanLen)
theorem LieL.of_own {w : World} {g c n base : Nat} {xs : List S40} (h : w.ownsRow base 40 2 (.slice (some ⟨g, 0, none⟩) n c) n (xs.flatMap encSpan)) : n = xs.length ∧ ∃ cur, LieL encSpan 2 40 w g c cur xs := by
  obtain ⟨h1, h2⟩ := h
  rw [flat_len (enc := encSpan) spanLen] at h1
  have hn : n = xs.length := by omega
  subst hn
  rcases h2 with ⟨h3, _⟩ | ⟨g', cap, cur, h3, h4, h5, h6, h7, h8, h9⟩
  · cases h3
  · injection h3 with h10 _ h11
    injection h10 with h10
    injection h10 with h10
    subst h10 h11
    exact ⟨rfl, cur, h5, h8, h6, h7, h9⟩
theorem LieL.own {w : World} {g c base : Nat} {cur : Array Value} {xs : List S40} (h : LieL encSpan 2 40 w g c cur xs) (hb : base ≤ g) : w.ownsRow base 40 2 (.slice (some ⟨g, 0, none⟩) xs.length c) xs.length (xs.flatMap encSpan) :=
  ⟨flat_len (enc := encSpan) spanLen xs, .inr ⟨g, c, cur, rfl, hb, h.1, h.2.2.1, h.2.2.2.1, h.2.1, h.2.2.2.2⟩⟩
theorem take_three {β : Type} (a b c : List β) (n : Nat) (h : a.length + b.length = n) : (a ++ b ++ c).take n = a ++ b := take_app_len _ _ _ (by rw [List.length_append]; exact h)
theorem drop_three {β : Type} (xs vs : List β) (i j : Nat) (hi : i ≤ xs.length) (h : i + vs.length ≤ j) : (xs.take i ++ vs ++ xs.drop (i + vs.length)).drop j = xs.drop j := by
  have h1 : (xs.take i ++ vs).length = i + vs.length := by rw [List.length_append, List.length_take]; omega
  rw [List.drop_append, List.drop_of_length_le (by omega), h1, List.nil_append, List.drop_drop]
  congr 1; omega
section
open Go.Lib
variable {P : Program}
theorem wpList_clear_run (w : World) {ops : Array Oper} {rest : List Oper} {o : Oper} {a : Act} {Q : Exit → Act → World → Prop} (hgd : o.guard = none) (s : Operand) (t : TypeId)
    (ho : o.op = .call { callee := .builtin .clear, args := #[s], argTypes := #[t] }) (u : Value) (hs : a.eval s = u) {v' : Value} {w' : World}
    (hr : (Builtin.clear_ #[t] o.type #[u]).run P w = .ok v' w') (h : wpList P ops Q rest (a.put o.dst v') w') : wpList P ops Q (o :: rest) a w := by
  refine wpList_plain hgd fun K hK => ?_
  unfold Oper.wp execOp
  simp only [ho, resolve, invoke, builtin, Sem.run_bind, Sem.run_pure, Result.andThen_ok, List.map_toArray, List.map_cons, List.map_nil, hs, hr]
  exact hK _ _ h
end
set_option maxHeartbeats 4000000 in
set_option maxRecDepth 100000 in
theorem repl_span (w0 w : World) (base g c : Nat) (ok : Nat → Prop) (cur : Array Value) (xs vs : List S40) (v : Value) (i j : Nat) (hL : LieL encSpan 2 40 w g c cur xs) (hV : SrcV w v vs g)
    (hB : Below base w0 w) (hbg : base ≤ g) (hok : ok g) (hfr : ∀ k, w.heap.size ≤ k → ok k) (hij : i < j) (hjn : j ≤ xs.length) (hn : xs.length ≤ 4096) (hm : vs.length ≤ 2) (hm2 : vs.length = 2 → j = i + 1) :
    Calls Try.prog 142 #[.slice (some ⟨g, 0, none⟩) xs.length c, .int .i64 i, .int .i64 j, v] w fun e w' => ∃ v' : Value, e = .returned v' ∧ Kd.R k40 40 w' base ok v' (xs.take i ++ vs ++ xs.drop j) ∧ Below base w0 w' := by
  have hu40 := Try.underlying40
  have hus := Try.underlying54
  have hsz : ∀ w, (Go.sizeOf 40).run Try.prog w = .ok 2 w := Try.sizeOf40
  have hnc : xs.length ≤ c := hL.2.2.1
  have hcm : c ≤ 9223372036854775807 := by have := hL.2.2.2.1; unfold maxLen at this; omega
  obtain ⟨n, hnn⟩ : ∃ n, n = xs.length := ⟨_, rfl⟩
  obtain ⟨m, hmm⟩ : ∃ m, m = vs.length := ⟨_, rfl⟩
  rw [← hmm] at hm hm2
  rw [← hnn] at hjn hn hnc
  have hi0 : (0 : Int) ≤ (i : Int) := by omega
  have b1 : (i : Int) ≤ (j : Int) := by omega
  have b2 : (j : Int) ≤ (n : Int) := by omega
  have b2c : (j : Int) ≤ (c : Int) := by omega
  have b1c : (i : Int) ≤ (c : Int) := by omega
  have b3 : ((i : Int) == (j : Int)) = false := by simp; omega
  have b4 : ¬ ((i : Int) = (j : Int)) := by omega
  have b5 : ¬ (c = i) := by omega
  have b6 : i ≤ n := by omega
  have HL := Aside0.mk hL
  have HB := Aside0.mk hB
  have HOK := Aside0.mk (And.intro hbg (And.intro hok hfr))
  rw [← hnn]
  obtain ⟨i0, hi0', hz0⟩ := Option.map_eq_some_iff.1 info40
  simp only [Prod.mk.injEq] at hz0
  have HI0 := Aside0.mk (And.intro hi0' hz0)
  clear hL hB hbg hok hfr hi0' hz0
  have hVV : ∃ (ao : Option Addr) (cv : Nat), v = .slice ao m cv ∧ (ao = none → m = 0 ∧ cv = 0) ∧ ∀ ad, ao = some ad → ∃ gv curv, ad = ⟨gv, 0, none⟩ ∧ LieL encSpan 2 40 w gv cv curv vs ∧ gv ≠ g := by
    rcases hV with ⟨rfl, rfl⟩ | ⟨gv, cv, curv, rfl, hLv, hgv⟩
    · exact ⟨none, 0, by rw [hmm]; rfl, fun _ => ⟨by rw [hmm]; rfl, rfl⟩, fun ad h => (by cases h)⟩
    · exact ⟨some ⟨gv, 0, none⟩, cv, by rw [hmm], fun h => (by cases h), fun ad h => by injection h with h; exact ⟨gv, curv, h.symm, hLv, hgv⟩⟩
  obtain ⟨ao, cv, rfl, hao0, hao⟩ := hVV
  have HAO0 := Aside0.mk hao0
  have HAO := Aside0.mk hao
  have hmc : Kd.C k40 w ao m vs := by
    cases ao with
    | none =>
      have h0 := (hao0 rfl).1
      have hv0 : vs = [] := List.eq_nil_of_length_eq_zero (by omega)
      subst hv0
      rw [h0]
      exact Kd.C_nil k40 w
    | some ad =>
      obtain ⟨gv, curv, rfl, hLv, _⟩ := hao ad rfl
      rw [hmm]
      exact (Kd.R_reads' (hLv.R (base := 0) (ok := fun _ => True) (Nat.zero_le _) trivial)).2.2
  have HMC := Aside0.mk hmc
  clear hV hao0 hao hmc
  · by_cases hjn' : j = n
    · have hdj : xs.drop j = [] := List.drop_of_length_le (by omega)
      have b7 : ((j : Int) == (n : Int)) = true := by simp; omega
      have hxl : (xs.take i).length = i := by rw [List.length_take]; omega
      have HDJ := Aside0.mk hdj
      have HXL := Aside0.mk hxl
      have HMM := Aside0.mk hmm
      have HNN := Aside0.mk hnn
      have hLi := HL.out.cut spanLen i (by omega)
      by_cases hlt : i + m < n
      · have hbd : decide ((i : Int) + (m : Int) < (n : Int)) = true := decide_eq_true (by omega)
        have hb6 : ¬ (c = i + m) := by omega
        have hx1 : (0 : Int) ≤ (i : Int) + (m : Int) := by omega
        have hx2 : (i : Int) + (m : Int) ≤ (n : Int) := by omega
        have htn : ((i : Int) + (m : Int)).toNat = i + m := by omega
        have hap : ∃ w1 cur1, (∀ ty, (Builtin.append_ #[54, 54] ty #[.slice (some ⟨g, 0, none⟩) i c, .slice ao m cv]).run Try.prog w = .ok (.slice (some ⟨g, 0, none⟩) (i + m) c) w1) ∧ LieL encSpan 2 40 w1 g c cur1 (xs.take i ++ vs) ∧ Below base w0 w1 := by
          obtain ⟨hi0', hz0a, hz0b, hz0c⟩ := HI0.out
          have hown := hLi.own HOK.out.1
          rw [hxl] at hown
          cases ao with
          | none =>
            obtain ⟨hm0, hc0⟩ := HAO0.out rfl
            have hv0 : vs = [] := List.eq_nil_of_length_eq_zero (by rw [← hmm]; exact hm0)
            subst hv0 hc0
            rw [hm0]
            refine ⟨w, cur, fun ty => ?_, by simpa using hLi, HB.out⟩
            have hrun := run_append_owned_none (P := Try.prog) w base 54 ty 40 i0 2 Try.underlying54 hi0' _ i _ hown
            exact hrun
          | some ad =>
            obtain ⟨gv, curv, rfl, hLv, hgv⟩ := HAO.out ad rfl
            obtain ⟨w', hrun, r1, r2⟩ := run_append_fits (P := Try.prog) w base 54 54 40 i0 2 Try.underlying54 hi0' hz0b g i c _ hown ⟨gv, 0, none⟩ m cv (vs.flatMap encSpan) (by rw [flat_len (enc := encSpan) spanLen, hmm]) (fun t u hu => by have := hLv.src spanLen 0 t u (by simpa using hu); simpa using this) (flat_one vs) (by omega)
            rw [← List.flatMap_append] at r1
            obtain ⟨_, cur1, hL1⟩ := LieL.of_own r1
            refine ⟨w', cur1, fun ty => hrun, hL1, ⟨r2.os.trans HB.out.os, r2.tape.trans HB.out.tape, r2.output.trans HB.out.output, Nat.le_trans HB.out.size r2.size, fun k hk => ?_⟩⟩
            have h1 := HOK.out.1
            have h2 := blk_lt HL.out.1
            rw [r2.block k (by omega) (by intro h; injection h with h; omega)]
            exact HB.out.block k hk
        obtain ⟨w1, cur1, hrun, hL1, hB1⟩ := hap
        have hl1 : (xs.take i ++ vs).length = i + m := by rw [List.length_append, hxl, hmm]
        obtain ⟨zs, hzl, hclr⟩ := run_clear_k (P := Try.prog) w1 54 40 0 (.agg #[.int .i64 0, .int .i64 0]) Try.underlying54 Try.zeroValue40 g ((i + m) * 2) (n - (i + m)) (c - (i + m)) cur1 40 hL1.1 (by rw [hL1.2.1]; show (i + m) * 2 + (n - (i + m)) * 2 ≤ c * 2; omega) (by intro u hu; simp [Value.cells] at hu; rw [hu]; rfl) (by omega)
        obtain ⟨cur3, hcur3⟩ : ∃ R : Array Value, R = (cur1.toList.take ((i + m) * 2) ++ zs ++ cur1.toList.drop ((i + m) * 2 + zs.length)).toArray := ⟨_, rfl⟩
        rw [← hcur3] at hclr
        have hc2l : (cur1.toList.take ((i + m) * 2)).length = (i + m) * 2 := by
          rw [List.length_take, (show cur1.toList.length = cur1.size from Array.length_toList), hL1.2.1]
          omega
        have hzl2 : zs.length = (n - (i + m)) * 2 := hzl
        have hL5 := hL1.behind (cur' := cur3) ((i + m) * 2) (by rw [hl1]; exact Nat.le_refl _) (by rw [hcur3, List.size_toArray, List.length_append, List.length_append, hc2l, List.length_drop, (show cur1.toList.length = cur1.size from Array.length_toList), hL1.2.1, hzl2]; omega) (by rw [hcur3, List.append_assoc]; exact take_app_len _ _ _ hc2l)
        have hres := hL5.R (base := base) (ok := ok) HOK.out.1 HOK.out.2.1
        rw [hl1] at hres
        have HRES := Aside0.mk (And.intro hres (setRow_below hB1 HOK.out.1 cur3))
        clear hcur3 hc2l hzl hzl2 hL5 hres hl1 hL1 hB1 hLi hdj hxl hm2 hnn hmm hsz
        go_enter Try.func142, Try.ntmps142
        go_wp2_with (first
          | (at_builtin; refine Lib.wpList_append_run _ rfl _ _ _ _ rfl _ _ rfl rfl _ _ (hrun _) ?_)
          | (at_builtin; refine wpList_clear_run _ rfl _ 54 rfl _ rfl hclr ?_))
        go_ret
        refine ⟨_, rfl, ?_, HRES.out.2⟩
        have h := HRES.out.1
        rw [HDJ.out, List.append_nil]
        exact h
      · have hbd : decide ((i : Int) + (m : Int) < (n : Int)) = false := decide_eq_false (by omega)
        have hRi : Kd.R k40 40 w base ok (.slice (some ⟨g, 0, none⟩) i c) (xs.take i) := by
          have h := hLi.R (base := base) (ok := ok) HOK.out.1 HOK.out.2.1
          rw [hxl] at h
          exact h
        have HRI := Aside0.mk hRi
        clear hLi hdj hxl hm2 hnn hmm hsz hRi
        go_enter Try.func142, Try.ntmps142
        go_wp2_with (first | ((with_reducible refine gate_builtin (b := .append) (xs := #[.tmp 32, .tmp 33]) rfl ?_); at_builtin; refine Kd.R_append_rows k40 (w0 := w0) base rfl (.tmp 32) (.tmp 33) 54 40 (.agg #[(.int .i64 0), (.int .i64 0)]) 16 rfl Try.underlying54 info40 rfl (by decide) (by omega) (.slice (some ⟨g, 0, none⟩) i c) (xs.take i) vs _ _ _ ok (fun _ => False) rfl rfl ?aO ?aR (fun _ _ h => h) (fun _ h => h.elim) ?aF ?aB ?aS ?aL ?_; (case aR => exact HMC.out); (case aB => exact HB.out); (case aF => exact HOK.out.2.2); (case aO => exact HRI.out); (case aS => have h1 := HOK.out.1; have h2 := blk_lt HL.out.1; omega); (case aL => rw [HXL.out]; omega); intro v1 w3 ho hb hg hat; have hl3 : (xs.take i ++ vs).length = i + m := (by rw [List.length_append, HXL.out, HMM.out]); obtain ⟨A3, c3, hv3⟩ := Kd.R_slice ho; rw [hl3] at hv3; subst hv3; have HO := Aside0.mk ho; have HB3 := Aside0.mk hb; clear ho hb hg hat hl3))
        go_ret
        refine ⟨_, rfl, ?_, HB3.out⟩
        rw [HDJ.out, List.append_nil]
        exact HO.out
    · have hmv : ∀ h : m ≠ 0, ∃ gv curv, ao = some ⟨gv, 0, none⟩ ∧ LieL encSpan 2 40 w gv cv curv vs ∧ gv ≠ g := by
        intro h
        cases ao with
        | none => exact absurd (HAO0.out rfl).1 h
        | some ad =>
          obtain ⟨gv, curv, rfl, h1, h2⟩ := HAO.out ad rfl
          exact ⟨gv, curv, rfl, h1, h2⟩
      have HMV := Aside0.mk hmv
      clear hmv
      have b7 : ((j : Int) == (n : Int)) = false := by simp; omega
      have b8 : ¬ ((j : Int) = (n : Int)) := by omega
      have b9 : ¬ (c = j) := by omega
      have hw1 : IntKind.i64.wrap ((i : Int) + (m : Int)) = (i : Int) + (m : Int) := by rw [IntKind.wrap_i64]; omega
      have hw1' : wrap64 ((i : Int) + (m : Int)) = (i : Int) + (m : Int) := w64 (by omega)
      obtain ⟨tot, htot⟩ : ∃ tot : Nat, tot = i + m + (n - j) := ⟨_, rfl⟩
      have et : (i : Int) + (m : Int) + ((n - j : Nat) : Int) = (tot : Int) := by omega
      have en : ((n - j : Nat) : Int) = (n : Int) - (j : Int) := by omega
      have ht4 : (tot : Int) ≤ 8192 := by omega
      have hw2 : IntKind.i64.wrap ((i : Int) + (m : Int) + ((n - j : Nat) : Int)) = (tot : Int) := by rw [et]; exact IntWalk.i64_in _ (by omega)
      have hw2' : wrap64 ((i : Int) + (m : Int) + ((n - j : Nat) : Int)) = (tot : Int) := by rw [et]; exact w64 (by omega)
      have hw3 : IntKind.i64.wrap ((i : Int) + (m : Int) + ((n : Int) - (j : Int))) = (tot : Int) := by rw [← en]; exact hw2
      have hw3' : wrap64 ((i : Int) + (m : Int) + ((n : Int) - (j : Int))) = (tot : Int) := by rw [← en]; exact hw2'
      clear et en ht4
      have HT := Aside0.mk htot
      have HM2 := Aside0.mk hm2
      have HNN := Aside0.mk hnn
      have HMM := Aside0.mk hmm
      have hmlen : m ≤ 9223372036854775807 := by omega
      clear htot hm2 hnn hmm hsz
      go_enter Try.func142, Try.ntmps142
      go_wp2_with fail
      go_quiet (fail)
      obtain ⟨W2, hW2⟩ : ∃ W, W = w.drewN nq := ⟨_, rfl⟩
      rw [← hW2]
      have HL2 := Aside0.mk (show LieL encSpan 2 40 W2 g c cur xs by rw [hW2]; exact HL.out.same rfl)
      have HMV2 := Aside0.mk (show ∀ h : m ≠ 0, ∃ gv curv, ao = some ⟨gv, 0, none⟩ ∧ LieL encSpan 2 40 W2 gv cv curv vs ∧ gv ≠ g by rw [hW2]; exact HMV.out)
      have HB2 := Aside0.mk (show Below base w0 W2 by rw [hW2]; exact pw_below_drewN HB.out nq)
      have HSZ2 := Aside0.mk (show W2.heap.size = w.heap.size by rw [hW2]; rfl)
      clear hW2
      have hmin1 : Nat.min m (tot - i) = m := Nat.min_eq_left (by have := HT.out; omega)
      have hmin2 : Nat.min (n - j) (tot - (i + m)) = n - j := Nat.min_eq_left (by have := HT.out; omega)
      have hfv : (vs.flatMap encSpan).length = m * 2 := by rw [flat_len (enc := encSpan) spanLen, HMM.out]
      have hfd : ((xs.drop j).flatMap encSpan).length = (n - j) * 2 := by rw [flat_len (enc := encSpan) spanLen, List.length_drop, HNN.out]
      have htn : ((i : Int) + (m : Int)).toNat = i + m := by omega
      have hx1 : (0 : Int) ≤ (i : Int) + (m : Int) := by omega
      have hx2 : (i : Int) ≤ (tot : Int) := by have := HT.out; omega
      have hx3 : (i : Int) + (m : Int) ≤ (tot : Int) := by have := HT.out; omega
      have HF := Aside0.mk (And.intro hmin1 (And.intro hmin2 (And.intro hfv hfd)))
      clear hmin1 hmin2 hfv hfd
      by_cases hr : tot > c
      · have hdr : decide ((c : Int) < (tot : Int)) = true := decide_eq_true (by omega)
        obtain ⟨gv, curv, rfl, hLV2, hgv⟩ := HMV2.out (by have := HT.out; omega)
        have HLV2 := Aside0.mk hLV2
        clear hLV2
        have hw4 : IntKind.i64.wrap ((tot : Int) - (i : Int)) = (tot : Int) - (i : Int) := IntWalk.i64_in _ (by have := HT.out; omega)
        have hw4' : wrap64 ((tot : Int) - (i : Int)) = (tot : Int) - (i : Int) := w64 (by have := HT.out; omega)
        obtain ⟨G, hG⟩ : ∃ G, G = grownCap W2 tot c 40 := ⟨_, rfl⟩
        have hGt : tot ≤ G := by rw [hG]; exact grownCap_ge W2 _ _ _
        have hGm : G ≤ maxLen := by rw [hG]; exact grownCap_le_maxLen W2 tot c 40 (by have := HT.out; unfold maxLen; omega)
        obtain ⟨ROW, hROW⟩ : ∃ ROW : Array Value, ROW = ((xs.take i).flatMap encSpan).toArray ++ Builtin.zeroCells (Value.agg #[.int .i64 0, .int .i64 0]).cells (tot - i) ++ Builtin.zeroCells (Value.agg #[.int .i64 0, .int .i64 0]).cells (G - tot) := ⟨_, rfl⟩
        have hrz : ∀ ty, (Builtin.append_ #[54, 3] ty #[.slice (some ⟨g, 0, none⟩) i c, .int .i64 ((tot : Int) - (i : Int))]).run Try.prog W2 = .ok (.slice (some ⟨W2.heap.size, 0, none⟩) tot G) (W2.drew.alloc (.cells ROW 40)) := fun ty => by
          obtain ⟨hi0', hz0a, hz0b, hz0c⟩ := HI0.out
          have hold : (Builtin.firstCells i0.size i (.slice (some ⟨g, 0, none⟩) i c)).run Try.prog W2.drew = .ok ((xs.take i).flatMap encSpan).toArray W2.drew := by
            rw [hz0b]
            refine run_firstCells_some W2.drew 2 i ⟨g, 0, none⟩ i c ((xs.take i).flatMap encSpan) (by rw [flat_len (enc := encSpan) spanLen, List.length_take, ← HNN.out, Nat.min_eq_left b6]) (fun t u hu => ?_)
            have h1 := (HL2.out.cut spanLen i (by rw [← HNN.out]; exact b6)).src spanLen 0 t u (by simpa using hu)
            simpa using h1
          have h := Lib.run_append_grow_zeros (P := Try.prog) W2 54 3 ty 40 i0 _ .i64 .i64 Try.underlying54 Try.underlying3 hi0' hz0a (some ⟨g, 0, none⟩) i c _ hold (tot - i) (by have := HT.out; omega) (by rw [hz0b]; decide) (by omega) (by have := HT.out; omega) (by rw [hz0c]; have := HT.out; omega) (by
            have e1 : i + (tot - i) = tot := by have := HT.out; omega
            rw [hz0c, e1]
            exact growslice_fits (by omega) (by have := HT.out; omega))
          have e1 : i + (tot - i) = tot := by have := HT.out; omega
          have e2 : (tot : Int) - (i : Int) = ((tot - i : Nat) : Int) := by omega
          rw [e1] at h
          rw [e2, hROW, hG]
          exact h
        have hROWs : ROW.size = G * 2 := by
          rw [hROW]
          have e1 : ((xs.take i).flatMap encSpan).length = i * 2 := by rw [flat_len (enc := encSpan) spanLen, List.length_take, ← HNN.out, Nat.min_eq_left b6]
          simp only [Array.size_append, List.size_toArray, e1, Builtin.zeroCells, Array.size_map, Array.size_range, Value.cells, List.size_toArray, List.length_cons, List.length_nil]
          omega
        have hb5 : ¬ (G = i) := by omega
        have hpl : ((xs.take i).flatMap encSpan).length = i * 2 := by rw [flat_len (enc := encSpan) spanLen, List.length_take, ← HNN.out, Nat.min_eq_left b6]
        have hxl : (xs.take i).length = i := by rw [List.length_take, ← HNN.out]; omega
        have hLN : LieL encSpan 2 40 (W2.drew.alloc (.cells ROW 40)) W2.heap.size G ROW (xs.take i) := by
          refine ⟨blk_new W2.drew _, hROWs, by omega, hGm, ?_⟩
          rw [hROW, hxl]
          simp only [Array.toList_append]
          rw [List.append_assoc]
          exact take_app_len _ _ _ hpl
        obtain ⟨N, hN⟩ : ∃ N, N = W2.heap.size := ⟨_, rfl⟩
        obtain ⟨W3, hW3⟩ : ∃ W, W = W2.drew.alloc (.cells ROW 40) := ⟨_, rfl⟩
        rw [← hW3, ← hN] at hLN
        have hgN : g ≠ N := by have := blk_lt HL2.out.1; omega
        have hgvN : gv ≠ N := by have := blk_lt HLV2.out.1; omega
        have hL3 : LieL encSpan 2 40 W3 g c cur xs := HL2.out.same (by rw [hW3]; exact Below.heap_alloc W2.drew _ _ (blk_lt HL2.out.1))
        have hV3 : LieL encSpan 2 40 W3 gv cv curv vs := HLV2.out.same (by rw [hW3]; exact Below.heap_alloc W2.drew _ _ (blk_lt HLV2.out.1))
        have hBN : base ≤ N := by rw [hN]; exact HB2.out.size |> fun h => by have := HOK.out.1; have := blk_lt HL2.out.1; omega
        have hB3 : Below base w0 W3 := by rw [hW3]; exact (below_drew HB2.out).alloc (by show base ≤ W2.heap.size; rw [← hN]; exact hBN) _
        have hcpA : ∀ ty, (Builtin.copy_ #[54, 54] ty #[.slice (some ⟨N, i * 2, none⟩) (tot - i) (G - i), .slice (some ⟨gv, 0, none⟩) m cv]).run Try.prog W3 = .ok (goInt (Nat.min m (tot - i))) (W3.setRow N (ROW.toList.take (i * 2) ++ vs.flatMap encSpan ++ ROW.toList.drop (i * 2 + (vs.flatMap encSpan).length)).toArray) := fun ty =>
          run_copy_k W3 54 54 ty 40 N (i * 2) (tot - i) (G - i) ⟨gv, 0, none⟩ m cv ROW 40 (vs.flatMap encSpan) 2 Try.underlying54 Try.sizeOf40 hLN.1 (by rw [HF.out.1]; exact HF.out.2.2.1) (fun t u hu => by have := hV3.src spanLen 0 t u (by simpa using hu); simpa using this) (by rw [HF.out.2.2.1, hROWs]; have := HT.out; omega) (flat_one vs)
        have hLN1 := hLN.put spanLen (ys := vs) (i := i) (by omega) (by rw [← HMM.out]; have := HT.out; omega)
        obtain ⟨ROW1, hROW1⟩ : ∃ R : Array Value, R = (ROW.toList.take (i * 2) ++ vs.flatMap encSpan ++ ROW.toList.drop (i * 2 + (vs.flatMap encSpan).length)).toArray := ⟨_, rfl⟩
        rw [← hROW1] at hcpA hLN1
        obtain ⟨W4, hW4⟩ : ∃ W, W = W3.setRow N ROW1 := ⟨_, rfl⟩
        rw [← hW4] at hcpA hLN1
        have e1 : (xs.take i).take i = xs.take i := by rw [List.take_take, Nat.min_self]
        rw [e1] at hLN1
        have hL4 : LieL encSpan 2 40 W4.drew g c cur xs := hL3.same (by rw [hW4]; exact setRow_other W3 N g ROW1 hgN)
        have hLN1d : LieL encSpan 2 40 W4.drew N G ROW1 (xs.take i ++ vs) := hLN1.same rfl
        have hcpB : ∀ ty, (Builtin.copy_ #[54, 54] ty #[.slice (some ⟨N, (i + m) * 2, none⟩) (tot - (i + m)) (G - (i + m)), .slice (some ⟨g, j * 2, none⟩) (n - j) (c - j)]).run Try.prog W4.drew = .ok (goInt (Nat.min (n - j) (tot - (i + m)))) (W4.drew.setRow N (ROW1.toList.take ((i + m) * 2) ++ (xs.drop j).flatMap encSpan ++ ROW1.toList.drop ((i + m) * 2 + ((xs.drop j).flatMap encSpan).length)).toArray) := fun ty =>
          run_copy_k W4.drew 54 54 ty 40 N ((i + m) * 2) (tot - (i + m)) (G - (i + m)) ⟨g, j * 2, none⟩ (n - j) (c - j) ROW1 40 ((xs.drop j).flatMap encSpan) 2 Try.underlying54 Try.sizeOf40 hLN1d.1 (by rw [HF.out.2.1]; exact HF.out.2.2.2) (fun t u hu => hL4.src spanLen j t u hu) (by rw [HF.out.2.2.2, hLN1d.2.1]; have := HT.out; omega) (flat_one _)
        have hLN2 := hLN1d.put spanLen (ys := xs.drop j) (i := i + m) (by rw [List.length_append, hxl, ← HMM.out]; exact Nat.le_refl _) (by rw [List.length_drop, ← HNN.out]; have := HT.out; omega)
        obtain ⟨ROW2, hROW2⟩ : ∃ R : Array Value, R = (ROW1.toList.take ((i + m) * 2) ++ (xs.drop j).flatMap encSpan ++ ROW1.toList.drop ((i + m) * 2 + ((xs.drop j).flatMap encSpan).length)).toArray := ⟨_, rfl⟩
        rw [← hROW2] at hcpB hLN2
        have e2 : (xs.take i ++ vs).take (i + m) = xs.take i ++ vs := List.take_of_length_le (by rw [List.length_append, hxl, ← HMM.out]; exact Nat.le_refl _)
        rw [e2] at hLN2
        have hlen : (xs.take i ++ vs ++ xs.drop j).length = tot := by simp only [List.length_append, hxl, List.length_drop, ← HMM.out, ← HNN.out]; have := HT.out; omega
        have hRes := hLN2.R (base := base) (ok := ok) hBN (HOK.out.2.2 N (by rw [hN, HSZ2.out]; exact Nat.le_refl _))
        rw [hlen] at hRes
        have hB5 : Below base w0 (W4.drew.setRow N ROW2) := setRow_below (below_drew (by rw [hW4]; exact setRow_below hB3 hBN ROW1)) hBN ROW2
        have HRES := Aside0.mk (And.intro hRes hB5)
        have hb6 : ¬ (G = i + m) := by have := HT.out; omega
        have hx4 : (i : Int) ≤ (G : Int) := by omega
        rw [← hN, ← hW3] at hrz
        clear hROW1 hROW2 hW3 hW4 hLN hLN1 hLN1d hLN2 hL3 hV3 hL4 hB3 hB5 hRes e1 e2 hlen hpl hxl hROW hROWs hG hgN hgvN hN hBN hGm
        go_wp2_with (first
          | (at_builtin; refine Lib.wpList_append_run _ rfl _ _ _ _ rfl _ _ rfl rfl _ _ (hrz _) ?_)
          | (at_builtin; refine wpList_copy_runI _ rfl _ _ 54 54 rfl _ _ rfl rfl (hcpA _) ?_))
        go_still_tail 9, (by kernel_rfl)
        change wpList _ _ _ _ _ W4.drew
        refine wpList_copy_runI W4.drew rfl _ _ 54 54 rfl _ _ rfl rfl (hcpB _) ?_
        go_wp2
        go_ret
        exact ⟨_, rfl, HRES.out.1, HRES.out.2⟩
      · have hdr : decide ((c : Int) < (tot : Int)) = false := decide_eq_false (by omega)
        by_cases hd : i + m ≤ j
        · have hdd : decide ((i : Int) + (m : Int) ≤ (j : Int)) = true := decide_eq_true (by omega)
          have hb6 : ¬ (c = i + m) := by omega
          have hD1 : ∃ W3 cur1, (∀ ty, (Builtin.copy_ #[54, 54] ty #[.slice (some ⟨g, i * 2, none⟩) (tot - i) (c - i), .slice ao m cv]).run Try.prog W2 = .ok (goInt (Nat.min m (tot - i))) W3) ∧ LieL encSpan 2 40 W3 g c cur1 (xs.take i ++ vs ++ xs.drop (i + vs.length)) ∧ Below base w0 W3 := by
            by_cases hm0 : m = 0
            · have hv0 : vs = [] := List.eq_nil_of_length_eq_zero (by rw [← HMM.out]; exact hm0)
              subst hv0 hm0
              refine ⟨W2, cur, fun ty => ?_, ?_, HB2.out⟩
              · cases ao with
                | none =>
                  have := (HAO0.out rfl).2
                  subst this
                  have h1 := run_copy_nil_k (P := Try.prog) W2 54 54 ty 40 g (i * 2) (tot - i) (c - i) 2 Try.underlying54 Try.sizeOf40
                  rw [h1]
                  simp
                | some ad =>
                  have h1 := run_copy_k (P := Try.prog) W2 54 54 ty 40 g (i * 2) (tot - i) (c - i) ad 0 cv cur 40 [] 2 Try.underlying54 Try.sizeOf40 HL2.out.1 (by simp) (fun t u hu => by simp at hu) (by rw [HL2.out.2.1]; simp; omega) (fun v hv => by cases hv)
                  rw [h1]
                  congr 1
                  simp only [List.append_nil, List.length_nil, Nat.add_zero, List.take_append_drop, Array.toArray_toList]
                  exact setRow_self W2 g cur 40 (0, 0) HL2.out.1
              · simpa using HL2.out
            · obtain ⟨gv, curv, rfl, hLV2, hgv⟩ := HMV2.out hm0
              refine ⟨_, _, fun ty => run_copy_k W2 54 54 ty 40 g (i * 2) (tot - i) (c - i) ⟨gv, 0, none⟩ m cv cur 40 (vs.flatMap encSpan) 2 Try.underlying54 Try.sizeOf40 HL2.out.1 (by rw [HF.out.1]; exact HF.out.2.2.1) (fun t u hu => by have := hLV2.src spanLen 0 t u (by simpa using hu); simpa using this) (by rw [HF.out.2.2.1, HL2.out.2.1]; omega) (flat_one vs), HL2.out.put_mid spanLen (ys := vs) (i := i) (by rw [← HMM.out, ← HNN.out]; omega), setRow_below HB2.out HOK.out.1 _⟩
          obtain ⟨W3, cur1, hcp1, hL3, hB3⟩ := hD1
          have hL3d : LieL encSpan 2 40 W3.drew g c cur1 (xs.take i ++ vs ++ xs.drop (i + vs.length)) := hL3.same rfl
          have hcp2 : ∀ ty, (Builtin.copy_ #[54, 54] ty #[.slice (some ⟨g, (i + m) * 2, none⟩) (tot - (i + m)) (c - (i + m)), .slice (some ⟨g, j * 2, none⟩) (n - j) (c - j)]).run Try.prog W3.drew = .ok (goInt (Nat.min (n - j) (tot - (i + m)))) (W3.drew.setRow g (cur1.toList.take ((i + m) * 2) ++ (xs.drop j).flatMap encSpan ++ cur1.toList.drop ((i + m) * 2 + ((xs.drop j).flatMap encSpan).length)).toArray) := fun ty =>
            run_copy_k W3.drew 54 54 ty 40 g ((i + m) * 2) (tot - (i + m)) (c - (i + m)) ⟨g, j * 2, none⟩ (n - j) (c - j) cur1 40 ((xs.drop j).flatMap encSpan) 2 Try.underlying54 Try.sizeOf40 hL3d.1 (by rw [HF.out.2.1]; exact HF.out.2.2.2) (fun t u hu => hL3d.src spanLen j t u (by rw [drop_three xs vs i j (by rw [← HNN.out]; exact b6) (by rw [← HMM.out]; exact hd)]; exact hu)) (by rw [HF.out.2.2.2, hL3d.2.1]; have := HT.out; omega) (flat_one _)
          have hxl : (xs.take i).length = i := by rw [List.length_take, ← HNN.out]; omega
          have hL4 := hL3d.put spanLen (ys := xs.drop j) (i := i + m) (by simp only [List.length_append, hxl, ← HMM.out]; omega) (by rw [List.length_drop, ← HNN.out]; have := HT.out; omega)
          obtain ⟨cur2, hcur2⟩ : ∃ R : Array Value, R = (cur1.toList.take ((i + m) * 2) ++ (xs.drop j).flatMap encSpan ++ cur1.toList.drop ((i + m) * 2 + ((xs.drop j).flatMap encSpan).length)).toArray := ⟨_, rfl⟩
          rw [← hcur2] at hcp2 hL4
          rw [take_three _ _ _ (i + m) (by rw [hxl, ← HMM.out])] at hL4
          have hlen : (xs.take i ++ vs ++ xs.drop j).length = tot := by simp only [List.length_append, hxl, List.length_drop, ← HMM.out, ← HNN.out]; have := HT.out; omega
          have hB4 : Below base w0 (W3.drew.setRow g cur2) := setRow_below (below_drew hB3) HOK.out.1 cur2
          obtain ⟨W4, hW4⟩ : ∃ W, W = W3.drew.setRow g cur2 := ⟨_, rfl⟩
          rw [← hW4] at hcp2 hL4 hB4
          have HL4 := Aside0.mk hL4
          have HB4 := Aside0.mk hB4
          have HLEN := Aside0.mk hlen
          clear hcur2 hW4 hL3 hL3d hL4 hB4 hlen hxl hB3
          go_wp2_with (at_builtin; refine wpList_copy_runI _ rfl _ _ 54 54 rfl _ _ rfl rfl (hcp1 _) ?_)
          go_still_tail 9, (by kernel_rfl)
          change wpList _ _ _ _ _ W3.drew
          refine wpList_copy_runI W3.drew rfl _ _ 54 54 rfl _ _ rfl rfl (hcp2 _) ?_
          have hres : Kd.R k40 40 W4 base ok (.slice (some ⟨g, 0, none⟩) tot c) (xs.take i ++ vs ++ xs.drop j) := by
            have h := HL4.out.R (base := base) (ok := ok) HOK.out.1 HOK.out.2.1
            rw [HLEN.out] at h
            exact h
          have HRES := Aside0.mk hres
          clear hres
          by_cases hz : tot = n
          · have hcl : ∀ ty a cc, (Builtin.clear_ #[54] ty #[.slice a 0 cc]).run Try.prog W4 = .ok (.tuple #[]) W4 := fun ty a cc => run_clear_none W4 54 40 ty Try.underlying54 a cc
            by_cases hcn : c = n
            · go_wp2_with fail
              go_ret
              refine ⟨_, rfl, ?_, HB4.out⟩
              have h := HRES.out
              rw [hz, hcn] at h
              first | exact h | (rw [List.append_assoc] at h; exact h)
            · go_wp2_with fail
              go_ret
              refine ⟨_, rfl, ?_, HB4.out⟩
              have h := HRES.out
              rw [hz] at h
              first | exact h | (rw [List.append_assoc] at h; exact h)
          · have htn2 : tot < n := by have := HT.out; omega
            have hb7 : ¬ (c = tot) := by omega
            have hx5 : (tot : Int) ≤ (n : Int) := by omega
            obtain ⟨zs, hzl, hclr⟩ := run_clear_k (P := Try.prog) W4 54 40 0 (.agg #[.int .i64 0, .int .i64 0]) Try.underlying54 Try.zeroValue40 g (tot * 2) (n - tot) (c - tot) cur2 40 HL4.out.1 (by rw [HL4.out.2.1]; show tot * 2 + (n - tot) * 2 ≤ c * 2; omega) (by intro u hu; simp [Value.cells] at hu; rw [hu]; rfl) (by omega)
            obtain ⟨cur3, hcur3⟩ : ∃ R : Array Value, R = (cur2.toList.take (tot * 2) ++ zs ++ cur2.toList.drop (tot * 2 + zs.length)).toArray := ⟨_, rfl⟩
            rw [← hcur3] at hclr
            have hc2l : (cur2.toList.take (tot * 2)).length = tot * 2 := by
              rw [List.length_take, (show cur2.toList.length = cur2.size from Array.length_toList), HL4.out.2.1]
              omega
            have hzl2 : zs.length = (n - tot) * 2 := hzl
            have hL5 := HL4.out.behind (cur' := cur3) (tot * 2) (by rw [HLEN.out]; exact Nat.le_refl _) (by rw [hcur3, List.size_toArray, List.length_append, List.length_append, hc2l, List.length_drop, (show cur2.toList.length = cur2.size from Array.length_toList), HL4.out.2.1, hzl2]; omega) (by rw [hcur3, List.append_assoc]; exact take_app_len _ _ _ hc2l)
            have hres5 : Kd.R k40 40 (W4.setRow g cur3) base ok (.slice (some ⟨g, 0, none⟩) tot c) (xs.take i ++ vs ++ xs.drop j) := by
              have h := hL5.R (base := base) (ok := ok) HOK.out.1 HOK.out.2.1
              rw [HLEN.out] at h
              exact h
            have HRES5 := Aside0.mk hres5
            clear hcur3 hc2l hzl hzl2 hL5 hres5
            go_wp2_with (at_builtin; refine wpList_clear_run _ rfl _ 54 rfl _ rfl hclr ?_)
            go_ret
            exact ⟨_, rfl, HRES5.out, setRow_below HB4.out HOK.out.1 cur3⟩
        · have hdd : decide ((i : Int) + (m : Int) ≤ (j : Int)) = false := decide_eq_false (by omega)
          obtain ⟨gv, curv, rfl, hLV2, hgv⟩ := HMV2.out (by omega)
          have hb6 : ¬ (c = i + m) := by have := HT.out; omega
          have hcv0 : curv.size ≠ 0 := by
            have h1 := hLV2.2.1
            have h2 := hLV2.2.2.1
            rw [← HMM.out] at h2
            omega
          have hov : ∀ cc, (callFunc 156 #[.slice (some ⟨g, (i + m) * 2, none⟩) (tot - (i + m)) cc, .slice (some ⟨gv, 0, none⟩) m cv]).run Try.prog W2 = .ok (.value (.bool false)) W2 := fun cc => by
            rw [run_callFunc_extern Try.func156 (by kernel_rfl) (by kernel_rfl) (by kernel_rfl) (e := Extern.SlicesOverlaps.overlaps #[54, 54] #[4]) (by kernel_rfl),
              Lib.run_overlaps_apart W2 54 4 40 Try.underlying54 2 Try.sizeOf40 ⟨g, (i + m) * 2, none⟩ ⟨gv, 0, none⟩ (tot - (i + m)) cc m cv (fun h => hgv h.symm) 40 40 cur.size curv.size (by simp [World.shape?, HL2.out.1]) (by simp [World.shape?, hLV2.1]) hcv0 (blk_frozen HL2.out.1 _) (blk_frozen HL2.out.1 _)]
            rfl
          have hxl : (xs.take (i + m)).length = i + m := by rw [List.length_take, ← HNN.out]; have := HM2.out; omega
          have hdl : (xs.drop j).length = n - j := by rw [List.length_drop, HNN.out]
          have hcp1 : ∀ ty, (Builtin.copy_ #[54, 54] ty #[.slice (some ⟨g, (i + m) * 2, none⟩) (tot - (i + m)) (c - (i + m)), .slice (some ⟨g, j * 2, none⟩) (n - j) (c - j)]).run Try.prog W2.drew = .ok (goInt (Nat.min (n - j) (tot - (i + m)))) (W2.drew.setRow g (cur.toList.take ((i + m) * 2) ++ (xs.drop j).flatMap encSpan ++ cur.toList.drop ((i + m) * 2 + ((xs.drop j).flatMap encSpan).length)).toArray) := fun ty =>
            run_copy_k W2.drew 54 54 ty 40 g ((i + m) * 2) (tot - (i + m)) (c - (i + m)) ⟨g, j * 2, none⟩ (n - j) (c - j) cur 40 ((xs.drop j).flatMap encSpan) 2 Try.underlying54 Try.sizeOf40 HL2.out.1 (by rw [HF.out.2.1]; exact HF.out.2.2.2) (fun t u hu => (HL2.out.same (w1 := W2.drew) rfl).src spanLen j t u hu) (by rw [HF.out.2.2.2, HL2.out.2.1]; have := HT.out; omega) (flat_one _)
          have hL3 := (HL2.out.same (w1 := W2.drew) rfl).put spanLen (ys := xs.drop j) (i := i + m) (by rw [← HNN.out]; have := HM2.out; omega) (by rw [hdl]; have := HT.out; omega)
          obtain ⟨cur1, hcur1⟩ : ∃ R : Array Value, R = (cur.toList.take ((i + m) * 2) ++ (xs.drop j).flatMap encSpan ++ cur.toList.drop ((i + m) * 2 + ((xs.drop j).flatMap encSpan).length)).toArray := ⟨_, rfl⟩
          rw [← hcur1] at hcp1 hL3
          have hB3 : Below base w0 (W2.drew.setRow g cur1) := setRow_below (below_drew HB2.out) HOK.out.1 cur1
          have hV3 : LieL encSpan 2 40 (W2.drew.setRow g cur1) gv cv curv vs := hLV2.same (setRow_other W2.drew g gv cur1 hgv)
          obtain ⟨W3, hW3⟩ : ∃ W, W = W2.drew.setRow g cur1 := ⟨_, rfl⟩
          rw [← hW3] at hcp1 hL3 hB3 hV3
          have hcp2 : ∀ ty, (Builtin.copy_ #[54, 54] ty #[.slice (some ⟨g, i * 2, none⟩) (tot - i) (c - i), .slice (some ⟨gv, 0, none⟩) m cv]).run Try.prog W3 = .ok (goInt (Nat.min m (tot - i))) (W3.setRow g (cur1.toList.take (i * 2) ++ vs.flatMap encSpan ++ cur1.toList.drop (i * 2 + (vs.flatMap encSpan).length)).toArray) := fun ty =>
            run_copy_k W3 54 54 ty 40 g (i * 2) (tot - i) (c - i) ⟨gv, 0, none⟩ m cv cur1 40 (vs.flatMap encSpan) 2 Try.underlying54 Try.sizeOf40 hL3.1 (by rw [HF.out.1]; exact HF.out.2.2.1) (fun t u hu => by have := hV3.src spanLen 0 t u (by simpa using hu); simpa using this) (by rw [HF.out.2.2.1, hL3.2.1]; have := HT.out; omega) (flat_one vs)
          have hL4 := hL3.put_mid spanLen (ys := vs) (i := i) (by rw [List.length_append, hxl, ← HMM.out]; omega)
          have e3 : (xs.take (i + m) ++ xs.drop j).take i = xs.take i := by rw [List.take_append, List.take_take, Nat.min_eq_left (by omega), hxl]; simp [show i - (i + m) = 0 by omega]
          have e4 : (xs.take (i + m) ++ xs.drop j).drop (i + vs.length) = xs.drop j := by rw [← HMM.out]; exact drop_app_len _ _ _ hxl
          rw [e3, e4] at hL4
          obtain ⟨cur2, hcur2⟩ : ∃ R : Array Value, R = (cur1.toList.take (i * 2) ++ vs.flatMap encSpan ++ cur1.toList.drop (i * 2 + (vs.flatMap encSpan).length)).toArray := ⟨_, rfl⟩
          rw [← hcur2] at hcp2 hL4
          have hlen : (xs.take i ++ vs ++ xs.drop j).length = tot := by simp only [List.length_append, hdl, ← HMM.out, List.length_take, ← HNN.out]; have := HT.out; omega
          have hres := hL4.R (base := base) (ok := ok) HOK.out.1 HOK.out.2.1
          rw [hlen] at hres
          have HRES := Aside0.mk (And.intro hres (setRow_below hB3 HOK.out.1 cur2))
          clear hcur1 hcur2 hW3 hL3 hB3 hV3 hL4 e3 e4 hlen hres hxl hdl hcv0 hLV2 hd
          go_wp2_with (simp only [hov])
          go_still_tail 9, (by kernel_rfl)
          change wpList _ _ _ _ _ W2.drew
          refine wpList_copy_runI W2.drew rfl _ _ 54 54 rfl _ _ rfl rfl (hcp1 _) ?_
          go_wp2_with (at_builtin; refine wpList_copy_runI _ rfl _ _ 54 54 rfl _ _ rfl rfl (hcp2 _) ?_)
          go_ret
          exact ⟨_, rfl, HRES.out.1, HRES.out.2⟩
end Go.Proofs.Ytkkfkdncddbaeaa.Fn
namespace Go.Proofs.Ytkkfkdncddbaeaa.Fn
open Go.RowKit Go.Proofs.YtkkfkdncddbaeaaW.PrintWords Go.Proofs.YtkkfkdncddbaeaaW.PrintLast Go.Proofs.YtkkfkdncddbaeaaW.PrintMore
attribute [local go_sem] max2_int min2_int max_two min_two max_three min_three max_four min_four
set_option linter.unusedVariables false
set_option linter.unusedSimpArgs false
def restG1 (y x : S40) : List S40 := if y.f0 < x.f0 then [⟨y.f0, wrap64 (x.f0 - y.f0)⟩] else []
def restG2 (y x : S40) : List S40 := if wrap64 (x.f0 + x.f1) < wrap64 (y.f0 + y.f1) then [⟨wrap64 (x.f0 + x.f1), wrap64 (wrap64 (y.f0 + y.f1) - wrap64 (x.f0 + x.f1))⟩] else []
def outL (l : List S40) (i : Nat) (x : S40) : List S40 := l.take i ++ (restG1 (rd_T40 l i) x ++ restG2 (rd_T40 l i) x) ++ l.drop (i + 1)
def free_out.f (l0 : List (S40)) (a1 : Int) (a2_0 : Int) (a2_1 : Int) : Option (List (S40)) := if 0 ≤ a1 ∧ a1 < l0.length ∧ l0.length ≤ 4096 then some (outL l0 a1.toNat ⟨a2_0, a2_1⟩) else none
theorem srcV_of {w : World} {base g : Nat} {ok : Nat → Prop} {v : Value} {vs : List S40} (h : Kd.R k40 40 w base ok v vs) (hg : ∀ k, v.ownBlock = some k → k ≠ g) : SrcV w v vs g := by
  rcases R_lies flatSpan h with ⟨h1, h2⟩ | ⟨gv, cap, h1, h2, h3, h4⟩
  · exact .inl ⟨h1, h2⟩
  · obtain ⟨curv, h5⟩ := h4.toL spanLen
    subst h1
    exact .inr ⟨gv, cap, curv, rfl, h5, hg gv rfl⟩
theorem rowL_of {w : World} {base : Nat} {ok : Nat → Prop} {v : Value} {xs : List S40} (h : Kd.R k40 40 w base ok v xs) (h0 : xs ≠ []) : ∃ g c cur, v = .slice (some ⟨g, 0, none⟩) xs.length c ∧ LieL encSpan 2 40 w g c cur xs ∧ base ≤ g ∧ ok g := by
  rcases R_lies flatSpan h with ⟨h1, h2⟩ | ⟨g, cap, h1, h2, h3, h4⟩
  · exact absurd h2 h0
  · obtain ⟨cur, h5⟩ := h4.toL spanLen
    exact ⟨g, cap, cur, h1, h5, h2, h3⟩
theorem out_tail (w0 W : World) (A0 : Option Addr) (c0 : Nat) (l0 : List S40) (i : Nat) (vs : List S40) (v : Value) (hC : Kd.C k40 W A0 l0.length l0) (hc0 : l0.length ≤ c0) (hR : Kd.R k40 40 W w0.heap.size (fun _ => True) v vs)
    (hB : Below w0.heap.size w0 W) (hi : i < l0.length) (hn : l0.length ≤ 4096) (hm : vs.length ≤ 2) :
    Calls Try.prog 101 #[.slice A0 l0.length c0] W fun e w' => ∃ s : Value, e = .returned s ∧ Below W.heap.size W w' ∧
      Calls Try.prog 142 #[s, .int .i64 i, .int .i64 ((i : Int) + 1), v] w' fun e w'' => ∃ v' : Value, e = .returned v' ∧ Kd.R k40 40 w'' w0.heap.size (fun _ => True) v' (l0.take i ++ vs ++ l0.drop (i + 1)) ∧ Below w0.heap.size w0 w'' := by
  refine (api_Span_101.calls A0 c0 l0 l0 W hC hc0 (by unfold api_Span_101.f; rw [if_pos (by omega)])).mono ?_
  rintro e w' ⟨s, rfl, hR1, hb1⟩
  have hne : l0 ≠ [] := by intro h; rw [h] at hi; simp at hi
  obtain ⟨g, c, cur, rfl, hL, hg, _⟩ := rowL_of hR1 hne
  have hV : SrcV w' v vs g := srcV_of (Kd.R_below hR hb1) (fun k hk => by
    have := Kd.R_lt hR k hk
    omega)
  refine ⟨_, rfl, hb1, ?_⟩
  have h := repl_span w0 w' w0.heap.size g c (fun _ => True) cur l0 vs v i (i + 1) hL hV (below_then hB hB.size hb1) (Nat.le_trans hB.size hg) trivial (fun _ _ => trivial) (by omega) (by omega) hn hm (fun _ => rfl)
  have e1 : ((i + 1 : Nat) : Int) = (i : Int) + 1 := by omega
  rw [e1] at h
  exact h
set_option maxHeartbeats 4000000 in
set_option maxRecDepth 100000 in
theorem free_out.calls (A0 : Option Addr) (c0 : Nat) (l0 : List (S40)) (a1 : Int) (a2_0 : Int) (a2_1 : Int) (r : List (S40)) (w : World) (hr0 : Kd.C k40 w A0 l0.length l0) (hc0 : l0.length ≤ c0) (h : free_out.f l0 a1 a2_0 a2_1 = some r) :
    Calls Try.prog 108 #[.slice A0 l0.length c0, .int .i64 a1, .agg #[.int .i64 a2_0, .int .i64 a2_1]] w fun e w' => ∃ v0_ : Value, e = .returned (v0_) ∧ Kd.R k40 40 w' w.heap.size (fun _ => True) v0_ r ∧ Below w.heap.size w w' := by
  have hu40 := Try.underlying40
  unfold free_out.f at h
  split at h
  · rename_i hc
    obtain ⟨h0, h1, h2⟩ := hc
    obtain rfl := Option.some.inj h
    obtain ⟨i, rfl⟩ : ∃ i : Nat, a1 = (i : Int) := ⟨a1.toNat, by omega⟩
    rw [Int.toNat_natCast]
    have hin : i < l0.length := by omega
    obtain ⟨ad, e3, g0, g1⟩ := at_T40 hr0 (i : Int) h0 h1
    cases e3
    obtain ⟨y, hy⟩ : ∃ y, y = rd_T40 l0 (i : Int) := ⟨_, rfl⟩
    rw [← hy] at g0 g1
    have hres : outL l0 i ⟨a2_0, a2_1⟩ = l0.take i ++ (restG1 y ⟨a2_0, a2_1⟩ ++ restG2 y ⟨a2_0, a2_1⟩) ++ l0.drop (i + 1) := by unfold outL; rw [← hy]
    rw [hres]
    have hti : ((i : Int)).toNat = i := Int.toNat_natCast i
    have hw1 : IntKind.i64.wrap ((i : Int) + 1) = (i : Int) + 1 := IntWalk.i64_in _ (by omega)
    rw [hti] at g0 g1
    obtain ⟨W0, hW0⟩ : ∃ W, W = w.alloc (.cells #[.int .i64 a2_0, .int .i64 a2_1] 40) := ⟨_, rfl⟩
    have hbel0 : Below w.heap.size w W0 := by rw [hW0]; exact (Below.refl _ _).alloc (Nat.le_refl _) _
    have g0' : (w.alloc (.cells #[.int .i64 a2_0, .int .i64 a2_1] 40)).cell? (ad.add (i * 2)) = some (.int .i64 y.f0) := by rw [← hW0]; exact pw_cell_below hbel0 g0
    have g1' : (w.alloc (.cells #[.int .i64 a2_0, .int .i64 a2_1] 40)).cell? ⟨(ad.add (i * 2)).block, (ad.add (i * 2)).off + 1, none⟩ = some (.int .i64 y.f1) := by rw [← hW0]; exact pw_cell_below hbel0 g1
    obtain ⟨b5, hb5⟩ : ∃ b, b = w.heap.size := ⟨_, rfl⟩
    obtain ⟨b7, hb7⟩ : ∃ b, b = W0.heap.size := ⟨_, rfl⟩
    obtain ⟨W1, hW1⟩ : ∃ W, W = W0.alloc (.cells #[.int .i64 y.f0, .int .i64 y.f1] 40) := ⟨_, rfl⟩
    have hx5 : W1.heap[b5]? = some (.cells #[.int .i64 a2_0, .int .i64 a2_1] 40 (0, 0)) := by rw [hW1]; refine blk_alloc ?_ _; rw [hW0, hb5]; exact blk_new w _
    have hx7 : W1.heap[b7]? = some (.cells #[.int .i64 y.f0, .int .i64 y.f1] 40 (0, 0)) := by rw [hW1, hb7]; exact blk_new W0 _
    have hbel1 : Below w.heap.size w W1 := by rw [hW1]; exact hbel0.alloc hbel0.size _
    have x0 : W1.cell? ⟨b5, 0, none⟩ = some (.int .i64 a2_0) := (blk_cell hx5 0).trans rfl
    have x1 : W1.cell? ⟨b5, 1, none⟩ = some (.int .i64 a2_1) := (blk_cell hx5 1).trans rfl
    have y0 : W1.cell? ⟨b7, 0, none⟩ = some (.int .i64 y.f0) := (blk_cell hx7 0).trans rfl
    have y1 : W1.cell? ⟨b7, 1, none⟩ = some (.int .i64 y.f1) := (blk_cell hx7 1).trans rfl
    have HR0 := Aside0.mk hr0
    have HC0 := Aside0.mk hc0
    have HI := Aside0.mk (And.intro hin h2)
    have HX5 := Aside0.mk hx5
    have HX7 := Aside0.mk hx7
    have HB1 := Aside0.mk hbel1
    have e5 : w.heap.size = b5 := hb5.symm
    have e7 : (w.alloc (.cells #[.int .i64 a2_0, .int .i64 a2_1] 40)).heap.size = b7 := by rw [← hW0, hb7]
    have e7' : w.heap.size + 1 = b7 := by rw [← e7]; simp
    have E57 := Aside0.mk (And.intro e5 (And.intro e7 e7'))
    have hWW : W1 = (w.alloc (.cells #[.int .i64 a2_0, .int .i64 a2_1] 40)).alloc (.cells #[.int .i64 y.f0, .int .i64 y.f1] 40) := by rw [hW1, hW0]
    have HWW := Aside0.mk hWW
    clear hr0 hc0 h hy hres hin h2 hW0 hW1 hb5 hb7 hx5 hx7 hbel0 hbel1 g0 g1 e5 e7 e7' hWW
    obtain ⟨s1, hs1⟩ : ∃ s : Int, s = wrap64 (a2_0 + a2_1) := ⟨_, rfl⟩
    obtain ⟨s2, hs2⟩ : ∃ s : Int, s = wrap64 (y.f0 + y.f1) := ⟨_, rfl⟩
    have HS := Aside0.mk (And.intro hs1 hs2)
    by_cases c1 : y.f0 < a2_0
    · have hd1 : decide (y.f0 < a2_0) = true := decide_eq_true c1
      have hr1 : restG1 y ⟨a2_0, a2_1⟩ = [⟨y.f0, wrap64 (a2_0 - y.f0)⟩] := by unfold restG1; rw [if_pos c1]
      have HR1 := Aside0.mk hr1
      clear hr1
      rw [HWW.out] at x0 x1 y0 y1
      rw [← E57.out.2.2] at y0 y1
      rw [← E57.out.1] at x0 x1
      go_enter Try.func108, Try.ntmps108
      go_wp2_with (first | ((with_reducible refine gate_builtin (b := .append) (xs := #[.tmp 20, .tmp 29]) rfl ?_); at_builtin; refine Kd.R_append k40 (w0 := w) w.heap.size rfl (.tmp 20) (.tmp 29) 54 40 (.agg #[(.int .i64 0), (.int .i64 0)]) 16 rfl Try.underlying54 info40 rfl (by decide) (by omega) (.slice none 0 0) ([] : List S40) (⟨y.f0, wrap64 (a2_0 - y.f0)⟩ : S40) [.int .i64 ((⟨y.f0, wrap64 (a2_0 - y.f0)⟩ : S40) : S40).f0, .int .i64 ((⟨y.f0, wrap64 (a2_0 - y.f0)⟩ : S40) : S40).f1] (fun k => k ≠ b5 ∧ k ≠ b7) (fun _ => False) rfl (by first | (go_simp; done) | (go_simp; rfl)) ?aP (fun _ hk => hk.elim) ?aF ?aO ?aB ?aS ?aL ?_; (case aP => exact k40_mkM _ _ _ ((⟨y.f0, wrap64 (a2_0 - y.f0)⟩ : S40) : S40)); (case aF => intro k hk; rw [← HWW.out] at hk; have q1 := blk_lt HX5.out; have q2 := blk_lt HX7.out; exact ⟨by omega, by omega⟩); (case aO => exact Kd.R_nil _ _ _ _ _); (case aB => rw [← HWW.out]; exact HB1.out); (case aS => rw [← HWW.out]; exact HB1.out.size); (case aL => simp); intro v1 w4 ho hb hg hat; rw [← HWW.out] at hg; have HO4 := Aside0.mk ho; have HB4 := Aside0.mk hb; have HG4 := Aside0.mk hg; clear ho hb hg hat))
      clear x0 x1 y0 y1 g0' g1'
      simp only [E57.out.2.2]
      simp only [E57.out.1]
      have HX54 := Aside0.mk ((HG4.out.block b5 (blk_lt HX5.out) (by simp [Value.ownBlock])).trans HX5.out)
      have HX74 := Aside0.mk ((HG4.out.block b7 (blk_lt HX7.out) (by simp [Value.ownBlock])).trans HX7.out)
      obtain ⟨A4, c4, rfl⟩ := Kd.R_slice HO4.out
      have x0 : w4.cell? ⟨b5, 0, none⟩ = some (.int .i64 a2_0) := (blk_cell HX54.out 0).trans rfl
      have x1 : w4.cell? ⟨b5, 1, none⟩ = some (.int .i64 a2_1) := (blk_cell HX54.out 1).trans rfl
      have y0 : w4.cell? ⟨b7, 0, none⟩ = some (.int .i64 y.f0) := (blk_cell HX74.out 0).trans rfl
      have y1 : w4.cell? ⟨b7, 1, none⟩ = some (.int .i64 y.f1) := (blk_cell HX74.out 1).trans rfl
      have hs1w : IntKind.i64.wrap (a2_0 + a2_1) = s1 := by rw [HS.out.1]; exact IntWalk.i64_left _
      have hs1w2 : wrap64 (a2_0 + a2_1) = s1 := HS.out.1.symm
      have hs2w : IntKind.i64.wrap (y.f0 + y.f1) = s2 := by rw [HS.out.2]; exact IntWalk.i64_left _
      have hs2w2 : wrap64 (y.f0 + y.f1) = s2 := HS.out.2.symm
      clear hs1 hs2
      go_quiet (fail)
      obtain ⟨W6, hW6⟩ : ∃ W, W = w4.drewN nq := ⟨_, rfl⟩
      rw [← hW6]
      have HO6 := Aside0.mk (show Kd.R k40 40 W6 w.heap.size (fun k => k ≠ b5 ∧ k ≠ b7) (.slice A4 ([] ++ [(⟨y.f0, wrap64 (a2_0 - y.f0)⟩ : S40)]).length c4) ([] ++ [(⟨y.f0, wrap64 (a2_0 - y.f0)⟩ : S40)]) by rw [hW6]; exact Kd.R_drewN HO4.out nq)
      have HB6 := Aside0.mk (show Below w.heap.size w W6 by rw [hW6]; exact pw_below_drewN HB4.out nq)
      have HX56 := Aside0.mk (show W6.heap[b5]? = some (.cells #[.int .i64 a2_0, .int .i64 a2_1] 40 (0, 0)) by rw [hW6]; exact HX54.out)
      have HX76 := Aside0.mk (show W6.heap[b7]? = some (.cells #[.int .i64 y.f0, .int .i64 y.f1] 40 (0, 0)) by rw [hW6]; exact HX74.out)
      clear hW6 x0 x1 y0 y1
      by_cases c2 : s1 < s2
      · have hd2 : decide (s1 < s2) = true := decide_eq_true c2
        have hr2 : restG2 y ⟨a2_0, a2_1⟩ = [⟨s1, wrap64 (s2 - s1)⟩] := by unfold restG2; rw [hs1w2, hs2w2, if_pos c2]
        have HR2 := Aside0.mk hr2
        clear hr2 hs1w hs1w2 hs2w hs2w2
        go_wp2_with (first | ((with_reducible refine gate_builtin (b := .append) (xs := #[.tmp 44, .tmp 50]) rfl ?_); at_builtin; refine Kd.R_append k40 (w0 := w) w.heap.size rfl (.tmp 44) (.tmp 50) 54 40 (.agg #[(.int .i64 0), (.int .i64 0)]) 16 rfl Try.underlying54 info40 rfl (by decide) (by omega) (.slice A4 ([] ++ [(⟨y.f0, wrap64 (a2_0 - y.f0)⟩ : S40)]).length c4) ([] ++ [(⟨y.f0, wrap64 (a2_0 - y.f0)⟩ : S40)]) (⟨s1, wrap64 (s2 - s1)⟩ : S40) [.int .i64 ((⟨s1, wrap64 (s2 - s1)⟩ : S40) : S40).f0, .int .i64 ((⟨s1, wrap64 (s2 - s1)⟩ : S40) : S40).f1] (fun k => k ≠ b5 ∧ k ≠ b7) (fun _ => False) rfl (by first | (go_simp; done) | (go_simp; rfl)) ?aP (fun _ hk => hk.elim) ?aF ?aO ?aB ?aS ?aL ?_; (case aP => exact k40_mkM _ _ _ ((⟨s1, wrap64 (s2 - s1)⟩ : S40) : S40)); (case aF => intro k hk; have q1 := blk_lt HX56.out; have q2 := blk_lt HX76.out; exact ⟨by omega, by omega⟩); (case aO => exact HO6.out); (case aB => exact HB6.out); (case aS => exact HB6.out.size); (case aL => simp); intro v1 w7 ho hb hg hat; have HO7 := Aside0.mk ho; have HB7 := Aside0.mk hb; clear ho hb hg hat))
        obtain ⟨A7, c7, rfl⟩ := Kd.R_slice HO7.out
        clear hd2
        go_wp2_with fail
        have hvs : restG1 y ⟨a2_0, a2_1⟩ ++ restG2 y ⟨a2_0, a2_1⟩ = (([] ++ [(⟨y.f0, wrap64 (a2_0 - y.f0)⟩ : S40)]) ++ [(⟨s1, wrap64 (s2 - s1)⟩ : S40)]) := by first | (rw [HR1.out, HR2.out]; done) | (rw [HR1.out, HR2.out]; rfl)
        have HVS := Aside0.mk hvs
        refine (out_tail w _ (some ad) c0 l0 i (([] ++ [(⟨y.f0, wrap64 (a2_0 - y.f0)⟩ : S40)]) ++ [(⟨s1, wrap64 (s2 - s1)⟩ : S40)]) _ (Kd.C_below HR0.out HB7.out) HC0.out (Kd.R_mono HO7.out (fun _ _ => trivial)) HB7.out HI.out.1 HI.out.2 (by simp)).mono ?_
        rintro e w8 ⟨s, rfl, hb8, hcall⟩
        have HCALL := Aside0.mk hcall
        clear hb8 hcall hvs
        go_wp2_with fail
        refine HCALL.out.mono ?_
        rintro e w9 ⟨v', rfl, hR9, hb9⟩
        have HR9 := Aside0.mk hR9
        have HB9 := Aside0.mk hb9
        clear hR9 hb9
        go_wp2
        go_ret
        refine ⟨_, rfl, ?_, HB9.out⟩; rw [HVS.out]; exact HR9.out
      · have hd2 : decide (s1 < s2) = false := decide_eq_false c2
        have hr2 : restG2 y ⟨a2_0, a2_1⟩ = [] := by unfold restG2; rw [hs1w2, hs2w2, if_neg c2]
        have HR2 := Aside0.mk hr2
        clear hr2 hs1w hs1w2 hs2w hs2w2
        go_wp2_with fail
        have hvs : restG1 y ⟨a2_0, a2_1⟩ ++ restG2 y ⟨a2_0, a2_1⟩ = (([] ++ [(⟨y.f0, wrap64 (a2_0 - y.f0)⟩ : S40)])) := by first | (rw [HR1.out, HR2.out]; done) | (rw [HR1.out, HR2.out]; rfl)
        have HVS := Aside0.mk hvs
        refine (out_tail w _ (some ad) c0 l0 i (([] ++ [(⟨y.f0, wrap64 (a2_0 - y.f0)⟩ : S40)])) _ (Kd.C_below HR0.out HB6.out) HC0.out (Kd.R_mono HO6.out (fun _ _ => trivial)) HB6.out HI.out.1 HI.out.2 (by simp)).mono ?_
        rintro e w8 ⟨s, rfl, hb8, hcall⟩
        have HCALL := Aside0.mk hcall
        clear hb8 hcall hvs
        go_wp2_with fail
        refine HCALL.out.mono ?_
        rintro e w9 ⟨v', rfl, hR9, hb9⟩
        have HR9 := Aside0.mk hR9
        have HB9 := Aside0.mk hb9
        clear hR9 hb9
        go_wp2
        go_ret
        refine ⟨_, rfl, ?_, HB9.out⟩; rw [HVS.out]; exact HR9.out
    · have hd1 : decide (y.f0 < a2_0) = false := decide_eq_false c1
      have hr1 : restG1 y ⟨a2_0, a2_1⟩ = [] := by unfold restG1; rw [if_neg c1]
      have HR1 := Aside0.mk hr1
      clear hr1
      rw [HWW.out] at x0 x1 y0 y1
      rw [← E57.out.2.2] at y0 y1
      rw [← E57.out.1] at x0 x1
      go_enter Try.func108, Try.ntmps108
      go_wp2_with fail
      clear x0 x1 y0 y1 g0' g1'
      rw [← HWW.out]
      simp only [E57.out.2.2]
      simp only [E57.out.1]
      have HO1 := Aside0.mk (Kd.R_nil k40 40 W1 w.heap.size (fun k => k ≠ b5 ∧ k ≠ b7))
      have x0 : W1.cell? ⟨b5, 0, none⟩ = some (.int .i64 a2_0) := (blk_cell HX5.out 0).trans rfl
      have x1 : W1.cell? ⟨b5, 1, none⟩ = some (.int .i64 a2_1) := (blk_cell HX5.out 1).trans rfl
      have y0 : W1.cell? ⟨b7, 0, none⟩ = some (.int .i64 y.f0) := (blk_cell HX7.out 0).trans rfl
      have y1 : W1.cell? ⟨b7, 1, none⟩ = some (.int .i64 y.f1) := (blk_cell HX7.out 1).trans rfl
      have hs1w : IntKind.i64.wrap (a2_0 + a2_1) = s1 := by rw [HS.out.1]; exact IntWalk.i64_left _
      have hs1w2 : wrap64 (a2_0 + a2_1) = s1 := HS.out.1.symm
      have hs2w : IntKind.i64.wrap (y.f0 + y.f1) = s2 := by rw [HS.out.2]; exact IntWalk.i64_left _
      have hs2w2 : wrap64 (y.f0 + y.f1) = s2 := HS.out.2.symm
      clear hs1 hs2
      go_quiet (fail)
      obtain ⟨W6, hW6⟩ : ∃ W, W = W1.drewN nq := ⟨_, rfl⟩
      rw [← hW6]
      have HO6 := Aside0.mk (show Kd.R k40 40 W6 w.heap.size (fun k => k ≠ b5 ∧ k ≠ b7) (.slice none 0 0) ([] : List S40) by rw [hW6]; exact Kd.R_drewN HO1.out nq)
      have HB6 := Aside0.mk (show Below w.heap.size w W6 by rw [hW6]; exact pw_below_drewN HB1.out nq)
      have HX56 := Aside0.mk (show W6.heap[b5]? = some (.cells #[.int .i64 a2_0, .int .i64 a2_1] 40 (0, 0)) by rw [hW6]; exact HX5.out)
      have HX76 := Aside0.mk (show W6.heap[b7]? = some (.cells #[.int .i64 y.f0, .int .i64 y.f1] 40 (0, 0)) by rw [hW6]; exact HX7.out)
      clear hW6 x0 x1 y0 y1
      by_cases c2 : s1 < s2
      · have hd2 : decide (s1 < s2) = true := decide_eq_true c2
        have hr2 : restG2 y ⟨a2_0, a2_1⟩ = [⟨s1, wrap64 (s2 - s1)⟩] := by unfold restG2; rw [hs1w2, hs2w2, if_pos c2]
        have HR2 := Aside0.mk hr2
        clear hr2 hs1w hs1w2 hs2w hs2w2
        go_wp2_with (first | ((with_reducible refine gate_builtin (b := .append) (xs := #[.tmp 44, .tmp 50]) rfl ?_); at_builtin; refine Kd.R_append k40 (w0 := w) w.heap.size rfl (.tmp 44) (.tmp 50) 54 40 (.agg #[(.int .i64 0), (.int .i64 0)]) 16 rfl Try.underlying54 info40 rfl (by decide) (by omega) (.slice none 0 0) ([] : List S40) (⟨s1, wrap64 (s2 - s1)⟩ : S40) [.int .i64 ((⟨s1, wrap64 (s2 - s1)⟩ : S40) : S40).f0, .int .i64 ((⟨s1, wrap64 (s2 - s1)⟩ : S40) : S40).f1] (fun k => k ≠ b5 ∧ k ≠ b7) (fun _ => False) rfl (by first | (go_simp; done) | (go_simp; rfl)) ?aP (fun _ hk => hk.elim) ?aF ?aO ?aB ?aS ?aL ?_; (case aP => exact k40_mkM _ _ _ ((⟨s1, wrap64 (s2 - s1)⟩ : S40) : S40)); (case aF => intro k hk; have q1 := blk_lt HX56.out; have q2 := blk_lt HX76.out; exact ⟨by omega, by omega⟩); (case aO => exact HO6.out); (case aB => exact HB6.out); (case aS => exact HB6.out.size); (case aL => simp); intro v1 w7 ho hb hg hat; have HO7 := Aside0.mk ho; have HB7 := Aside0.mk hb; clear ho hb hg hat))
        obtain ⟨A7, c7, rfl⟩ := Kd.R_slice HO7.out
        clear hd2
        go_wp2_with fail
        have hvs : restG1 y ⟨a2_0, a2_1⟩ ++ restG2 y ⟨a2_0, a2_1⟩ = (([] : List S40) ++ [(⟨s1, wrap64 (s2 - s1)⟩ : S40)]) := by first | (rw [HR1.out, HR2.out]; done) | (rw [HR1.out, HR2.out]; rfl)
        have HVS := Aside0.mk hvs
        refine (out_tail w _ (some ad) c0 l0 i (([] : List S40) ++ [(⟨s1, wrap64 (s2 - s1)⟩ : S40)]) _ (Kd.C_below HR0.out HB7.out) HC0.out (Kd.R_mono HO7.out (fun _ _ => trivial)) HB7.out HI.out.1 HI.out.2 (by simp)).mono ?_
        rintro e w8 ⟨s, rfl, hb8, hcall⟩
        have HCALL := Aside0.mk hcall
        clear hb8 hcall hvs
        go_wp2_with fail
        refine HCALL.out.mono ?_
        rintro e w9 ⟨v', rfl, hR9, hb9⟩
        have HR9 := Aside0.mk hR9
        have HB9 := Aside0.mk hb9
        clear hR9 hb9
        go_wp2
        go_ret
        refine ⟨_, rfl, ?_, HB9.out⟩; rw [HVS.out]; exact HR9.out
      · have hd2 : decide (s1 < s2) = false := decide_eq_false c2
        have hr2 : restG2 y ⟨a2_0, a2_1⟩ = [] := by unfold restG2; rw [hs1w2, hs2w2, if_neg c2]
        have HR2 := Aside0.mk hr2
        clear hr2 hs1w hs1w2 hs2w hs2w2
        go_wp2_with fail
        have hvs : restG1 y ⟨a2_0, a2_1⟩ ++ restG2 y ⟨a2_0, a2_1⟩ = (([] : List S40)) := by first | (rw [HR1.out, HR2.out]; done) | (rw [HR1.out, HR2.out]; rfl)
        have HVS := Aside0.mk hvs
        refine (out_tail w _ (some ad) c0 l0 i (([] : List S40)) _ (Kd.C_below HR0.out HB6.out) HC0.out (Kd.R_mono HO6.out (fun _ _ => trivial)) HB6.out HI.out.1 HI.out.2 (by simp)).mono ?_
        rintro e w8 ⟨s, rfl, hb8, hcall⟩
        have HCALL := Aside0.mk hcall
        clear hb8 hcall hvs
        go_wp2_with fail
        refine HCALL.out.mono ?_
        rintro e w9 ⟨v', rfl, hR9, hb9⟩
        have HR9 := Aside0.mk hR9
        have HB9 := Aside0.mk hb9
        clear hR9 hb9
        go_wp2
        go_ret
        refine ⟨_, rfl, ?_, HB9.out⟩; rw [HVS.out]; exact HR9.out
  · cases h
end Go.Proofs.Ytkkfkdncddbaeaa.Fn
namespace Go.Proofs.Ytkkfkdncddbaeaa.Fn
open Go.RowKit Go.Proofs.YtkkfkdncddbaeaaW.PrintWords Go.Proofs.YtkkfkdncddbaeaaW.PrintLast Go.Proofs.YtkkfkdncddbaeaaW.PrintMore
attribute [local go_sem] max2_int min2_int max_two min_two max_three min_three max_four min_four
set_option linter.unusedVariables false
set_option linter.unusedSimpArgs false
def roomG (line : Int) (x : S40) : Int := wrap64 (mn (wrap64 (x.f0 + x.f1)) line - x.f0)
def roomH (line : Int) (x : S40) : Int := mn x.f1 (wrap64 (line - x.f0))
set_option maxHeartbeats 1000000 in
set_option maxRecDepth 100000 in
theorem best_del (x : S40) (bl bn : Nat) (line n : Int) (w : World) (hl : w.heap[bl]? = some (.cells #[.int .i64 line] 3 (0, 0))) (hn : w.heap[bn]? = some (.cells #[.int .i64 n] 3 (0, 0))) :
    Calls Try.prog 102 #[.agg #[.int .i64 x.f0, .int .i64 x.f1], .pointer (some ⟨bl, 0, none⟩), .pointer (some ⟨bn, 0, none⟩)] w fun e w' => e = .returned (.bool (decide (roomG line x < n))) ∧ Below w.heap.size w w' := by
  have hu40 := Try.underlying40
  have h1 := blk_lt hl
  have h2 := blk_lt hn
  have hb := (Below.refl w.heap.size w).alloc (Nat.le_refl _) (.cells #[.int .i64 x.f0, .int .i64 x.f1] 40)
  have x0 : (w.alloc (.cells #[.int .i64 x.f0, .int .i64 x.f1] 40)).cell? ⟨bl, 0, none⟩ = some (.int .i64 line) := (blk_cell ((hb.block bl h1).trans hl) 0).trans rfl
  have x1 : (w.alloc (.cells #[.int .i64 x.f0, .int .i64 x.f1] 40)).cell? ⟨bn, 0, none⟩ = some (.int .i64 n) := (blk_cell ((hb.block bn h2).trans hn) 0).trans rfl
  have HB := Aside0.mk hb
  clear hb hl hn
  go_enter Try.func102, Try.ntmps102
  go_wp2_with fail
  all_goals go_ret
  all_goals refine ⟨?_, HB.out⟩
  all_goals unfold roomG mn
  all_goals first | (rw [if_pos (by omega)]; rfl) | (rw [if_neg (by omega)]; rfl)
set_option maxHeartbeats 1000000 in
set_option maxRecDepth 100000 in
theorem best_cmp (x y : S40) (bl : Nat) (line : Int) (w : World) (hl : w.heap[bl]? = some (.cells #[.int .i64 line] 3 (0, 0))) :
    Calls Try.prog 104 #[.agg #[.int .i64 x.f0, .int .i64 x.f1], .agg #[.int .i64 y.f0, .int .i64 y.f1], .pointer (some ⟨bl, 0, none⟩)] w fun e w' => e = .returned (.int .i64 (cmpI (roomH line x) (roomH line y))) ∧ Below w.heap.size w w' := by
  have hu40 := Try.underlying40
  have h1 := blk_lt hl
  have hb := ((Below.refl w.heap.size w).alloc (Nat.le_refl _) (.cells #[.int .i64 x.f0, .int .i64 x.f1] 40)).alloc ((Below.refl w.heap.size w).alloc (Nat.le_refl _) (.cells #[.int .i64 x.f0, .int .i64 x.f1] 40)).size (.cells #[.int .i64 y.f0, .int .i64 y.f1] 40)
  have x0 : ((w.alloc (.cells #[.int .i64 x.f0, .int .i64 x.f1] 40)).alloc (.cells #[.int .i64 y.f0, .int .i64 y.f1] 40)).cell? ⟨bl, 0, none⟩ = some (.int .i64 line) := (blk_cell ((hb.block bl h1).trans hl) 0).trans rfl
  have HB := Aside0.mk hb
  clear hb hl
  go_enter Try.func104, Try.ntmps104
  go_wp2_with fail
  · have ea : roomH line x = (wrap64 (line - x.f0)) := by unfold roomH mn; first | (rw [if_pos (by omega)]; done) | (rw [if_neg (by omega)]; done)
    have eb : roomH line y = (wrap64 (line - y.f0)) := by unfold roomH mn; first | (rw [if_pos (by omega)]; done) | (rw [if_neg (by omega)]; done)
    have EA := Aside0.mk (And.intro ea eb)
    have hf : cmp_Compare_int.f (wrap64 (line - x.f0)) (wrap64 (line - y.f0)) = some (cmpI (wrap64 (line - x.f0)) (wrap64 (line - y.f0))) := cmp_f _ _
    clear ea eb
    refine (cmp_Compare_int.calls (wrap64 (line - x.f0)) (wrap64 (line - y.f0)) _ _ hf).mono ?_
    rintro e w1 ⟨rfl, hd⟩
    have HB2 := Aside0.mk (below_step HB.out hd.below)
    clear hd hf
    go_wp2
    go_ret
    exact ⟨by rw [EA.out.1, EA.out.2]; rfl, HB2.out⟩
  · have ea : roomH line x = (wrap64 (line - x.f0)) := by unfold roomH mn; first | (rw [if_pos (by omega)]; done) | (rw [if_neg (by omega)]; done)
    have eb : roomH line y = y.f1 := by unfold roomH mn; first | (rw [if_pos (by omega)]; done) | (rw [if_neg (by omega)]; done)
    have EA := Aside0.mk (And.intro ea eb)
    have hf : cmp_Compare_int.f (wrap64 (line - x.f0)) y.f1 = some (cmpI (wrap64 (line - x.f0)) y.f1) := cmp_f _ _
    clear ea eb
    refine (cmp_Compare_int.calls (wrap64 (line - x.f0)) y.f1 _ _ hf).mono ?_
    rintro e w1 ⟨rfl, hd⟩
    have HB2 := Aside0.mk (below_step HB.out hd.below)
    clear hd hf
    go_wp2
    go_ret
    exact ⟨by rw [EA.out.1, EA.out.2]; rfl, HB2.out⟩
  · have ea : roomH line x = x.f1 := by unfold roomH mn; first | (rw [if_pos (by omega)]; done) | (rw [if_neg (by omega)]; done)
    have eb : roomH line y = (wrap64 (line - y.f0)) := by unfold roomH mn; first | (rw [if_pos (by omega)]; done) | (rw [if_neg (by omega)]; done)
    have EA := Aside0.mk (And.intro ea eb)
    have hf : cmp_Compare_int.f x.f1 (wrap64 (line - y.f0)) = some (cmpI x.f1 (wrap64 (line - y.f0))) := cmp_f _ _
    clear ea eb
    refine (cmp_Compare_int.calls x.f1 (wrap64 (line - y.f0)) _ _ hf).mono ?_
    rintro e w1 ⟨rfl, hd⟩
    have HB2 := Aside0.mk (below_step HB.out hd.below)
    clear hd hf
    go_wp2
    go_ret
    exact ⟨by rw [EA.out.1, EA.out.2]; rfl, HB2.out⟩
  · have ea : roomH line x = x.f1 := by unfold roomH mn; first | (rw [if_pos (by omega)]; done) | (rw [if_neg (by omega)]; done)
    have eb : roomH line y = y.f1 := by unfold roomH mn; first | (rw [if_pos (by omega)]; done) | (rw [if_neg (by omega)]; done)
    have EA := Aside0.mk (And.intro ea eb)
    have hf : cmp_Compare_int.f x.f1 y.f1 = some (cmpI x.f1 y.f1) := cmp_f _ _
    clear ea eb
    refine (cmp_Compare_int.calls x.f1 y.f1 _ _ hf).mono ?_
    rintro e w1 ⟨rfl, hd⟩
    have HB2 := Aside0.mk (below_step HB.out hd.below)
    clear hd hf
    go_wp2
    go_ret
    exact ⟨by rw [EA.out.1, EA.out.2]; rfl, HB2.out⟩
theorem alloc_sz (w : World) (o : Obj) : (w.alloc o).heap.size = w.heap.size + 1 := Array.size_push _
theorem alloc_new (w : World) (o : Obj) : (w.alloc o).heap[w.heap.size]? = some o := Array.getElem?_push_size
def minG {α : Type} (q : α → α → Int) (m : α) (l : List α) : α := l.foldl (fun m x => if q x m < 0 then x else m) m
set_option maxHeartbeats 2000000 in
set_option maxRecDepth 100000 in
theorem min_span (cl : Nat) (lb : Array Value) (q : S40 → S40 → Int) (eg : ∀ args w, (callFunc cl args).run Try.prog w = .ok (.enter cl args) w)
    (A0 : Option Addr) (c0 : Nat) (x0 : S40) (t0 : List S40) (w : World) (hr0 : Kd.C k40 w A0 (x0 :: t0).length (x0 :: t0))
    (hp : ∀ (W : World) (x y : S40), Below w.heap.size w W → Calls Try.prog cl (#[.agg #[.int .i64 x.f0, .int .i64 x.f1], .agg #[.int .i64 y.f0, .int .i64 y.f1]] ++ lb) W fun e w' => e = .returned (.int .i64 (q x y)) ∧ Below W.heap.size W w') :
    Calls Try.prog 103 #[.slice A0 (x0 :: t0).length c0, .func (.func cl) #[] lb] w fun e w' => e = .returned (.agg #[.int .i64 (minG q x0 t0).f0, .int .i64 (minG q x0 t0).f1]) ∧ Below w.heap.size w w' := by
  have hu40 := Try.underlying40
  have HR0 := Aside0.mk hr0
  have HP := Aside0.mk hp
  obtain ⟨n, hn⟩ : ∃ n, n = (x0 :: t0).length := ⟨_, rfl⟩
  have hn1 : 1 ≤ n := by rw [hn]; simp
  have hn9 : (n : Int) ≤ 9223372036854775807 := by have := hr0.2.1; omega
  have hd0 : decide ((n : Int) < 1) = false := decide_eq_false (by omega)
  obtain ⟨ad, e3, g0, g1⟩ := at_T40 hr0 0 (by omega) (by rw [← hn]; omega)
  rw [← hn]
  cases e3
  have HN := Aside0.mk hn
  have hx0 : rd_T40 (x0 :: t0) 0 = x0 := rfl
  rw [hx0] at g0 g1
  clear hr0 hp hn hx0
  have hb0 : Below w.heap.size w (w.alloc (.cells #[.int .i64 0, .int .i64 0] 40)) := (Below.refl w.heap.size w).alloc (Nat.le_refl _) _
  have g0' : (w.alloc (.cells #[.int .i64 0, .int .i64 0] 40)).cell? ad = some (.int .i64 x0.f0) := pw_cell_below hb0 g0
  have g1' : (w.alloc (.cells #[.int .i64 0, .int .i64 0] 40)).cell? ⟨ad.block, ad.off + 1, none⟩ = some (.int .i64 x0.f1) := pw_cell_below hb0 g1
  clear g0 g1
  go_enter Try.func103, Try.ntmps103
  go_wp2_with fail
  obtain ⟨b4, hb4⟩ : ∃ b, b = w.heap.size := ⟨_, rfl⟩
  have hs0 : ((w.alloc (.cells #[.int .i64 0, .int .i64 0] 40)).alloc (.cells #[.int .i64 x0.f0, .int .i64 x0.f1] 40)).heap[b4]? = some (.cells #[.int .i64 0, .int .i64 0] 40 (0, 0)) := by
    rw [hb4, Below.heap_alloc _ _ _ (by rw [alloc_sz]; exact Nat.lt_succ_self _)]
    exact alloc_new w _
  have hs1 : ((w.alloc (.cells #[.int .i64 0, .int .i64 0] 40)).alloc (.cells #[.int .i64 x0.f0, .int .i64 x0.f1] 40)).heap[b4 + 1]? = some (.cells #[.int .i64 x0.f0, .int .i64 x0.f1] 40 (0, 0)) := by
    have := alloc_new (w.alloc (.cells #[.int .i64 0, .int .i64 0] 40)) (.cells #[.int .i64 x0.f0, .int .i64 x0.f1] 40)
    have e : (w.alloc (.cells #[.int .i64 0, .int .i64 0] 40)).heap.size = b4 + 1 := by rw [alloc_sz, hb4]
    rw [e] at this
    exact this
  have hB0 : Below b4 w ((w.alloc (.cells #[.int .i64 0, .int .i64 0] 40)).alloc (.cells #[.int .i64 x0.f0, .int .i64 x0.f1] 40)) := by
    rw [hb4]
    exact hb0.alloc hb0.size _
  have HP2 := Aside0.mk (show ∀ (W : World) (x y : S40), Below b4 w W → Calls Try.prog cl (#[.agg #[.int .i64 x.f0, .int .i64 x.f1], .agg #[.int .i64 y.f0, .int .i64 y.f1]] ++ lb) W fun e w' => e = .returned (.int .i64 (q x y)) ∧ Below W.heap.size W w' by rw [hb4]; exact HP.out)
  have HB4 := Aside0.mk hb4
  rw [← hb4]
  clear HP hb0 g0' g1' hb4
  go_loopg [6] n (fun gk v6 W => ∃ (i : Nat) (m : S40), v6 = .int .i64 i ∧ Aside0 (1 ≤ i ∧ i + gk = n + 1) ∧ Aside0 (Below b4 w W) ∧ Aside0 (W.heap[b4]? = some (.cells #[.int .i64 0, .int .i64 0] 40 (0, 0))) ∧ Aside0 (W.heap[b4 + 1]? = some (.cells #[.int .i64 m.f0, .int .i64 m.f1] 40 (0, 0))) ∧ Aside0 (minG q m (t0.drop (i - 1)) = minG q x0 t0))
  case atStart => exact ⟨1, x0, rfl, ⟨Nat.le_refl _, Nat.add_comm _ _⟩, ⟨hB0⟩, ⟨hs0⟩, ⟨hs1⟩, ⟨rfl⟩⟩
  case round =>
    obtain ⟨i, m, rfl, HI, HB, HX4, HX5, HM⟩ := hrel
    by_cases hlt : i < n
    · have hd : decide ((i : Int) < (n : Int)) = true := decide_eq_true (by omega)
      have hp0 : (0 : Int) ≤ (i : Int) := by omega
      have hp1 : (i : Int) < (n : Int) := by omega
      have hC : Kd.C k40 wr (some ad) (x0 :: t0).length (x0 :: t0) := Kd.C_below HR0.out (by rw [← HB4.out]; exact HB.out)
      obtain ⟨ad', e3, g0, g1⟩ := at_T40 hC (i : Int) hp0 (by rw [← HN.out]; exact hp1)
      cases e3
      obtain ⟨k1, rfl⟩ : ∃ k, gk = k + 1 := ⟨gk - 1, by have := HI.out.2; omega⟩
      obtain ⟨x, hx⟩ : ∃ x, x = rd_T40 (x0 :: t0) (i : Int) := ⟨_, rfl⟩
      rw [← hx] at g0 g1
      have hdr : t0.drop (i - 1) = x :: t0.drop i := by
        have hil : i - 1 < t0.length := by have := HN.out; have := HI.out.1; simp at *; omega
        rw [hx]
        obtain ⟨j, rfl⟩ : ∃ j, i = j + 1 := ⟨i - 1, by have := HI.out.1; omega⟩
        have e : t0.drop (j + 1 - 1) = t0[j]'(by simpa using hil) :: t0.drop (j + 1) := by
          rw [Nat.add_sub_cancel]; exact (List.getElem_cons_drop (by simpa using hil)).symm
        rw [e]
        congr 1
        rw [rd40_get _ _ (by omega) (by simp; simp at hil; omega)]
        simp
      have y0 : wr.cell? ⟨b4 + 1, 0, none⟩ = some (.int .i64 m.f0) := (blk_cell HX5.out 0).trans rfl
      have y1 : wr.cell? ⟨b4 + 1, 1, none⟩ = some (.int .i64 m.f1) := (blk_cell HX5.out 1).trans rfl
      have hcall := HP2.out wr.drew x m (below_drew HB.out)
      have HX := Aside0.mk hdr
      rw [Int.toNat_natCast] at g0 g1
      have HG := Aside0.mk (And.intro g0 g1)
      clear hx hC hdr
      have gd0 : ({ heap := wr.heap, tape := wr.tape, drawn := wr.drawn + 1, os := wr.os, output := wr.output } : World).cell? (ad.add (i * 2)) = some (.int .i64 x.f0) := HG.out.1
      have gd1 : ({ heap := wr.heap, tape := wr.tape, drawn := wr.drawn + 1, os := wr.os, output := wr.output } : World).cell? ⟨(ad.add (i * 2)).block, (ad.add (i * 2)).off + 1, none⟩ = some (.int .i64 x.f1) := HG.out.2
      have yd0 : ({ heap := wr.heap, tape := wr.tape, drawn := wr.drawn + 1, os := wr.os, output := wr.output } : World).cell? ⟨b4 + 1, 0, none⟩ = some (.int .i64 m.f0) := y0
      have yd1 : ({ heap := wr.heap, tape := wr.tape, drawn := wr.drawn + 1, os := wr.os, output := wr.output } : World).cell? ⟨b4 + 1, 1, none⟩ = some (.int .i64 m.f1) := y1
      by_cases hq : q x m < 0
      · have hdq : decide (q x m < 0) = true := decide_eq_true hq
        go_wp2_with fail
        go_still_tail 6, (by kernel_rfl)
        change wpList _ _ _ _ _ wr.drew
        go_wp2_with (first
          | (refine wpList_store_row (P := Try.prog) rfl 40 (.tmp 5) (.tmp 31) rfl (b4 + 1) #[.int .i64 x.f0, .int .i64 x.f1] rfl rfl 40 #[.int .i64 m.f0, .int .i64 m.f1] hx5 (by kernel_rfl) rfl (by simp [Value.oneCell']) ?_)
          | (go_at_fn cl; refine hcall.mono ?_; rintro e w' ⟨rfl, hb'⟩; have z0 := pw_cell_below hb' HG.out.1; have z1 := pw_cell_below hb' HG.out.2; have hx5 : w'.heap[b4 + 1]? = some (.cells #[.int .i64 m.f0, .int .i64 m.f1] 40 (0, 0)) := (hb'.block _ (blk_lt HX5.out)).trans HX5.out))
        go_roundg k1
        case measure => omega
        case rel =>
          refine ⟨i + 1, x, by first | rfl | (simp; done) | go_num, ⟨by omega, by have := HI.out.2; omega⟩, ⟨setRow_below (below_then (below_drew HB.out) (Nat.le_trans (Nat.le_of_eq HB4.out) (below_drew HB.out).size) hb') (Nat.le_succ _) _⟩, ⟨(setRow_other _ (b4 + 1) b4 _ (by omega)).trans ((hb'.block _ (blk_lt HX4.out)).trans HX4.out)⟩, ⟨setRow_heap _ (b4 + 1) _ _ 40 (0, 0) hx5⟩, ⟨?_⟩⟩
          have h := HM.out
          rw [HX.out] at h
          have e : minG q m (x :: t0.drop i) = minG q (if q x m < 0 then x else m) (t0.drop i) := rfl
          rw [e, if_pos hq] at h
          exact h
      · have hdq : decide (q x m < 0) = false := decide_eq_false hq
        go_wp2_with fail
        go_still_tail 6, (by kernel_rfl)
        change wpList _ _ _ _ _ wr.drew
        go_wp2_with (go_at_fn cl; refine hcall.mono ?_; rintro e w' ⟨rfl, hb'⟩)
        go_roundg k1
        case measure => omega
        case rel =>
          refine ⟨i + 1, m, by first | rfl | (simp; done) | go_num, ⟨by omega, by have := HI.out.2; omega⟩, ⟨below_then (below_drew HB.out) (Nat.le_trans (Nat.le_of_eq HB4.out) (below_drew HB.out).size) hb'⟩, ⟨(hb'.block _ (blk_lt HX4.out)).trans HX4.out⟩, ⟨(hb'.block _ (blk_lt HX5.out)).trans HX5.out⟩, ⟨?_⟩⟩
          have h := HM.out
          rw [HX.out] at h
          have e : minG q m (x :: t0.drop i) = minG q (if q x m < 0 then x else m) (t0.drop i) := rfl
          rw [e, if_neg (by omega)] at h
          exact h
    · have hd : decide ((i : Int) < (n : Int)) = false := decide_eq_false (by omega)
      have hres : m = minG q x0 t0 := by
        have h := HM.out
        rw [List.drop_eq_nil_of_le (by have := HN.out; simp at this; omega)] at h
        exact h
      have HRES := Aside0.mk hres
      have y0 : wr.cell? ⟨b4 + 1, 0, none⟩ = some (.int .i64 m.f0) := (blk_cell HX5.out 0).trans rfl
      have y1 : wr.cell? ⟨b4 + 1, 1, none⟩ = some (.int .i64 m.f1) := (blk_cell HX5.out 1).trans rfl
      have hx4 := HX4.out
      clear hres
      have hst := setRow_heap wr b4 #[.int .i64 0, .int .i64 0] #[.int .i64 m.f0, .int .i64 m.f1] 40 (0, 0) hx4
      have q0 : (wr.setRow b4 #[.int .i64 m.f0, .int .i64 m.f1]).cell? ⟨b4, 0, none⟩ = some (.int .i64 m.f0) := (blk_cell hst 0).trans rfl
      have q1 : (wr.setRow b4 #[.int .i64 m.f0, .int .i64 m.f1]).cell? ⟨b4, 1, none⟩ = some (.int .i64 m.f1) := (blk_cell hst 1).trans rfl
      have hbe : Below b4 w (wr.setRow b4 #[.int .i64 m.f0, .int .i64 m.f1]) := setRow_below HB.out (Nat.le_refl _) _
      have HBE := Aside0.mk hbe
      have HST := Aside0.mk hst
      clear hbe hst
      go_wp2_with (refine wpList_store_row (P := Try.prog) rfl 40 (.tmp 4) (.tmp 32) rfl b4 #[.int .i64 m.f0, .int .i64 m.f1] rfl rfl 40 #[.int .i64 0, .int .i64 0] hx4 (by kernel_rfl) rfl (by simp [Value.oneCell']) ?_)
      (try simp only [Exit.inBlock, Exit.then])
      trace_state
      refine bodyPost_ret (results_cell_row rfl _ _ b4 40 #[.int .i64 m.f0, .int .i64 m.f1] (0, 0) _ rfl HST.out Try.underlying40 rfl (by kernel_rfl)) rfl ?_
      refine ⟨?_, by rw [← HB4.out]; exact HBE.out⟩
      rw [← HRES.out]
end Go.Proofs.Ytkkfkdncddbaeaa.Fn
namespace Go.Proofs.Ytkkfkdncddbaeaa.Fn
open Go.RowKit Go.Proofs.YtkkfkdncddbaeaaW.PrintWords Go.Proofs.YtkkfkdncddbaeaaW.PrintLast Go.Proofs.YtkkfkdncddbaeaaW.PrintMore
attribute [local go_sem] max2_int min2_int max_two min_two max_three min_three max_four min_four
set_option linter.unusedVariables false
set_option linter.unusedSimpArgs false
section
variable {P : Program}
theorem run_storeVar_at (w : World) (g o : Nat) (t ty : TypeId) (cur cells : Array Value) (hg : w.heap[g]? = some (.cells cur t (0, 0))) (hi : (P.info? ty).map (·.size) = some cells.size)
    (hf : o + cells.size ≤ cur.size) (h1 : ∀ v ∈ cells.toList, v.oneCell' = true) :
    (storeVar ty ⟨g, o, none⟩ (.agg cells)).run P w = .ok () (w.setRow g (cur.toList.take o ++ cells.toList ++ cur.toList.drop (o + cells.toList.length)).toArray) := by
  have hst := run_storeCells_at P g o t cells.toList 0 cur w hg (by simpa using hf) h1
  simp only [Nat.add_zero] at hst
  cases hq : P.info? ty with
  | none => simp [hq] at hi
  | some i =>
    have hs : cells.size = i.size := by simp [hq] at hi; omega
    simp [storeVar, sizeOf, typeInfo, hq, Value.cells, hs, hst]
theorem wpList_store_at {ops : Array Oper} {rest : List Oper} {o : Oper} {a : Act} {w : World} {Q : Exit → Act → World → Prop} (hgd : o.guard = none) (ty : TypeId) (x y : Operand) (ho : o.op = .store ty x y)
    (A : Addr) (g k : Nat) (hA : A = ⟨g, k, none⟩) (cells : Array Value) (hx : a.eval x = .pointer (some A)) (hy : a.eval y = .agg cells)
    (t : TypeId) (cur : Array Value) (hg : w.heap[g]? = some (.cells cur t (0, 0))) (hi : (P.info? ty).map (·.size) = some cells.size)
    (hf : k + cells.size ≤ cur.size) (h1 : ∀ v ∈ cells.toList, v.oneCell' = true)
    (h : wpList P ops Q rest (a.put o.dst undef) (w.setRow g (cur.toList.take k ++ cells.toList ++ cur.toList.drop (k + cells.toList.length)).toArray)) : wpList P ops Q (o :: rest) a w := by
  subst hA
  refine wpList_plain hgd fun K hK => ?_
  unfold Oper.wp execOp
  simp only [ho, hx, hy, Instr.storeAt, Instr.sureAddr, Sem.run_bind, Sem.run_pure, Result.andThen_ok, run_storeVar_at w g k t ty cur cells hg hi hf h1]
  exact hK _ _ h
end
set_option maxHeartbeats 4000000 in
set_option maxRecDepth 100000 in
theorem del_span (cl : Nat) (lb : Array Value) (p : S40 → Bool) (eg : ∀ args w, (callFunc cl args).run Try.prog w = .ok (.enter cl args) w)
    (w0 w : World) (base : Nat) (ok : Nat → Prop) (xs : List S40) (v : Value) (hR : Kd.R k40 40 w base ok v xs) (hB : Below base w0 w) (hbw : base ≤ w.heap.size) (hn : xs.length ≤ 4096)
    (hp : ∀ (W : World) (x : S40), Below base w0 W → Calls Try.prog cl (#[.agg #[.int .i64 x.f0, .int .i64 x.f1]] ++ lb) W fun e w' => e = .returned (.bool (p x)) ∧ Below W.heap.size W w') :
    Calls Try.prog 100 #[v, .func (.func cl) #[] lb] w fun e w' => ∃ v', e = .returned v' ∧ Kd.R k40 40 w' base ok v' (xs.filter fun x => !p x) ∧ Below base w0 w' := by
  have hu40 := Try.underlying40
  obtain ⟨A0, c0, rfl⟩ := Kd.R_slice hR
  obtain ⟨h1, h2, hC⟩ := Kd.R_reads' hR
  have hidx := idx_span cl lb p eg A0 c0 xs w hC (fun W x hW => (hp W x (below_then hB hbw hW)).mono fun e w' ⟨h1, h2⟩ => ⟨h1, below_then hW hW.size h2⟩)
  have HR := Aside0.mk hR
  have HB := Aside0.mk (And.intro hB hbw)
  have HP := Aside0.mk hp
  obtain ⟨n, hnn⟩ : ∃ n, n = xs.length := ⟨_, rfl⟩
  rw [← hnn] at hn hidx HR
  rw [← hnn]
  have HNN := Aside0.mk hnn
  clear hR hB hbw hp hC h1 h2 hnn
  by_cases hm : idxF p xs = -1
  · have hq : xs.filter (fun x => !p x) = xs := by
      refine List.filter_eq_self.2 fun x hx => ?_
      have : xs.findIdx? p = none := by
        unfold idxF at hm
        split at hm
        · rename_i i hi; omega
        · rename_i hi; exact hi
      have := List.findIdx?_eq_none_iff.1 this x hx
      simp [this]
    have HQ := Aside0.mk hq
    have hmi : idxF p xs = -1 := hm
    rw [hmi] at hidx
    have HI := Aside0.mk hidx
    clear hq hm hmi hidx
    go_enter Try.func100, Try.ntmps100
    go_wp2_with fail
    refine HI.out.mono ?_
    rintro e w1 ⟨rfl, hb⟩
    have HB1 := Aside0.mk hb
    clear hb
    go_wp2_with fail
    go_ret
    exact ⟨_, rfl, by rw [HQ.out]; exact Kd.R_below HR.out HB1.out, below_then HB.out.1 HB.out.2 HB1.out⟩
  · obtain ⟨k, hk, hki⟩ : ∃ k : Nat, xs.findIdx? p = some k ∧ idxF p xs = (k : Int) := by
      unfold idxF at hm ⊢
      cases hq : xs.findIdx? p with
      | none => rw [hq] at hm; exact absurd rfl hm
      | some k => exact ⟨k, rfl, rfl⟩
    obtain ⟨hkn, hkp, hka⟩ := List.findIdx?_eq_some_iff_getElem.1 hk
    rw [hki] at hidx
    have HI := Aside0.mk hidx
    have hne : xs ≠ [] := by intro h; rw [h] at hkn; simp at hkn
    have hR2 := HR.out
    rw [HNN.out] at hR2
    obtain ⟨g, c, cur, hv, hL, hbg, hok⟩ := rowL_of hR2 hne
    injection hv with hv1 hv2 hv3
    subst hv1 hv3
    have hf0 : (xs.take (k + 1)).filter (fun x => !p x) = xs.take k := by
      rw [List.take_succ_eq_append_getElem hkn, List.filter_append]
      have e1 : (xs.take k).filter (fun x => !p x) = xs.take k := List.filter_eq_self.2 fun x hx => by
        obtain ⟨j, hj, rfl⟩ := List.mem_iff_getElem.1 hx
        rw [List.length_take] at hj
        have := hka j (by omega)
        rw [List.getElem_take]
        simpa using this
      have e2 : [xs[k]].filter (fun x => !p x) = [] := by simp [hkp]
      rw [e1, e2, List.append_nil]
    have hkn' : k < n := by rw [HNN.out]; exact hkn
    have HL := Aside0.mk hL
    have HK := Aside0.mk (And.intro hbg (And.intro hok hf0))
    have hnc : n ≤ c0 := by have := hL.2.2.1; rw [HNN.out]; exact this
    have hcm : c0 ≤ 9223372036854775807 := by have := hL.2.2.2.1; unfold maxLen at this; omega
    have hw1 : IntKind.i64.wrap ((k : Int) + 1) = (k : Int) + 1 := IntWalk.i64_in _ (by omega)
    have hw2 : ((k : Int) == -1) = false := by first | (simp; done) | (simp; omega)
    have hw3 : ¬ ((k : Int) = -1) := by omega
    clear hk hki hkp hka hidx hne hR2 hL hbg hok hf0 hm hkn
    go_enter Try.func100, Try.ntmps100
    go_wp2_with fail
    refine HI.out.mono ?_
    rintro e w1 ⟨rfl, hb⟩
    have HB1 := Aside0.mk (below_then HB.out.1 HB.out.2 hb)
    have HL1 := Aside0.mk (HL.out.same (hb.block _ (blk_lt HL.out.1)))
    clear hb
    go_wp2_with fail
    go_loopg [5, 6] (n - (k + 1)) (fun gk v5 v6 W => ∃ (i j : Nat) (cu : Array Value) (ys : List S40), v5 = .int .i64 i ∧ v6 = .int .i64 j ∧ Aside0 (i < j ∧ j + gk = n) ∧ Aside0 (Below base w0 W) ∧ Aside0 (LieL encSpan 2 40 W g c0 cu ys) ∧ Aside0 (ys.length = n ∧ ys.take i = (xs.take j).filter (fun x => !p x) ∧ ys.drop j = xs.drop j))
    case atStart => exact ⟨k, k + 1, cur, xs, rfl, rfl, ⟨by omega, by omega⟩, ⟨HB1.out⟩, ⟨HL1.out⟩, ⟨HNN.out.symm, HK.out.2.2.symm, rfl⟩⟩
    case round =>
      obtain ⟨i, j, cu, ys, rfl, rfl, HIJ, HBW, HLW, HY⟩ := hrel
      by_cases hlt : j < n
      · have hd : decide ((j : Int) < (n : Int)) = true := decide_eq_true (by omega)
        obtain ⟨k1, rfl⟩ : ∃ k, gk = k + 1 := ⟨gk - 1, by have := HIJ.out.2; omega⟩
        have hC : Kd.C k40 wr (some ⟨g, 0, none⟩) ys.length ys := (Kd.R_reads' (HLW.out.R (base := base) (ok := ok) HK.out.1 HK.out.2.1)).2.2
        have hp0 : (0 : Int) ≤ (j : Int) := by omega
        have hp1 : (j : Int) < (n : Int) := by omega
        have hi0 : (0 : Int) ≤ (i : Int) := by omega
        have hi1 : (i : Int) < (n : Int) := by have := HIJ.out.1; omega
        obtain ⟨ad', e3, g0, g1⟩ := at_T40 hC (j : Int) hp0 (by rw [HY.out.1]; exact hp1)
        cases e3
        obtain ⟨x, hx⟩ : ∃ x, x = rd_T40 ys (j : Int) := ⟨_, rfl⟩
        rw [← hx] at g0 g1
        rw [Int.toNat_natCast, add_at, Nat.zero_add] at g0 g1
        have g0' : wr.cell? ⟨g, j * 2, none⟩ = some (.int .i64 x.f0) := g0
        have g1' : wr.cell? ⟨g, j * 2 + 1, none⟩ = some (.int .i64 x.f1) := g1
        clear g0 g1
        have hjx : j < xs.length := by rw [← HNN.out]; exact hlt
        have hjy : j < ys.length := by rw [HY.out.1]; exact hlt
        have hxx : x = xs[j] := by
          have h1 : ys[j] = xs[j] := by
            have h2 := HY.out.2.2
            rw [← List.getElem_cons_drop hjy, ← List.getElem_cons_drop hjx] at h2
            exact (List.cons.inj h2).1
          rw [hx, rd40_get ys (j : Int) hp0 (by omega)]
          simpa using h1
        have htk : (xs.take (j + 1)).filter (fun x => !p x) = ys.take i ++ [x].filter (fun x => !p x) := by
          rw [List.take_succ_eq_append_getElem hjx, List.filter_append, ← HY.out.2.1, ← hxx]
        have hdj : ys.drop (j + 1) = xs.drop (j + 1) := by
          have h2 := HY.out.2.2
          rw [← List.getElem_cons_drop hjy, ← List.getElem_cons_drop hjx] at h2
          exact (List.cons.inj h2).2
        have HT := Aside0.mk (And.intro htk hdj)
        have hba : Below wr.heap.size wr (wr.alloc (.cells #[.int .i64 x.f0, .int .i64 x.f1] 40)) := (Below.refl _ _).alloc (Nat.le_refl _) _
        have HBA := Aside0.mk (below_then HBW.out (Nat.le_trans HK.out.1 (Nat.le_of_lt (blk_lt HLW.out.1))) hba)
        have HBAS := Aside0.mk (show base ≤ (wr.alloc (.cells #[.int .i64 x.f0, .int .i64 x.f1] 40)).heap.size by rw [alloc_sz]; have h1 := HK.out.1; have h2 := blk_lt HLW.out.1; omega)
        have HLA := Aside0.mk (HLW.out.same (hba.block _ (blk_lt HLW.out.1)))
        have hbx : (wr.alloc (.cells #[.int .i64 x.f0, .int .i64 x.f1] 40)).heap[wr.heap.size]? = some (.cells #[.int .i64 x.f0, .int .i64 x.f1] 40 (0, 0)) := alloc_new _ _
        have HGB := Aside0.mk (show g < wr.heap.size from blk_lt HLW.out.1)
        have HBX := Aside0.mk hbx
        have HFIT := Aside0.mk (show i * 2 + 2 ≤ cu.size by have h1 := HLW.out.2.1; have h2 := HIJ.out.1; rw [h1]; omega)
        have hcall := HP.out _ x HBA.out
        clear hx hxx htk hdj hjx hjy hba hbx hC
        cases hq : p x with
        | true =>
          rw [hq] at hcall
          have HQ := Aside0.mk hq
          go_wp2_with (go_at_fn cl; refine hcall.mono ?_; rintro e w' ⟨rfl, hb'⟩)
          go_roundg k1
          case measure => omega
          case rel =>
            refine ⟨i, j + 1, cu, ys, rfl, by first | rfl | (simp; done) | go_num, ⟨by have := HIJ.out.1; omega, by have := HIJ.out.2; omega⟩, ⟨below_then HBA.out HBAS.out hb'⟩, ⟨HLA.out.same (hb'.block _ (blk_lt HLA.out.1))⟩, ⟨HY.out.1, ?_, HT.out.2⟩⟩
            rw [HT.out.1]; simp [HQ.out]
        | false =>
          rw [hq] at hcall
          have HQ := Aside0.mk hq
          go_wp2_with (first
            | (refine wpList_store_at (P := Try.prog) rfl 40 (.tmp 33) (.tmp 32) rfl _ g (i * 2) rfl #[.int .i64 x.f0, .int .i64 x.f1] rfl rfl 40 cu hlw (by kernel_rfl) hfit (by simp [Value.oneCell']) ?_)
            | (go_at_fn cl; refine hcall.mono ?_; rintro e w' ⟨rfl, hb'⟩; have hlw := (hb'.block _ (blk_lt HLA.out.1)).trans HLA.out.1; have hfit := HFIT.out; have z0 : w'.cell? ⟨wr.heap.size, 0, none⟩ = some (.int .i64 x.f0) := (blk_cell ((hb'.block _ (blk_lt HBX.out)).trans HBX.out) 0).trans rfl; have z1 : w'.cell? ⟨wr.heap.size, 1, none⟩ = some (.int .i64 x.f1) := (blk_cell ((hb'.block _ (blk_lt HBX.out)).trans HBX.out) 1).trans rfl))
          go_roundg k1
          case measure => omega
          case rel =>
            have hput := (HLA.out.same (w1 := w') (hb'.block _ (blk_lt HLA.out.1))).put_mid spanLen (ys := [x]) (i := i) (by rw [HY.out.1]; simp; omega)
            have hrow : (cu.toList.take (i * 2) ++ [x].flatMap encSpan ++ cu.toList.drop (i * 2 + ([x].flatMap encSpan).length)).toArray = (cu.toList.take (i * 2) ++ .int .i64 x.f0 :: .int .i64 x.f1 :: cu.toList.drop (i * 2 + 2)).toArray := by rw [List.append_assoc]; rfl
            rw [hrow] at hput
            refine ⟨i + 1, j + 1, _, ys.take i ++ [x] ++ ys.drop (i + [x].length), by first | rfl | (simp; done) | go_num, by first | rfl | (simp; done) | go_num, ⟨by have := HIJ.out.1; omega, by have := HIJ.out.2; omega⟩, ⟨setRow_below (below_then HBA.out HBAS.out hb') HK.out.1 _⟩, ⟨hput⟩, ⟨?_, ?_, ?_⟩⟩
            · have h1 := HY.out.1
              have h2 := HIJ.out.1
              simp; omega
            · have hl : (ys.take i).length = i := by rw [List.length_take, HY.out.1]; omega
              rw [take_app_len _ _ _ (by rw [List.length_append, hl]; rfl), HT.out.1]
              simp [HQ.out]
            · have hl : (ys.take i).length = i := by rw [List.length_take, HY.out.1]; omega
              have h2 := HIJ.out.1
              rw [List.drop_append, List.drop_of_length_le (by rw [List.length_append, hl]; simp; omega), List.nil_append, List.drop_drop, ← HT.out.2, List.length_append, hl]
              congr 1
              simp; omega
      · have hd : decide ((j : Int) < (n : Int)) = false := decide_eq_false (by omega)
        have hjn : j = n := by have := HIJ.out.2; omega
        have hi0 : (0 : Int) ≤ (i : Int) := by omega
        have hi1 : (i : Int) ≤ (n : Int) := by have := HIJ.out.1; omega
        have hin : i < n := by have := HIJ.out.1; omega
        have hb7 : ¬ (c0 = i) := by omega
        have hi2 : (i : Int) ≤ (c0 : Int) := by omega
        have hres : ys.take i = xs.filter (fun x => !p x) := by
          rw [HY.out.2.1, hjn, List.take_of_length_le (by rw [← HNN.out]; exact Nat.le_refl _)]
        obtain ⟨zs, hzl, hclr⟩ := run_clear_k (P := Try.prog) wr 54 40 0 (.agg #[.int .i64 0, .int .i64 0]) Try.underlying54 Try.zeroValue40 g (i * 2) (n - i) (c0 - i) cu 40 HLW.out.1 (by rw [HLW.out.2.1]; show i * 2 + (n - i) * 2 ≤ c0 * 2; omega) (by intro u hu; simp [Value.cells] at hu; rw [hu]; rfl) (by omega)
        obtain ⟨cur3, hcur3⟩ : ∃ R : Array Value, R = (cu.toList.take (i * 2) ++ zs ++ cu.toList.drop (i * 2 + zs.length)).toArray := ⟨_, rfl⟩
        rw [← hcur3] at hclr
        have hc2l : (cu.toList.take (i * 2)).length = i * 2 := by
          rw [List.length_take, (show cu.toList.length = cu.size from Array.length_toList), HLW.out.2.1]
          omega
        have hzl2 : zs.length = (n - i) * 2 := hzl
        have hli : (ys.take i).length = i := by rw [List.length_take, HY.out.1]; omega
        have hL5 := (HLW.out.cut spanLen i (by rw [HY.out.1]; omega)).behind (cur' := cur3) (i * 2) (by rw [hli]; exact Nat.le_refl _) (by rw [hcur3, List.size_toArray, List.length_append, List.length_append, hc2l, List.length_drop, (show cu.toList.length = cu.size from Array.length_toList), HLW.out.2.1, hzl2]; omega) (by rw [hcur3, List.append_assoc]; exact take_app_len _ _ _ hc2l)
        have hr := hL5.R (base := base) (ok := ok) HK.out.1 HK.out.2.1
        rw [hli, hres] at hr
        have HRES := Aside0.mk (And.intro hr (setRow_below HBW.out HK.out.1 cur3))
        clear hcur3 hc2l hzl hzl2 hli hL5 hr hres hjn
        go_wp2_with (at_builtin; refine wpList_clear_run _ rfl _ 54 rfl _ rfl hclr ?_)
        go_ret
        exact ⟨_, rfl, HRES.out.1, HRES.out.2⟩
end Go.Proofs.Ytkkfkdncddbaeaa.Fn
namespace Go.Proofs.Ytkkfkdncddbaeaa.Fn
open Go.RowKit Go.Proofs.YtkkfkdncddbaeaaW.PrintWords Go.Proofs.YtkkfkdncddbaeaaW.PrintLast Go.Proofs.YtkkfkdncddbaeaaW.PrintMore
attribute [local go_sem] max2_int min2_int max_two min_two max_three min_three max_four min_four
set_option linter.unusedVariables false
set_option linter.unusedSimpArgs false
def fitG (l : List S40) (n line : Int) : List S40 := l.filter fun x => !(decide (roomG line x < n))
def bestG (l : List S40) (n line : Int) : Option S40 := match fitG l n line with
  | [] => none
  | x :: t => some (minG (fun a b => cmpI (roomH line a) (roomH line b)) x t)
def bestR (l : List S40) (n line : Int) : Int × Int := match bestG l n line with
  | none => (0, 51)
  | some y => (y.f0, 0)
def free_Best.f (a0_0 : Int) (l0_1 : List (S40)) (a1 : Int) (a2 : Int) : Option (Int × Int) := some (if Flag.checkF a0_0 (l0_1.map toP) = 0 then (if a1 < 1 ∨ a2 < 0 then (0, 4) else bestR l0_1 a1 a2) else (0, 9))
set_option maxHeartbeats 4000000 in
set_option maxRecDepth 100000 in
theorem free_Best.calls (a0_0 : Int) (A0_1 : Option Addr) (c0_1 : Nat) (l0_1 : List (S40)) (a1 : Int) (a2 : Int) (r1 : Int) (r2 : Int) (w : World) (hr0_1 : Kd.C k40 w A0_1 l0_1.length l0_1) (hc0_1 : l0_1.length ≤ c0_1) (h : free_Best.f a0_0 l0_1 a1 a2 = some (r1, r2)) :
    Calls Try.prog 42 #[.agg #[.int .i64 a0_0, .slice A0_1 l0_1.length c0_1], .int .i64 a1, .int .i64 a2] w fun e w' => e = .returned (.tuple #[.int .i64 r1, .int .i64 r2]) ∧ Below w.heap.size w w' := by
  have hu40 := Try.underlying40
  have hu58 := Try.underlying58
  have hmf : ∀ (fn : Fn) (first cap : Array Value) (w : World), (Instr.makeFunc fn first cap).run Try.prog w = .ok (.func fn first cap) w := fun _ _ _ _ => rfl
  have hfd : ∀ (a b : Int) (w : World), (Instr.field 40 (.agg #[.int .i64 a, .int .i64 b]) 0).run Try.prog w = .ok (.int .i64 a) w := fun _ _ _ => by kernel_rfl
  obtain ⟨kc, hkc⟩ := check6 a0_0 l0_1
  have h := Option.some.inj h
  have HR := Aside0.mk (And.intro hr0_1 hc0_1)
  obtain ⟨W0, hW0⟩ : ∃ W, W = ((w.alloc (.cells #[.int .i64 a0_0, .slice A0_1 l0_1.length c0_1] 58)).alloc (.cells #[.int .i64 a1] 3)).alloc (.cells #[.int .i64 a2] 3) := ⟨_, rfl⟩
  have hb0 : Below w.heap.size w W0 := by
    rw [hW0]
    exact (((Below.refl w.heap.size w).alloc (Nat.le_refl _) _).alloc (by rw [alloc_sz]; omega) _).alloc (by rw [alloc_sz, alloc_sz]; omega) _
  have hS : W0.heap[w.heap.size]? = some (.cells #[.int .i64 a0_0, .slice A0_1 l0_1.length c0_1] 58 (0, 0)) := by
    rw [hW0, Below.heap_alloc _ _ _ (by rw [alloc_sz, alloc_sz]; omega), Below.heap_alloc _ _ _ (by rw [alloc_sz]; omega)]
    exact alloc_new _ _
  have hN : W0.heap[w.heap.size + 1]? = some (.cells #[.int .i64 a1] 3 (0, 0)) := by
    rw [hW0, Below.heap_alloc _ _ _ (by rw [alloc_sz, alloc_sz]; omega)]
    have := alloc_new (w.alloc (.cells #[.int .i64 a0_0, .slice A0_1 l0_1.length c0_1] 58)) (.cells #[.int .i64 a1] 3)
    rw [alloc_sz] at this
    exact this
  have hLn : W0.heap[w.heap.size + 1 + 1]? = some (.cells #[.int .i64 a2] 3 (0, 0)) := by
    rw [hW0]
    have := alloc_new ((w.alloc (.cells #[.int .i64 a0_0, .slice A0_1 l0_1.length c0_1] 58)).alloc (.cells #[.int .i64 a1] 3)) (.cells #[.int .i64 a2] 3)
    rw [alloc_sz, alloc_sz] at this
    exact this
  have HW0 := Aside0.mk hW0
  have HB0 := Aside0.mk hb0
  have HS := Aside0.mk hS
  have HN := Aside0.mk hN
  have HLn := Aside0.mk hLn
  have HH := Aside0.mk h
  have hchk := fun W hC => free_Check.calls kc a0_0 A0_1 c0_1 l0_1 _ W hC hc0_1 hkc
  have HCHK := Aside0.mk (hchk W0 (Kd.C_below hr0_1 hb0))
  clear hchk hkc hr0_1 hc0_1 hW0 hb0 hS hN hLn h
  rcases Flag.checkF_or a0_0 (l0_1.map toP) with hck | hck
  · have hlen : l0_1.length ≤ 1024 := by have := (Flag.checkF_ok.1 hck).len; simpa using this
    have HLEN := Aside0.mk hlen
    have hck2 := HCHK.out
    rw [hck] at hck2
    have hh := HH.out
    rw [if_pos hck] at hh
    have HC := Aside0.mk hck2
    have HH2 := Aside0.mk hh
    clear hck hck2 hh hlen HCHK HH
    go_enter Try.func42, Try.ntmps42
    go_wp2_with fail
    rw [← HW0.out]
    refine HC.out.mono ?_
    rintro e w1 ⟨rfl, hb⟩
    have HB1 := Aside0.mk (below_step HB0.out hb)
    have HN1 := Aside0.mk ((hb.block _ (blk_lt HN.out)).trans HN.out)
    have HL1 := Aside0.mk ((hb.block _ (blk_lt HLn.out)).trans HLn.out)
    have HS1 := Aside0.mk ((hb.block _ (blk_lt HS.out)).trans HS.out)
    have n0 : w1.cell? ⟨w.heap.size + 1, 0, none⟩ = some (.int .i64 a1) := (blk_cell HN1.out 0).trans rfl
    have n1 : w1.cell? ⟨w.heap.size + 1 + 1, 0, none⟩ = some (.int .i64 a2) := (blk_cell HL1.out 0).trans rfl
    have n2 : w1.cell? ⟨w.heap.size, 1, none⟩ = some (.slice A0_1 l0_1.length c0_1) := (blk_cell HS1.out 1).trans rfl
    clear hb
    by_cases hc1 : a1 < 1
    · have hd1 : decide (a1 < 1) = true := decide_eq_true hc1
      have hh := HH2.out
      rw [if_pos (Or.inl hc1)] at hh
      have h1 : (0 : Int) = r1 := congrArg Prod.fst hh
      have h2 : (4 : Int) = r2 := congrArg Prod.snd hh
      subst h1 h2
      clear hh
      go_wp2_with fail
      go_ret2
      exact ⟨rfl, HB1.out⟩
    · have hd1 : decide (a1 < 1) = false := decide_eq_false hc1
      by_cases hc2 : a2 < 0
      · have hd2 : decide (a2 < 0) = true := decide_eq_true hc2
        have hh := HH2.out
        rw [if_pos (Or.inr hc2)] at hh
        have h1 : (0 : Int) = r1 := congrArg Prod.fst hh
        have h2 : (4 : Int) = r2 := congrArg Prod.snd hh
        subst h1 h2
        clear hh
        go_wp2_with fail
        go_ret2
        exact ⟨rfl, HB1.out⟩
      · have hd2 : decide (a2 < 0) = false := decide_eq_false hc2
        have hh := HH2.out
        rw [if_neg (by omega)] at hh
        have HH3 := Aside0.mk hh
        clear hh HH2
        have hcl := api_Span_101.calls A0_1 c0_1 l0_1 l0_1 w1 (Kd.C_below HR.out.1 HB1.out) HR.out.2 (by unfold api_Span_101.f; rw [if_pos (by have := HLEN.out; omega)])
        have HCL := Aside0.mk hcl
        clear hcl hc1 hc2
        go_wp2_with fail
        refine HCL.out.mono ?_
        rintro e w2 ⟨s, rfl, hr2, hb2⟩
        have hdel := del_span 102 #[.pointer (some ⟨w.heap.size + 1 + 1, 0, none⟩), .pointer (some ⟨w.heap.size + 1, 0, none⟩)] (fun x => decide (roomG a2 x < a1)) (enters_of Try.func102 (by kernel_rfl) rfl) w1 w2 w1.heap.size (fun _ => True) l0_1 s hr2 hb2 hb2.size (by have := HLEN.out; omega) (fun W x hW => best_del x _ _ a2 a1 W ((hW.block _ (blk_lt HL1.out)).trans HL1.out) ((hW.block _ (blk_lt HN1.out)).trans HN1.out))
        have HDEL := Aside0.mk hdel
        clear hr2 hb2 hdel
        go_wp2_with fail
        refine HDEL.out.mono ?_
        rintro e w3 ⟨v', rfl, hr3, hb3⟩
        obtain ⟨ys, hys⟩ : ∃ ys, ys = fitG l0_1 a1 a2 := ⟨_, rfl⟩
        have hr3' : Kd.R k40 40 w3 w1.heap.size (fun _ => True) v' ys := by rw [hys]; exact hr3
        obtain ⟨A3, c3, rfl⟩ := Kd.R_slice hr3'
        have HC3 := Aside0.mk (Kd.R_reads' hr3').2.2
        have HB3 := Aside0.mk (below_step HB1.out hb3)
        have HBB := Aside0.mk hb3
        have hHH := HH3.out
        unfold bestR bestG at hHH
        rw [← hys] at hHH
        have hl1024 : ys.length ≤ 1024 := by
          rw [hys]; unfold fitG
          have h1 := List.length_filter_le (fun x => !(decide (roomG a2 x < a1))) l0_1
          have h2 := HLEN.out
          omega
        clear hr3 hr3' hb3 hys
        cases ys with
        | nil =>
          have h1 : (0 : Int) = r1 := congrArg Prod.fst hHH
          have h2 : (51 : Int) = r2 := congrArg Prod.snd hHH
          subst h1 h2
          clear hHH
          go_wp2_with fail
          go_ret2
          exact ⟨rfl, HB3.out⟩
        | cons x t =>
          have h1 : (minG (fun a b => cmpI (roomH a2 a) (roomH a2 b)) x t).f0 = r1 := congrArg Prod.fst hHH
          have h2 : (0 : Int) = r2 := congrArg Prod.snd hHH
          subst h1 h2
          obtain ⟨m, hm⟩ : ∃ m, m = (x :: t).length := ⟨_, rfl⟩
          have hm1 : 1 ≤ m := by rw [hm]; simp
          rw [← hm] at hl1024
          have hmz : ((m : Int) == 0) = false := by first | (simp; done) | (simp; omega)
          have hmz2 : ¬ ((m : Int) = 0) := by omega
          have hmin := min_span 104 #[.pointer (some ⟨w.heap.size + 1 + 1, 0, none⟩)] (fun a b => cmpI (roomH a2 a) (roomH a2 b)) (enters_of Try.func104 (by kernel_rfl) rfl) A3 c3 x t w3 HC3.out (fun W a b hW => best_cmp a b _ a2 W ((hW.block _ (Nat.lt_of_lt_of_le (blk_lt HL1.out) HBB.out.size)).trans ((HBB.out.block _ (blk_lt HL1.out)).trans HL1.out)))
          rw [← hm] at hmin
          have HMIN := Aside0.mk hmin
          rw [← hm]
          clear hHH hmin hm
          go_wp2_with fail
          refine HMIN.out.mono ?_
          rintro e w4 ⟨rfl, hb4⟩
          have HB4 := Aside0.mk (below_step HB3.out hb4)
          clear hb4
          go_wp2_with fail
          go_ret2
          exact ⟨rfl, HB4.out⟩
  · have hck2 := HCHK.out
    rw [hck] at hck2
    have hh := HH.out
    rw [if_neg (by rw [hck]; decide)] at hh
    have h1 : (0 : Int) = r1 := congrArg Prod.fst hh
    have h2 : (9 : Int) = r2 := congrArg Prod.snd hh
    subst h1 h2
    have HC := Aside0.mk hck2
    clear hck hck2 hh HCHK HH
    go_enter Try.func42, Try.ntmps42
    go_wp2_with fail
    rw [← HW0.out]
    refine HC.out.mono ?_
    rintro e w1 ⟨rfl, hb⟩
    have HB1 := Aside0.mk (below_step HB0.out hb)
    clear hb
    go_wp2_with fail
    go_ret2
    exact ⟨rfl, HB1.out⟩
end Go.Proofs.Ytkkfkdncddbaeaa.Fn
namespace Go.Proofs.Ytkkfkdncddbaeaa.Fn
open Go.RowKit Go.Proofs.YtkkfkdncddbaeaaW.PrintWords Go.Proofs.YtkkfkdncddbaeaaW.PrintLast Go.Proofs.YtkkfkdncddbaeaaW.PrintMore
attribute [local go_sem] max2_int min2_int max_two min_two max_three min_three max_four min_four
set_option linter.unusedVariables false
set_option linter.unusedSimpArgs false
def free_Take.j0 : Nat → Int → Bool → Int → List (S40) → Int → Int → Option (Int × (List (S40)) × Int)
 | 0, _, _, _, _, _, _ => none
 | k + 1, x7, x61, x102000, x102001, x103000, x103001 => if x61 = true then (some (0, ([] : List (S40)), 72)) else ((free_out.f x102001 x7 x103000 x103001).bind fun t110 => ((free_full.f x102000 t110).bind fun bt113 => (some (bt113.1, bt113.2.1, bt113.2.2))))
def free_Take.f (k : Nat) (a0_0 : Int) (l0_1 : List (S40)) (a1_0 : Int) (a1_1 : Int) : Option (Int × (List (S40)) × Int) := (free_Check.f k a0_0 l0_1).bind fun t104 => (if t104 = 0 then ((free_inside.f a1_0 a1_1 a0_0).bind fun t105 => (if t105 = true then ((free_at.f l0_1 a1_0).bind fun t106 => (if t106 = (l0_1.length : Int) then (free_Take.j0 k t106 true a0_0 l0_1 a1_0 a1_1) else (if 0 ≤ t106 then (if t106 < (l0_1.length : Int) then (if ((rd_T40 l0_1 t106).f0) > a1_0 then (free_Take.j0 k t106 true a0_0 l0_1 a1_0 a1_1) else (free_Take.j0 k t106 (decide ((wrap64 (((rd_T40 l0_1 t106).f0) + ((rd_T40 l0_1 t106).f1))) < (wrap64 (a1_0 + a1_1)))) a0_0 l0_1 a1_0 a1_1)) else (none)) else (none)))) else (some (0, ([] : List (S40)), 4)))) else (some (0, ([] : List (S40)), t104)))
theorem free_Take.mono_l : ∀ k, (∀ y0 y1 y2 y3 y4 y5, LeO (free_Take.j0 k y0 y1 y2 y3 y4 y5) (free_Take.j0 (k + 1) y0 y1 y2 y3 y4 y5))
 | 0 => fun _ _ _ _ _ _ r h => by simp [free_Take.j0] at h
 | k + 1 => by
  have ih0 := free_Take.mono_l k
  ·intro y0 y1 y2 y3 y4 y5
   unfold free_Take.j0
   repeat' first
   | (with_reducible exact ih0 _ _ _ _ _ _)
   | (with_reducible exact free_Check.mono _ _ _)
   | (with_reducible exact LeO.refl _)
   | (with_reducible exact LeO.none _)
   | (with_reducible refine LeO.ite ?_ ?_)
   | (with_reducible refine LeO.bind ?_ (fun _ => ?_))
   | exact ih0 _ _ _ _ _ _
   | exact free_Check.mono _ _ _
   | exact LeO.none _
   | refine LeO.ite ?_ ?_
   | refine LeO.bind ?_ (fun _ => ?_)
theorem free_Take.mono : ∀ a0 a1 a2 a3 k, LeO (free_Take.f k a0 a1 a2 a3) (free_Take.f (k + 1) a0 a1 a2 a3) := by
 intro a0 a1 a2 a3 k
 have ih0 := free_Take.mono_l k
 unfold free_Take.f
 repeat' first
  | (with_reducible exact ih0 _ _ _ _ _ _)
  | (with_reducible exact free_Check.mono _ _ _)
  | (with_reducible exact LeO.refl _)
  | (with_reducible exact LeO.none _)
  | (with_reducible refine LeO.ite ?_ ?_)
  | (with_reducible refine LeO.bind ?_ (fun _ => ?_))
  | exact ih0 _ _ _ _ _ _
  | exact free_Check.mono _ _ _
  | exact LeO.none _
  | refine LeO.ite ?_ ?_
  | refine LeO.bind ?_ (fun _ => ?_)
def free_Take.T7 : Bool × List (List Nat × List Nat) := (true, [([], []), ([], []), ([1], [1]), ([2], [2]), ([0, 3], [0, 3]), ([4], [4]), ([5], [5]), ([6, 5], [5, 6]), ([5], [5]), ([7, 8, 5], [5, 7, 8]), ([9, 5], [5, 9]), ([10, 5], [5, 10]), ([5], [5]), ([12, 5], [5, 12]), ([11, 13, 5], [5, 11, 13]), ([5, 14], [5, 14]), ([15, 5], [15]), ([16], [16]), ([17, 16], [16, 17]), ([16], [16]), ([18, 19, 16], [16, 18, 19]), ([20, 16], [16, 20]), ([21, 16], [16, 21]), ([16], [16]), ([23, 16], [16, 23]), ([16], [16]), ([24, 25, 16], [16, 24, 25]), ([26, 16], [16, 26]), ([27, 16], [16, 27]), ([22, 28, 16], [16, 22, 28]), ([16], [16]), ([30, 16], [16, 30]), ([16], [16]), ([32, 16], [16, 32]), ([31, 33, 16], [16, 31, 33]), ([29, 34, 16], [16, 29, 34]), ([16, 35], [16, 35])])
def free_Take.B7 : List Nat := [0, 0, 2, 6, 15, 31, 63, 127, 63, 511, 1023, 2047, 63, 4159, 16383, 32767, 65535, 131071, 262143, 131071, 1048575, 2097151, 4194303, 131071, 8519679, 131071, 58851327, 125960191, 260177919, 536870911, 131071, 1073872895, 131071, 4295098367, 16106258431, 34359738367, 68719476735]
theorem free_Take.tab7 : rtab .any (opsOf Try.f46 7) = free_Take.T7 := by kernel_rfl
theorem free_Take.bits7 : waitsOk free_Take.T7.2 free_Take.B7 = true := by kernel_rfl
def free_Take.T9 : Bool × List (List Nat × List Nat) := (true, [([], []), ([0], [0]), ([], []), ([2], [2]), ([], []), ([], []), ([3, 4, 5], [3, 4, 5]), ([1, 6, 6], [1, 6]), ([7], [7]), ([7], [7]), ([8, 7, 0, 1, 2, 3, 4, 5, 6, 7, 8, 9], [8]), ([9, 10, 0, 1, 2, 3, 4, 5, 6, 7, 8, 9, 10], [9])])
def free_Take.B9 : List Nat := [0, 1, 0, 4, 0, 0, 60, 127, 255, 255, 1023, 2047]
theorem free_Take.tab9 : rtab .any (opsOf Try.f46 9) = free_Take.T9 := by kernel_rfl
theorem free_Take.bits9 : waitsOk free_Take.T9.2 free_Take.B9 = true := by kernel_rfl
set_option maxHeartbeats 8000000 in
set_option maxRecDepth 100000 in
theorem free_Take.calls (k : Nat) (a0_0 : Int) (A0_1 : Option Addr) (c0_1 : Nat) (l0_1 : List (S40)) (a1_0 : Int) (a1_1 : Int) (r1 : Int) (r2 : List (S40)) (r3 : Int) (w : World) (hr0_1 : Kd.C k40 w A0_1 l0_1.length l0_1) (hc0_1 : l0_1.length ≤ c0_1) (h : free_Take.f k a0_0 l0_1 a1_0 a1_1 = some (r1, r2, r3)) :
 Calls Try.prog 46 #[.agg #[.int .i64 a0_0, .slice A0_1 l0_1.length c0_1], .agg #[.int .i64 a1_0, .int .i64 a1_1]] w fun e w' => ∃ v1_ : Value, e = .returned (.tuple #[.agg #[.int .i64 r1, v1_], .int .i64 r3]) ∧ Kd.R k40 40 w' w.heap.size (fun _ => True) v1_ r2 ∧ Below w.heap.size w w' := by
 have hu58 := Try.underlying58
 have hu40 := Try.underlying40
 have HR0_1 := Aside0.mk hr0_1
 have HC0_1 := Aside0.mk hc0_1
 clear hr0_1 hc0_1
 have HB := Aside0.mk (Below.refl w.heap.size w)
 have H : ((free_Check.f k a0_0 l0_1).bind fun t104 => (if t104 = 0 then ((free_inside.f a1_0 a1_1 a0_0).bind fun t105 => (if t105 = true then ((free_at.f l0_1 a1_0).bind fun t106 => (if t106 = (l0_1.length : Int) then (free_Take.j0 k t106 true a0_0 l0_1 a1_0 a1_1) else (if 0 ≤ t106 then (if t106 < (l0_1.length : Int) then (if ((rd_T40 l0_1 t106).f0) > a1_0 then (free_Take.j0 k t106 true a0_0 l0_1 a1_0 a1_1) else (free_Take.j0 k t106 (decide ((wrap64 (((rd_T40 l0_1 t106).f0) + ((rd_T40 l0_1 t106).f1))) < (wrap64 (a1_0 + a1_1)))) a0_0 l0_1 a1_0 a1_1)) else (none)) else (none)))) else (some (0, ([] : List (S40)), 4)))) else (some (0, ([] : List (S40)), t104)))) = some (r1, r2, r3) := h
 clear h
 replace H := Option.bind_eq_some_iff.mp H
 obtain ⟨t104, A30, H⟩ := H
 replace H : (if t104 = 0 then ((free_inside.f a1_0 a1_1 a0_0).bind fun t105 => (if t105 = true then ((free_at.f l0_1 a1_0).bind fun t106 => (if t106 = (l0_1.length : Int) then (free_Take.j0 k t106 true a0_0 l0_1 a1_0 a1_1) else (if 0 ≤ t106 then (if t106 < (l0_1.length : Int) then (if ((rd_T40 l0_1 t106).f0) > a1_0 then (free_Take.j0 k t106 true a0_0 l0_1 a1_0 a1_1) else (free_Take.j0 k t106 (decide ((wrap64 (((rd_T40 l0_1 t106).f0) + ((rd_T40 l0_1 t106).f1))) < (wrap64 (a1_0 + a1_1)))) a0_0 l0_1 a1_0 a1_1)) else (none)) else (none)))) else (some (0, ([] : List (S40)), 4)))) else (some (0, ([] : List (S40)), t104))) = some (r1, r2, r3) := H
 have A3 := Aside0.mk A30
 clear A30
 by_cases c4 : t104 = 0
 ·rw [if_pos c4] at H
  have c4b0 : (t104 == 0) = true := beq_iff_eq.mpr c4
  have c4b1 : (t104 != 0) = false := bne_eq_false_iff_eq.mpr c4
  clear c4
  replace H := Option.bind_eq_some_iff.mp H
  obtain ⟨t105, A50, H⟩ := H
  replace H : (if t105 = true then ((free_at.f l0_1 a1_0).bind fun t106 => (if t106 = (l0_1.length : Int) then (free_Take.j0 k t106 true a0_0 l0_1 a1_0 a1_1) else (if 0 ≤ t106 then (if t106 < (l0_1.length : Int) then (if ((rd_T40 l0_1 t106).f0) > a1_0 then (free_Take.j0 k t106 true a0_0 l0_1 a1_0 a1_1) else (free_Take.j0 k t106 (decide ((wrap64 (((rd_T40 l0_1 t106).f0) + ((rd_T40 l0_1 t106).f1))) < (wrap64 (a1_0 + a1_1)))) a0_0 l0_1 a1_0 a1_1)) else (none)) else (none)))) else (some (0, ([] : List (S40)), 4))) = some (r1, r2, r3) := H
  have A5 := Aside0.mk A50
  clear A50
  by_cases c6 : t105 = true
  ·subst c6
   have H1 : ((free_at.f l0_1 a1_0).bind fun t106 => (if t106 = (l0_1.length : Int) then (free_Take.j0 k t106 true a0_0 l0_1 a1_0 a1_1) else (if 0 ≤ t106 then (if t106 < (l0_1.length : Int) then (if ((rd_T40 l0_1 t106).f0) > a1_0 then (free_Take.j0 k t106 true a0_0 l0_1 a1_0 a1_1) else (free_Take.j0 k t106 (decide ((wrap64 (((rd_T40 l0_1 t106).f0) + ((rd_T40 l0_1 t106).f1))) < (wrap64 (a1_0 + a1_1)))) a0_0 l0_1 a1_0 a1_1)) else (none)) else (none)))) = some (r1, r2, r3) := by rw [if_pos rfl] at H; exact H
   clear H
   have H := H1
   clear H1
   replace H := Option.bind_eq_some_iff.mp H
   obtain ⟨t106, A70, H⟩ := H
   replace H : (if t106 = (l0_1.length : Int) then (free_Take.j0 k t106 true a0_0 l0_1 a1_0 a1_1) else (if 0 ≤ t106 then (if t106 < (l0_1.length : Int) then (if ((rd_T40 l0_1 t106).f0) > a1_0 then (free_Take.j0 k t106 true a0_0 l0_1 a1_0 a1_1) else (free_Take.j0 k t106 (decide ((wrap64 (((rd_T40 l0_1 t106).f0) + ((rd_T40 l0_1 t106).f1))) < (wrap64 (a1_0 + a1_1)))) a0_0 l0_1 a1_0 a1_1)) else (none)) else (none))) = some (r1, r2, r3) := H
   have A7 := Aside0.mk A70
   clear A70
   have HC8 := Aside0.mk H
   clear H
   go_enter Try.func46, Try.ntmps46
   go_upto_region 7 with (first | ((with_reducible refine gate_dst (N := 2) rfl ?_); refine box_event ?hg (N := 2) ?hd (cs := #[.int .i64 a0_0, .slice A0_1 l0_1.length c0_1]) (t := 58) ?hr ?_; (case hd => rfl); (case hg => rfl); (case hr => first | (go_simp; done) | (go_simp; rfl)); intro gb101 hg w9 hbox hb; have n0_ := Aside0.mk (below_step (by repeat (first | (with_reducible first | exact HB.out | apply below_alloc | apply pw_below_drewN | apply below_drew1) | exact HB.out)) hb); have n1_ := Aside0.mk (hbox); have n2_ := Aside0.mk ((by rw [hg]; exact (below_size (by repeat (first | (with_reducible first | exact HB.out | apply below_alloc | apply pw_below_drewN | apply below_drew1) | exact HB.out))) : w.heap.size ≤ gb101)); have n3_ := Aside0.mk ((by rw [hg]; exact (below_size (by repeat (first | (with_reducible first | exact HB.out | apply below_alloc | apply pw_below_drewN | apply below_drew1) | exact HB.out))) : w.heap.size ≤ gb101)); clear HB; have HB := n0_; have BK101 := n1_; have GW101 := n2_; have GE101 := n3_; clear n0_ n1_ n2_ n3_; clear hb hbox hg) | ((with_reducible refine gate_dst (N := 3) rfl ?_); refine box_event ?hg (N := 3) ?hd (cs := #[.int .i64 a1_0, .int .i64 a1_1]) (t := 40) ?hr ?_; (case hd => rfl); (case hg => rfl); (case hr => first | (go_simp; done) | (go_simp; rfl)); intro gb102 hg w10 hbox hb; have n0_ := Aside0.mk (blk_below (g := gb101) (o := .cells #[.int .i64 a0_0, .slice A0_1 l0_1.length c0_1] 58 (0, 0)) (by (with_reducible repeat (first | refine blk_drewN ?_ _ | refine blk_drew ?_ | refine blk_alloc ?_ _)); exact BK101.out) hb); have n1_ := Aside0.mk (below_step (by repeat (first | (with_reducible first | exact HB.out | apply below_alloc | apply pw_below_drewN | apply below_drew1 | refine below_set ?_ GE101.out) | exact HB.out)) hb); have n2_ := Aside0.mk (hbox); have n3_ := Aside0.mk ((by rw [hg]; exact (below_size (by repeat (first | (with_reducible first | exact HB.out | apply below_alloc | apply pw_below_drewN | apply below_drew1 | refine below_set ?_ GE101.out) | exact HB.out))) : w.heap.size ≤ gb102)); have n4_ := Aside0.mk ((by rw [hg]; exact (below_size (by repeat (first | (with_reducible first | exact HB.out | apply below_alloc | apply pw_below_drewN | apply below_drew1 | refine below_set ?_ GE101.out) | exact HB.out))) : w.heap.size ≤ gb102)); have n5_ := Aside0.mk ((by rw [hg]; exact Nat.ne_of_lt (blk_lt (g := gb101) (o := .cells #[.int .i64 a0_0, .slice A0_1 l0_1.length c0_1] 58 (0, 0)) (by (with_reducible repeat (first | refine blk_drewN ?_ _ | refine blk_drew ?_ | refine blk_alloc ?_ _)); exact BK101.out)) : gb101 ≠ gb102)); have n6_ := Aside0.mk ((by rw [hg]; exact Nat.ne_of_gt (blk_lt (g := gb101) (o := .cells #[.int .i64 a0_0, .slice A0_1 l0_1.length c0_1] 58 (0, 0)) (by (with_reducible repeat (first | refine blk_drewN ?_ _ | refine blk_drew ?_ | refine blk_alloc ?_ _)); exact BK101.out)) : gb102 ≠ gb101)); clear BK101; clear HB; have BK101 := n0_; have HB := n1_; have BK102 := n2_; have GW102 := n3_; have GE102 := n4_; have NB101_102 := n5_; have NB102_101 := n6_; clear n0_ n1_ n2_ n3_ n4_ n5_ n6_; clear hb hbox hg) | ((with_reducible refine gate_dst (N := 4) rfl ?_); refine box_event ?hg (N := 4) ?hd (cs := #[.int .i64 0, .slice none 0 0]) (t := 58) ?hr ?_; (case hd => rfl); (case hg => rfl); (case hr => first | (go_simp; done) | (go_simp; rfl)); intro gb103 hg w11 hbox hb; have n0_ := Aside0.mk (blk_below (g := gb101) (o := .cells #[.int .i64 a0_0, .slice A0_1 l0_1.length c0_1] 58 (0, 0)) (by (with_reducible repeat (first | refine blk_drewN ?_ _ | refine blk_drew ?_ | refine blk_alloc ?_ _)); exact BK101.out) hb); have n1_ := Aside0.mk (blk_below (g := gb102) (o := .cells #[.int .i64 a1_0, .int .i64 a1_1] 40 (0, 0)) (by (with_reducible repeat (first | refine blk_drewN ?_ _ | refine blk_drew ?_ | refine blk_alloc ?_ _)); exact BK102.out) hb); have n2_ := Aside0.mk (below_step (by repeat (first | (with_reducible first | exact HB.out | apply below_alloc | apply pw_below_drewN | apply below_drew1 | refine below_set ?_ GE101.out | refine below_set ?_ GE102.out) | exact HB.out)) hb); have n3_ := Aside0.mk (hbox); have n4_ := Aside0.mk ((by rw [hg]; exact (below_size (by repeat (first | (with_reducible first | exact HB.out | apply below_alloc | apply pw_below_drewN | apply below_drew1 | refine below_set ?_ GE101.out | refine below_set ?_ GE102.out) | exact HB.out))) : w.heap.size ≤ gb103)); have n5_ := Aside0.mk ((by rw [hg]; exact (below_size (by repeat (first | (with_reducible first | exact HB.out | apply below_alloc | apply pw_below_drewN | apply below_drew1 | refine below_set ?_ GE101.out | refine below_set ?_ GE102.out) | exact HB.out))) : w.heap.size ≤ gb103)); have n6_ := Aside0.mk ((by rw [hg]; exact Nat.ne_of_lt (blk_lt (g := gb101) (o := .cells #[.int .i64 a0_0, .slice A0_1 l0_1.length c0_1] 58 (0, 0)) (by (with_reducible repeat (first | refine blk_drewN ?_ _ | refine blk_drew ?_ | refine blk_alloc ?_ _)); exact BK101.out)) : gb101 ≠ gb103)); have n7_ := Aside0.mk ((by rw [hg]; exact Nat.ne_of_gt (blk_lt (g := gb101) (o := .cells #[.int .i64 a0_0, .slice A0_1 l0_1.length c0_1] 58 (0, 0)) (by (with_reducible repeat (first | refine blk_drewN ?_ _ | refine blk_drew ?_ | refine blk_alloc ?_ _)); exact BK101.out)) : gb103 ≠ gb101)); have n8_ := Aside0.mk ((by rw [hg]; exact Nat.ne_of_lt (blk_lt (g := gb102) (o := .cells #[.int .i64 a1_0, .int .i64 a1_1] 40 (0, 0)) (by (with_reducible repeat (first | refine blk_drewN ?_ _ | refine blk_drew ?_ | refine blk_alloc ?_ _)); exact BK102.out)) : gb102 ≠ gb103)); have n9_ := Aside0.mk ((by rw [hg]; exact Nat.ne_of_gt (blk_lt (g := gb102) (o := .cells #[.int .i64 a1_0, .int .i64 a1_1] 40 (0, 0)) (by (with_reducible repeat (first | refine blk_drewN ?_ _ | refine blk_drew ?_ | refine blk_alloc ?_ _)); exact BK102.out)) : gb103 ≠ gb102)); clear BK101; clear BK102; clear HB; have BK101 := n0_; have BK102 := n1_; have HB := n2_; have BK103 := n3_; have GW103 := n4_; have GE103 := n5_; have NB101_103 := n6_; have NB103_101 := n7_; have NB102_103 := n8_; have NB103_102 := n9_; clear n0_ n1_ n2_ n3_ n4_ n5_ n6_ n7_ n8_ n9_; clear hb hbox hg; have hnb12 := NB101_102.out; have hnc12 := NB102_101.out; have hnb13 := NB101_103.out; have hnc13 := NB103_101.out; have hcz14_0 : w11.cell? ⟨gb101, 0, none⟩ = some (.int .i64 a0_0) := (blk_cell BK101.out 0).trans rfl; have hcz14_1 : w11.cell? ⟨gb101, 1, none⟩ = some (.slice A0_1 l0_1.length c0_1) := (blk_cell BK101.out 1).trans rfl; have hfz14_0 := blk_frozen BK101.out 0; have hfz14_1 := blk_frozen BK101.out 1) | ((with_reducible refine gate_callee (f := 51) rfl ?_); refine goesL_ (some 9) rfl rfl Try.func51 (by kernel_rfl) rfl #[.agg #[.int .i64 a0_0, .slice A0_1 l0_1.length c0_1]] rfl (by (try simp only [List.map_toArray, List.map_cons, List.map_nil]); first | done | rfl | (simp only [List.length_drop, List.length_take]; rfl)) ?_; (with_reducible refine (free_Check.calls k a0_0 _ _ l0_1 t104 _ ?side1 ?side2 A3.out).mono ?_); (case side1 => repeat (first | exact (Kd.C_below HR0_1.out HB.out) | (with_reducible refine Kd.C_alloc ?_ _) | (with_reducible refine Kd.C_drewN ?_ _) | (with_reducible refine Kd.C_drew ?_))); (case side2 => exact HC0_1.out); rintro e w15 ⟨rfl, hb⟩; refine ⟨_, rfl, ?_⟩; have n0_ := Aside0.mk (blk_below (g := gb101) (o := .cells #[.int .i64 a0_0, .slice A0_1 l0_1.length c0_1] 58 (0, 0)) (by (with_reducible repeat (first | refine blk_drewN ?_ _ | refine blk_drew ?_ | refine blk_alloc ?_ _)); exact BK101.out) hb); have n1_ := Aside0.mk (blk_below (g := gb102) (o := .cells #[.int .i64 a1_0, .int .i64 a1_1] 40 (0, 0)) (by (with_reducible repeat (first | refine blk_drewN ?_ _ | refine blk_drew ?_ | refine blk_alloc ?_ _)); exact BK102.out) hb); have n2_ := Aside0.mk (blk_below (g := gb103) (o := .cells #[.int .i64 0, .slice none 0 0] 58 (0, 0)) (by (with_reducible repeat (first | refine blk_drewN ?_ _ | refine blk_drew ?_ | refine blk_alloc ?_ _)); exact BK103.out) hb); have n3_ := Aside0.mk (below_step (by repeat (first | (with_reducible first | exact HB.out | apply below_alloc | apply pw_below_drewN | apply below_drew1 | refine below_set ?_ GE101.out | refine below_set ?_ GE102.out | refine below_set ?_ GE103.out) | exact HB.out)) hb); clear BK101; clear BK102; clear BK103; clear HB; have BK101 := n0_; have BK102 := n1_; have BK103 := n2_; have HB := n3_; clear n0_ n1_ n2_ n3_; (try clear hb); (try clear hb2); (try clear hk); (try clear hi); have hnb16 := NB102_103.out; have hnc16 := NB103_102.out; have hcz17_0 : w15.cell? ⟨gb102, 0, none⟩ = some (.int .i64 a1_0) := (blk_cell BK102.out 0).trans rfl; have hcz17_1 : w15.cell? ⟨gb102, 1, none⟩ = some (.int .i64 a1_1) := (blk_cell BK102.out 1).trans rfl; have hfz17_0 := blk_frozen BK102.out 0; have hfz17_1 := blk_frozen BK102.out 1; have hcz18_0 : w15.cell? ⟨gb101, 0, none⟩ = some (.int .i64 a0_0) := (blk_cell BK101.out 0).trans rfl; have hcz18_1 : w15.cell? ⟨gb101, 1, none⟩ = some (.slice A0_1 l0_1.length c0_1) := (blk_cell BK101.out 1).trans rfl; have hfz18_0 := blk_frozen BK101.out 0; have hfz18_1 := blk_frozen BK101.out 1) | ((with_reducible refine gate_callee (f := 105) rfl ?_); refine goesL_ (some 17) rfl rfl Try.func105 (by kernel_rfl) rfl #[.agg #[.int .i64 a1_0, .int .i64 a1_1], .int .i64 a0_0] rfl (by (try simp only [List.map_toArray, List.map_cons, List.map_nil]); first | done | rfl | (simp only [List.length_drop, List.length_take]; rfl)) ?_; (with_reducible refine (free_inside.calls a1_0 a1_1 a0_0 true _ A5.out).mono ?_); rintro e w19 ⟨rfl, hb⟩; refine ⟨_, rfl, ?_⟩; have n0_ := Aside0.mk (blk_below (g := gb101) (o := .cells #[.int .i64 a0_0, .slice A0_1 l0_1.length c0_1] 58 (0, 0)) (by (with_reducible repeat (first | refine blk_drewN ?_ _ | refine blk_drew ?_ | refine blk_alloc ?_ _)); exact BK101.out) hb); have n1_ := Aside0.mk (blk_below (g := gb102) (o := .cells #[.int .i64 a1_0, .int .i64 a1_1] 40 (0, 0)) (by (with_reducible repeat (first | refine blk_drewN ?_ _ | refine blk_drew ?_ | refine blk_alloc ?_ _)); exact BK102.out) hb); have n2_ := Aside0.mk (blk_below (g := gb103) (o := .cells #[.int .i64 0, .slice none 0 0] 58 (0, 0)) (by (with_reducible repeat (first | refine blk_drewN ?_ _ | refine blk_drew ?_ | refine blk_alloc ?_ _)); exact BK103.out) hb); have n3_ := Aside0.mk (below_step (by repeat (first | (with_reducible first | exact HB.out | apply below_alloc | apply pw_below_drewN | apply below_drew1 | refine below_set ?_ GE101.out | refine below_set ?_ GE102.out | refine below_set ?_ GE103.out) | exact HB.out)) hb); clear BK101; clear BK102; clear BK103; clear HB; have BK101 := n0_; have BK102 := n1_; have BK103 := n2_; have HB := n3_; clear n0_ n1_ n2_ n3_; (try clear hb); (try clear hb2); (try clear hk); (try clear hi); have hcz20_0 : w19.cell? ⟨gb101, 0, none⟩ = some (.int .i64 a0_0) := (blk_cell BK101.out 0).trans rfl; have hcz20_1 : w19.cell? ⟨gb101, 1, none⟩ = some (.slice A0_1 l0_1.length c0_1) := (blk_cell BK101.out 1).trans rfl; have hfz20_0 := blk_frozen BK101.out 0; have hfz20_1 := blk_frozen BK101.out 1; have hcz21_0 : w19.cell? ⟨gb102, 0, none⟩ = some (.int .i64 a1_0) := (blk_cell BK102.out 0).trans rfl; have hcz21_1 : w19.cell? ⟨gb102, 1, none⟩ = some (.int .i64 a1_1) := (blk_cell BK102.out 1).trans rfl; have hfz21_0 := blk_frozen BK102.out 0; have hfz21_1 := blk_frozen BK102.out 1) | ((with_reducible refine gate_callee (f := 106) rfl ?_); refine goesL_ (some 24) rfl rfl Try.func106 (by kernel_rfl) rfl #[.slice A0_1 l0_1.length c0_1, .int .i64 a1_0] rfl (by (try simp only [List.map_toArray, List.map_cons, List.map_nil]); first | done | rfl | (simp only [List.length_drop, List.length_take]; rfl)) ?_; (with_reducible refine (free_at.calls _ _ l0_1 a1_0 t106 _ ?side1 ?side2 A7.out).mono ?_); (case side1 => repeat (first | exact (Kd.C_below HR0_1.out HB.out) | (with_reducible refine Kd.C_alloc ?_ _) | (with_reducible refine Kd.C_drewN ?_ _) | (with_reducible refine Kd.C_drew ?_))); (case side2 => exact HC0_1.out); rintro e w22 ⟨rfl, hb⟩; refine ⟨_, rfl, ?_⟩; have n0_ := Aside0.mk (blk_below (g := gb101) (o := .cells #[.int .i64 a0_0, .slice A0_1 l0_1.length c0_1] 58 (0, 0)) (by (with_reducible repeat (first | refine blk_drewN ?_ _ | refine blk_drew ?_ | refine blk_alloc ?_ _)); exact BK101.out) hb); have n1_ := Aside0.mk (blk_below (g := gb102) (o := .cells #[.int .i64 a1_0, .int .i64 a1_1] 40 (0, 0)) (by (with_reducible repeat (first | refine blk_drewN ?_ _ | refine blk_drew ?_ | refine blk_alloc ?_ _)); exact BK102.out) hb); have n2_ := Aside0.mk (blk_below (g := gb103) (o := .cells #[.int .i64 0, .slice none 0 0] 58 (0, 0)) (by (with_reducible repeat (first | refine blk_drewN ?_ _ | refine blk_drew ?_ | refine blk_alloc ?_ _)); exact BK103.out) hb); have n3_ := Aside0.mk (below_step (by repeat (first | (with_reducible first | exact HB.out | apply below_alloc | apply pw_below_drewN | apply below_drew1 | refine below_set ?_ GE101.out | refine below_set ?_ GE102.out | refine below_set ?_ GE103.out) | exact HB.out)) hb); clear BK101; clear BK102; clear BK103; clear HB; have BK101 := n0_; have BK102 := n1_; have BK103 := n2_; have HB := n3_; clear n0_ n1_ n2_ n3_; (try clear hb); (try clear hb2); (try clear hk); (try clear hi)))
   (try simp only [Act.put, List.setIfInBounds_toArray, List.set_cons_zero, List.set_cons_succ])
   go_cut [61] (fun v61 wc => ∃ (kq : Nat) (x61_7 : Bool), v61 = .bool x61_7 ∧ Aside0 (free_Take.j0 kq t106 x61_7 a0_0 l0_1 a1_0 a1_1 = some (r1, r2, r3)) ∧ Aside0 (kq ≤ k) ∧ Aside0 (wc.heap[gb101]? = some (.cells #[.int .i64 a0_0, (.slice A0_1 l0_1.length c0_1)] 58 (0, 0))) ∧ Aside0 (wc.heap[gb102]? = some (.cells #[.int .i64 a1_0, .int .i64 a1_1] 40 (0, 0))) ∧ Aside0 (wc.heap[gb103]? = some (.cells #[.int .i64 0, (.slice none 0 0)] 58 (0, 0))) ∧ Aside0 (Below w.heap.size w wc))
   case first =>
    have H := HC8.out
    clear HC8
    by_cases c23 : t106 = (l0_1.length : Int)
    ·rw [if_pos c23] at H
     have c23b0 : (t106 == (l0_1.length : Int)) = true := beq_iff_eq.mpr c23
     have c23b1 : (t106 != (l0_1.length : Int)) = false := bne_eq_false_iff_eq.mpr c23
     clear c23
     (first | rw [c23b0] | (simp only [i64_w, i32_w]; rw [c23b0]) | skip)
     have H' := Aside0.mk H
     clear H
     try go_wp2
     have n0_ := Aside0.mk (blk_drew BK101.out)
     have n1_ := Aside0.mk (blk_drew BK102.out)
     have n2_ := Aside0.mk (blk_drew BK103.out)
     have n3_ := Aside0.mk (below_drew1 HB.out)
     clear BK101
     clear BK102
     clear BK103
     clear HB
     have BK101 := n0_
     have BK102 := n1_
     have BK103 := n2_
     have HB := n3_
     clear n0_ n1_ n2_ n3_
     refine start_ (n := 37) (S := fun w' => w'.cell? ⟨gb101, 0, none⟩ = some (.int .i64 a0_0) ∧ w'.cell? ⟨gb101, 1, none⟩ = some (.slice A0_1 l0_1.length c0_1)) (ds := []) #[yF,yF,yF,yF,yF,yF,yF,yF,yF,yF,yF,yF,yF,yF,yF,yF,yF,yF,yF,yF,yF,yF,yF,yF,yF,yF,yF,yF,yF,yF,yF,yF,yF,yF,yF,yF,yF] (by kernel_rfl) rfl rfl ⟨(blk_cell BK101.out 0).trans rfl, (blk_cell BK101.out 1).trans rfl⟩ (fun hHeld => ?_); refine with_tabW free_Take.tab7 free_Take.bits7 (fun HT_ HW_ => ?_)
     generalize w22.drew = w24 at BK101 BK102 BK103 HB hHeld ⊢
     refine pu_ 0 25 37 1 ?_
     refine pu_ 1 26 37 3 ?_
     refine tk_ 2 27 37 7 ?_
     refine pu_ 3 28 37 15 ?_
     refine pu_ 4 29 37 31 ?_
     refine pu_ 5 30 37 63 ?_
     refine pn_ 6 31 37 127 ?_
     refine pn_ 7 32 37 255 ?_
     refine pn_ 8 33 37 511 ?_
     refine pn_ 9 34 37 1023 ?_
     refine pn_ 10 35 37 2047 ?_
     refine pn_ 11 36 37 4095 ?_
     refine pn_ 12 37 37 8191 ?_
     refine pn_ 13 38 37 16383 ?_
     refine pn_ 14 39 37 32767 ?_
     refine pu_ 15 40 37 65535 ?_
     refine pu_ 16 41 37 131071 ?_
     refine pn_ 17 42 37 262143 ?_
     refine pn_ 18 43 37 524287 ?_
     refine pn_ 19 44 37 1048575 ?_
     refine pn_ 20 45 37 2097151 ?_
     refine pn_ 21 46 37 4194303 ?_
     refine pn_ 22 47 37 8388607 ?_
     refine pn_ 23 48 37 16777215 ?_
     refine pn_ 24 49 37 33554431 ?_
     refine pn_ 25 50 37 67108863 ?_
     refine pn_ 26 51 37 134217727 ?_
     refine pn_ 27 52 37 268435455 ?_
     refine pn_ 28 53 37 536870911 ?_
     refine pn_ 29 54 37 1073741823 ?_
     refine pn_ 30 55 37 2147483647 ?_
     refine pn_ 31 56 37 4294967295 ?_
     refine pn_ 32 57 37 8589934591 ?_
     refine pn_ 33 58 37 17179869183 ?_
     refine pn_ 34 59 37 34359738367 ?_
     refine pn_ 35 60 37 68719476735 ?_
     refine pu_ 36 61 37 137438953471 ?_
     refine done_ (done_of HT_.out (by kernel_rfl)) ?_
     try go_wp2
     go_meet
     case rel => exact ⟨_, (true), (by first | rfl | (simp; done) | (simp [*]; done)), H', ⟨by first | omega | exact Nat.le_refl _⟩, ⟨by (with_reducible repeat (first | refine blk_drewN ?_ _ | refine blk_drew ?_ | refine blk_alloc ?_ _)); exact BK101.out⟩, ⟨by (with_reducible repeat (first | refine blk_drewN ?_ _ | refine blk_drew ?_ | refine blk_alloc ?_ _)); exact BK102.out⟩, ⟨by (with_reducible repeat (first | refine blk_drewN ?_ _ | refine blk_drew ?_ | refine blk_alloc ?_ _)); exact BK103.out⟩, ⟨by repeat (first | (with_reducible first | exact HB.out | apply below_alloc | apply pw_below_drewN | apply below_drew1 | refine below_set ?_ GE101.out | refine below_set ?_ GE102.out | refine below_set ?_ GE103.out) | exact HB.out)⟩⟩
    ·rw [if_neg c23] at H
     have c23b0 : (t106 == (l0_1.length : Int)) = false := beq_eq_false_iff_ne.mpr c23
     have c23b1 : (t106 != (l0_1.length : Int)) = true := bne_iff_ne.mpr c23
     (first | rw [c23b0] | (simp only [i64_w, i32_w]; rw [c23b0]) | skip)
     by_cases c25 : 0 ≤ t106
     ·rw [if_pos c25] at H
      have c25b0 : decide (0 ≤ t106) = true := decide_eq_true c25
      clear c25
      by_cases c26 : t106 < (l0_1.length : Int)
      ·rw [if_pos c26] at H
       have c26b0 : decide (t106 < (l0_1.length : Int)) = true := decide_eq_true c26
       clear c26
       by_cases c27 : ((rd_T40 l0_1 t106).f0) > a1_0
       ·rw [if_pos c27] at H
        have c27b0 : decide (a1_0 < ((rd_T40 l0_1 t106).f0)) = true := decide_eq_true c27
        clear c27
        have H' := Aside0.mk H
        clear H
        try go_wp2
        have n0_ := Aside0.mk (blk_drew BK101.out)
        have n1_ := Aside0.mk (blk_drew BK102.out)
        have n2_ := Aside0.mk (blk_drew BK103.out)
        have n3_ := Aside0.mk (below_drew1 HB.out)
        clear BK101
        clear BK102
        clear BK103
        clear HB
        have BK101 := n0_
        have BK102 := n1_
        have BK103 := n2_
        have HB := n3_
        clear n0_ n1_ n2_ n3_
        have p107 : 0 ≤ (t106 : Int) := of_decide_eq_true (by first | (with_reducible assumption) | assumption)
        have q107 : t106 < (l0_1.length : Int) := of_decide_eq_true (by first | (with_reducible assumption) | assumption)
        obtain ⟨ad107, e107, hx107_0, hx107_1⟩ := at_T40 HR0_1.out t106 p107 q107
        have hw107_1 := hx107_1
        have hw107_0 := hx107_0
        cases e107
        replace hx107_0 := (HB.out.cell (World.block_lt_of_cell? w _ hx107_0)).trans hx107_0
        replace hx107_1 := (HB.out.cell (World.block_lt_of_cell? w _ hx107_1)).trans hx107_1
        replace p107 := eq_true p107
        replace q107 := eq_true q107
        refine start_ (n := 37) (S := fun w' => w'.cell? ⟨gb101, 0, none⟩ = some (.int .i64 a0_0) ∧ w'.cell? ⟨gb101, 1, none⟩ = some (.slice (some ad107) l0_1.length c0_1) ∧ w'.cell? ⟨gb102, 0, none⟩ = some (.int .i64 a1_0) ∧ w'.cell? ⟨gb102, 1, none⟩ = some (.int .i64 a1_1) ∧ w'.cell? (ad107.add ((t106).toNat * 2)) = some (.int .i64 ((rd_T40 l0_1 t106).f0)) ∧ w'.cell? ⟨(ad107.add ((t106).toNat * 2)).block, (ad107.add ((t106).toNat * 2)).off + 1, none⟩ = some (.int .i64 ((rd_T40 l0_1 t106).f1))) (ds := []) #[yF,yF,yF,yF,yF,yF,yF,yF,yF,yF,yF,yF,yF,yF,yF,yF,yF,yF,yF,yF,yF,yF,yF,yF,yF,yF,yF,yF,yF,yF,yF,yF,yF,yF,yF,yF,yF] (by kernel_rfl) rfl rfl ⟨(blk_cell BK101.out 0).trans rfl, (blk_cell BK101.out 1).trans rfl, (blk_cell BK102.out 0).trans rfl, (blk_cell BK102.out 1).trans rfl, ((HB.out.cell (World.block_lt_of_cell? w _ hw107_0)).trans hw107_0), ((HB.out.cell (World.block_lt_of_cell? w _ hw107_1)).trans hw107_1)⟩ (fun hHeld => ?_); refine with_tabW free_Take.tab7 free_Take.bits7 (fun HT_ HW_ => ?_)
        generalize w22.drew = w28 at BK101 BK102 BK103 HB hx107_0 hx107_1 hHeld ⊢
        refine pu_ 0 25 37 1 ?_
        refine pu_ 1 26 37 3 ?_
        refine tk_ 2 27 37 7 ?_
        refine pu_ 3 28 37 15 ?_
        refine pu_ 4 29 37 31 ?_
        refine pu_ 5 30 37 63 ?_
        refine pu_ 6 31 37 127 ?_
        refine pu_ 8 33 37 383 ?_
        refine pu_ 12 37 37 4479 ?_
        refine tk_ 7 32 37 4607 ?_
        refine pu_ 9 34 37 5119 ?_
        refine pu_ 10 35 37 6143 ?_
        refine tk_ 11 36 37 8191 ?_
        refine tk_ 13 38 37 16383 ?_
        refine pu_ 14 39 37 32767 ?_
        refine pu_ 15 40 37 65535 ?_
        refine pu_ 16 41 37 131071 ?_
        refine pn_ 17 42 37 262143 ?_
        refine pn_ 18 43 37 524287 ?_
        refine pn_ 19 44 37 1048575 ?_
        refine pn_ 20 45 37 2097151 ?_
        refine pn_ 21 46 37 4194303 ?_
        refine pn_ 22 47 37 8388607 ?_
        refine pn_ 23 48 37 16777215 ?_
        refine pn_ 24 49 37 33554431 ?_
        refine pn_ 25 50 37 67108863 ?_
        refine pn_ 26 51 37 134217727 ?_
        refine pn_ 27 52 37 268435455 ?_
        refine pn_ 28 53 37 536870911 ?_
        refine pn_ 29 54 37 1073741823 ?_
        refine pn_ 30 55 37 2147483647 ?_
        refine pn_ 31 56 37 4294967295 ?_
        refine pn_ 32 57 37 8589934591 ?_
        refine pn_ 33 58 37 17179869183 ?_
        refine pn_ 34 59 37 34359738367 ?_
        refine pn_ 35 60 37 68719476735 ?_
        refine pu_ 36 61 37 137438953471 ?_
        refine done_ (done_of HT_.out (by kernel_rfl)) ?_
        try go_wp2
        go_meet
        case rel => exact ⟨_, (true), (by first | rfl | (simp; done) | (simp [*]; done)), H', ⟨by first | omega | exact Nat.le_refl _⟩, ⟨by (with_reducible repeat (first | refine blk_drewN ?_ _ | refine blk_drew ?_ | refine blk_alloc ?_ _)); exact BK101.out⟩, ⟨by (with_reducible repeat (first | refine blk_drewN ?_ _ | refine blk_drew ?_ | refine blk_alloc ?_ _)); exact BK102.out⟩, ⟨by (with_reducible repeat (first | refine blk_drewN ?_ _ | refine blk_drew ?_ | refine blk_alloc ?_ _)); exact BK103.out⟩, ⟨by repeat (first | (with_reducible first | exact HB.out | apply below_alloc | apply pw_below_drewN | apply below_drew1 | refine below_set ?_ GE101.out | refine below_set ?_ GE102.out | refine below_set ?_ GE103.out) | exact HB.out)⟩⟩
       ·rw [if_neg c27] at H
        have c27b0 : decide (a1_0 < ((rd_T40 l0_1 t106).f0)) = false := decide_eq_false c27
        clear c27
        have H' := Aside0.mk H
        clear H
        try go_wp2
        have n0_ := Aside0.mk (blk_drew BK101.out)
        have n1_ := Aside0.mk (blk_drew BK102.out)
        have n2_ := Aside0.mk (blk_drew BK103.out)
        have n3_ := Aside0.mk (below_drew1 HB.out)
        clear BK101
        clear BK102
        clear BK103
        clear HB
        have BK101 := n0_
        have BK102 := n1_
        have BK103 := n2_
        have HB := n3_
        clear n0_ n1_ n2_ n3_
        have p107 : 0 ≤ (t106 : Int) := of_decide_eq_true (by first | (with_reducible assumption) | assumption)
        have q107 : t106 < (l0_1.length : Int) := of_decide_eq_true (by first | (with_reducible assumption) | assumption)
        obtain ⟨ad107, e107, hx107_0, hx107_1⟩ := at_T40 HR0_1.out t106 p107 q107
        have hw107_1 := hx107_1
        have hw107_0 := hx107_0
        cases e107
        replace hx107_0 := (HB.out.cell (World.block_lt_of_cell? w _ hx107_0)).trans hx107_0
        replace hx107_1 := (HB.out.cell (World.block_lt_of_cell? w _ hx107_1)).trans hx107_1
        replace p107 := eq_true p107
        replace q107 := eq_true q107
        have p108 : 0 ≤ (t106 : Int) := of_decide_eq_true (by first | (with_reducible assumption) | assumption)
        have q108 : t106 < (l0_1.length : Int) := of_decide_eq_true (by first | (with_reducible assumption) | assumption)
        obtain ⟨ad108, e108, hx108_0, hx108_1⟩ := at_T40 HR0_1.out t106 p108 q108
        have hw108_1 := hx108_1
        have hw108_0 := hx108_0
        obtain rfl : ad107 = ad108 := (by injection e108)
        replace hx108_0 := (HB.out.cell (World.block_lt_of_cell? w _ hx108_0)).trans hx108_0
        replace hx108_1 := (HB.out.cell (World.block_lt_of_cell? w _ hx108_1)).trans hx108_1
        replace p108 := eq_true p108
        replace q108 := eq_true q108
        have p109 : 0 ≤ (t106 : Int) := of_decide_eq_true (by first | (with_reducible assumption) | assumption)
        have q109 : t106 < (l0_1.length : Int) := of_decide_eq_true (by first | (with_reducible assumption) | assumption)
        obtain ⟨ad109, e109, hx109_0, hx109_1⟩ := at_T40 HR0_1.out t106 p109 q109
        have hw109_1 := hx109_1
        have hw109_0 := hx109_0
        obtain rfl : ad107 = ad109 := (by injection e109)
        replace hx109_0 := (HB.out.cell (World.block_lt_of_cell? w _ hx109_0)).trans hx109_0
        replace hx109_1 := (HB.out.cell (World.block_lt_of_cell? w _ hx109_1)).trans hx109_1
        replace p109 := eq_true p109
        replace q109 := eq_true q109
        refine start_ (n := 37) (S := fun w' => w'.cell? ⟨gb101, 0, none⟩ = some (.int .i64 a0_0) ∧ w'.cell? ⟨gb101, 1, none⟩ = some (.slice (some ad107) l0_1.length c0_1) ∧ w'.cell? ⟨gb102, 0, none⟩ = some (.int .i64 a1_0) ∧ w'.cell? ⟨gb102, 1, none⟩ = some (.int .i64 a1_1) ∧ w'.cell? (ad107.add ((t106).toNat * 2)) = some (.int .i64 ((rd_T40 l0_1 t106).f0)) ∧ w'.cell? ⟨(ad107.add ((t106).toNat * 2)).block, (ad107.add ((t106).toNat * 2)).off + 1, none⟩ = some (.int .i64 ((rd_T40 l0_1 t106).f1)) ∧ w'.cell? (ad107.add ((t106).toNat * 2)) = some (.int .i64 ((rd_T40 l0_1 t106).f0)) ∧ w'.cell? ⟨(ad107.add ((t106).toNat * 2)).block, (ad107.add ((t106).toNat * 2)).off + 1, none⟩ = some (.int .i64 ((rd_T40 l0_1 t106).f1)) ∧ w'.cell? (ad107.add ((t106).toNat * 2)) = some (.int .i64 ((rd_T40 l0_1 t106).f0)) ∧ w'.cell? ⟨(ad107.add ((t106).toNat * 2)).block, (ad107.add ((t106).toNat * 2)).off + 1, none⟩ = some (.int .i64 ((rd_T40 l0_1 t106).f1))) (ds := []) #[yF,yF,yF,yF,yF,yF,yF,yF,yF,yF,yF,yF,yF,yF,yF,yF,yF,yF,yF,yF,yF,yF,yF,yF,yF,yF,yF,yF,yF,yF,yF,yF,yF,yF,yF,yF,yF] (by kernel_rfl) rfl rfl ⟨(blk_cell BK101.out 0).trans rfl, (blk_cell BK101.out 1).trans rfl, (blk_cell BK102.out 0).trans rfl, (blk_cell BK102.out 1).trans rfl, ((HB.out.cell (World.block_lt_of_cell? w _ hw107_0)).trans hw107_0), ((HB.out.cell (World.block_lt_of_cell? w _ hw107_1)).trans hw107_1), ((HB.out.cell (World.block_lt_of_cell? w _ hw108_0)).trans hw108_0), ((HB.out.cell (World.block_lt_of_cell? w _ hw108_1)).trans hw108_1), ((HB.out.cell (World.block_lt_of_cell? w _ hw109_0)).trans hw109_0), ((HB.out.cell (World.block_lt_of_cell? w _ hw109_1)).trans hw109_1)⟩ (fun hHeld => ?_); refine with_tabW free_Take.tab7 free_Take.bits7 (fun HT_ HW_ => ?_)
        generalize w22.drew = w29 at BK101 BK102 BK103 HB hx107_0 hx107_1 hx108_0 hx108_1 hx109_0 hx109_1 hHeld ⊢
        refine pu_ 0 25 37 1 ?_
        refine pu_ 1 26 37 3 ?_
        refine tk_ 2 27 37 7 ?_
        refine pu_ 3 28 37 15 ?_
        refine pu_ 4 29 37 31 ?_
        refine pu_ 5 30 37 63 ?_
        refine pu_ 6 31 37 127 ?_
        refine pu_ 8 33 37 383 ?_
        refine pu_ 12 37 37 4479 ?_
        refine tk_ 7 32 37 4607 ?_
        refine pu_ 9 34 37 5119 ?_
        refine pu_ 10 35 37 6143 ?_
        refine tk_ 11 36 37 8191 ?_
        refine tk_ 13 38 37 16383 ?_
        refine pu_ 14 39 37 32767 ?_
        refine pu_ 15 40 37 65535 ?_
        refine pu_ 16 41 37 131071 ?_
        refine pu_ 17 42 37 262143 ?_
        refine pu_ 19 44 37 786431 ?_
        refine pu_ 23 48 37 9175039 ?_
        refine pu_ 25 50 37 42729471 ?_
        refine pu_ 30 55 37 1116471295 ?_
        refine pu_ 32 57 37 5411438591 ?_
        refine tk_ 18 43 37 5411700735 ?_
        refine pu_ 20 45 37 5412749311 ?_
        refine pu_ 21 46 37 5414846463 ?_
        refine tk_ 22 47 37 5419040767 ?_
        refine tk_ 24 49 37 5435817983 ?_
        refine pu_ 26 51 37 5502926847 ?_
        refine pu_ 27 52 37 5637144575 ?_
        refine tk_ 28 53 37 5905580031 ?_
        refine pu_ 29 54 37 6442450943 ?_
        refine tk_ 31 56 37 8589934591 ?_
        refine tk_ 33 58 37 17179869183 ?_
        refine pu_ 34 59 37 34359738367 ?_
        refine pu_ 35 60 37 68719476735 ?_
        refine pu_ 36 61 37 137438953471 ?_
        refine done_ (done_of HT_.out (by kernel_rfl)) ?_
        try go_wp2
        go_meet
        case rel => exact ⟨_, (decide ((wrap64 (((rd_T40 l0_1 t106).f0) + ((rd_T40 l0_1 t106).f1))) < (wrap64 (a1_0 + a1_1)))), (by first | rfl | (simp; done) | (simp [*]; done)), H', ⟨by first | omega | exact Nat.le_refl _⟩, ⟨by (with_reducible repeat (first | refine blk_drewN ?_ _ | refine blk_drew ?_ | refine blk_alloc ?_ _)); exact BK101.out⟩, ⟨by (with_reducible repeat (first | refine blk_drewN ?_ _ | refine blk_drew ?_ | refine blk_alloc ?_ _)); exact BK102.out⟩, ⟨by (with_reducible repeat (first | refine blk_drewN ?_ _ | refine blk_drew ?_ | refine blk_alloc ?_ _)); exact BK103.out⟩, ⟨by repeat (first | (with_reducible first | exact HB.out | apply below_alloc | apply pw_below_drewN | apply below_drew1 | refine below_set ?_ GE101.out | refine below_set ?_ GE102.out | refine below_set ?_ GE103.out) | exact HB.out)⟩⟩
      ·rw [if_neg c26] at H
       exact absurd H (by simp)
     ·rw [if_neg c25] at H
      exact absurd H (by simp)
   case rest =>
    clear HC8
    try clear p1
    try clear q1
    try clear hx1
    try clear c2
    try clear p2
    try clear p6
    try clear p10
    try clear q10
    try clear hx10
    try clear c25
    try clear c26
    try clear c27
    try clear c27b0
    try clear hx107_0
    try clear hx107_1
    try clear hx108_0
    try clear hx108_1
    try clear hx109_0
    try clear hx109_1
    try clear p107
    try clear p108
    try clear p109
    try clear q107
    try clear q108
    try clear q109
    obtain ⟨kq, x61_7, rfl, HA, HJ7, BK101, BK102, BK103, HB⟩ := hcut
    cases kq with
    | zero => exact absurd HA.out (by simp [free_Take.j0])
    | succ kj7 =>
     have H := HA.out
     clear HA
     simp only [free_Take.j0] at H
     by_cases c30 : x61_7 = true
     ·subst c30
      have H1 : (some (0, ([] : List (S40)), 72)) = some (r1, r2, r3) := by rw [if_pos rfl] at H; exact H
      clear H
      have H := H1
      clear H1
      simp only [Option.some.injEq, Prod.mk.injEq] at H
      obtain ⟨rfl, rfl, rfl⟩ := H
      have hnb31 := NB103_101.out
      have hnc31 := NB101_103.out
      have hnb32 := NB103_102.out
      have hnc32 := NB102_103.out
      have hcz33_0 : wc.cell? ⟨gb103, 0, none⟩ = some (.int .i64 0) := (blk_cell BK103.out 0).trans rfl
      have hcz33_1 : wc.cell? ⟨gb103, 1, none⟩ = some (.slice none 0 0) := (blk_cell BK103.out 1).trans rfl
      have hfz33_0 := blk_frozen BK103.out 0
      have hfz33_1 := blk_frozen BK103.out 1
      go_wp2
      refine bodyPost_ret (results_ct rfl _ _ gb103 58 #[.int .i64 0, .slice none 0 0] (0, 0) _ rfl (by (with_reducible repeat (first | refine blk_drewN ?_ _ | refine blk_drew ?_ | refine blk_alloc ?_ _)); refine blk_put (cs := #[.int .i64 0, .slice none 0 0]) ?_ 1 _ rfl; (with_reducible repeat (first | refine blk_drewN ?_ _ | refine blk_drew ?_ | refine blk_alloc ?_ _)); refine blk_put (cs := #[.int .i64 0, .slice none 0 0]) ?_ 0 _ rfl; (with_reducible repeat (first | refine blk_drewN ?_ _ | refine blk_drew ?_ | refine blk_alloc ?_ _)); exact BK103.out) Try.underlying58 rfl (by kernel_rfl)) rfl ?_
      exact ⟨_, by first | rfl | (simp [errW_none, errW_some] <;> rfl) | (simp [*, errW_none, errW_some] <;> rfl), by first | exact Kd.R_nil _ _ _ _ _ | exact Kd.N_nil _ _ _ _ _ | exact Kd.V_nil _ _ _ _ _ | exact Kd.Q_nil _ _ _ _ _ | exact Kd.S_nil _ _ _ _ _, by repeat (first | (with_reducible first | exact HB.out | apply below_alloc | apply pw_below_drewN | apply below_drew1 | refine below_set ?_ GE101.out | refine below_set ?_ GE102.out | refine below_set ?_ GE103.out) | exact HB.out)⟩
     ·replace c30 := Bool.eq_false_iff.mpr c30
      subst c30
      have H1 : ((free_out.f l0_1 t106 a1_0 a1_1).bind fun t110 => ((free_full.f a0_0 t110).bind fun bt113 => (some (bt113.1, bt113.2.1, bt113.2.2)))) = some (r1, r2, r3) := by rw [if_neg (show ¬ (false = true) by decide)] at H; exact H
      clear H
      have H := H1
      clear H1
      replace H := Option.bind_eq_some_iff.mp H
      obtain ⟨t110, A340, H⟩ := H
      replace H : ((free_full.f a0_0 t110).bind fun bt113 => (some (bt113.1, bt113.2.1, bt113.2.2))) = some (r1, r2, r3) := H
      have A34 := Aside0.mk A340
      clear A340
      replace H := Option.bind_eq_some_iff.mp H
      obtain ⟨⟨t113, t114, t117⟩, A350, H⟩ := H
      replace H : (some (t113, t114, t117)) = some (r1, r2, r3) := H
      have A35 := Aside0.mk A350
      clear A350
      simp only [Option.some.injEq, Prod.mk.injEq] at H
      obtain ⟨rfl, rfl, rfl⟩ := H
      try go_wp2
      have n0_ := Aside0.mk (blk_drew BK101.out)
      have n1_ := Aside0.mk (blk_drew BK102.out)
      have n2_ := Aside0.mk (blk_drew BK103.out)
      have n3_ := Aside0.mk (below_drew1 HB.out)
      clear BK101
      clear BK102
      clear BK103
      clear HB
      have BK101 := n0_
      have BK102 := n1_
      have BK103 := n2_
      have HB := n3_
      clear n0_ n1_ n2_ n3_
      refine start_ (n := 12) (S := fun w' => w'.cell? ⟨gb101, 0, none⟩ = some (.int .i64 a0_0) ∧ w'.cell? ⟨gb101, 1, none⟩ = some (.slice A0_1 l0_1.length c0_1) ∧ w'.cell? ⟨gb102, 0, none⟩ = some (.int .i64 a1_0) ∧ w'.cell? ⟨gb102, 1, none⟩ = some (.int .i64 a1_1)) (ds := []) #[yF,yF,yF,yF,yF,yF,yF,yF,yF,yF,yF,yF] (by kernel_rfl) rfl rfl ⟨(blk_cell BK101.out 0).trans rfl, (blk_cell BK101.out 1).trans rfl, (blk_cell BK102.out 0).trans rfl, (blk_cell BK102.out 1).trans rfl⟩ (fun hHeld => ?_); refine with_tabW free_Take.tab9 free_Take.bits9 (fun HT_ HW_ => ?_)
      generalize wc.drew = w36 at BK101 BK102 BK103 HB hHeld ⊢
      refine pu_ 0 63 12 1 ?_
      refine pu_ 2 65 12 5 ?_
      refine pu_ 4 67 12 21 ?_
      refine tk_ 1 64 12 23 ?_
      refine tk_ 3 66 12 31 ?_
      refine tk_ 5 68 12 63 ?_
      refine on_ 6 69 12 127 (fun K hK => ?_)
      refine goes_ Try.func108 (by kernel_rfl) rfl #[.slice A0_1 l0_1.length c0_1, .int .i64 t106, .agg #[.int .i64 a1_0, .int .i64 a1_1]] (by rfl) rfl rfl (by (try simp only [List.map_toArray, List.map_cons, List.map_nil]); first | done | rfl | (simp only [List.length_drop, List.length_take]; rfl)) ?_
      with_reducible refine (free_out.calls _ _ l0_1 t106 a1_0 a1_1 t110 _ ?side1 ?side2 A34.out).mono ?_
      (case side1 => repeat (first | exact (Kd.C_below HR0_1.out HB.out) | (with_reducible refine Kd.C_alloc ?_ _) | (with_reducible refine Kd.C_drewN ?_ _) | (with_reducible refine Kd.C_drew ?_)))
      (case side2 => exact HC0_1.out)
      rintro e w37 ⟨v111, rfl, ho0, hb⟩
      refine ⟨_, rfl, ?_⟩
      have n0_ := Aside0.mk (Kd.R_lower (Kd.R_newB ho0 (g := gb102) (o := .cells #[.int .i64 a1_0, .int .i64 a1_1] 40 (0, 0)) (by (with_reducible repeat (first | refine blk_drewN ?_ _ | refine blk_drew ?_ | refine blk_alloc ?_ _)); exact BK102.out)) (below_size (by repeat (first | (with_reducible first | exact HB.out | apply below_alloc | apply pw_below_drewN | apply below_drew1 | refine below_set ?_ GE101.out | refine below_set ?_ GE102.out | refine below_set ?_ GE103.out) | exact HB.out))))
      have n1_ := Aside0.mk (blk_below (g := gb101) (o := .cells #[.int .i64 a0_0, .slice A0_1 l0_1.length c0_1] 58 (0, 0)) (by (with_reducible repeat (first | refine blk_drewN ?_ _ | refine blk_drew ?_ | refine blk_alloc ?_ _)); exact BK101.out) hb)
      have n2_ := Aside0.mk (blk_below (g := gb102) (o := .cells #[.int .i64 a1_0, .int .i64 a1_1] 40 (0, 0)) (by (with_reducible repeat (first | refine blk_drewN ?_ _ | refine blk_drew ?_ | refine blk_alloc ?_ _)); exact BK102.out) hb)
      have n3_ := Aside0.mk (blk_below (g := gb103) (o := .cells #[.int .i64 0, .slice none 0 0] 58 (0, 0)) (by (with_reducible repeat (first | refine blk_drewN ?_ _ | refine blk_drew ?_ | refine blk_alloc ?_ _)); exact BK103.out) hb)
      have n4_ := Aside0.mk (below_step (by repeat (first | (with_reducible first | exact HB.out | apply below_alloc | apply pw_below_drewN | apply below_drew1 | refine below_set ?_ GE101.out | refine below_set ?_ GE102.out | refine below_set ?_ GE103.out) | exact HB.out)) hb)
      clear BK101
      clear BK102
      clear BK103
      clear HB
      have HO112 := n0_
      have BK101 := n1_
      have BK102 := n2_
      have BK103 := n3_
      have HB := n4_
      clear n0_ n1_ n2_ n3_ n4_
      (try clear hb)
      (try clear hb2)
      (try clear hk)
      (try clear hi)
      (try clear ho0)
      obtain ⟨Ao38, co38, eo38⟩ := Kd.R_slice HO112.out
      (first | subst eo38 | (injection eo38 with f1_ f2_ f3_; have f4_ := f1_.symm; have f5_ := f3_.symm; clear f1_ f2_ f3_; subst f4_; subst f5_))
      refine hK.out _ _ ⟨(blk_cell BK101.out 0).trans rfl, (blk_cell BK101.out 1).trans rfl, (blk_cell BK102.out 0).trans rfl, (blk_cell BK102.out 1).trans rfl⟩ (fun hHeld => ?_)
      clear hK K
      refine nm_ 69 ?_
      refine on_ 7 70 12 255 (fun K hK => ?_)
      refine goes_ Try.func107 (by kernel_rfl) rfl #[.int .i64 a0_0, .slice Ao38 t110.length co38] (by rfl) rfl rfl (by (try simp only [List.map_toArray, List.map_cons, List.map_nil]); first | done | rfl | (simp only [List.length_drop, List.length_take]; rfl)) ?_
      with_reducible refine (free_full.calls a0_0 (fun k_ => some k_ = (.slice Ao38 t110.length co38 : Value).ownBlock) (.slice Ao38 t110.length co38) t110 t113 t114 t117 w _ ?side1 ?side2 A35.out).mono ?_
      (case side1 => repeat (first | (with_reducible first | exact HB.out | apply below_alloc | apply pw_below_drewN | apply below_drew1 | refine below_set ?_ GE101.out | refine below_set ?_ GE102.out | refine below_set ?_ GE103.out) | exact HB.out))
      (case side2 => exact Kd.R_tight rfl HO112.out)
      rintro e w39 ⟨v115, rfl, ho0, hb, hkp⟩
      refine ⟨_, rfl, ?_⟩
      have n0_ := Aside0.mk (blk_kept (by (with_reducible repeat (first | refine blk_drewN ?_ _ | refine blk_drew ?_ | refine blk_alloc ?_ _)); exact BK101.out) hkp (fun hs_ => (fun e_ => (Kd.R_ne HO112.out BK101.out (by decide)) e_) hs_))
      have n1_ := Aside0.mk (blk_kept (by (with_reducible repeat (first | refine blk_drewN ?_ _ | refine blk_drew ?_ | refine blk_alloc ?_ _)); exact BK102.out) hkp (fun hs_ => (fun e_ => (Kd.R_away HO112.out (fun _ hk => hk.2)) e_) hs_))
      have n2_ := Aside0.mk (blk_kept (by (with_reducible repeat (first | refine blk_drewN ?_ _ | refine blk_drew ?_ | refine blk_alloc ?_ _)); exact BK103.out) hkp (fun hs_ => (fun e_ => (Kd.R_ne HO112.out BK103.out (by decide)) e_) hs_))
      have n3_ := Aside0.mk (Kd.R_mono (ok' := fun k_ => k_ ≠ gb102) ho0 (fun k_ hk_ => Or.elim hk_ (fun hs_ => fun e_ => (Kd.R_away HO112.out (fun _ hk => hk.2)) (by rw [← e_]; exact hs_)) (fun hn_ => (Kd.freshB (g := gb102) (o := .cells #[.int .i64 a1_0, .int .i64 a1_1] 40 (0, 0)) (by (with_reducible repeat (first | refine blk_drewN ?_ _ | refine blk_drew ?_ | refine blk_alloc ?_ _)); exact BK102.out) k_ hn_))))
      have n4_ := Aside0.mk (hb)
      clear BK101
      clear BK102
      clear BK103
      clear HB
      clear HO112
      have BK101 := n0_
      have BK102 := n1_
      have BK103 := n2_
      have HO116 := n3_
      have HB := n4_
      clear n0_ n1_ n2_ n3_ n4_
      (try clear hb)
      (try clear hkp)
      (try clear ho0)
      obtain ⟨Ao41, co41, eo41⟩ := Kd.R_slice HO116.out
      (first | subst eo41 | (injection eo41 with f1_ f2_ f3_; have f4_ := f1_.symm; have f5_ := f3_.symm; clear f1_ f2_ f3_; subst f4_; subst f5_))
      refine hK.out _ _ ⟨(blk_cell BK101.out 0).trans rfl, (blk_cell BK101.out 1).trans rfl, (blk_cell BK102.out 0).trans rfl, (blk_cell BK102.out 1).trans rfl⟩ (fun hHeld => ?_)
      clear hK K
      refine nm_ 70 ?_
      refine pu_ 8 71 12 511 ?_
      refine pu_ 9 72 12 1023 ?_
      refine one_ (i := 10) (N := none) #[yT,yT,yT,yT,yT,yT,yT,yT,yT,yT,yT,yF] rfl rfl (one_of HT_.out (by kernel_rfl)) (by decide) (fun K hK => ?_)
      have hs40 : w39.cell? ⟨gb103, 0, none⟩ = some (.int .i64 0) := (blk_cell BK103.out 0).trans rfl
      have hfs40 := blk_frozen BK103.out 0
      have hns40_0 := NB101_103.out
      have hns40_1 := NB102_103.out
      have hms40_0 := NB103_101.out
      have hms40_1 := NB103_102.out
      have hs42 : w39.cell? ⟨gb103, 1, none⟩ = some (.slice none 0 0) := (blk_cell BK103.out 1).trans rfl
      have hfs42 := blk_frozen BK103.out 1
      have hns42_0 := NB101_103.out
      have hns42_1 := NB102_103.out
      have hms42_0 := NB103_101.out
      have hms42_1 := NB103_102.out
      refine skip_ (w1 := ?_) (by rfl) rfl ?_ ?_
      rotate_left
      ·go_simp
       rfl
      refine hK.out _ _ ⟨((cell_far (p := ⟨gb103, _, none⟩) NB101_103.out _).trans (((cell_far (p := ⟨gb103, _, none⟩) NB101_103.out _).trans (hHeld.1)))), ((cell_far (p := ⟨gb103, _, none⟩) NB101_103.out _).trans (((cell_far (p := ⟨gb103, _, none⟩) NB101_103.out _).trans (hHeld.2.1)))), ((cell_far (p := ⟨gb103, _, none⟩) NB102_103.out _).trans (((cell_far (p := ⟨gb103, _, none⟩) NB102_103.out _).trans (hHeld.2.2.1)))), ((cell_far (p := ⟨gb103, _, none⟩) NB102_103.out _).trans (((cell_far (p := ⟨gb103, _, none⟩) NB102_103.out _).trans (hHeld.2.2.2))))⟩ (fun hHeld => ?_)
      clear hK K
      refine pu_ 11 5 12 4095 ?_
      refine done_ (done_of HT_.out (by kernel_rfl)) ?_
      try go_wp2
      refine bodyPost_ret (results_ct rfl _ _ gb103 58 #[.int .i64 t113, .slice Ao41 t114.length co41] (0, 0) _ rfl (by (with_reducible repeat (first | refine blk_drewN ?_ _ | refine blk_drew ?_ | refine blk_alloc ?_ _)); refine blk_put (cs := #[.int .i64 t113, .slice none 0 0]) ?_ 1 _ rfl; (with_reducible repeat (first | refine blk_drewN ?_ _ | refine blk_drew ?_ | refine blk_alloc ?_ _)); refine blk_put (cs := #[.int .i64 0, .slice none 0 0]) ?_ 0 _ rfl; (with_reducible repeat (first | refine blk_drewN ?_ _ | refine blk_drew ?_ | refine blk_alloc ?_ _)); exact BK103.out) Try.underlying58 rfl (by kernel_rfl)) rfl ?_
      exact ⟨_, by first | rfl | (simp [errW_none, errW_some] <;> rfl) | (simp [*, errW_none, errW_some] <;> rfl), by (with_reducible repeat (first | apply Kd.R_alloc | apply Kd.R_drewN | apply Kd.R_drew)); exact Kd.R_mono (Kd.R_far (p := ⟨gb103, 1, none⟩) (Kd.R_far (p := ⟨gb103, 0, none⟩) (Kd.R_types HO116.out BK103.out (by decide)) (fun _ hk => hk.2) (.int .i64 t113)) (fun _ hk => hk.2) (.slice Ao41 t114.length co41)) (fun _ hk => trivial), by repeat (first | (with_reducible first | exact HB.out | apply below_alloc | apply pw_below_drewN | apply below_drew1 | refine below_set ?_ GE101.out | refine below_set ?_ GE102.out | refine below_set ?_ GE103.out) | exact HB.out)⟩
  ·replace c6 := Bool.eq_false_iff.mpr c6
   subst c6
   have H1 : (some (0, ([] : List (S40)), 4)) = some (r1, r2, r3) := by rw [if_neg (show ¬ (false = true) by decide)] at H; exact H
   clear H
   have H := H1
   clear H1
   simp only [Option.some.injEq, Prod.mk.injEq] at H
   obtain ⟨rfl, rfl, rfl⟩ := H
   go_enter Try.func46, Try.ntmps46
   go_wp2_with (first | ((with_reducible refine gate_dst (N := 2) rfl ?_); refine box_event ?hg (N := 2) ?hd (cs := #[.int .i64 a0_0, .slice A0_1 l0_1.length c0_1]) (t := 58) ?hr ?_; (case hd => rfl); (case hg => rfl); (case hr => first | (go_simp; done) | (go_simp; rfl)); intro gb101 hg w43 hbox hb; have n0_ := Aside0.mk (below_step (by repeat (first | (with_reducible first | exact HB.out | apply below_alloc | apply pw_below_drewN | apply below_drew1) | exact HB.out)) hb); have n1_ := Aside0.mk (hbox); have n2_ := Aside0.mk ((by rw [hg]; exact (below_size (by repeat (first | (with_reducible first | exact HB.out | apply below_alloc | apply pw_below_drewN | apply below_drew1) | exact HB.out))) : w.heap.size ≤ gb101)); have n3_ := Aside0.mk ((by rw [hg]; exact (below_size (by repeat (first | (with_reducible first | exact HB.out | apply below_alloc | apply pw_below_drewN | apply below_drew1) | exact HB.out))) : w.heap.size ≤ gb101)); clear HB; have HB := n0_; have BK101 := n1_; have GW101 := n2_; have GE101 := n3_; clear n0_ n1_ n2_ n3_; clear hb hbox hg) | ((with_reducible refine gate_dst (N := 3) rfl ?_); refine box_event ?hg (N := 3) ?hd (cs := #[.int .i64 a1_0, .int .i64 a1_1]) (t := 40) ?hr ?_; (case hd => rfl); (case hg => rfl); (case hr => first | (go_simp; done) | (go_simp; rfl)); intro gb102 hg w44 hbox hb; have n0_ := Aside0.mk (blk_below (g := gb101) (o := .cells #[.int .i64 a0_0, .slice A0_1 l0_1.length c0_1] 58 (0, 0)) (by (with_reducible repeat (first | refine blk_drewN ?_ _ | refine blk_drew ?_ | refine blk_alloc ?_ _)); exact BK101.out) hb); have n1_ := Aside0.mk (below_step (by repeat (first | (with_reducible first | exact HB.out | apply below_alloc | apply pw_below_drewN | apply below_drew1 | refine below_set ?_ GE101.out) | exact HB.out)) hb); have n2_ := Aside0.mk (hbox); have n3_ := Aside0.mk ((by rw [hg]; exact (below_size (by repeat (first | (with_reducible first | exact HB.out | apply below_alloc | apply pw_below_drewN | apply below_drew1 | refine below_set ?_ GE101.out) | exact HB.out))) : w.heap.size ≤ gb102)); have n4_ := Aside0.mk ((by rw [hg]; exact (below_size (by repeat (first | (with_reducible first | exact HB.out | apply below_alloc | apply pw_below_drewN | apply below_drew1 | refine below_set ?_ GE101.out) | exact HB.out))) : w.heap.size ≤ gb102)); have n5_ := Aside0.mk ((by rw [hg]; exact Nat.ne_of_lt (blk_lt (g := gb101) (o := .cells #[.int .i64 a0_0, .slice A0_1 l0_1.length c0_1] 58 (0, 0)) (by (with_reducible repeat (first | refine blk_drewN ?_ _ | refine blk_drew ?_ | refine blk_alloc ?_ _)); exact BK101.out)) : gb101 ≠ gb102)); have n6_ := Aside0.mk ((by rw [hg]; exact Nat.ne_of_gt (blk_lt (g := gb101) (o := .cells #[.int .i64 a0_0, .slice A0_1 l0_1.length c0_1] 58 (0, 0)) (by (with_reducible repeat (first | refine blk_drewN ?_ _ | refine blk_drew ?_ | refine blk_alloc ?_ _)); exact BK101.out)) : gb102 ≠ gb101)); clear BK101; clear HB; have BK101 := n0_; have HB := n1_; have BK102 := n2_; have GW102 := n3_; have GE102 := n4_; have NB101_102 := n5_; have NB102_101 := n6_; clear n0_ n1_ n2_ n3_ n4_ n5_ n6_; clear hb hbox hg) | ((with_reducible refine gate_dst (N := 4) rfl ?_); refine box_event ?hg (N := 4) ?hd (cs := #[.int .i64 0, .slice none 0 0]) (t := 58) ?hr ?_; (case hd => rfl); (case hg => rfl); (case hr => first | (go_simp; done) | (go_simp; rfl)); intro gb103 hg w45 hbox hb; have n0_ := Aside0.mk (blk_below (g := gb101) (o := .cells #[.int .i64 a0_0, .slice A0_1 l0_1.length c0_1] 58 (0, 0)) (by (with_reducible repeat (first | refine blk_drewN ?_ _ | refine blk_drew ?_ | refine blk_alloc ?_ _)); exact BK101.out) hb); have n1_ := Aside0.mk (blk_below (g := gb102) (o := .cells #[.int .i64 a1_0, .int .i64 a1_1] 40 (0, 0)) (by (with_reducible repeat (first | refine blk_drewN ?_ _ | refine blk_drew ?_ | refine blk_alloc ?_ _)); exact BK102.out) hb); have n2_ := Aside0.mk (below_step (by repeat (first | (with_reducible first | exact HB.out | apply below_alloc | apply pw_below_drewN | apply below_drew1 | refine below_set ?_ GE101.out | refine below_set ?_ GE102.out) | exact HB.out)) hb); have n3_ := Aside0.mk (hbox); have n4_ := Aside0.mk ((by rw [hg]; exact (below_size (by repeat (first | (with_reducible first | exact HB.out | apply below_alloc | apply pw_below_drewN | apply below_drew1 | refine below_set ?_ GE101.out | refine below_set ?_ GE102.out) | exact HB.out))) : w.heap.size ≤ gb103)); have n5_ := Aside0.mk ((by rw [hg]; exact (below_size (by repeat (first | (with_reducible first | exact HB.out | apply below_alloc | apply pw_below_drewN | apply below_drew1 | refine below_set ?_ GE101.out | refine below_set ?_ GE102.out) | exact HB.out))) : w.heap.size ≤ gb103)); have n6_ := Aside0.mk ((by rw [hg]; exact Nat.ne_of_lt (blk_lt (g := gb101) (o := .cells #[.int .i64 a0_0, .slice A0_1 l0_1.length c0_1] 58 (0, 0)) (by (with_reducible repeat (first | refine blk_drewN ?_ _ | refine blk_drew ?_ | refine blk_alloc ?_ _)); exact BK101.out)) : gb101 ≠ gb103)); have n7_ := Aside0.mk ((by rw [hg]; exact Nat.ne_of_gt (blk_lt (g := gb101) (o := .cells #[.int .i64 a0_0, .slice A0_1 l0_1.length c0_1] 58 (0, 0)) (by (with_reducible repeat (first | refine blk_drewN ?_ _ | refine blk_drew ?_ | refine blk_alloc ?_ _)); exact BK101.out)) : gb103 ≠ gb101)); have n8_ := Aside0.mk ((by rw [hg]; exact Nat.ne_of_lt (blk_lt (g := gb102) (o := .cells #[.int .i64 a1_0, .int .i64 a1_1] 40 (0, 0)) (by (with_reducible repeat (first | refine blk_drewN ?_ _ | refine blk_drew ?_ | refine blk_alloc ?_ _)); exact BK102.out)) : gb102 ≠ gb103)); have n9_ := Aside0.mk ((by rw [hg]; exact Nat.ne_of_gt (blk_lt (g := gb102) (o := .cells #[.int .i64 a1_0, .int .i64 a1_1] 40 (0, 0)) (by (with_reducible repeat (first | refine blk_drewN ?_ _ | refine blk_drew ?_ | refine blk_alloc ?_ _)); exact BK102.out)) : gb103 ≠ gb102)); clear BK101; clear BK102; clear HB; have BK101 := n0_; have BK102 := n1_; have HB := n2_; have BK103 := n3_; have GW103 := n4_; have GE103 := n5_; have NB101_103 := n6_; have NB103_101 := n7_; have NB102_103 := n8_; have NB103_102 := n9_; clear n0_ n1_ n2_ n3_ n4_ n5_ n6_ n7_ n8_ n9_; clear hb hbox hg; have hnb46 := NB101_102.out; have hnc46 := NB102_101.out; have hnb47 := NB101_103.out; have hnc47 := NB103_101.out; have hcz48_0 : w45.cell? ⟨gb101, 0, none⟩ = some (.int .i64 a0_0) := (blk_cell BK101.out 0).trans rfl; have hcz48_1 : w45.cell? ⟨gb101, 1, none⟩ = some (.slice A0_1 l0_1.length c0_1) := (blk_cell BK101.out 1).trans rfl; have hfz48_0 := blk_frozen BK101.out 0; have hfz48_1 := blk_frozen BK101.out 1) | ((with_reducible refine gate_callee (f := 51) rfl ?_); refine goesL_ (some 9) rfl rfl Try.func51 (by kernel_rfl) rfl #[.agg #[.int .i64 a0_0, .slice A0_1 l0_1.length c0_1]] rfl (by (try simp only [List.map_toArray, List.map_cons, List.map_nil]); first | done | rfl | (simp only [List.length_drop, List.length_take]; rfl)) ?_; (with_reducible refine (free_Check.calls k a0_0 _ _ l0_1 t104 _ ?side1 ?side2 A3.out).mono ?_); (case side1 => repeat (first | exact (Kd.C_below HR0_1.out HB.out) | (with_reducible refine Kd.C_alloc ?_ _) | (with_reducible refine Kd.C_drewN ?_ _) | (with_reducible refine Kd.C_drew ?_))); (case side2 => exact HC0_1.out); rintro e w49 ⟨rfl, hb⟩; refine ⟨_, rfl, ?_⟩; have n0_ := Aside0.mk (blk_below (g := gb101) (o := .cells #[.int .i64 a0_0, .slice A0_1 l0_1.length c0_1] 58 (0, 0)) (by (with_reducible repeat (first | refine blk_drewN ?_ _ | refine blk_drew ?_ | refine blk_alloc ?_ _)); exact BK101.out) hb); have n1_ := Aside0.mk (blk_below (g := gb102) (o := .cells #[.int .i64 a1_0, .int .i64 a1_1] 40 (0, 0)) (by (with_reducible repeat (first | refine blk_drewN ?_ _ | refine blk_drew ?_ | refine blk_alloc ?_ _)); exact BK102.out) hb); have n2_ := Aside0.mk (blk_below (g := gb103) (o := .cells #[.int .i64 0, .slice none 0 0] 58 (0, 0)) (by (with_reducible repeat (first | refine blk_drewN ?_ _ | refine blk_drew ?_ | refine blk_alloc ?_ _)); exact BK103.out) hb); have n3_ := Aside0.mk (below_step (by repeat (first | (with_reducible first | exact HB.out | apply below_alloc | apply pw_below_drewN | apply below_drew1 | refine below_set ?_ GE101.out | refine below_set ?_ GE102.out | refine below_set ?_ GE103.out) | exact HB.out)) hb); clear BK101; clear BK102; clear BK103; clear HB; have BK101 := n0_; have BK102 := n1_; have BK103 := n2_; have HB := n3_; clear n0_ n1_ n2_ n3_; (try clear hb); (try clear hb2); (try clear hk); (try clear hi); have hnb50 := NB102_103.out; have hnc50 := NB103_102.out; have hcz51_0 : w49.cell? ⟨gb102, 0, none⟩ = some (.int .i64 a1_0) := (blk_cell BK102.out 0).trans rfl; have hcz51_1 : w49.cell? ⟨gb102, 1, none⟩ = some (.int .i64 a1_1) := (blk_cell BK102.out 1).trans rfl; have hfz51_0 := blk_frozen BK102.out 0; have hfz51_1 := blk_frozen BK102.out 1; have hcz52_0 : w49.cell? ⟨gb101, 0, none⟩ = some (.int .i64 a0_0) := (blk_cell BK101.out 0).trans rfl; have hcz52_1 : w49.cell? ⟨gb101, 1, none⟩ = some (.slice A0_1 l0_1.length c0_1) := (blk_cell BK101.out 1).trans rfl; have hfz52_0 := blk_frozen BK101.out 0; have hfz52_1 := blk_frozen BK101.out 1) | ((with_reducible refine gate_callee (f := 105) rfl ?_); refine goesL_ (some 17) rfl rfl Try.func105 (by kernel_rfl) rfl #[.agg #[.int .i64 a1_0, .int .i64 a1_1], .int .i64 a0_0] rfl (by (try simp only [List.map_toArray, List.map_cons, List.map_nil]); first | done | rfl | (simp only [List.length_drop, List.length_take]; rfl)) ?_; (with_reducible refine (free_inside.calls a1_0 a1_1 a0_0 false _ A5.out).mono ?_); rintro e w53 ⟨rfl, hb⟩; refine ⟨_, rfl, ?_⟩; have n0_ := Aside0.mk (blk_below (g := gb101) (o := .cells #[.int .i64 a0_0, .slice A0_1 l0_1.length c0_1] 58 (0, 0)) (by (with_reducible repeat (first | refine blk_drewN ?_ _ | refine blk_drew ?_ | refine blk_alloc ?_ _)); exact BK101.out) hb); have n1_ := Aside0.mk (blk_below (g := gb102) (o := .cells #[.int .i64 a1_0, .int .i64 a1_1] 40 (0, 0)) (by (with_reducible repeat (first | refine blk_drewN ?_ _ | refine blk_drew ?_ | refine blk_alloc ?_ _)); exact BK102.out) hb); have n2_ := Aside0.mk (blk_below (g := gb103) (o := .cells #[.int .i64 0, .slice none 0 0] 58 (0, 0)) (by (with_reducible repeat (first | refine blk_drewN ?_ _ | refine blk_drew ?_ | refine blk_alloc ?_ _)); exact BK103.out) hb); have n3_ := Aside0.mk (below_step (by repeat (first | (with_reducible first | exact HB.out | apply below_alloc | apply pw_below_drewN | apply below_drew1 | refine below_set ?_ GE101.out | refine below_set ?_ GE102.out | refine below_set ?_ GE103.out) | exact HB.out)) hb); clear BK101; clear BK102; clear BK103; clear HB; have BK101 := n0_; have BK102 := n1_; have BK103 := n2_; have HB := n3_; clear n0_ n1_ n2_ n3_; (try clear hb); (try clear hb2); (try clear hk); (try clear hi); have hcz54_0 : w53.cell? ⟨gb103, 0, none⟩ = some (.int .i64 0) := (blk_cell BK103.out 0).trans rfl; have hcz54_1 : w53.cell? ⟨gb103, 1, none⟩ = some (.slice none 0 0) := (blk_cell BK103.out 1).trans rfl; have hfz54_0 := blk_frozen BK103.out 0; have hfz54_1 := blk_frozen BK103.out 1))
   refine bodyPost_ret (results_ct rfl _ _ gb103 58 #[.int .i64 0, .slice none 0 0] (0, 0) _ rfl (by (with_reducible repeat (first | refine blk_drewN ?_ _ | refine blk_drew ?_ | refine blk_alloc ?_ _)); refine blk_put (cs := #[.int .i64 0, .slice none 0 0]) ?_ 1 _ rfl; (with_reducible repeat (first | refine blk_drewN ?_ _ | refine blk_drew ?_ | refine blk_alloc ?_ _)); refine blk_put (cs := #[.int .i64 0, .slice none 0 0]) ?_ 0 _ rfl; (with_reducible repeat (first | refine blk_drewN ?_ _ | refine blk_drew ?_ | refine blk_alloc ?_ _)); exact BK103.out) Try.underlying58 rfl (by kernel_rfl)) rfl ?_
   exact ⟨_, by first | rfl | (simp [errW_none, errW_some] <;> rfl) | (simp [*, errW_none, errW_some] <;> rfl), by first | exact Kd.R_nil _ _ _ _ _ | exact Kd.N_nil _ _ _ _ _ | exact Kd.V_nil _ _ _ _ _ | exact Kd.Q_nil _ _ _ _ _ | exact Kd.S_nil _ _ _ _ _, by repeat (first | (with_reducible first | exact HB.out | apply below_alloc | apply pw_below_drewN | apply below_drew1 | refine below_set ?_ GE101.out | refine below_set ?_ GE102.out | refine below_set ?_ GE103.out) | exact HB.out)⟩
 ·rw [if_neg c4] at H
  have c4b0 : (t104 == 0) = false := beq_eq_false_iff_ne.mpr c4
  have c4b1 : (t104 != 0) = true := bne_iff_ne.mpr c4
  simp only [Option.some.injEq, Prod.mk.injEq] at H
  obtain ⟨rfl, rfl, rfl⟩ := H
  go_enter Try.func46, Try.ntmps46
  go_wp2_with (first | ((with_reducible refine gate_dst (N := 2) rfl ?_); refine box_event ?hg (N := 2) ?hd (cs := #[.int .i64 a0_0, .slice A0_1 l0_1.length c0_1]) (t := 58) ?hr ?_; (case hd => rfl); (case hg => rfl); (case hr => first | (go_simp; done) | (go_simp; rfl)); intro gb101 hg w55 hbox hb; have n0_ := Aside0.mk (below_step (by repeat (first | (with_reducible first | exact HB.out | apply below_alloc | apply pw_below_drewN | apply below_drew1) | exact HB.out)) hb); have n1_ := Aside0.mk (hbox); have n2_ := Aside0.mk ((by rw [hg]; exact (below_size (by repeat (first | (with_reducible first | exact HB.out | apply below_alloc | apply pw_below_drewN | apply below_drew1) | exact HB.out))) : w.heap.size ≤ gb101)); have n3_ := Aside0.mk ((by rw [hg]; exact (below_size (by repeat (first | (with_reducible first | exact HB.out | apply below_alloc | apply pw_below_drewN | apply below_drew1) | exact HB.out))) : w.heap.size ≤ gb101)); clear HB; have HB := n0_; have BK101 := n1_; have GW101 := n2_; have GE101 := n3_; clear n0_ n1_ n2_ n3_; clear hb hbox hg) | ((with_reducible refine gate_dst (N := 3) rfl ?_); refine box_event ?hg (N := 3) ?hd (cs := #[.int .i64 a1_0, .int .i64 a1_1]) (t := 40) ?hr ?_; (case hd => rfl); (case hg => rfl); (case hr => first | (go_simp; done) | (go_simp; rfl)); intro gb102 hg w56 hbox hb; have n0_ := Aside0.mk (blk_below (g := gb101) (o := .cells #[.int .i64 a0_0, .slice A0_1 l0_1.length c0_1] 58 (0, 0)) (by (with_reducible repeat (first | refine blk_drewN ?_ _ | refine blk_drew ?_ | refine blk_alloc ?_ _)); exact BK101.out) hb); have n1_ := Aside0.mk (below_step (by repeat (first | (with_reducible first | exact HB.out | apply below_alloc | apply pw_below_drewN | apply below_drew1 | refine below_set ?_ GE101.out) | exact HB.out)) hb); have n2_ := Aside0.mk (hbox); have n3_ := Aside0.mk ((by rw [hg]; exact (below_size (by repeat (first | (with_reducible first | exact HB.out | apply below_alloc | apply pw_below_drewN | apply below_drew1 | refine below_set ?_ GE101.out) | exact HB.out))) : w.heap.size ≤ gb102)); have n4_ := Aside0.mk ((by rw [hg]; exact (below_size (by repeat (first | (with_reducible first | exact HB.out | apply below_alloc | apply pw_below_drewN | apply below_drew1 | refine below_set ?_ GE101.out) | exact HB.out))) : w.heap.size ≤ gb102)); have n5_ := Aside0.mk ((by rw [hg]; exact Nat.ne_of_lt (blk_lt (g := gb101) (o := .cells #[.int .i64 a0_0, .slice A0_1 l0_1.length c0_1] 58 (0, 0)) (by (with_reducible repeat (first | refine blk_drewN ?_ _ | refine blk_drew ?_ | refine blk_alloc ?_ _)); exact BK101.out)) : gb101 ≠ gb102)); have n6_ := Aside0.mk ((by rw [hg]; exact Nat.ne_of_gt (blk_lt (g := gb101) (o := .cells #[.int .i64 a0_0, .slice A0_1 l0_1.length c0_1] 58 (0, 0)) (by (with_reducible repeat (first | refine blk_drewN ?_ _ | refine blk_drew ?_ | refine blk_alloc ?_ _)); exact BK101.out)) : gb102 ≠ gb101)); clear BK101; clear HB; have BK101 := n0_; have HB := n1_; have BK102 := n2_; have GW102 := n3_; have GE102 := n4_; have NB101_102 := n5_; have NB102_101 := n6_; clear n0_ n1_ n2_ n3_ n4_ n5_ n6_; clear hb hbox hg) | ((with_reducible refine gate_dst (N := 4) rfl ?_); refine box_event ?hg (N := 4) ?hd (cs := #[.int .i64 0, .slice none 0 0]) (t := 58) ?hr ?_; (case hd => rfl); (case hg => rfl); (case hr => first | (go_simp; done) | (go_simp; rfl)); intro gb103 hg w57 hbox hb; have n0_ := Aside0.mk (blk_below (g := gb101) (o := .cells #[.int .i64 a0_0, .slice A0_1 l0_1.length c0_1] 58 (0, 0)) (by (with_reducible repeat (first | refine blk_drewN ?_ _ | refine blk_drew ?_ | refine blk_alloc ?_ _)); exact BK101.out) hb); have n1_ := Aside0.mk (blk_below (g := gb102) (o := .cells #[.int .i64 a1_0, .int .i64 a1_1] 40 (0, 0)) (by (with_reducible repeat (first | refine blk_drewN ?_ _ | refine blk_drew ?_ | refine blk_alloc ?_ _)); exact BK102.out) hb); have n2_ := Aside0.mk (below_step (by repeat (first | (with_reducible first | exact HB.out | apply below_alloc | apply pw_below_drewN | apply below_drew1 | refine below_set ?_ GE101.out | refine below_set ?_ GE102.out) | exact HB.out)) hb); have n3_ := Aside0.mk (hbox); have n4_ := Aside0.mk ((by rw [hg]; exact (below_size (by repeat (first | (with_reducible first | exact HB.out | apply below_alloc | apply pw_below_drewN | apply below_drew1 | refine below_set ?_ GE101.out | refine below_set ?_ GE102.out) | exact HB.out))) : w.heap.size ≤ gb103)); have n5_ := Aside0.mk ((by rw [hg]; exact (below_size (by repeat (first | (with_reducible first | exact HB.out | apply below_alloc | apply pw_below_drewN | apply below_drew1 | refine below_set ?_ GE101.out | refine below_set ?_ GE102.out) | exact HB.out))) : w.heap.size ≤ gb103)); have n6_ := Aside0.mk ((by rw [hg]; exact Nat.ne_of_lt (blk_lt (g := gb101) (o := .cells #[.int .i64 a0_0, .slice A0_1 l0_1.length c0_1] 58 (0, 0)) (by (with_reducible repeat (first | refine blk_drewN ?_ _ | refine blk_drew ?_ | refine blk_alloc ?_ _)); exact BK101.out)) : gb101 ≠ gb103)); have n7_ := Aside0.mk ((by rw [hg]; exact Nat.ne_of_gt (blk_lt (g := gb101) (o := .cells #[.int .i64 a0_0, .slice A0_1 l0_1.length c0_1] 58 (0, 0)) (by (with_reducible repeat (first | refine blk_drewN ?_ _ | refine blk_drew ?_ | refine blk_alloc ?_ _)); exact BK101.out)) : gb103 ≠ gb101)); have n8_ := Aside0.mk ((by rw [hg]; exact Nat.ne_of_lt (blk_lt (g := gb102) (o := .cells #[.int .i64 a1_0, .int .i64 a1_1] 40 (0, 0)) (by (with_reducible repeat (first | refine blk_drewN ?_ _ | refine blk_drew ?_ | refine blk_alloc ?_ _)); exact BK102.out)) : gb102 ≠ gb103)); have n9_ := Aside0.mk ((by rw [hg]; exact Nat.ne_of_gt (blk_lt (g := gb102) (o := .cells #[.int .i64 a1_0, .int .i64 a1_1] 40 (0, 0)) (by (with_reducible repeat (first | refine blk_drewN ?_ _ | refine blk_drew ?_ | refine blk_alloc ?_ _)); exact BK102.out)) : gb103 ≠ gb102)); clear BK101; clear BK102; clear HB; have BK101 := n0_; have BK102 := n1_; have HB := n2_; have BK103 := n3_; have GW103 := n4_; have GE103 := n5_; have NB101_103 := n6_; have NB103_101 := n7_; have NB102_103 := n8_; have NB103_102 := n9_; clear n0_ n1_ n2_ n3_ n4_ n5_ n6_ n7_ n8_ n9_; clear hb hbox hg; have hnb58 := NB101_102.out; have hnc58 := NB102_101.out; have hnb59 := NB101_103.out; have hnc59 := NB103_101.out; have hcz60_0 : w57.cell? ⟨gb101, 0, none⟩ = some (.int .i64 a0_0) := (blk_cell BK101.out 0).trans rfl; have hcz60_1 : w57.cell? ⟨gb101, 1, none⟩ = some (.slice A0_1 l0_1.length c0_1) := (blk_cell BK101.out 1).trans rfl; have hfz60_0 := blk_frozen BK101.out 0; have hfz60_1 := blk_frozen BK101.out 1) | ((with_reducible refine gate_callee (f := 51) rfl ?_); refine goesL_ (some 9) rfl rfl Try.func51 (by kernel_rfl) rfl #[.agg #[.int .i64 a0_0, .slice A0_1 l0_1.length c0_1]] rfl (by (try simp only [List.map_toArray, List.map_cons, List.map_nil]); first | done | rfl | (simp only [List.length_drop, List.length_take]; rfl)) ?_; (with_reducible refine (free_Check.calls k a0_0 _ _ l0_1 t104 _ ?side1 ?side2 A3.out).mono ?_); (case side1 => repeat (first | exact (Kd.C_below HR0_1.out HB.out) | (with_reducible refine Kd.C_alloc ?_ _) | (with_reducible refine Kd.C_drewN ?_ _) | (with_reducible refine Kd.C_drew ?_))); (case side2 => exact HC0_1.out); rintro e w61 ⟨rfl, hb⟩; refine ⟨_, rfl, ?_⟩; have n0_ := Aside0.mk (blk_below (g := gb101) (o := .cells #[.int .i64 a0_0, .slice A0_1 l0_1.length c0_1] 58 (0, 0)) (by (with_reducible repeat (first | refine blk_drewN ?_ _ | refine blk_drew ?_ | refine blk_alloc ?_ _)); exact BK101.out) hb); have n1_ := Aside0.mk (blk_below (g := gb102) (o := .cells #[.int .i64 a1_0, .int .i64 a1_1] 40 (0, 0)) (by (with_reducible repeat (first | refine blk_drewN ?_ _ | refine blk_drew ?_ | refine blk_alloc ?_ _)); exact BK102.out) hb); have n2_ := Aside0.mk (blk_below (g := gb103) (o := .cells #[.int .i64 0, .slice none 0 0] 58 (0, 0)) (by (with_reducible repeat (first | refine blk_drewN ?_ _ | refine blk_drew ?_ | refine blk_alloc ?_ _)); exact BK103.out) hb); have n3_ := Aside0.mk (below_step (by repeat (first | (with_reducible first | exact HB.out | apply below_alloc | apply pw_below_drewN | apply below_drew1 | refine below_set ?_ GE101.out | refine below_set ?_ GE102.out | refine below_set ?_ GE103.out) | exact HB.out)) hb); clear BK101; clear BK102; clear BK103; clear HB; have BK101 := n0_; have BK102 := n1_; have BK103 := n2_; have HB := n3_; clear n0_ n1_ n2_ n3_; (try clear hb); (try clear hb2); (try clear hk); (try clear hi); have hnb62 := NB103_102.out; have hnc62 := NB102_103.out; have hcz63_0 : w61.cell? ⟨gb103, 0, none⟩ = some (.int .i64 0) := (blk_cell BK103.out 0).trans rfl; have hcz63_1 : w61.cell? ⟨gb103, 1, none⟩ = some (.slice none 0 0) := (blk_cell BK103.out 1).trans rfl; have hfz63_0 := blk_frozen BK103.out 0; have hfz63_1 := blk_frozen BK103.out 1))
  refine bodyPost_ret (results_ct rfl _ _ gb103 58 #[.int .i64 0, .slice none 0 0] (0, 0) _ rfl (by (with_reducible repeat (first | refine blk_drewN ?_ _ | refine blk_drew ?_ | refine blk_alloc ?_ _)); refine blk_put (cs := #[.int .i64 0, .slice none 0 0]) ?_ 1 _ rfl; (with_reducible repeat (first | refine blk_drewN ?_ _ | refine blk_drew ?_ | refine blk_alloc ?_ _)); refine blk_put (cs := #[.int .i64 0, .slice none 0 0]) ?_ 0 _ rfl; (with_reducible repeat (first | refine blk_drewN ?_ _ | refine blk_drew ?_ | refine blk_alloc ?_ _)); exact BK103.out) Try.underlying58 rfl (by kernel_rfl)) rfl ?_
  exact ⟨_, by first | rfl | (simp [errW_none, errW_some] <;> rfl) | (simp [*, errW_none, errW_some] <;> rfl), by first | exact Kd.R_nil _ _ _ _ _ | exact Kd.N_nil _ _ _ _ _ | exact Kd.V_nil _ _ _ _ _ | exact Kd.Q_nil _ _ _ _ _ | exact Kd.S_nil _ _ _ _ _, by repeat (first | (with_reducible first | exact HB.out | apply below_alloc | apply pw_below_drewN | apply below_drew1 | refine below_set ?_ GE101.out | refine below_set ?_ GE102.out | refine below_set ?_ GE103.out) | exact HB.out)⟩
end Go.Proofs.Ytkkfkdncddbaeaa.Fn
namespace Go.Proofs.Ytkkfkdncddbaeaa.Fn
open Go.RowKit Go.Proofs.YtkkfkdncddbaeaaW.PrintWords Go.Proofs.YtkkfkdncddbaeaaW.PrintLast Go.Proofs.YtkkfkdncddbaeaaW.PrintMore
attribute [local go_sem] max2_int min2_int max_two min_two max_three min_three max_four min_four
set_option linter.unusedVariables false
set_option linter.unusedSimpArgs false
def free_Alloc.f (k : Nat) (a0_0 : Int) (l0_1 : List (S40)) (a1 : Int) (a2 : Int) : Option (Int × (List (S40)) × Int × Int) := (free_Best.f a0_0 l0_1 a1 a2).bind fun bt103 => (if bt103.2 = 0 then ((free_Take.f k a0_0 l0_1 bt103.1 a1).bind fun bt105 => (if bt105.2.2 = 0 then (some (bt105.1, bt105.2.1, bt103.1, 0)) else (some (0, ([] : List (S40)), 0, bt105.2.2)))) else (some (0, ([] : List (S40)), 0, bt103.2)))
theorem free_Alloc.mono : ∀ a0 a1 a2 a3 k, LeO (free_Alloc.f k a0 a1 a2 a3) (free_Alloc.f (k + 1) a0 a1 a2 a3) := by
 intro a0 a1 a2 a3 k
 unfold free_Alloc.f
 repeat' first
  | (with_reducible exact free_Take.mono _ _ _ _ _)
  | (with_reducible exact LeO.refl _)
  | (with_reducible exact LeO.none _)
  | (with_reducible refine LeO.ite ?_ ?_)
  | (with_reducible refine LeO.bind ?_ (fun _ => ?_))
  | exact free_Take.mono _ _ _ _ _
  | exact LeO.none _
  | refine LeO.ite ?_ ?_
  | refine LeO.bind ?_ (fun _ => ?_)
set_option maxHeartbeats 8000000 in
set_option maxRecDepth 100000 in
theorem free_Alloc.calls (k : Nat) (a0_0 : Int) (A0_1 : Option Addr) (c0_1 : Nat) (l0_1 : List (S40)) (a1 : Int) (a2 : Int) (r1 : Int) (r2 : List (S40)) (r3 : Int) (r4 : Int) (w : World) (hr0_1 : Kd.C k40 w A0_1 l0_1.length l0_1) (hc0_1 : l0_1.length ≤ c0_1) (h : free_Alloc.f k a0_0 l0_1 a1 a2 = some (r1, r2, r3, r4)) :
 Calls Try.prog 45 #[.agg #[.int .i64 a0_0, .slice A0_1 l0_1.length c0_1], .int .i64 a1, .int .i64 a2] w fun e w' => ∃ v1_ : Value, e = .returned (.tuple #[.agg #[.int .i64 r1, v1_], .int .i64 r3, .int .i64 r4]) ∧ Kd.R k40 40 w' w.heap.size (fun _ => True) v1_ r2 ∧ Below w.heap.size w w' := by
 have hu58 := Try.underlying58
 have hu40 := Try.underlying40
 have HR0_1 := Aside0.mk hr0_1
 have HC0_1 := Aside0.mk hc0_1
 clear hr0_1 hc0_1
 have HB := Aside0.mk (Below.refl w.heap.size w)
 have H : ((free_Best.f a0_0 l0_1 a1 a2).bind fun bt103 => (if bt103.2 = 0 then ((free_Take.f k a0_0 l0_1 bt103.1 a1).bind fun bt105 => (if bt105.2.2 = 0 then (some (bt105.1, bt105.2.1, bt103.1, 0)) else (some (0, ([] : List (S40)), 0, bt105.2.2)))) else (some (0, ([] : List (S40)), 0, bt103.2)))) = some (r1, r2, r3, r4) := h
 clear h
 replace H := Option.bind_eq_some_iff.mp H
 obtain ⟨⟨t103, t104⟩, A40, H⟩ := H
 replace H : (if t104 = 0 then ((free_Take.f k a0_0 l0_1 t103 a1).bind fun bt105 => (if bt105.2.2 = 0 then (some (bt105.1, bt105.2.1, t103, 0)) else (some (0, ([] : List (S40)), 0, bt105.2.2)))) else (some (0, ([] : List (S40)), 0, t104))) = some (r1, r2, r3, r4) := H
 have A4 := Aside0.mk A40
 clear A40
 by_cases c5 : t104 = 0
 ·rw [if_pos c5] at H
  have c5b0 : (t104 == 0) = true := beq_iff_eq.mpr c5
  have c5b1 : (t104 != 0) = false := bne_eq_false_iff_eq.mpr c5
  clear c5
  replace H := Option.bind_eq_some_iff.mp H
  obtain ⟨⟨t105, t106, t109⟩, A60, H⟩ := H
  replace H : (if t109 = 0 then (some (t105, t106, t103, 0)) else (some (0, ([] : List (S40)), 0, t109))) = some (r1, r2, r3, r4) := H
  have A6 := Aside0.mk A60
  clear A60
  by_cases c7 : t109 = 0
  ·rw [if_pos c7] at H
   have c7b0 : (t109 == 0) = true := beq_iff_eq.mpr c7
   have c7b1 : (t109 != 0) = false := bne_eq_false_iff_eq.mpr c7
   clear c7
   simp only [Option.some.injEq, Prod.mk.injEq] at H
   obtain ⟨rfl, rfl, rfl, rfl⟩ := H
   go_enter Try.func45, Try.ntmps45
   go_wp2_with (first | ((with_reducible refine gate_dst (N := 3) rfl ?_); refine box_event ?hg (N := 3) ?hd (cs := #[.int .i64 a0_0, .slice A0_1 l0_1.length c0_1]) (t := 58) ?hr ?_; (case hd => rfl); (case hg => rfl); (case hr => first | (go_simp; done) | (go_simp; rfl)); intro gb101 hg w8 hbox hb; have n0_ := Aside0.mk (below_step (by repeat (first | (with_reducible first | exact HB.out | apply below_alloc | apply pw_below_drewN | apply below_drew1) | exact HB.out)) hb); have n1_ := Aside0.mk (hbox); have n2_ := Aside0.mk ((by rw [hg]; exact (below_size (by repeat (first | (with_reducible first | exact HB.out | apply below_alloc | apply pw_below_drewN | apply below_drew1) | exact HB.out))) : w.heap.size ≤ gb101)); have n3_ := Aside0.mk ((by rw [hg]; exact (below_size (by repeat (first | (with_reducible first | exact HB.out | apply below_alloc | apply pw_below_drewN | apply below_drew1) | exact HB.out))) : w.heap.size ≤ gb101)); clear HB; have HB := n0_; have BK101 := n1_; have GW101 := n2_; have GE101 := n3_; clear n0_ n1_ n2_ n3_; clear hb hbox hg) | ((with_reducible refine gate_dst (N := 6) rfl ?_); refine box_event ?hg (N := 6) ?hd (cs := #[.int .i64 0, .slice none 0 0]) (t := 58) ?hr ?_; (case hd => rfl); (case hg => rfl); (case hr => first | (go_simp; done) | (go_simp; rfl)); intro gb102 hg w9 hbox hb; have n0_ := Aside0.mk (blk_below (g := gb101) (o := .cells #[.int .i64 a0_0, .slice A0_1 l0_1.length c0_1] 58 (0, 0)) (by (with_reducible repeat (first | refine blk_drewN ?_ _ | refine blk_drew ?_ | refine blk_alloc ?_ _)); exact BK101.out) hb); have n1_ := Aside0.mk (below_step (by repeat (first | (with_reducible first | exact HB.out | apply below_alloc | apply pw_below_drewN | apply below_drew1 | refine below_set ?_ GE101.out) | exact HB.out)) hb); have n2_ := Aside0.mk (hbox); have n3_ := Aside0.mk ((by rw [hg]; exact (below_size (by repeat (first | (with_reducible first | exact HB.out | apply below_alloc | apply pw_below_drewN | apply below_drew1 | refine below_set ?_ GE101.out) | exact HB.out))) : w.heap.size ≤ gb102)); have n4_ := Aside0.mk ((by rw [hg]; exact (below_size (by repeat (first | (with_reducible first | exact HB.out | apply below_alloc | apply pw_below_drewN | apply below_drew1 | refine below_set ?_ GE101.out) | exact HB.out))) : w.heap.size ≤ gb102)); have n5_ := Aside0.mk ((by rw [hg]; exact Nat.ne_of_lt (blk_lt (g := gb101) (o := .cells #[.int .i64 a0_0, .slice A0_1 l0_1.length c0_1] 58 (0, 0)) (by (with_reducible repeat (first | refine blk_drewN ?_ _ | refine blk_drew ?_ | refine blk_alloc ?_ _)); exact BK101.out)) : gb101 ≠ gb102)); have n6_ := Aside0.mk ((by rw [hg]; exact Nat.ne_of_gt (blk_lt (g := gb101) (o := .cells #[.int .i64 a0_0, .slice A0_1 l0_1.length c0_1] 58 (0, 0)) (by (with_reducible repeat (first | refine blk_drewN ?_ _ | refine blk_drew ?_ | refine blk_alloc ?_ _)); exact BK101.out)) : gb102 ≠ gb101)); clear BK101; clear HB; have BK101 := n0_; have HB := n1_; have BK102 := n2_; have GW102 := n3_; have GE102 := n4_; have NB101_102 := n5_; have NB102_101 := n6_; clear n0_ n1_ n2_ n3_ n4_ n5_ n6_; clear hb hbox hg; have hnb10 := NB101_102.out; have hnc10 := NB102_101.out; have hcz11_0 : w9.cell? ⟨gb101, 0, none⟩ = some (.int .i64 a0_0) := (blk_cell BK101.out 0).trans rfl; have hcz11_1 : w9.cell? ⟨gb101, 1, none⟩ = some (.slice A0_1 l0_1.length c0_1) := (blk_cell BK101.out 1).trans rfl; have hfz11_0 := blk_frozen BK101.out 0; have hfz11_1 := blk_frozen BK101.out 1) | ((with_reducible refine gate_callee (f := 42) rfl ?_); refine goesL_ (some 16) rfl rfl Try.func42 (by kernel_rfl) rfl #[.agg #[.int .i64 a0_0, .slice A0_1 l0_1.length c0_1], .int .i64 a1, .int .i64 a2] rfl (by (try simp only [List.map_toArray, List.map_cons, List.map_nil]); first | done | rfl | (simp only [List.length_drop, List.length_take]; rfl)) ?_; (with_reducible refine (free_Best.calls a0_0 _ _ l0_1 a1 a2 t103 t104 _ ?side1 ?side2 A4.out).mono ?_); (case side1 => repeat (first | exact (Kd.C_below HR0_1.out HB.out) | (with_reducible refine Kd.C_alloc ?_ _) | (with_reducible refine Kd.C_drewN ?_ _) | (with_reducible refine Kd.C_drew ?_))); (case side2 => exact HC0_1.out); rintro e w12 ⟨rfl, hb⟩; refine ⟨_, rfl, ?_⟩; have n0_ := Aside0.mk (blk_below (g := gb101) (o := .cells #[.int .i64 a0_0, .slice A0_1 l0_1.length c0_1] 58 (0, 0)) (by (with_reducible repeat (first | refine blk_drewN ?_ _ | refine blk_drew ?_ | refine blk_alloc ?_ _)); exact BK101.out) hb); have n1_ := Aside0.mk (blk_below (g := gb102) (o := .cells #[.int .i64 0, .slice none 0 0] 58 (0, 0)) (by (with_reducible repeat (first | refine blk_drewN ?_ _ | refine blk_drew ?_ | refine blk_alloc ?_ _)); exact BK102.out) hb); have n2_ := Aside0.mk (below_step (by repeat (first | (with_reducible first | exact HB.out | apply below_alloc | apply pw_below_drewN | apply below_drew1 | refine below_set ?_ GE101.out | refine below_set ?_ GE102.out) | exact HB.out)) hb); clear BK101; clear BK102; clear HB; have BK101 := n0_; have BK102 := n1_; have HB := n2_; clear n0_ n1_ n2_; (try clear hb); (try clear hb2); (try clear hk); (try clear hi); have hcz13_0 : w12.cell? ⟨gb101, 0, none⟩ = some (.int .i64 a0_0) := (blk_cell BK101.out 0).trans rfl; have hcz13_1 : w12.cell? ⟨gb101, 1, none⟩ = some (.slice A0_1 l0_1.length c0_1) := (blk_cell BK101.out 1).trans rfl; have hfz13_0 := blk_frozen BK101.out 0; have hfz13_1 := blk_frozen BK101.out 1) | ((with_reducible refine gate_callee (f := 46) rfl ?_); refine goesL_ (some 28) rfl rfl Try.func46 (by kernel_rfl) rfl #[.agg #[.int .i64 a0_0, .slice A0_1 l0_1.length c0_1], .agg #[.int .i64 t103, .int .i64 a1]] rfl (by (try simp only [List.map_toArray, List.map_cons, List.map_nil]); first | done | rfl | (simp only [List.length_drop, List.length_take]; rfl)) ?_; (with_reducible refine (free_Take.calls k a0_0 _ _ l0_1 t103 a1 t105 t106 t109 _ ?side1 ?side2 A6.out).mono ?_); (case side1 => repeat (first | exact (Kd.C_below HR0_1.out HB.out) | (with_reducible refine Kd.C_alloc ?_ _) | (with_reducible refine Kd.C_drewN ?_ _) | (with_reducible refine Kd.C_drew ?_))); (case side2 => exact HC0_1.out); rintro e w14 ⟨v107, rfl, ho0, hb⟩; refine ⟨_, rfl, ?_⟩; have n0_ := Aside0.mk (Kd.R_lower ho0 (below_size (by repeat (first | (with_reducible first | exact HB.out | apply below_alloc | apply pw_below_drewN | apply below_drew1 | refine below_set ?_ GE101.out | refine below_set ?_ GE102.out) | exact HB.out)))); have n1_ := Aside0.mk (blk_below (g := gb101) (o := .cells #[.int .i64 a0_0, .slice A0_1 l0_1.length c0_1] 58 (0, 0)) (by (with_reducible repeat (first | refine blk_drewN ?_ _ | refine blk_drew ?_ | refine blk_alloc ?_ _)); exact BK101.out) hb); have n2_ := Aside0.mk (blk_below (g := gb102) (o := .cells #[.int .i64 0, .slice none 0 0] 58 (0, 0)) (by (with_reducible repeat (first | refine blk_drewN ?_ _ | refine blk_drew ?_ | refine blk_alloc ?_ _)); exact BK102.out) hb); have n3_ := Aside0.mk (below_step (by repeat (first | (with_reducible first | exact HB.out | apply below_alloc | apply pw_below_drewN | apply below_drew1 | refine below_set ?_ GE101.out | refine below_set ?_ GE102.out) | exact HB.out)) hb); clear BK101; clear BK102; clear HB; have HO108 := n0_; have BK101 := n1_; have BK102 := n2_; have HB := n3_; clear n0_ n1_ n2_ n3_; (try clear hb); (try clear hb2); (try clear hk); (try clear hi); (try clear ho0)) | ((with_reducible refine gate_dst (N := 11) rfl ?_); refine box_event ?hg (N := 11) ?hd (cs := #[.int .i64 0, .slice none 0 0]) (t := 58) ?hr ?_; (case hd => rfl); (case hg => rfl); (case hr => first | (go_simp; done) | (go_simp; rfl)); intro gb110 hg w15 hbox hb; have n0_ := Aside0.mk (Kd.R_below (by (with_reducible repeat (first | apply Kd.R_alloc | apply Kd.R_drewN | apply Kd.R_drew)); exact HO108.out) hb); have n1_ := Aside0.mk (blk_below (g := gb101) (o := .cells #[.int .i64 a0_0, .slice A0_1 l0_1.length c0_1] 58 (0, 0)) (by (with_reducible repeat (first | refine blk_drewN ?_ _ | refine blk_drew ?_ | refine blk_alloc ?_ _)); exact BK101.out) hb); have n2_ := Aside0.mk (blk_below (g := gb102) (o := .cells #[.int .i64 0, .slice none 0 0] 58 (0, 0)) (by (with_reducible repeat (first | refine blk_drewN ?_ _ | refine blk_drew ?_ | refine blk_alloc ?_ _)); exact BK102.out) hb); have n3_ := Aside0.mk (below_step (by repeat (first | (with_reducible first | exact HB.out | apply below_alloc | apply pw_below_drewN | apply below_drew1 | refine below_set ?_ GE101.out | refine below_set ?_ GE102.out) | exact HB.out)) hb); have n4_ := Aside0.mk (hbox); have n5_ := Aside0.mk ((by rw [hg]; exact (below_size (by repeat (first | (with_reducible first | exact HB.out | apply below_alloc | apply pw_below_drewN | apply below_drew1 | refine below_set ?_ GE101.out | refine below_set ?_ GE102.out) | exact HB.out))) : w.heap.size ≤ gb110)); have n6_ := Aside0.mk ((by rw [hg]; exact (below_size (by repeat (first | (with_reducible first | exact HB.out | apply below_alloc | apply pw_below_drewN | apply below_drew1 | refine below_set ?_ GE101.out | refine below_set ?_ GE102.out) | exact HB.out))) : w.heap.size ≤ gb110)); have n7_ := Aside0.mk ((by rw [hg]; exact Nat.ne_of_lt (blk_lt (g := gb101) (o := .cells #[.int .i64 a0_0, .slice A0_1 l0_1.length c0_1] 58 (0, 0)) (by (with_reducible repeat (first | refine blk_drewN ?_ _ | refine blk_drew ?_ | refine blk_alloc ?_ _)); exact BK101.out)) : gb101 ≠ gb110)); have n8_ := Aside0.mk ((by rw [hg]; exact Nat.ne_of_gt (blk_lt (g := gb101) (o := .cells #[.int .i64 a0_0, .slice A0_1 l0_1.length c0_1] 58 (0, 0)) (by (with_reducible repeat (first | refine blk_drewN ?_ _ | refine blk_drew ?_ | refine blk_alloc ?_ _)); exact BK101.out)) : gb110 ≠ gb101)); have n9_ := Aside0.mk ((by rw [hg]; exact Nat.ne_of_lt (blk_lt (g := gb102) (o := .cells #[.int .i64 0, .slice none 0 0] 58 (0, 0)) (by (with_reducible repeat (first | refine blk_drewN ?_ _ | refine blk_drew ?_ | refine blk_alloc ?_ _)); exact BK102.out)) : gb102 ≠ gb110)); have n10_ := Aside0.mk ((by rw [hg]; exact Nat.ne_of_gt (blk_lt (g := gb102) (o := .cells #[.int .i64 0, .slice none 0 0] 58 (0, 0)) (by (with_reducible repeat (first | refine blk_drewN ?_ _ | refine blk_drew ?_ | refine blk_alloc ?_ _)); exact BK102.out)) : gb110 ≠ gb102)); clear HO108; clear BK101; clear BK102; clear HB; have HO108 := n0_; have BK101 := n1_; have BK102 := n2_; have HB := n3_; have BK110 := n4_; have GW110 := n5_; have GE110 := n6_; have NB101_110 := n7_; have NB110_101 := n8_; have NB102_110 := n9_; have NB110_102 := n10_; clear n0_ n1_ n2_ n3_ n4_ n5_ n6_ n7_ n8_ n9_ n10_; clear hb hbox hg; have hnb16 := NB110_101.out; have hnc16 := NB101_110.out; have hnb17 := NB110_102.out; have hnc17 := NB102_110.out; have hcz18_0 : w15.cell? ⟨gb110, 0, none⟩ = some (.int .i64 0) := (blk_cell BK110.out 0).trans rfl; have hcz18_1 : w15.cell? ⟨gb110, 1, none⟩ = some (.slice none 0 0) := (blk_cell BK110.out 1).trans rfl; have hfz18_0 := blk_frozen BK110.out 0; have hfz18_1 := blk_frozen BK110.out 1; obtain ⟨Ao19, co19, eo19⟩ := Kd.R_slice HO108.out; subst eo19; have hcz20_0 : w15.cell? ⟨gb102, 0, none⟩ = some (.int .i64 0) := (blk_cell BK102.out 0).trans rfl; have hcz20_1 : w15.cell? ⟨gb102, 1, none⟩ = some (.slice none 0 0) := (blk_cell BK102.out 1).trans rfl; have hfz20_0 := blk_frozen BK102.out 0; have hfz20_1 := blk_frozen BK102.out 1))
   refine bodyPost_ret (results_ctt rfl _ _ gb102 58 #[.int .i64 t105, .slice Ao19 t106.length co19] (0, 0) _ rfl (by (with_reducible repeat (first | refine blk_drewN ?_ _ | refine blk_drew ?_ | refine blk_alloc ?_ _)); refine blk_put (cs := #[.int .i64 t105, .slice none 0 0]) ?_ 1 _ rfl; (with_reducible repeat (first | refine blk_drewN ?_ _ | refine blk_drew ?_ | refine blk_alloc ?_ _)); refine blk_put (cs := #[.int .i64 0, .slice none 0 0]) ?_ 0 _ rfl; (with_reducible repeat (first | refine blk_drewN ?_ _ | refine blk_drew ?_ | refine blk_alloc ?_ _)); refine blk_far ?_ NB102_110.out _; (with_reducible repeat (first | refine blk_drewN ?_ _ | refine blk_drew ?_ | refine blk_alloc ?_ _)); refine blk_far ?_ NB102_110.out _; (with_reducible repeat (first | refine blk_drewN ?_ _ | refine blk_drew ?_ | refine blk_alloc ?_ _)); exact BK102.out) Try.underlying58 rfl (by kernel_rfl)) rfl ?_
   exact ⟨_, by first | rfl | (simp [errW_none, errW_some] <;> rfl) | (simp [*, errW_none, errW_some] <;> rfl), by (with_reducible repeat (first | apply Kd.R_alloc | apply Kd.R_drewN | apply Kd.R_drew)); exact Kd.R_mono (Kd.R_far (p := ⟨gb102, 1, none⟩) (Kd.R_far (p := ⟨gb102, 0, none⟩) (Kd.R_far (p := ⟨gb110, 1, none⟩) (Kd.R_far (p := ⟨gb110, 0, none⟩) (Kd.R_types (Kd.R_types HO108.out BK110.out (by decide)) BK102.out (by decide)) (fun _ hk => hk.1.2) (.int .i64 t105)) (fun _ hk => hk.1.2) (.slice Ao19 t106.length co19)) (fun _ hk => hk.2) (.int .i64 t105)) (fun _ hk => hk.2) (.slice Ao19 t106.length co19)) (fun _ hk => trivial), by repeat (first | (with_reducible first | exact HB.out | apply below_alloc | apply pw_below_drewN | apply below_drew1 | refine below_set ?_ GE101.out | refine below_set ?_ GE102.out | refine below_set ?_ GE110.out) | exact HB.out)⟩
  ·rw [if_neg c7] at H
   have c7b0 : (t109 == 0) = false := beq_eq_false_iff_ne.mpr c7
   have c7b1 : (t109 != 0) = true := bne_iff_ne.mpr c7
   simp only [Option.some.injEq, Prod.mk.injEq] at H
   obtain ⟨rfl, rfl, rfl, rfl⟩ := H
   go_enter Try.func45, Try.ntmps45
   go_wp2_with (first | ((with_reducible refine gate_dst (N := 3) rfl ?_); refine box_event ?hg (N := 3) ?hd (cs := #[.int .i64 a0_0, .slice A0_1 l0_1.length c0_1]) (t := 58) ?hr ?_; (case hd => rfl); (case hg => rfl); (case hr => first | (go_simp; done) | (go_simp; rfl)); intro gb101 hg w21 hbox hb; have n0_ := Aside0.mk (below_step (by repeat (first | (with_reducible first | exact HB.out | apply below_alloc | apply pw_below_drewN | apply below_drew1) | exact HB.out)) hb); have n1_ := Aside0.mk (hbox); have n2_ := Aside0.mk ((by rw [hg]; exact (below_size (by repeat (first | (with_reducible first | exact HB.out | apply below_alloc | apply pw_below_drewN | apply below_drew1) | exact HB.out))) : w.heap.size ≤ gb101)); have n3_ := Aside0.mk ((by rw [hg]; exact (below_size (by repeat (first | (with_reducible first | exact HB.out | apply below_alloc | apply pw_below_drewN | apply below_drew1) | exact HB.out))) : w.heap.size ≤ gb101)); clear HB; have HB := n0_; have BK101 := n1_; have GW101 := n2_; have GE101 := n3_; clear n0_ n1_ n2_ n3_; clear hb hbox hg) | ((with_reducible refine gate_dst (N := 6) rfl ?_); refine box_event ?hg (N := 6) ?hd (cs := #[.int .i64 0, .slice none 0 0]) (t := 58) ?hr ?_; (case hd => rfl); (case hg => rfl); (case hr => first | (go_simp; done) | (go_simp; rfl)); intro gb102 hg w22 hbox hb; have n0_ := Aside0.mk (blk_below (g := gb101) (o := .cells #[.int .i64 a0_0, .slice A0_1 l0_1.length c0_1] 58 (0, 0)) (by (with_reducible repeat (first | refine blk_drewN ?_ _ | refine blk_drew ?_ | refine blk_alloc ?_ _)); exact BK101.out) hb); have n1_ := Aside0.mk (below_step (by repeat (first | (with_reducible first | exact HB.out | apply below_alloc | apply pw_below_drewN | apply below_drew1 | refine below_set ?_ GE101.out) | exact HB.out)) hb); have n2_ := Aside0.mk (hbox); have n3_ := Aside0.mk ((by rw [hg]; exact (below_size (by repeat (first | (with_reducible first | exact HB.out | apply below_alloc | apply pw_below_drewN | apply below_drew1 | refine below_set ?_ GE101.out) | exact HB.out))) : w.heap.size ≤ gb102)); have n4_ := Aside0.mk ((by rw [hg]; exact (below_size (by repeat (first | (with_reducible first | exact HB.out | apply below_alloc | apply pw_below_drewN | apply below_drew1 | refine below_set ?_ GE101.out) | exact HB.out))) : w.heap.size ≤ gb102)); have n5_ := Aside0.mk ((by rw [hg]; exact Nat.ne_of_lt (blk_lt (g := gb101) (o := .cells #[.int .i64 a0_0, .slice A0_1 l0_1.length c0_1] 58 (0, 0)) (by (with_reducible repeat (first | refine blk_drewN ?_ _ | refine blk_drew ?_ | refine blk_alloc ?_ _)); exact BK101.out)) : gb101 ≠ gb102)); have n6_ := Aside0.mk ((by rw [hg]; exact Nat.ne_of_gt (blk_lt (g := gb101) (o := .cells #[.int .i64 a0_0, .slice A0_1 l0_1.length c0_1] 58 (0, 0)) (by (with_reducible repeat (first | refine blk_drewN ?_ _ | refine blk_drew ?_ | refine blk_alloc ?_ _)); exact BK101.out)) : gb102 ≠ gb101)); clear BK101; clear HB; have BK101 := n0_; have HB := n1_; have BK102 := n2_; have GW102 := n3_; have GE102 := n4_; have NB101_102 := n5_; have NB102_101 := n6_; clear n0_ n1_ n2_ n3_ n4_ n5_ n6_; clear hb hbox hg; have hnb23 := NB101_102.out; have hnc23 := NB102_101.out; have hcz24_0 : w22.cell? ⟨gb101, 0, none⟩ = some (.int .i64 a0_0) := (blk_cell BK101.out 0).trans rfl; have hcz24_1 : w22.cell? ⟨gb101, 1, none⟩ = some (.slice A0_1 l0_1.length c0_1) := (blk_cell BK101.out 1).trans rfl; have hfz24_0 := blk_frozen BK101.out 0; have hfz24_1 := blk_frozen BK101.out 1) | ((with_reducible refine gate_callee (f := 42) rfl ?_); refine goesL_ (some 16) rfl rfl Try.func42 (by kernel_rfl) rfl #[.agg #[.int .i64 a0_0, .slice A0_1 l0_1.length c0_1], .int .i64 a1, .int .i64 a2] rfl (by (try simp only [List.map_toArray, List.map_cons, List.map_nil]); first | done | rfl | (simp only [List.length_drop, List.length_take]; rfl)) ?_; (with_reducible refine (free_Best.calls a0_0 _ _ l0_1 a1 a2 t103 t104 _ ?side1 ?side2 A4.out).mono ?_); (case side1 => repeat (first | exact (Kd.C_below HR0_1.out HB.out) | (with_reducible refine Kd.C_alloc ?_ _) | (with_reducible refine Kd.C_drewN ?_ _) | (with_reducible refine Kd.C_drew ?_))); (case side2 => exact HC0_1.out); rintro e w25 ⟨rfl, hb⟩; refine ⟨_, rfl, ?_⟩; have n0_ := Aside0.mk (blk_below (g := gb101) (o := .cells #[.int .i64 a0_0, .slice A0_1 l0_1.length c0_1] 58 (0, 0)) (by (with_reducible repeat (first | refine blk_drewN ?_ _ | refine blk_drew ?_ | refine blk_alloc ?_ _)); exact BK101.out) hb); have n1_ := Aside0.mk (blk_below (g := gb102) (o := .cells #[.int .i64 0, .slice none 0 0] 58 (0, 0)) (by (with_reducible repeat (first | refine blk_drewN ?_ _ | refine blk_drew ?_ | refine blk_alloc ?_ _)); exact BK102.out) hb); have n2_ := Aside0.mk (below_step (by repeat (first | (with_reducible first | exact HB.out | apply below_alloc | apply pw_below_drewN | apply below_drew1 | refine below_set ?_ GE101.out | refine below_set ?_ GE102.out) | exact HB.out)) hb); clear BK101; clear BK102; clear HB; have BK101 := n0_; have BK102 := n1_; have HB := n2_; clear n0_ n1_ n2_; (try clear hb); (try clear hb2); (try clear hk); (try clear hi); have hcz26_0 : w25.cell? ⟨gb101, 0, none⟩ = some (.int .i64 a0_0) := (blk_cell BK101.out 0).trans rfl; have hcz26_1 : w25.cell? ⟨gb101, 1, none⟩ = some (.slice A0_1 l0_1.length c0_1) := (blk_cell BK101.out 1).trans rfl; have hfz26_0 := blk_frozen BK101.out 0; have hfz26_1 := blk_frozen BK101.out 1) | ((with_reducible refine gate_callee (f := 46) rfl ?_); refine goesL_ (some 28) rfl rfl Try.func46 (by kernel_rfl) rfl #[.agg #[.int .i64 a0_0, .slice A0_1 l0_1.length c0_1], .agg #[.int .i64 t103, .int .i64 a1]] rfl (by (try simp only [List.map_toArray, List.map_cons, List.map_nil]); first | done | rfl | (simp only [List.length_drop, List.length_take]; rfl)) ?_; (with_reducible refine (free_Take.calls k a0_0 _ _ l0_1 t103 a1 t105 t106 t109 _ ?side1 ?side2 A6.out).mono ?_); (case side1 => repeat (first | exact (Kd.C_below HR0_1.out HB.out) | (with_reducible refine Kd.C_alloc ?_ _) | (with_reducible refine Kd.C_drewN ?_ _) | (with_reducible refine Kd.C_drew ?_))); (case side2 => exact HC0_1.out); rintro e w27 ⟨v107, rfl, ho0, hb⟩; refine ⟨_, rfl, ?_⟩; have n0_ := Aside0.mk (Kd.R_lower ho0 (below_size (by repeat (first | (with_reducible first | exact HB.out | apply below_alloc | apply pw_below_drewN | apply below_drew1 | refine below_set ?_ GE101.out | refine below_set ?_ GE102.out) | exact HB.out)))); have n1_ := Aside0.mk (blk_below (g := gb101) (o := .cells #[.int .i64 a0_0, .slice A0_1 l0_1.length c0_1] 58 (0, 0)) (by (with_reducible repeat (first | refine blk_drewN ?_ _ | refine blk_drew ?_ | refine blk_alloc ?_ _)); exact BK101.out) hb); have n2_ := Aside0.mk (blk_below (g := gb102) (o := .cells #[.int .i64 0, .slice none 0 0] 58 (0, 0)) (by (with_reducible repeat (first | refine blk_drewN ?_ _ | refine blk_drew ?_ | refine blk_alloc ?_ _)); exact BK102.out) hb); have n3_ := Aside0.mk (below_step (by repeat (first | (with_reducible first | exact HB.out | apply below_alloc | apply pw_below_drewN | apply below_drew1 | refine below_set ?_ GE101.out | refine below_set ?_ GE102.out) | exact HB.out)) hb); clear BK101; clear BK102; clear HB; have HO108 := n0_; have BK101 := n1_; have BK102 := n2_; have HB := n3_; clear n0_ n1_ n2_ n3_; (try clear hb); (try clear hb2); (try clear hk); (try clear hi); (try clear ho0)) | ((with_reducible refine gate_dst (N := 11) rfl ?_); refine box_event ?hg (N := 11) ?hd (cs := #[.int .i64 0, .slice none 0 0]) (t := 58) ?hr ?_; (case hd => rfl); (case hg => rfl); (case hr => first | (go_simp; done) | (go_simp; rfl)); intro gb110 hg w28 hbox hb; have n0_ := Aside0.mk (Kd.R_below (by (with_reducible repeat (first | apply Kd.R_alloc | apply Kd.R_drewN | apply Kd.R_drew)); exact HO108.out) hb); have n1_ := Aside0.mk (blk_below (g := gb101) (o := .cells #[.int .i64 a0_0, .slice A0_1 l0_1.length c0_1] 58 (0, 0)) (by (with_reducible repeat (first | refine blk_drewN ?_ _ | refine blk_drew ?_ | refine blk_alloc ?_ _)); exact BK101.out) hb); have n2_ := Aside0.mk (blk_below (g := gb102) (o := .cells #[.int .i64 0, .slice none 0 0] 58 (0, 0)) (by (with_reducible repeat (first | refine blk_drewN ?_ _ | refine blk_drew ?_ | refine blk_alloc ?_ _)); exact BK102.out) hb); have n3_ := Aside0.mk (below_step (by repeat (first | (with_reducible first | exact HB.out | apply below_alloc | apply pw_below_drewN | apply below_drew1 | refine below_set ?_ GE101.out | refine below_set ?_ GE102.out) | exact HB.out)) hb); have n4_ := Aside0.mk (hbox); have n5_ := Aside0.mk ((by rw [hg]; exact (below_size (by repeat (first | (with_reducible first | exact HB.out | apply below_alloc | apply pw_below_drewN | apply below_drew1 | refine below_set ?_ GE101.out | refine below_set ?_ GE102.out) | exact HB.out))) : w.heap.size ≤ gb110)); have n6_ := Aside0.mk ((by rw [hg]; exact (below_size (by repeat (first | (with_reducible first | exact HB.out | apply below_alloc | apply pw_below_drewN | apply below_drew1 | refine below_set ?_ GE101.out | refine below_set ?_ GE102.out) | exact HB.out))) : w.heap.size ≤ gb110)); have n7_ := Aside0.mk ((by rw [hg]; exact Nat.ne_of_lt (blk_lt (g := gb101) (o := .cells #[.int .i64 a0_0, .slice A0_1 l0_1.length c0_1] 58 (0, 0)) (by (with_reducible repeat (first | refine blk_drewN ?_ _ | refine blk_drew ?_ | refine blk_alloc ?_ _)); exact BK101.out)) : gb101 ≠ gb110)); have n8_ := Aside0.mk ((by rw [hg]; exact Nat.ne_of_gt (blk_lt (g := gb101) (o := .cells #[.int .i64 a0_0, .slice A0_1 l0_1.length c0_1] 58 (0, 0)) (by (with_reducible repeat (first | refine blk_drewN ?_ _ | refine blk_drew ?_ | refine blk_alloc ?_ _)); exact BK101.out)) : gb110 ≠ gb101)); have n9_ := Aside0.mk ((by rw [hg]; exact Nat.ne_of_lt (blk_lt (g := gb102) (o := .cells #[.int .i64 0, .slice none 0 0] 58 (0, 0)) (by (with_reducible repeat (first | refine blk_drewN ?_ _ | refine blk_drew ?_ | refine blk_alloc ?_ _)); exact BK102.out)) : gb102 ≠ gb110)); have n10_ := Aside0.mk ((by rw [hg]; exact Nat.ne_of_gt (blk_lt (g := gb102) (o := .cells #[.int .i64 0, .slice none 0 0] 58 (0, 0)) (by (with_reducible repeat (first | refine blk_drewN ?_ _ | refine blk_drew ?_ | refine blk_alloc ?_ _)); exact BK102.out)) : gb110 ≠ gb102)); clear HO108; clear BK101; clear BK102; clear HB; have HO108 := n0_; have BK101 := n1_; have BK102 := n2_; have HB := n3_; have BK110 := n4_; have GW110 := n5_; have GE110 := n6_; have NB101_110 := n7_; have NB110_101 := n8_; have NB102_110 := n9_; have NB110_102 := n10_; clear n0_ n1_ n2_ n3_ n4_ n5_ n6_ n7_ n8_ n9_ n10_; clear hb hbox hg; have hnb29 := NB110_101.out; have hnc29 := NB101_110.out; have hnb30 := NB110_102.out; have hnc30 := NB102_110.out; have hcz31_0 : w28.cell? ⟨gb110, 0, none⟩ = some (.int .i64 0) := (blk_cell BK110.out 0).trans rfl; have hcz31_1 : w28.cell? ⟨gb110, 1, none⟩ = some (.slice none 0 0) := (blk_cell BK110.out 1).trans rfl; have hfz31_0 := blk_frozen BK110.out 0; have hfz31_1 := blk_frozen BK110.out 1; obtain ⟨Ao32, co32, eo32⟩ := Kd.R_slice HO108.out; subst eo32; have hcz33_0 : w28.cell? ⟨gb102, 0, none⟩ = some (.int .i64 0) := (blk_cell BK102.out 0).trans rfl; have hcz33_1 : w28.cell? ⟨gb102, 1, none⟩ = some (.slice none 0 0) := (blk_cell BK102.out 1).trans rfl; have hfz33_0 := blk_frozen BK102.out 0; have hfz33_1 := blk_frozen BK102.out 1))
   refine bodyPost_ret (results_ctt rfl _ _ gb102 58 #[.int .i64 0, .slice none 0 0] (0, 0) _ rfl (by (with_reducible repeat (first | refine blk_drewN ?_ _ | refine blk_drew ?_ | refine blk_alloc ?_ _)); refine blk_put (cs := #[.int .i64 0, .slice none 0 0]) ?_ 1 _ rfl; (with_reducible repeat (first | refine blk_drewN ?_ _ | refine blk_drew ?_ | refine blk_alloc ?_ _)); refine blk_put (cs := #[.int .i64 0, .slice none 0 0]) ?_ 0 _ rfl; (with_reducible repeat (first | refine blk_drewN ?_ _ | refine blk_drew ?_ | refine blk_alloc ?_ _)); refine blk_far ?_ NB102_110.out _; (with_reducible repeat (first | refine blk_drewN ?_ _ | refine blk_drew ?_ | refine blk_alloc ?_ _)); refine blk_far ?_ NB102_110.out _; (with_reducible repeat (first | refine blk_drewN ?_ _ | refine blk_drew ?_ | refine blk_alloc ?_ _)); exact BK102.out) Try.underlying58 rfl (by kernel_rfl)) rfl ?_
   exact ⟨_, by first | rfl | (simp [errW_none, errW_some] <;> rfl) | (simp [*, errW_none, errW_some] <;> rfl), by first | exact Kd.R_nil _ _ _ _ _ | exact Kd.N_nil _ _ _ _ _ | exact Kd.V_nil _ _ _ _ _ | exact Kd.Q_nil _ _ _ _ _ | exact Kd.S_nil _ _ _ _ _, by repeat (first | (with_reducible first | exact HB.out | apply below_alloc | apply pw_below_drewN | apply below_drew1 | refine below_set ?_ GE101.out | refine below_set ?_ GE102.out | refine below_set ?_ GE110.out) | exact HB.out)⟩
 ·rw [if_neg c5] at H
  have c5b0 : (t104 == 0) = false := beq_eq_false_iff_ne.mpr c5
  have c5b1 : (t104 != 0) = true := bne_iff_ne.mpr c5
  simp only [Option.some.injEq, Prod.mk.injEq] at H
  obtain ⟨rfl, rfl, rfl, rfl⟩ := H
  go_enter Try.func45, Try.ntmps45
  go_wp2_with (first | ((with_reducible refine gate_dst (N := 3) rfl ?_); refine box_event ?hg (N := 3) ?hd (cs := #[.int .i64 a0_0, .slice A0_1 l0_1.length c0_1]) (t := 58) ?hr ?_; (case hd => rfl); (case hg => rfl); (case hr => first | (go_simp; done) | (go_simp; rfl)); intro gb101 hg w34 hbox hb; have n0_ := Aside0.mk (below_step (by repeat (first | (with_reducible first | exact HB.out | apply below_alloc | apply pw_below_drewN | apply below_drew1) | exact HB.out)) hb); have n1_ := Aside0.mk (hbox); have n2_ := Aside0.mk ((by rw [hg]; exact (below_size (by repeat (first | (with_reducible first | exact HB.out | apply below_alloc | apply pw_below_drewN | apply below_drew1) | exact HB.out))) : w.heap.size ≤ gb101)); have n3_ := Aside0.mk ((by rw [hg]; exact (below_size (by repeat (first | (with_reducible first | exact HB.out | apply below_alloc | apply pw_below_drewN | apply below_drew1) | exact HB.out))) : w.heap.size ≤ gb101)); clear HB; have HB := n0_; have BK101 := n1_; have GW101 := n2_; have GE101 := n3_; clear n0_ n1_ n2_ n3_; clear hb hbox hg) | ((with_reducible refine gate_dst (N := 6) rfl ?_); refine box_event ?hg (N := 6) ?hd (cs := #[.int .i64 0, .slice none 0 0]) (t := 58) ?hr ?_; (case hd => rfl); (case hg => rfl); (case hr => first | (go_simp; done) | (go_simp; rfl)); intro gb102 hg w35 hbox hb; have n0_ := Aside0.mk (blk_below (g := gb101) (o := .cells #[.int .i64 a0_0, .slice A0_1 l0_1.length c0_1] 58 (0, 0)) (by (with_reducible repeat (first | refine blk_drewN ?_ _ | refine blk_drew ?_ | refine blk_alloc ?_ _)); exact BK101.out) hb); have n1_ := Aside0.mk (below_step (by repeat (first | (with_reducible first | exact HB.out | apply below_alloc | apply pw_below_drewN | apply below_drew1 | refine below_set ?_ GE101.out) | exact HB.out)) hb); have n2_ := Aside0.mk (hbox); have n3_ := Aside0.mk ((by rw [hg]; exact (below_size (by repeat (first | (with_reducible first | exact HB.out | apply below_alloc | apply pw_below_drewN | apply below_drew1 | refine below_set ?_ GE101.out) | exact HB.out))) : w.heap.size ≤ gb102)); have n4_ := Aside0.mk ((by rw [hg]; exact (below_size (by repeat (first | (with_reducible first | exact HB.out | apply below_alloc | apply pw_below_drewN | apply below_drew1 | refine below_set ?_ GE101.out) | exact HB.out))) : w.heap.size ≤ gb102)); have n5_ := Aside0.mk ((by rw [hg]; exact Nat.ne_of_lt (blk_lt (g := gb101) (o := .cells #[.int .i64 a0_0, .slice A0_1 l0_1.length c0_1] 58 (0, 0)) (by (with_reducible repeat (first | refine blk_drewN ?_ _ | refine blk_drew ?_ | refine blk_alloc ?_ _)); exact BK101.out)) : gb101 ≠ gb102)); have n6_ := Aside0.mk ((by rw [hg]; exact Nat.ne_of_gt (blk_lt (g := gb101) (o := .cells #[.int .i64 a0_0, .slice A0_1 l0_1.length c0_1] 58 (0, 0)) (by (with_reducible repeat (first | refine blk_drewN ?_ _ | refine blk_drew ?_ | refine blk_alloc ?_ _)); exact BK101.out)) : gb102 ≠ gb101)); clear BK101; clear HB; have BK101 := n0_; have HB := n1_; have BK102 := n2_; have GW102 := n3_; have GE102 := n4_; have NB101_102 := n5_; have NB102_101 := n6_; clear n0_ n1_ n2_ n3_ n4_ n5_ n6_; clear hb hbox hg; have hnb36 := NB101_102.out; have hnc36 := NB102_101.out; have hcz37_0 : w35.cell? ⟨gb101, 0, none⟩ = some (.int .i64 a0_0) := (blk_cell BK101.out 0).trans rfl; have hcz37_1 : w35.cell? ⟨gb101, 1, none⟩ = some (.slice A0_1 l0_1.length c0_1) := (blk_cell BK101.out 1).trans rfl; have hfz37_0 := blk_frozen BK101.out 0; have hfz37_1 := blk_frozen BK101.out 1) | ((with_reducible refine gate_callee (f := 42) rfl ?_); refine goesL_ (some 16) rfl rfl Try.func42 (by kernel_rfl) rfl #[.agg #[.int .i64 a0_0, .slice A0_1 l0_1.length c0_1], .int .i64 a1, .int .i64 a2] rfl (by (try simp only [List.map_toArray, List.map_cons, List.map_nil]); first | done | rfl | (simp only [List.length_drop, List.length_take]; rfl)) ?_; (with_reducible refine (free_Best.calls a0_0 _ _ l0_1 a1 a2 t103 t104 _ ?side1 ?side2 A4.out).mono ?_); (case side1 => repeat (first | exact (Kd.C_below HR0_1.out HB.out) | (with_reducible refine Kd.C_alloc ?_ _) | (with_reducible refine Kd.C_drewN ?_ _) | (with_reducible refine Kd.C_drew ?_))); (case side2 => exact HC0_1.out); rintro e w38 ⟨rfl, hb⟩; refine ⟨_, rfl, ?_⟩; have n0_ := Aside0.mk (blk_below (g := gb101) (o := .cells #[.int .i64 a0_0, .slice A0_1 l0_1.length c0_1] 58 (0, 0)) (by (with_reducible repeat (first | refine blk_drewN ?_ _ | refine blk_drew ?_ | refine blk_alloc ?_ _)); exact BK101.out) hb); have n1_ := Aside0.mk (blk_below (g := gb102) (o := .cells #[.int .i64 0, .slice none 0 0] 58 (0, 0)) (by (with_reducible repeat (first | refine blk_drewN ?_ _ | refine blk_drew ?_ | refine blk_alloc ?_ _)); exact BK102.out) hb); have n2_ := Aside0.mk (below_step (by repeat (first | (with_reducible first | exact HB.out | apply below_alloc | apply pw_below_drewN | apply below_drew1 | refine below_set ?_ GE101.out | refine below_set ?_ GE102.out) | exact HB.out)) hb); clear BK101; clear BK102; clear HB; have BK101 := n0_; have BK102 := n1_; have HB := n2_; clear n0_ n1_ n2_; (try clear hb); (try clear hb2); (try clear hk); (try clear hi); have hcz39_0 : w38.cell? ⟨gb102, 0, none⟩ = some (.int .i64 0) := (blk_cell BK102.out 0).trans rfl; have hcz39_1 : w38.cell? ⟨gb102, 1, none⟩ = some (.slice none 0 0) := (blk_cell BK102.out 1).trans rfl; have hfz39_0 := blk_frozen BK102.out 0; have hfz39_1 := blk_frozen BK102.out 1))
  refine bodyPost_ret (results_ctt rfl _ _ gb102 58 #[.int .i64 0, .slice none 0 0] (0, 0) _ rfl (by (with_reducible repeat (first | refine blk_drewN ?_ _ | refine blk_drew ?_ | refine blk_alloc ?_ _)); refine blk_put (cs := #[.int .i64 0, .slice none 0 0]) ?_ 1 _ rfl; (with_reducible repeat (first | refine blk_drewN ?_ _ | refine blk_drew ?_ | refine blk_alloc ?_ _)); refine blk_put (cs := #[.int .i64 0, .slice none 0 0]) ?_ 0 _ rfl; (with_reducible repeat (first | refine blk_drewN ?_ _ | refine blk_drew ?_ | refine blk_alloc ?_ _)); exact BK102.out) Try.underlying58 rfl (by kernel_rfl)) rfl ?_
  exact ⟨_, by first | rfl | (simp [errW_none, errW_some] <;> rfl) | (simp [*, errW_none, errW_some] <;> rfl), by first | exact Kd.R_nil _ _ _ _ _ | exact Kd.N_nil _ _ _ _ _ | exact Kd.V_nil _ _ _ _ _ | exact Kd.Q_nil _ _ _ _ _ | exact Kd.S_nil _ _ _ _ _, by repeat (first | (with_reducible first | exact HB.out | apply below_alloc | apply pw_below_drewN | apply below_drew1 | refine below_set ?_ GE101.out | refine below_set ?_ GE102.out) | exact HB.out)⟩
end Go.Proofs.Ytkkfkdncddbaeaa.Fn
