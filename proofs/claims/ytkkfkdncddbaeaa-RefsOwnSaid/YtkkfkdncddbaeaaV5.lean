/- Part 5 of the walk: printed by programs of this session (by way of the kit's print) or told by hand. -/
import Derived.Test.YtkkfkdncddbaeaaV4
import Derived.Shelf.SlSortCmp.WholeK
import Derived.Shelf.SlSortCmp.NoneTotal
import Derived.Laws.CopyRow
import Derived.Lib.AppendZerosOnto
import Derived.Laws.Externs
import Derived.Lib.Overlaps
import Derived.Shelf.Spec.SlicesInsert
import Derived.Sort.LotD2
import Derived.Shelf.SlicesQ.IndexFunc
namespace Go.Proofs.Ytkkfkdncddbaeaa.Fn
open Go.RowKit Go.Proofs.YtkkfkdncddbaeaaW.PrintWords Go.Proofs.YtkkfkdncddbaeaaW.PrintLast Go.Proofs.YtkkfkdncddbaeaaW.PrintMore
attribute [local go_sem] max2_int min2_int max_two min_two max_three min_three max_four min_four
set_option linter.unusedVariables false
set_option linter.unusedSimpArgs false
structure Flat {α : Type} (d : Kd α) (enc : α → List Value) : Prop where
  len : ∀ x, (enc x).length = d.sz
  pos : 0 < d.sz
  one : ∀ x, ∀ v ∈ enc x, v.oneCell' = true
  openM : ∀ {w : World} {base : Nat} {ok : Nat → Prop} {x : α} {cs : List Value}, d.M w base ok x cs → cs = enc x
  mkM : ∀ (w : World) (base : Nat) (ok : Nat → Prop) (x : α), d.M w base ok x (enc x)
def Lies {α : Type} (enc : α → List Value) (k e : Nat) (w : World) (g cap : Nat) (xs : List α) : Prop :=
  ∃ cur : Array Value, w.heap[g]? = some (.cells cur e (0, 0)) ∧ cur.size = cap * k ∧ xs.length ≤ cap ∧ cap ≤ maxLen ∧
    ∀ j x, xs[j]? = some x → ∀ i v, (enc x)[i]? = some v → cur[j * k + i]? = some v
section
variable {α : Type} {d : Kd α} {enc : α → List Value} {e : Nat} {w : World} {base : Nat} {ok : Nat → Prop} {v : Value} {xs : List α}
theorem R_lies (F : Flat d enc) (h : d.R e w base ok v xs) : (v = .slice none 0 0 ∧ xs = []) ∨ ∃ g cap, v = .slice (some ⟨g, 0, none⟩) xs.length cap ∧ base ≤ g ∧ ok g ∧ Lies enc d.sz e w g cap xs := by
  obtain ⟨hok, inner, ⟨hlen, hown⟩, hr⟩ := h
  rcases hown with ⟨h1, h2⟩ | ⟨g, cap, cur, h1, hb, hh, h2, h3, h4, h5⟩
  · exact .inl ⟨h1, List.eq_nil_of_length_eq_zero h2⟩
  · subst h1
    refine .inr ⟨g, cap, rfl, hb, hok g rfl, cur, hh, h4, h2, h3, fun j x hj i u hu => ?_⟩
    have h6 := F.openM (hr.2 j x hj)
    have hi : i < d.sz := by
      have := (List.getElem?_eq_some_iff.1 hu).1
      rw [F.len] at this
      exact this
    rw [← h6, List.getElem?_take_of_lt hi, List.getElem?_drop, ← h5] at hu
    have h7 := (List.getElem?_eq_some_iff.1 hu).1
    rw [List.length_take] at h7
    rw [List.getElem?_take_of_lt (by omega), Array.getElem?_toList] at hu
    exact hu
theorem R_of_lies (F : Flat d enc) {g cap : Nat} (hb : base ≤ g) (hg : ok g) (h : Lies enc d.sz e w g cap xs) : d.R e w base ok (.slice (some ⟨g, 0, none⟩) xs.length cap) xs := by
  obtain ⟨cur, hh, h1, h2, h3, h4⟩ := h
  have hle : xs.length * d.sz ≤ cur.size := by rw [h1]; exact Nat.mul_le_mul_right _ h2
  refine ⟨fun k hk => ?_, cur.toList.take (xs.length * d.sz), ⟨?_, .inr ⟨g, cap, cur, rfl, hb, hh, h2, h3, h1, rfl⟩⟩, ?_, fun j p hj => ?_⟩
  · have : g = k := by simpa [Value.ownBlock] using hk
    rw [← this]; exact hg
  · rw [List.length_take, Array.length_toList]; exact Nat.min_eq_left hle
  · rw [List.length_take, Array.length_toList]; exact Nat.min_eq_left hle
  · have hjl : j < xs.length := (List.getElem?_eq_some_iff.1 hj).1
    have he : ((cur.toList.take (xs.length * d.sz)).drop (j * d.sz)).take d.sz = enc p := by
      apply List.ext_getElem?
      intro i
      by_cases hi : i < d.sz
      · have hm : j * d.sz + i < xs.length * d.sz := by
          have : (j + 1) * d.sz ≤ xs.length * d.sz := Nat.mul_le_mul_right _ hjl
          rw [Nat.add_mul, Nat.one_mul] at this
          omega
        rw [List.getElem?_take_of_lt hi, List.getElem?_drop, List.getElem?_take_of_lt hm, Array.getElem?_toList]
        have hl : i < (enc p).length := by rw [F.len]; exact hi
        rw [List.getElem?_eq_getElem hl]
        exact h4 j p hj i _ (List.getElem?_eq_getElem hl)
      · rw [List.getElem?_eq_none (by rw [List.length_take]; omega), List.getElem?_eq_none (by rw [F.len]; omega)]
    rw [he]
    exact F.mkM _ _ _ _
theorem Lies.block {k g cap : Nat} (h : Lies enc k e w g cap xs) : g < w.heap.size := by
  obtain ⟨cur, hh, _⟩ := h
  exact blk_lt hh
theorem Lies.far {k g cap : Nat} {w1 : World} (h : Lies enc k e w g cap xs) (hk : w1.heap[g]? = w.heap[g]?) : Lies enc k e w1 g cap xs := by
  obtain ⟨cur, hh, h2⟩ := h
  exact ⟨cur, hk.trans hh, h2⟩
open Go.Sort Go.Proofs in
theorem Lies.holds [Inhabited α] {k g cap : Nat} (hk : ∀ x, (enc x).length = k) (h0 : 0 < k) (h : Lies enc k e w g cap xs) : HoldsK enc k w g 0 xs.toArray := by
  obtain ⟨cur, hh, h1, h2, h3, h4⟩ := h
  intro j hj
  rw [size_flatK] at hj
  have hjk : j / k < xs.length := by
    rw [Nat.div_lt_iff_lt_mul h0]
    simpa using hj
  have hm : j % k < k := Nat.mod_lt _ h0
  have e1 : xs[j / k]? = some xs[j / k] := List.getElem?_eq_getElem hjk
  have hl : j % k < (enc xs[j / k]).length := by rw [hk]; exact hm
  have h5 := h4 (j / k) _ e1 (j % k) _ (List.getElem?_eq_getElem hl)
  have e2 : j / k * k + j % k = j := Nat.div_add_mod' j k
  rw [e2] at h5
  refine ⟨?_, ?_⟩
  · rw [Nat.zero_add, blk_cell hh, h5, get_flatK enc k _ j hj]
    have e3 : xs.toArray[j / k]! = xs[j / k] := by rw [getElem!_pos xs.toArray (j / k) (by simpa using hjk)]; simp
    rw [e3, getElem!_pos (enc xs[j / k]) (j % k) hl]
    rfl
  · exact blk_frozen hh _
open Go.Sort Go.Proofs in
theorem sorted_heap [Inhabited α] (k g n : Nat) (d' : Array α) (os : Array Obj) (i : Nat) (hi : i < w.heap.size) : (sortWorldK enc k w g 0 n d' os).heap[i]? = if g = i then (w.heap[i]?).map (onCells (putCells id 0 (flatK enc k d'))) else w.heap[i]? := by
  unfold sortWorldK grow putRowK putRow mapBlock Sort.ahead
  dsimp only
  rw [Array.getElem?_append_left (by rw [Array.size_modify]; exact hi), Array.getElem?_modify]
open Go.Sort Go.Proofs in
theorem Lies.sorted [Inhabited α] {k g cap n : Nat} {d' : Array α} {os : Array Obj} (hk : ∀ x, (enc x).length = k) (h0 : 0 < k) (h : Lies enc k e w g cap xs) (hd : d'.size = xs.length) : Lies enc k e (sortWorldK enc k w g 0 n d' os) g cap d'.toList := by
  have hg := h.block
  obtain ⟨cur, hh, h1, h2, h3, h4⟩ := h
  refine ⟨putCells id 0 (flatK enc k d') cur, ?_, ?_, by simpa [hd] using h2, h3, fun j x hj i u hu => ?_⟩
  · rw [sorted_heap k g n d' os g hg, if_pos rfl, hh]
    rfl
  · unfold putCells
    rw [Array.size_mapIdx, h1]
  · have hjl : j < d'.size := by
      have := (List.getElem?_eq_some_iff.1 hj).1
      simpa using this
    have hi : i < k := by
      have := (List.getElem?_eq_some_iff.1 hu).1
      rw [hk] at this
      exact this
    have hlt : j * k + i < d'.size * k := by
      have : (j + 1) * k ≤ d'.size * k := Nat.mul_le_mul_right _ hjl
      rw [Nat.add_mul, Nat.one_mul] at this
      omega
    have hc : j * k + i < cur.size := by
      rw [h1]
      have : d'.size * k ≤ cap * k := Nat.mul_le_mul_right _ (by omega)
      omega
    have e1 : (j * k + i) / k = j := by rw [Nat.mul_comm, Nat.mul_add_div h0, Nat.div_eq_of_lt hi, Nat.add_zero]
    have e2 : (j * k + i) % k = i := by rw [Nat.mul_comm, Nat.mul_add_mod, Nat.mod_eq_of_lt hi]
    unfold putCells
    rw [Array.getElem?_mapIdx, Array.getElem?_eq_getElem hc, Option.map_some, if_pos ⟨Nat.zero_le _, by rw [size_flatK]; omega⟩, Nat.sub_zero, get_flatK enc k d' _ hlt, e1, e2]
    have e3 : d'[j]! = x := by
      rw [getElem!_pos d' j hjl]
      rw [Array.getElem?_toList, Array.getElem?_eq_getElem hjl] at hj
      exact Option.some.inj hj
    have hil : i < (enc x).length := by rw [hk]; exact hi
    rw [e3, getElem!_pos (enc x) i hil]
    rw [List.getElem?_eq_getElem hil] at hu
    exact hu
open Go.Sort Go.Proofs in
theorem sorted_below [Inhabited α] {k g n : Nat} {d' : Array α} {os : Array Obj} {w0 : World} (h : Go.RowKit.Below base w0 w) (hg : base ≤ g) (hb : base ≤ w.heap.size) : Go.RowKit.Below base w0 (sortWorldK enc k w g 0 n d' os) := by
  refine ⟨h.os, h.tape, h.output, Nat.le_trans h.size ?_, fun i hi => ?_⟩
  · exact size_sortWorldK_c enc k w g 0 n d' os
  · rw [sorted_heap k g n d' os i (by omega), if_neg (by omega)]
    exact h.block i hi
open Go.Sort Go.Proofs in
theorem sort_list [Inhabited α] {lt : α → α → Bool} {xs : List α} {d' : Array α} (hp : PermIn 0 xs.toArray.size xs.toArray d') (hs : SortedIn lt 0 xs.toArray.size d') : d'.size = xs.length ∧ d'.toList.Perm xs ∧ d'.toList.Pairwise fun a b => lt b a = false := by
  obtain ⟨h1, _, h2⟩ := hp
  have hsz : d'.size = xs.length := by simpa using h1
  have e1 : d'.extract 0 xs.toArray.size = d' := by rw [← h1]; exact Array.extract_size
  have e2 : xs.toArray.extract 0 xs.toArray.size = xs.toArray := Array.extract_size
  rw [e1, e2] at h2
  refine ⟨hsz, by simpa using h2, ?_⟩
  rw [List.pairwise_iff_getElem]
  intro i j hi hj hij
  have := hs i j (Nat.zero_le _) hij (by rw [← h1]; simpa using hj)
  rw [getElem!_pos d' j (by simpa using hj), getElem!_pos d' i (by simpa using hi)] at this
  simpa using this
end
def sortRef_ren : Go.Shelf.Ren := ⟨fun | 6 => 122 | 15 => 147 | 14 => 149 | 28 => 169 | 29 => 170 | 20 => 159 | 21 => 171 | 22 => 172 | 23 => 173 | 24 => 174 | 25 => 175 | 26 => 176 | 27 => 177 | 46 => 194 | 47 => 190 | 48 => 191 | 49 => 195 | 50 => 196 | 57 => 204 | n => n, fun | 22 => 80 | 24 => 88 | 25 => 164 | 3 => 3 | 39 => 183 | 0 => 0 | 53 => 213 | 55 => 215 | 4 => 4 | 46 => 207 | 45 => 206 | 50 => 147 | 5 => 5 | 9 => 9 | 66 => 226 | 70 => 230 | 76 => 238 | 77 => 50 | n => n, fun | n => n⟩
theorem sortRef : Go.Proofs.SlLaysF0.n6 Try.prog sortRef_ren := {
  mixed := by kernel_rfl,
  f6 := ⟨Try.f122.name, by decide, Try.func122.trans (congrArg some (by kernel_rfl))⟩,
  f14 := ⟨Try.f149.name, by decide, Try.func149.trans (congrArg some (by kernel_rfl))⟩,
  f15 := Try.func147.trans (congrArg some (by kernel_rfl)),
  f20 := ⟨Try.f159.name, by decide, Try.func159.trans (congrArg some (by kernel_rfl))⟩,
  f21 := ⟨Try.f171.name, by decide, Try.func171.trans (congrArg some (by kernel_rfl))⟩,
  f22 := ⟨Try.f172.name, by decide, Try.func172.trans (congrArg some (by kernel_rfl))⟩,
  f23 := ⟨Try.f173.name, by decide, Try.func173.trans (congrArg some (by kernel_rfl))⟩,
  f24 := ⟨Try.f174.name, by decide, Try.func174.trans (congrArg some (by kernel_rfl))⟩,
  f25 := ⟨Try.f175.name, by decide, Try.func175.trans (congrArg some (by kernel_rfl))⟩,
  f26 := ⟨Try.f176.name, by decide, Try.func176.trans (congrArg some (by kernel_rfl))⟩,
  f27 := ⟨Try.f177.name, by decide, Try.func177.trans (congrArg some (by kernel_rfl))⟩,
  f28 := Try.func169.trans (congrArg some (by kernel_rfl)),
  f29 := Try.func170.trans (congrArg some (by kernel_rfl)),
  f46 := ⟨Try.f194.name, by decide, Try.func194.trans (congrArg some (by kernel_rfl))⟩,
  f47 := Try.func190.trans (congrArg some (by kernel_rfl)),
  f48 := Try.func191.trans (congrArg some (by kernel_rfl)),
  f49 := ⟨Try.f195.name, by decide, Try.func195.trans (congrArg some (by kernel_rfl))⟩,
  f50 := ⟨Try.f196.name, by decide, Try.func196.trans (congrArg some (by kernel_rfl))⟩,
  f57 := ⟨Try.f204.name, by decide, Try.func204.trans (congrArg some (by kernel_rfl))⟩,
  t0 := Try.underlying0,
  a0 := Try.isAgg0,
  z0 := Try.sizeOf0,
  v0 := Try.zeroValue0,
  t3 := Try.underlying3,
  a3 := Try.isAgg3,
  z3 := Try.sizeOf3,
  v3 := Try.zeroValue3,
  t4 := Try.underlying4,
  a4 := Try.isAgg4,
  z4 := Try.sizeOf4,
  v4 := Try.zeroValue4,
  t5 := Try.underlying5,
  a5 := Try.isAgg5,
  z5 := Try.sizeOf5,
  v5 := Try.zeroValue5,
  t9 := Try.underlying9,
  a9 := Try.isAgg9,
  z9 := Try.sizeOf9,
  v9 := Try.zeroValue9,
  t22 := Try.underlying80,
  a22 := Try.isAgg80,
  z22 := Try.sizeOf80,
  v22 := Try.zeroValue80,
  t25 := Try.underlying164,
  a25 := Try.isAgg164,
  z25 := Try.sizeOf164,
  v25 := Try.zeroValue164,
  t39 := Try.underlying183,
  a39 := Try.isAgg183,
  z39 := Try.sizeOf183,
  v39 := Try.zeroValue183,
  t45 := Try.underlying206,
  a45 := Try.isAgg206,
  z45 := Try.sizeOf206,
  v45 := Try.zeroValue206,
  t46 := Try.underlying207,
  a46 := Try.isAgg207,
  z46 := Try.sizeOf207,
  v46 := Try.zeroValue207,
  t50 := Try.underlying147,
  a50 := Try.isAgg147,
  z50 := Try.sizeOf147,
  v50 := Try.zeroValue147,
  t53 := Try.underlying213,
  a53 := Try.isAgg213,
  z53 := Try.sizeOf213,
  v53 := Try.zeroValue213,
  t55 := Try.underlying215,
  a55 := Try.isAgg215,
  z55 := Try.sizeOf215,
  v55 := Try.zeroValue215,
  t66 := Try.underlying226,
  a66 := Try.isAgg226,
  z66 := Try.sizeOf226,
  v66 := Try.zeroValue226,
  t70 := Try.underlying230,
  a70 := Try.isAgg230,
  z70 := Try.sizeOf230,
  v70 := Try.zeroValue230,
  t76 := Try.underlying238,
  a76 := Try.isAgg238,
  z76 := Try.sizeOf238,
  v76 := Try.zeroValue238,
  t77 := Try.underlying50,
  a77 := Try.isAgg50,
  z77 := Try.sizeOf50,
  v77 := Try.zeroValue50 }
instance inhabRef : Inhabited S88 := ⟨z88⟩
def encRef (x : S88) : List Value := [.int .i64 x.f0, .int .i64 x.f1, .int .i64 x.f2, .int .i64 x.f3]
theorem flatRef : Flat k88 encRef :=
  ⟨fun _ => rfl, by decide, fun x v hv => by
    simp only [encRef, List.mem_cons, List.not_mem_nil, or_false] at hv
    rcases hv with rfl | rfl | rfl | rfl <;> rfl, fun h => k88_openM h, fun w base ok x => k88_mkM w base ok x⟩
def cmp3 (a b : Int) : Int := if a < b then -1 else if b < a then 1 else 0
theorem cmp3_f (a b : Int) : cmp_Compare_int.f a b = some (cmp3 a b) := by
  unfold cmp_Compare_int.f cmp_isNaN_int.f
  simp only [bne_self_eq_false, Option.bind_some, Bool.false_eq_true, if_false]
  unfold cmp3
  split
  · rfl
  · split
    · rfl
    · rfl
def cmpRef (x y : S88) : Int := if cmp3 x.f0 y.f0 ≠ 0 then cmp3 x.f0 y.f0 else if cmp3 x.f2 y.f2 ≠ 0 then cmp3 x.f2 y.f2 else cmp3 x.f3 y.f3
theorem cmpRef_lt (x y : S88) : cmpRef x y < 0 ↔ Flag.ltR (toR x) (toR y) := by
  unfold cmpRef cmp3 Flag.ltR toR
  dsimp only
  repeat' split
  all_goals omega
open Go.Sort Go.Proofs in
theorem lt_cmpRef (x y : S88) : ltOf cmpRef x y = decide (Flag.ltR (toR x) (toR y)) := by
  unfold ltOf
  rw [decide_eq_decide]
  exact cmpRef_lt x y
open Go.Sort Go.Proofs in
theorem swo_cmpRef : SWO (ltOf cmpRef) where
  irrefl x := by rw [lt_cmpRef]; exact decide_eq_false (by unfold Flag.ltR; omega)
  trans x y z h1 h2 := by
    rw [lt_cmpRef] at *
    have h1 := of_decide_eq_true h1
    have h2 := of_decide_eq_true h2
    exact decide_eq_true (by unfold Flag.ltR at *; omega)
  ntrans x y z h1 h2 := by
    rw [lt_cmpRef] at *
    have h1 := of_decide_eq_false h1
    have h2 := of_decide_eq_false h2
    exact decide_eq_false (by unfold Flag.ltR at *; omega)
theorem or_f (a b c : Int) : cmp_Or_int.f 4 [a, b, c] = some (if a ≠ 0 then a else if b ≠ 0 then b else c) := by
  show cmp_Or_int.l0 4 0 [a, b, c] 3 0 = _
  have e1 : wrap64 ((0 : Int) + 1) = 1 := by unfold wrap64; omega
  have e2 : wrap64 ((1 : Int) + 1) = 2 := by unfold wrap64; omega
  have e3 : wrap64 ((2 : Int) + 1) = 3 := by unfold wrap64; omega
  have l3 : (([a, b, c] : List Int).length : Int) = 3 := rfl
  rw [cmp_Or_int.l0, if_pos (by decide), if_pos (by decide), l3, if_pos (by decide), show rd [a, b, c] 0 = a from rfl, e1]
  by_cases ha : a = 0
  · rw [if_pos ha, if_neg (fun h => h ha), cmp_Or_int.l0, if_pos (by decide), if_pos (by decide), l3, if_pos (by decide), show rd [a, b, c] 1 = b from rfl, e2]
    by_cases hb : b = 0
    · rw [if_pos hb, if_neg (fun h => h hb), cmp_Or_int.l0, if_pos (by decide), if_pos (by decide), l3, if_pos (by decide), show rd [a, b, c] 2 = c from rfl, e3]
      by_cases hc : c = 0
      · rw [if_pos hc, cmp_Or_int.l0, if_neg (by decide), hc]
      · rw [if_neg hc]
    · rw [if_neg hb, if_pos hb]
  · rw [if_neg ha, if_pos ha]
open Go.Proofs Go.Sort in
def Gw (w W : World) : Prop := ∃ q os', W = grow (w.drewN q) os'
open Go.Proofs Go.Sort in
theorem Gw.alloc {w W : World} (h : Gw w W) (o : Obj) : Gw w (W.alloc o) := by
  obtain ⟨q, os, rfl⟩ := h
  exact ⟨q, _, by rw [alloc_eq_grow, grow_grow]⟩
open Go.Proofs Go.Sort in
theorem Gw.drewN {w W : World} (h : Gw w W) (n : Nat) : Gw w (W.drewN n) := by
  obtain ⟨q, os, rfl⟩ := h
  exact ⟨q + n, os, by show grow ((w.drewN q).drewN n) os = _; rw [World.drewN_drewN]⟩
open Go.Proofs Go.Sort in
theorem Gw.refl (w : World) : Gw w w := ⟨0, #[], by rw [grow_empty]; rfl⟩
def or_T1 : Bool × List (List Nat × List Nat) := (true, [([], []), ([0], [0]), ([], []), ([2], [2]), ([1, 3], [1, 3]), ([], []), ([5], [5]), ([], []), ([7], [7]), ([6, 8, 4], [6, 8]), ([], []), ([10], [10]), ([], []), ([12], [12]), ([11, 13, 9], [11, 13]), ([4, 9, 14], [4, 9, 14]), ([15, 14], [15]), ([16, 16, 0, 1, 2, 3, 4, 5, 6, 7, 8, 9, 10, 11, 12, 13, 14, 15, 16], [16])])
def or_B1 : List Nat := [0, 1, 0, 4, 15, 0, 32, 0, 128, 511, 0, 1024, 0, 4096, 16383, 32767, 65535, 131071]
theorem or_tab1 : rtab .any (opsOf Try.f116 1) = or_T1 := by kernel_rfl
theorem or_bits1 : waitsOk or_T1.2 or_B1 = true := by kernel_rfl
set_option maxHeartbeats 8000000 in
set_option maxRecDepth 100000 in
open Go.Proofs Go.Sort in
theorem ref_cmp (x y : S88) (W : World) : Calls Try.prog 116 #[.agg #[.int .i64 x.f0, .int .i64 x.f1, .int .i64 x.f2, .int .i64 x.f3], .agg #[.int .i64 y.f0, .int .i64 y.f1, .int .i64 y.f2, .int .i64 y.f3]] W fun e w' => e = .returned (.int .i64 (cmpRef x y)) ∧ ∃ q os', w' = grow (W.drewN q) os' := by
  have hu88 := Try.underlying88
  obtain ⟨t1, h1⟩ : ∃ t, t = cmp3 x.f0 y.f0 := ⟨_, rfl⟩
  obtain ⟨t2, h2⟩ : ∃ t, t = cmp3 x.f2 y.f2 := ⟨_, rfl⟩
  obtain ⟨t3, h3⟩ : ∃ t, t = cmp3 x.f3 y.f3 := ⟨_, rfl⟩
  obtain ⟨r, hr⟩ : ∃ r, r = cmpRef x y := ⟨_, rfl⟩
  have A1 := Aside0.mk (show cmp_Compare_int.f x.f0 y.f0 = some t1 by rw [h1]; exact cmp3_f _ _)
  have A2 := Aside0.mk (show cmp_Compare_int.f x.f2 y.f2 = some t2 by rw [h2]; exact cmp3_f _ _)
  have A3 := Aside0.mk (show cmp_Compare_int.f x.f3 y.f3 = some t3 by rw [h3]; exact cmp3_f _ _)
  have A4 := Aside0.mk (show cmp_Or_int.f 4 [t1, t2, t3] = some r by rw [or_f, hr, h1, h2, h3]; rfl)
  rw [← hr]
  clear h1 h2 h3 hr
  obtain ⟨W0, hW0⟩ : ∃ X, X = (W.alloc (.cells #[.int .i64 x.f0, .int .i64 x.f1, .int .i64 x.f2, .int .i64 x.f3] 88)).alloc (.cells #[.int .i64 y.f0, .int .i64 y.f1, .int .i64 y.f2, .int .i64 y.f3] 88) := ⟨_, rfl⟩
  have G0 := Aside0.mk (show Gw W W0 by rw [hW0]; exact ((Gw.refl W).alloc _).alloc _)
  have B1 := Aside0.mk (show W0.heap[W.heap.size]? = some (.cells #[.int .i64 x.f0, .int .i64 x.f1, .int .i64 x.f2, .int .i64 x.f3] 88 (0, 0)) by rw [hW0]; exact blk_alloc (blk_new W _) _)
  have B2 := Aside0.mk (show W0.heap[W.heap.size + 1]? = some (.cells #[.int .i64 y.f0, .int .i64 y.f1, .int .i64 y.f2, .int .i64 y.f3] 88 (0, 0)) by
    have h1 := blk_new (W.alloc (.cells #[.int .i64 x.f0, .int .i64 x.f1, .int .i64 x.f2, .int .i64 x.f3] 88)) (.cells #[.int .i64 y.f0, .int .i64 y.f1, .int .i64 y.f2, .int .i64 y.f3] 88)
    rw [hW0]; simpa using h1)
  have HW0 := Aside0.mk hW0
  clear hW0
  go_enter Try.func116, Try.ntmps116
  go_wp2_with fail
  rw [← HW0.out]
  refine start_ (n := 18) (S := fun w' => w'.cell? ⟨W.heap.size, 0, none⟩ = some (.int .i64 x.f0) ∧ w'.cell? ⟨W.heap.size, 2, none⟩ = some (.int .i64 x.f2) ∧ w'.cell? ⟨W.heap.size, 3, none⟩ = some (.int .i64 x.f3) ∧ w'.cell? ⟨W.heap.size + 1, 0, none⟩ = some (.int .i64 y.f0) ∧ w'.cell? ⟨W.heap.size + 1, 2, none⟩ = some (.int .i64 y.f2) ∧ w'.cell? ⟨W.heap.size + 1, 3, none⟩ = some (.int .i64 y.f3)) (ds := []) (lb 18 0) (by kernel_rfl) rfl (by kernel_rfl) ⟨(blk_cell B1.out 0).trans rfl, (blk_cell B1.out 2).trans rfl, (blk_cell B1.out 3).trans rfl, (blk_cell B2.out 0).trans rfl, (blk_cell B2.out 2).trans rfl, (blk_cell B2.out 3).trans rfl⟩ (fun hHeld => ?_)
  refine with_tabW or_tab1 or_bits1 (fun HT_ HW_ => ?_)
  have G1 := Aside0.mk (show Gw W W0.drew from G0.out.drewN 1)
  have B3 := Aside0.mk (show W0.drew.heap[W.heap.size]? = some (.cells #[.int .i64 x.f0, .int .i64 x.f1, .int .i64 x.f2, .int .i64 x.f3] 88 (0, 0)) from B1.out)
  have B4 := Aside0.mk (show W0.drew.heap[W.heap.size + 1]? = some (.cells #[.int .i64 y.f0, .int .i64 y.f1, .int .i64 y.f2, .int .i64 y.f3] 88 (0, 0)) from B2.out)
  generalize W0.drew = W1 at hHeld G1 B3 B4 ⊢
  refine pu_ 0 5 18 1 ?_
  refine pu_ 2 7 18 5 ?_
  refine pu_ 5 10 18 37 ?_
  refine pu_ 7 12 18 165 ?_
  refine pu_ 10 15 18 1189 ?_
  refine pu_ 12 17 18 5285 ?_
  refine tk_ 1 6 18 5287 ?_
  refine tk_ 3 8 18 5295 ?_
  refine tk_ 6 11 18 5359 ?_
  refine tk_ 8 13 18 5615 ?_
  refine tk_ 11 16 18 7663 ?_
  refine tk_ 13 18 18 15855 ?_
  refine on_ 4 9 18 15871 (fun K hK => ?_)
  refine goes_ Try.func97 (by kernel_rfl) rfl #[.int .i64 x.f0, .int .i64 y.f0] (by rfl) rfl rfl (by (try simp only [List.map_toArray, List.map_cons, List.map_nil]); first | done | rfl) ?_
  with_reducible refine (cmp_Compare_int.calls x.f0 y.f0 t1 _ A1.out).mono ?_
  rintro e w' ⟨rfl, ⟨nd1, rfl⟩⟩
  refine ⟨_, rfl, ?_⟩
  refine hK.out _ _ ⟨(blk_cell B3.out 0).trans rfl, (blk_cell B3.out 2).trans rfl, (blk_cell B3.out 3).trans rfl, (blk_cell B4.out 0).trans rfl, (blk_cell B4.out 2).trans rfl, (blk_cell B4.out 3).trans rfl⟩ (fun hHeld => ?_)
  clear hK K
  refine nm_ 9 ?_
  refine on_ 9 14 18 16383 (fun K hK => ?_)
  refine goes_ Try.func97 (by kernel_rfl) rfl #[.int .i64 x.f2, .int .i64 y.f2] (by rfl) rfl rfl (by (try simp only [List.map_toArray, List.map_cons, List.map_nil]); first | done | rfl) ?_
  with_reducible refine (cmp_Compare_int.calls x.f2 y.f2 t2 _ A2.out).mono ?_
  rintro e w' ⟨rfl, ⟨nd2, rfl⟩⟩
  refine ⟨_, rfl, ?_⟩
  refine hK.out _ _ ⟨(blk_cell B3.out 0).trans rfl, (blk_cell B3.out 2).trans rfl, (blk_cell B3.out 3).trans rfl, (blk_cell B4.out 0).trans rfl, (blk_cell B4.out 2).trans rfl, (blk_cell B4.out 3).trans rfl⟩ (fun hHeld => ?_)
  clear hK K
  refine nm_ 14 ?_
  refine on_ 14 19 18 32767 (fun K hK => ?_)
  refine goes_ Try.func97 (by kernel_rfl) rfl #[.int .i64 x.f3, .int .i64 y.f3] (by rfl) rfl rfl (by (try simp only [List.map_toArray, List.map_cons, List.map_nil]); first | done | rfl) ?_
  with_reducible refine (cmp_Compare_int.calls x.f3 y.f3 t3 _ A3.out).mono ?_
  rintro e w' ⟨rfl, ⟨nd3, rfl⟩⟩
  refine ⟨_, rfl, ?_⟩
  refine hK.out _ _ ⟨(blk_cell B3.out 0).trans rfl, (blk_cell B3.out 2).trans rfl, (blk_cell B3.out 3).trans rfl, (blk_cell B4.out 0).trans rfl, (blk_cell B4.out 2).trans rfl, (blk_cell B4.out 3).trans rfl⟩ (fun hHeld => ?_)
  clear hK K
  refine nm_ 19 ?_
  have G2 := Aside0.mk (((G1.out.drewN nd1).drewN nd2).drewN nd3)
  have B5 := Aside0.mk (show (((W1.drewN nd1).drewN nd2).drewN nd3).heap[W.heap.size]? = some (.cells #[.int .i64 x.f0, .int .i64 x.f1, .int .i64 x.f2, .int .i64 x.f3] 88 (0, 0)) from B3.out)
  have B6 := Aside0.mk (show (((W1.drewN nd1).drewN nd2).drewN nd3).heap[W.heap.size + 1]? = some (.cells #[.int .i64 y.f0, .int .i64 y.f1, .int .i64 y.f2, .int .i64 y.f3] 88 (0, 0)) from B4.out)
  generalize ((W1.drewN nd1).drewN nd2).drewN nd3 = W2 at hHeld G2 B5 B6 ⊢
  refine on_ 15 20 18 65535 (fun K hK => ?_)
  refine value_ (w1 := ?_) (v := ?_) (by rfl) rfl ?_ ?_
  rotate_left 2
  · go_simp
    constructor
    · rfl
    · rfl
  have B7 := Aside0.mk (blk_alloc (B5.out) (.cells #[.int .i64 t1, .int .i64 t2, .int .i64 t3] 3))
  have B8 := Aside0.mk (blk_alloc (B6.out) (.cells #[.int .i64 t1, .int .i64 t2, .int .i64 t3] 3))
  have B9 := Aside0.mk (blk_new W2 (.cells #[.int .i64 t1, .int .i64 t2, .int .i64 t3] 3))
  have G3 := Aside0.mk (G2.out.alloc (.cells #[.int .i64 t1, .int .i64 t2, .int .i64 t3] 3))
  refine hK.out _ _ ⟨(blk_cell B7.out 0).trans rfl, (blk_cell B7.out 2).trans rfl, (blk_cell B7.out 3).trans rfl, (blk_cell B8.out 0).trans rfl, (blk_cell B8.out 2).trans rfl, (blk_cell B8.out 3).trans rfl⟩ (fun hHeld => ?_)
  clear hK K
  refine nm_ 20 ?_
  have hC : Kd.C (Kd.int .i64) (W2.alloc (.cells #[.int .i64 t1, .int .i64 t2, .int .i64 t3] 3)) (some ⟨W2.heap.size, 0, none⟩) 3 [t1, t2, t3] := by
    refine ⟨rfl, by omega, fun _ => ⟨_, rfl, fun j p hj => ⟨[.int .i64 p], rfl, rfl, fun i u hu => ?_⟩⟩⟩
    have hi : i = 0 := by
      have := (List.getElem?_eq_some_iff.1 hu).1
      simp at this; exact this
    subst hi
    have hu' : u = .int .i64 p := by simpa using hu.symm
    subst hu'
    have hj3 : j < 3 := (List.getElem?_eq_some_iff.1 hj).1
    have e : (Addr.add ⟨W2.heap.size, 0, none⟩ (j * (Kd.int .i64).sz + 0) : Addr) = ⟨W2.heap.size, j, none⟩ := by
      have e1 : j * (Kd.int .i64).sz + 0 = j := by show j * 1 + 0 = j; omega
      rw [e1]
      rw [show (⟨W2.heap.size, 0, none⟩ : Addr).add j = ⟨W2.heap.size, 0 + j, none⟩ from by cases j <;> rfl, Nat.zero_add]
    rw [e, blk_cell B9.out j]
    match j, hj3 with
    | 0, _ => cases hj; rfl
    | 1, _ => cases hj; rfl
    | 2, _ => cases hj; rfl
  have HC := Aside0.mk hC
  generalize W2.alloc (.cells #[.int .i64 t1, .int .i64 t2, .int .i64 t3] 3) = W3 at hHeld G3 B7 B8 HC ⊢
  clear hC
  refine on_ 16 21 18 131071 (fun K hK => ?_)
  refine goes_ Try.func145 (by kernel_rfl) rfl #[.slice (some ⟨W2.heap.size, 0, none⟩) 3 3] (by rfl) rfl rfl (by (try simp only [List.map_toArray, List.map_cons, List.map_nil]); first | done | rfl) ?_
  refine Calls.mono (show Calls Try.prog 145 #[.slice (some ⟨W2.heap.size, 0, none⟩) 3 3] W3 _ from cmp_Or_int.calls 4 _ 3 [t1, t2, t3] r _ HC.out (Nat.le_refl _) A4.out) ?_
  rintro e w' ⟨rfl, ⟨nd4, rfl⟩⟩
  refine ⟨_, rfl, ?_⟩
  refine hK.out _ _ ⟨(blk_cell B7.out 0).trans rfl, (blk_cell B7.out 2).trans rfl, (blk_cell B7.out 3).trans rfl, (blk_cell B8.out 0).trans rfl, (blk_cell B8.out 2).trans rfl, (blk_cell B8.out 3).trans rfl⟩ (fun hHeld => ?_)
  clear hK K
  refine nm_ 21 ?_
  refine pu_ 17 4 18 262143 ?_
  refine done_ (done_of HT_.out (by kernel_rfl)) ?_
  have G4 := Aside0.mk (G3.out.drewN nd4)
  clear hHeld
  go_wp2
  go_ret
  exact ⟨rfl, G4.out⟩
open Go.Proofs Go.Sort in
theorem sort_ref (cl : Nat) (eg : ∀ args w, (callFunc cl args).run Try.prog w = .ok (.enter cl args) w)
    (hcl : ∀ (x y : S88) (W : World), Calls Try.prog cl #[.agg #[.int .i64 x.f0, .int .i64 x.f1, .int .i64 x.f2, .int .i64 x.f3], .agg #[.int .i64 y.f0, .int .i64 y.f1, .int .i64 y.f2, .int .i64 y.f3]] W fun e w' => e = .returned (.int .i64 (cmpRef x y)) ∧ ∃ q os', w' = grow (W.drewN q) os')
    {w0 w : World} {base : Nat} {ok : Nat → Prop} {v : Value} {xs : List S88} (HO : Kd.R k88 88 w base ok v xs) (HB : Go.RowKit.Below base w0 w) (hbase : base ≤ w.heap.size) (hlen : xs.length < 4611686018427387904) :
    Calls Try.prog 122 #[v, .func (.func cl) #[] #[]] w fun e w' => e = .returned (.tuple #[]) ∧ ∃ ys : List S88, ys.Perm xs ∧ (ys.Pairwise fun a b => Flag.leR (toR a) (toR b)) ∧ Kd.R k88 88 w' base ok v ys ∧ Go.RowKit.Below base w0 w' ∧ w.heap.size ≤ w'.heap.size ∧ (∀ i, i < w.heap.size → some i ≠ v.ownBlock → w'.heap[i]? = w.heap[i]?) := by
  rcases R_lies flatRef HO with ⟨rfl, rfl⟩ | ⟨g, cap, rfl, hg, hok, hL⟩
  · refine (AnyF.slices_SortFunc_none sortRef none 0 (.func (.func cl) #[] #[]) w).mono ?_
    rintro e w' ⟨rfl, rfl⟩
    exact ⟨rfl, [], List.Perm.nil, List.Pairwise.nil, HO, HB, Nat.le_refl _, fun _ _ _ => rfl⟩
  · have hk : ∀ x : S88, (encRef x).length = 4 := fun _ => rfl
    have hcon := AnyQ.slices_SortFunc sortRef 4 Try.isAgg88 Try.sizeOf88 encRef hk flatRef.one cmpRef swo_cmpRef cl #[] g 0 cap xs.toArray w eg (fun m os dk hd x y => hcl x y _) (hL.holds hk (by decide)) hL.block (by simpa using hlen)
    refine Calls.mono hcon ?_
    rintro e w' ⟨rfl, d', n, os, hp, hs, rfl⟩
    obtain ⟨h1, h2, h3⟩ := sort_list hp hs
    have h4 := hL.sorted (n := n) (os := os) hk (by decide) h1
    refine ⟨rfl, d'.toList, h2, h3.imp (fun {a b} h => ?_), ?_, sorted_below HB hg hbase, ?_, fun i hi hne => ?_⟩
    · rw [lt_cmpRef] at h
      have h9 : ¬ Flag.ltR (toR b) (toR a) := of_decide_eq_false h
      exact h9
    · have h5 := R_of_lies (base := base) (ok := ok) flatRef hg hok h4
      have e1 : d'.toList.length = xs.length := by simpa using h1
      rw [e1] at h5
      exact h5
    · exact size_sortWorldK_c encRef 4 w g 0 n d' os
    · rw [sorted_heap 4 g n d' os i hi, if_neg (fun h => hne (by rw [h]; rfl))]
def refsOf (x : S94) : List S88 := x.f1.map fun y => ⟨y.f1, y.f2, x.f0, y.f0⟩
def refsG (l : List S94) : List S88 := l.flatMap refsOf
def ofR (r : Flag.Rf) : S88 := ⟨r.p, r.n, r.o, r.v⟩
def sortRefL (l : List S88) : List S88 := (Flag.sortR (l.map toR)).map ofR
theorem sortRefL_toR (l : List S88) : (sortRefL l).map toR = Flag.sortR (l.map toR) := by
  unfold sortRefL
  rw [List.map_map]
  exact List.map_id' _
theorem refsG_toR (l : List S94) : (refsG l).map toR = Flag.refsM (l.map toM) := by
  unfold refsG Flag.refsM
  induction l with
  | nil => rfl
  | cons x t ih =>
    rw [List.flatMap_cons, List.map_append, ih, List.map_cons, List.flatMap_cons]
    congr 1
    unfold refsOf toM
    rw [List.map_map, List.map_map]
    rfl
theorem sort_one {l m : List S88} (hk : Flag.KeyR (m.map toR)) (hp : l.Perm m) (hs : l.Pairwise fun a b => Flag.leR (toR a) (toR b)) : l = sortRefL m := by
  apply mapR_inj
  rw [sortRefL_toR]
  exact Flag.sorted_one hk (hp.map toR) (List.pairwise_map.2 hs)
theorem refsG_len {l : List S94} (h : Flag.Maps9 (l.map toM)) : (refsG l).length ≤ 9216 := by
  have hl := h.len
  rw [List.length_map] at hl
  have key : ∀ m : List S94, (∀ x ∈ m, x.f1.length ≤ 1024) → (refsG m).length ≤ 1024 * m.length := by
    intro m
    induction m with
    | nil => intro _; exact Nat.zero_le _
    | cons x t ih =>
      intro hm
      have h1 := hm x List.mem_cons_self
      have h2 := ih fun y hy => hm y (List.mem_cons_of_mem _ hy)
      unfold refsG at h2 ⊢
      rw [List.flatMap_cons, List.length_append, List.length_cons]
      unfold refsOf
      rw [List.length_map]
      unfold refsOf at h2
      omega
  have := key l fun x hx => by
    have := (h.each (toM x) (List.mem_map_of_mem hx)).2.2.len
    unfold toM at this
    simpa using this
  omega
def refs_Refs.f (l0 : List (S94)) : Option ((List (S88)) × Int) := some (if Flag.checkM (l0.map toM) = 0 then (sortRefL (refsG l0), 0) else ([], 9))
set_option maxHeartbeats 8000000 in
set_option maxRecDepth 100000 in
theorem refs_Refs.calls (A0 : Option Addr) (c0 : Nat) (l0 : List (S94)) (r1 : List (S88)) (r2 : Int) (w : World) (hr0 : Kd.C k94 w A0 l0.length l0) (hc0 : l0.length ≤ c0) (h : refs_Refs.f l0 = some (r1, r2)) :
    Calls Try.prog 65 #[.slice A0 l0.length c0] w fun e w' => ∃ v0_ : Value, e = .returned (.tuple #[v0_, .int .i64 r2]) ∧ Kd.R k88 88 w' w.heap.size (fun _ => True) v0_ r1 ∧ Below w.heap.size w w' := by
  have hu94 := Try.underlying94
  have hu88 := Try.underlying88
  have hu24 := Try.underlying24
  unfold refs_Refs.f at h
  have h := Option.some.inj h
  obtain ⟨n, hnn⟩ : ∃ n, n = l0.length := ⟨_, rfl⟩
  have hck := refs_Check.calls 1200 A0 c0 l0 _ w hr0 hc0 (check9 l0)
  obtain ⟨ec, hec⟩ : ∃ e, e = Flag.checkM (l0.map toM) := ⟨_, rfl⟩
  rw [← hec, ← hnn] at hck
  have HCK := Aside0.mk hck
  have HR0 := Aside0.mk hr0
  have HNN := Aside0.mk hnn
  have HEC := Aside0.mk hec
  rw [← hnn]
  clear hr0 hc0 hck
  by_cases hc : Flag.checkM (l0.map toM) = 0
  · rw [if_pos hc] at h
    obtain ⟨rfl, rfl⟩ := Prod.mk.inj h
    have h9 := Flag.checkM_ok.1 hc
    have hln := refsG_len h9
    have hl9 : n ≤ 9 := by have := h9.len; rw [List.length_map, ← hnn] at this; exact this
    have HLN := Aside0.mk hln
    have H9 := Aside0.mk h9
    have hec0 : ec = 0 := by rw [hec]; exact hc
    subst hec0
    have HL9 := Aside0.mk hl9
    clear h hc hnn hec h9 hln hl9
    go_enter Try.func65, Try.ntmps65
    go_wp2_with fail
    refine HCK.out.mono ?_
    rintro e w1 ⟨rfl, hb1⟩
    have HB1 := Aside0.mk hb1
    clear hb1
    go_wp2_with fail
    go_loopg [5, 17] n (fun gk v5 v17 W => ∃ (i : Int) (o : List S88), v17 = .int .i64 i ∧ Aside0 (0 ≤ i ∧ i + gk = n) ∧ Aside0 (o = refsG (l0.take i.toNat) ∧ (o.length : Int) ≤ 1024 * i) ∧ Aside0 (Kd.R k88 88 W w.heap.size (fun _ => True) v5 o) ∧ Aside0 (Below w.heap.size w W))
    case atStart => exact ⟨0, [], rfl, ⟨Int.le_refl _, by simp⟩, ⟨rfl, by simp⟩, ⟨Kd.R_nil _ _ _ _ _⟩, HB1⟩
    case round =>
      obtain ⟨i, o, rfl, HI, HOE, HO, HS⟩ := hrel
      obtain ⟨Ao, co, rfl⟩ := Kd.R_slice HO.out
      obtain ⟨no, hno⟩ : ∃ m, m = o.length := ⟨_, rfl⟩
      rw [← hno] at HO ⊢
      have HNO := Aside0.mk hno
      clear hno
      cases gk with
      | zero =>
        have hi : i = n := by have := HI.out.2; omega
        have hd : decide (i < (n : Int)) = false := decide_eq_false (by omega)
        have hoe : o = refsG l0 := by rw [HOE.out.1, hi, Int.toNat_natCast, HNN.out, List.take_length]
        have HE := Aside0.mk hoe
        have hol : o.length < 4611686018427387904 := by rw [hoe]; have := HLN.out; omega
        have hso := sort_ref 116 (fun args w => enters_ Try.func116 (by kernel_rfl) rfl args w) (fun x y W => ref_cmp x y W) HO.out HS.out HS.out.size hol
        have HSO := Aside0.mk hso
        clear hi hoe hol hso
        go_wp2_with fail
        refine HSO.out.mono ?_
        rintro e w3 ⟨rfl, ys, hp, hs, hR, hB, _, _⟩
        have HY := Aside0.mk (And.intro hp hs)
        have HR3 := Aside0.mk hR
        have HB3 := Aside0.mk hB
        clear hp hs hR hB
        go_wp2
        go_ret2
        refine ⟨_, rfl, ?_, HB3.out⟩
        have hk : Flag.KeyR ((refsG l0).map toR) := by rw [refsG_toR]; exact (Flag.refsM_ok H9.out).key
        have hy := sort_one hk (by rw [← HE.out]; exact HY.out.1) HY.out.2
        rw [← hy]
        exact HR3.out
      | succ k1 =>
        have hp0 : 0 ≤ i := HI.out.1
        have hp1 : i < (n : Int) := by have := HI.out.2; omega
        have hd : decide (i < (n : Int)) = true := decide_eq_true hp1
        obtain ⟨ad, A1, c1, e3, g0, g1, hc1, hr1⟩ := at_T94 HR0.out i hp0 (by rw [← HNN.out]; exact hp1)
        cases e3
        obtain ⟨x, hx⟩ : ∃ x, x = rd_T94 l0 i := ⟨_, rfl⟩
        rw [← hx] at g0 g1 hc1 hr1
        replace g0 := (HS.out.cell (World.block_lt_of_cell? w _ g0)).trans g0
        replace g1 := (HS.out.cell (World.block_lt_of_cell? w _ g1)).trans g1
        have hxm : x.f1.length ≤ 1024 := by
          have h4 : i.toNat < l0.length := by rw [← HNN.out]; omega
          have h5 : x = l0[i.toNat] := by rw [hx]; unfold rd_T94; rw [List.getD_eq_getElem?_getD, List.getElem?_eq_getElem h4]; rfl
          have h6 := (H9.out.each (toM x) (by rw [h5]; exact List.mem_map_of_mem (List.getElem_mem h4))).2.2.len
          unfold toM at h6
          simpa using h6
        have hst : refsG (l0.take (i + 1).toNat) = o ++ refsOf x := by
          have h3 : (i + 1).toNat = i.toNat + 1 := by omega
          have h4 : i.toNat < l0.length := by rw [← HNN.out]; omega
          have h5 : x = l0[i.toNat] := by rw [hx]; unfold rd_T94; rw [List.getD_eq_getElem?_getD, List.getElem?_eq_getElem h4]; rfl
          unfold refsG
          rw [h3, List.take_succ_eq_append_getElem h4, List.flatMap_append, ← h5, HOE.out.1]
          simp [refsG]
        have HST := Aside0.mk hst
        have HP := Aside0.mk (And.intro hp0 hp1)
        obtain ⟨m, hm⟩ : ∃ m, m = x.f1.length := ⟨_, rfl⟩
        have HR1 := Aside0.mk hr1
        rw [← hm] at g1 hxm
        have HM := Aside0.mk hm
        have HXM := Aside0.mk hxm
        have hwi : IntKind.i64.wrap (i + 1) = i + 1 := IntWalk.i64_in _ (by have := HL9.out; omega)
        obtain ⟨bx, hbx⟩ : ∃ b, b = wr.heap.size := ⟨_, rfl⟩
        obtain ⟨W1, hW1⟩ : ∃ W, W = wr.alloc (.cells #[.int .i64 x.f0, .slice A1 m c1] 94) := ⟨_, rfl⟩
        have hx1 : W1.heap[bx]? = some (.cells #[.int .i64 x.f0, .slice A1 m c1] 94 (0, 0)) := by rw [hW1, hbx]; exact blk_new wr _
        have hb1 : Below w.heap.size w W1 := by rw [hW1]; exact HS.out.alloc HS.out.size _
        have ho1 : Kd.R k88 88 W1 w.heap.size (fun k => k ≠ bx) (.slice Ao no co) o := by rw [hW1, hbx]; exact Kd.R_alloc (Kd.R_mono (Kd.R_bound HO.out) (fun k hk => Nat.ne_of_lt hk.2.2.1)) _
        have HX1 := Aside0.mk hx1
        have HB1' := Aside0.mk hb1
        have HO1 := Aside0.mk ho1
        have HW1 := Aside0.mk hW1
        have HBX := Aside0.mk hbx
        clear hx hr1 hm hc1 hst hx1 hb1 ho1 hxm hW1 hbx
        go_wp2_with fail
        rw [← HW1.out, ← HBX.out]
        clear g0 g1
        go_loopg [5, 24] m (fun gk2 v5 v24 W => ∃ (j : Int) (o2 : List S88), v24 = .int .i64 j ∧ Aside0 (0 ≤ j ∧ j + gk2 = m) ∧ Aside0 (o2 = o ++ (refsOf x).take j.toNat ∧ (o2.length : Int) ≤ 1024 * i + j) ∧ Aside0 (Kd.R k88 88 W w.heap.size (fun k => k ≠ bx) v5 o2) ∧ Aside0 (Below w.heap.size w W ∧ W.heap[bx]? = some (.cells #[.int .i64 x.f0, .slice A1 m c1] 94 (0, 0))))
        case atStart => exact ⟨0, o, rfl, ⟨Int.le_refl _, by simp⟩, ⟨by simp, by have := HOE.out.2; omega⟩, ⟨HO1.out⟩, ⟨HB1'.out, HX1.out⟩⟩
        case round =>
          clear HB1' HX1
          obtain ⟨j, o2, rfl, HJ, HOE2, HO2, HS2⟩ := hrel
          obtain ⟨Ao2, co2, rfl⟩ := Kd.R_slice HO2.out
          obtain ⟨no2, hno2⟩ : ∃ m, m = o2.length := ⟨_, rfl⟩
          rw [← hno2] at HO2 ⊢
          have HNO2 := Aside0.mk hno2
          clear hno2
          cases gk with
          | zero =>
            have hj : j = m := by have := HJ.out.2; omega
            have hdj : decide (j < (m : Int)) = false := decide_eq_false (by omega)
            have hoe : o2 = o ++ refsOf x := by
              rw [HOE2.out.1, hj, Int.toNat_natCast, List.take_of_length_le]
              unfold refsOf; rw [List.length_map, HM.out]; exact Nat.le_refl _
            have HE2 := Aside0.mk hoe
            have HE3 := Aside0.mk (show (o2.length : Int) ≤ 1024 * (i + 1) by have := HOE2.out.2; have := HXM.out; omega)
            clear hj hoe
            go_wp2_with fail
            go_roundg k1
            case measure => omega
            case rel =>
              refine ⟨i + 1, o2, by first | rfl | (simp; done) | go_num, ⟨by have := HP.out.1; omega, by have := HI.out.2; omega⟩, ⟨by rw [HST.out, HE2.out], HE3.out⟩, ⟨?_⟩, ⟨HS2.out.1⟩⟩
              exact Kd.R_mono HO2.out (fun _ _ => trivial)
          | succ k2 =>
            have hj0 : 0 ≤ j := HJ.out.1
            have hj1 : j < (m : Int) := by have := HJ.out.2; omega
            have hdj : decide (j < (m : Int)) = true := decide_eq_true hj1
            have hC1 : Kd.C k24 wr A1 m x.f1 := by rw [HM.out]; exact Kd.C_below HR1.out HS2.out.1
            obtain ⟨ad2, e4, y0, y1, y2⟩ := at_T24 hC1 j hj0 hj1
            subst e4
            obtain ⟨y, hy⟩ : ∃ y, y = rd_T24 x.f1 j := ⟨_, rfl⟩
            rw [← hy] at y0 y1 y2
            have q0 : (wr.alloc (.cells #[.int .i64 y.f0, .int .i64 y.f1, .int .i64 y.f2] 24)).cell? ⟨bx, 0, none⟩ = some (.int .i64 x.f0) := (blk_cell (blk_alloc HS2.out.2 _) 0).trans rfl
            have hwj : IntKind.i64.wrap (j + 1) = j + 1 := IntWalk.i64_in _ (by have := HXM.out; omega)
            obtain ⟨os, hos⟩ : ∃ os, os = o2 ++ [(⟨y.f1, y.f2, x.f0, y.f0⟩ : S88)] := ⟨_, rfl⟩
            have hst2 : os = o ++ (refsOf x).take (j + 1).toNat := by
              have h3 : (j + 1).toNat = j.toNat + 1 := by omega
              have h4 : j.toNat < x.f1.length := by rw [← HM.out]; omega
              have h4' : j.toNat < (refsOf x).length := by unfold refsOf; rw [List.length_map]; exact h4
              have h5 : y = x.f1[j.toNat] := by rw [hy]; unfold rd_T24; rw [List.getD_eq_getElem?_getD, List.getElem?_eq_getElem h4]; rfl
              have h6 : (refsOf x)[j.toNat] = (⟨y.f1, y.f2, x.f0, y.f0⟩ : S88) := by rw [h5]; exact List.getElem_map _
              rw [hos, HOE2.out.1, h3, List.take_succ_eq_append_getElem h4', h6, List.append_assoc]
            have HOS := Aside0.mk hos
            have HST2 := Aside0.mk hst2
            have HY := Aside0.mk hy
            have HP2 := Aside0.mk (And.intro hj0 hj1)
            have HLT := Aside0.mk (show bx < wr.heap.size from blk_lt HS2.out.2)
            have HOL := Aside0.mk (show (no2 : Int) ≤ 10240 by rw [HNO2.out]; have := HOE2.out.2; have := HI.out.2; have := HXM.out; have := HL9.out; omega)
            clear hos hst2 hy hC1
            go_wp2_with (first | ((with_reducible refine gate_builtin (b := .append) (xs := #[.tmp 28, .tmp 38]) rfl ?_); at_builtin; refine Kd.R_append k88 (w0 := w) w.heap.size rfl (.tmp 28) (.tmp 38) 80 88 (.agg #[(.int .i64 0), (.int .i64 0), (.int .i64 0), (.int .i64 0)]) 32 rfl Try.underlying80 info88 rfl (by decide) (by omega) (.slice Ao2 no2 co2) o2 (⟨y.f1, y.f2, x.f0, y.f0⟩ : S88) [.int .i64 y.f1, .int .i64 y.f2, .int .i64 x.f0, .int .i64 y.f0] (fun k => k ≠ bx) (fun _ => False) rfl (by first | (go_simp; done) | (go_simp; rfl)) ?aP (fun _ hk => hk.elim) ?aF ?aO ?aB ?aS ?aL ?_; (case aP => exact k88_mkM _ _ _ (⟨y.f1, y.f2, x.f0, y.f0⟩ : S88)); (case aF => exact (fun k hk => Nat.ne_of_gt (Nat.lt_of_lt_of_le HLT.out (by have h9 := hk; simp at h9; omega)))); (case aO => exact Kd.R_alloc HO2.out _); (case aB => exact HS2.out.1.alloc HS2.out.1.size _); (case aS => exact below_size (HS2.out.1.alloc HS2.out.1.size _)); (case aL => exact (by rw [← HNO2.out]; have := HOL.out; omega)); intro v1 w8 ho hb hg hat; rw [← HOS.out] at ho; obtain ⟨A8, c8, rfl⟩ := Kd.R_slice ho; have HO8 := Aside0.mk ho; have HB8 := Aside0.mk hb; have HG8 := Aside0.mk (hg.block bx); clear ho hb hg hat))
            go_roundg k2
            case measure => omega
            case rel =>
              refine ⟨j + 1, os, by first | rfl | (simp; done) | go_num, ⟨by have := HP2.out.1; omega, by have := HJ.out.2; omega⟩, ⟨HST2.out, ?_⟩, ⟨HO8.out⟩, ⟨HB8.out, ?_⟩⟩
              · rw [HOS.out, List.length_append, List.length_singleton]; have := HOE2.out.2; omega
              · exact (HG8.out (by simp; have := HLT.out; omega) (fun e => HO2.out.1 bx e.symm rfl)).trans (blk_alloc HS2.out.2 _)
  · rw [if_neg hc] at h
    obtain ⟨rfl, rfl⟩ := Prod.mk.inj h
    have hne : ec ≠ 0 := by rw [hec]; exact hc
    have h9 : ec = 9 := by
      rcases Flag.checkM_or (l0.map toM) with h1 | h1
      · exact absurd h1 hc
      · rw [hec]; exact h1
    subst h9
    clear h hc hec hne hnn
    go_enter Try.func65, Try.ntmps65
    go_wp2_with fail
    refine HCK.out.mono ?_
    rintro e w1 ⟨rfl, hb1⟩
    have HB1 := Aside0.mk hb1
    clear hb1
    go_wp2
    go_ret2
    exact ⟨_, rfl, Kd.R_nil _ _ _ _ _, HB1.out⟩
theorem Flag.NF.sub {l m : List Flag.Ex} (h : Flag.NF l) (hs : m.Sublist l) : Flag.NF m := by
  induction hs with
  | slnil => trivial
  | cons a _ ih => exact ih h.tail
  | @cons_cons m' l' a hs ih =>
    have h1 := ih h.tail
    cases m' with
    | nil => exact h.head
    | cons y t =>
      have hy : y ∈ l' := hs.subset List.mem_cons_self
      refine ⟨h.head, h.after y hy, ?_, h1⟩
      cases l' with
      | nil => cases hy
      | cons z u =>
        rcases List.mem_cons.1 hy with rfl | hu
        · exact h.2.2.1
        · intro hg
          have a1 := h.tail.after y hu
          have a2 := h.2.1
          have a3 : 0 < z.n := h.tail.head
          have a4 := hg.1
          omega
theorem Flag.NF.up {l : List Flag.Ex} (h : Flag.NF l) : l.Pairwise fun a b => a.v < b.v := by
  induction l with
  | nil => exact List.Pairwise.nil
  | cons x t ih =>
    refine List.pairwise_cons.2 ⟨fun y hy => ?_, ih h.tail⟩
    have := h.after y hy
    have h0 : 0 < x.n := h.head
    omega
theorem filt_map5 {l : List S24} (h : Flag.Map5 (l.map toE)) (q : S24 → Bool) : Flag.Map5 ((l.filter q).map toE) :=
  ⟨by have := h.len; have h2 := List.length_filter_le q l; simp only [List.length_map] at *; omega, fun x hx => by
    obtain ⟨y, hy, rfl⟩ := List.mem_map.1 hx
    exact h.ok _ (List.mem_map_of_mem (List.mem_filter.1 hy).1), h.nf.sub (List.filter_sublist.map toE)⟩
theorem ext_one {l : List S24} (h : Flag.Map5 (l.map toE)) {x y : S24} (hx : x ∈ l) (hy : y ∈ l) {i : Int} (h1 : x.f0 ≤ i) (h2 : i < x.f0 + x.f2) (h3 : y.f0 ≤ i) (h4 : i < y.f0 + y.f2) : x = y := by
  have h5 := h.nf.one (toE x) (List.mem_map_of_mem hx) (toE y) (List.mem_map_of_mem hy) i h1 h2 h3 h4
  have h6 : [x] = [y] := mapE_inj (by rw [List.map_cons, List.map_cons, h5])
  exact (List.cons.inj h6).1
theorem filt_look {l : List S24} (h : Flag.Map5 (l.map toE)) {q : S24 → Bool} {i r : Int} : Flag.lookE ((l.filter q).map toE) i = some r ↔ ∃ x ∈ l, q x = true ∧ x.f0 ≤ i ∧ i < x.f0 + x.f2 ∧ r = Flag.valAt (toE x) i := by
  constructor
  · intro hl
    obtain ⟨z, hz, h1, h2, h3⟩ := Flag.lookE_some_mem hl
    obtain ⟨y, hy, rfl⟩ := List.mem_map.1 hz
    obtain ⟨h4, h5⟩ := List.mem_filter.1 hy
    exact ⟨y, h4, h5, h1, h2, h3⟩
  · rintro ⟨x, hx, h1, h2, h3, rfl⟩
    exact Flag.lookE_mem (filt_map5 h q).nf (List.mem_map_of_mem (List.mem_filter.2 ⟨hx, h1⟩)) h2 h3
theorem opt_ext {a b : Option Int} (h : ∀ r, a = some r ↔ b = some r) : a = b := by
  cases a with
  | none =>
    cases b with
    | none => rfl
    | some r => exact absurd ((h r).2 rfl) (by simp)
  | some r => exact ((h r).1 rfl).symm
theorem filt_put {l : List S24} {e : S24} (h : Flag.Map5 (l.map toE)) (he : e ∈ l) {q q' : S24 → Bool} (hq : q e = false) (hq' : ∀ x ∈ l, (q' x = true ↔ q x = true ∨ x = e)) :
    putS (l.filter q) e = (l.filter q', 0) ∧ hasX (lookS (l.filter q) e.f0 e.f2).1 = false := by
  have ho := h.ok (toE e) (List.mem_map_of_mem he)
  have m := filt_map5 h q
  have hno : ∀ i, e.f0 ≤ i → i < e.f0 + e.f2 → Flag.lookE ((l.filter q).map toE) i = none := fun i h1 h2 => by
    cases hc : Flag.lookE ((l.filter q).map toE) i with
    | none => rfl
    | some r =>
      obtain ⟨x, hx, h3, h4, h5, _⟩ := (filt_look h).1 hc
      rw [ext_one h hx he h4 h5 h1 h2, hq] at h3
      cases h3
  obtain ⟨r1, r2⟩ := replG_one m ho
  have heq : replG (l.filter q) e.f0 e.f2 [e] = l.filter q' := by
    refine mapE_inj (Flag.NF.ext r1 (filt_map5 h q').nf fun i => ?_)
    rw [r2]
    split
    · rename_i hi
      exact ((filt_look h).2 ⟨e, he, (hq' e he).2 (.inr rfl), hi.1, hi.2, rfl⟩).symm
    · rename_i hi
      refine opt_ext fun r => ?_
      rw [filt_look h, filt_look h]
      constructor
      · rintro ⟨x, hx, h1, h2⟩
        exact ⟨x, hx, (hq' x hx).2 (.inl h1), h2⟩
      · rintro ⟨x, hx, h1, h2, h3, h4⟩
        rcases (hq' x hx).1 h1 with h1 | rfl
        · exact ⟨x, hx, h1, h2, h3, h4⟩
        · exact absurd ⟨h2, h3⟩ hi
  have hl : (l.filter q').length ≤ 1024 := by have := (filt_map5 h q').len; simpa using this
  refine ⟨by rw [putS_of m ho (by rw [heq]; exact hl), heq], ?_⟩
  obtain ⟨g1, g2, g3, g4, g5⟩ := ho
  simp only [toE] at g1 g2 g3 g4 g5
  have hlk : lookS (l.filter q) e.f0 e.f2 = (lookL (l.filter q) e.f0 e.f2, 0) := by
    unfold lookS
    rw [if_pos (Flag.checkE_ok.2 m), if_pos (fitsB_iff.2 ⟨g2, by omega, g3⟩)]
  obtain ⟨s1, s2, s3⟩ := look_spec m g2 (show 0 ≤ e.f2 by omega) g3
  rw [hlk]
  refine List.any_eq_false.2 fun y hy => ?_
  have hn := s1.all (toE y) (List.mem_map_of_mem hy)
  have h1 := Flag.lookE_mem s1 (List.mem_map_of_mem hy) (i := y.f0) (Int.le_refl _) (by have : 0 < y.f2 := hn; show y.f0 < y.f0 + y.f2; omega)
  rw [s2] at h1
  split at h1
  · rename_i hi
    rw [hno _ hi.1 hi.2] at h1
    have h2 := Option.some.inj h1
    have h3 : Flag.valAt (toE y) y.f0 = y.f1 := Flag.valAt_start (toE y)
    rw [h3] at h2
    have h4 : y.f1 = -1 := h2.symm
    rw [h4]
    decide
  · cases h1
def someM (m : List S94) : List S94 := m.filter fun x => !x.f1.isEmpty
def subM (P : Int → S24 → Bool) (m : List S94) : List S94 := someM (m.map fun x => ⟨x.f0, x.f1.filter (P x.f0)⟩)
section
variable {P P' : Int → S24 → Bool} {m : List S94} {x : S94} {o : Int} {l : List S24}
theorem sub_cons : subM P (x :: m) = (if (x.f1.filter (P x.f0)).isEmpty = true then [] else [⟨x.f0, x.f1.filter (P x.f0)⟩]) ++ subM P m := by
  unfold subM someM
  rw [List.map_cons, List.filter_cons]
  dsimp only
  cases (x.f1.filter (P x.f0)).isEmpty <;> rfl
theorem sub_mem {y : S94} (h : y ∈ subM P m) : ∃ z ∈ m, y.f0 = z.f0 := by
  obtain ⟨z, hz, rfl⟩ := List.mem_map.1 (List.mem_filter.1 h).1
  exact ⟨z, hz, rfl⟩
theorem getM_up {t : List S94} (h : ∀ y ∈ t, o < y.f0) : getM o t = [] := by
  cases t with
  | nil => rfl
  | cons y t => have := h y List.mem_cons_self; rw [getM, if_neg (by omega), if_neg (by omega)]
theorem putM_up {t : List S94} (h : ∀ y ∈ t, o < y.f0) : putM o l t = ⟨o, l⟩ :: t := by
  cases t with
  | nil => rfl
  | cons y t => have := h y List.mem_cons_self; rw [putM, if_neg (by omega), if_neg (by omega)]
theorem sub_get (hs : SortM m) (hx : x ∈ m) : getM x.f0 (subM P m) = x.f1.filter (P x.f0) := by
  induction m with
  | nil => cases hx
  | cons y t ih =>
    obtain ⟨h1, h2⟩ := List.pairwise_cons.1 hs
    rw [sub_cons]
    rcases List.mem_cons.1 hx with rfl | hx
    · have hup : ∀ z ∈ subM P t, x.f0 < z.f0 := fun z hz => by
        obtain ⟨u, hu, e⟩ := sub_mem hz
        have := h1 u hu; omega
      split
      · rename_i he
        rw [List.nil_append, getM_up hup, List.isEmpty_iff.1 he]
      · rw [List.cons_append, getM, if_neg (Int.lt_irrefl _), if_pos rfl]
    · have hlt := h1 x hx
      rw [getM_pre fun z hz => ?_]
      · exact ih h2 hx
      · split at hz
        · cases hz
        · rw [List.mem_singleton.1 hz]; exact hlt
theorem sub_same (h : ∀ y ∈ m, ∀ e, P' y.f0 e = P y.f0 e) : subM P' m = subM P m := by
  unfold subM
  congr 1
  refine List.map_congr_left fun y hy => ?_
  have : P' y.f0 = P y.f0 := funext fun e => h y hy e
  rw [this]
theorem sub_put (hs : SortM m) (hx : x ∈ m) (hP : ∀ o e, o ≠ x.f0 → P' o e = P o e) (hne : x.f1.filter (P' x.f0) ≠ []) : putM x.f0 (x.f1.filter (P' x.f0)) (subM P m) = subM P' m := by
  induction m with
  | nil => cases hx
  | cons y t ih =>
    obtain ⟨h1, h2⟩ := List.pairwise_cons.1 hs
    rw [sub_cons, sub_cons]
    rcases List.mem_cons.1 hx with rfl | hx
    · have hup : ∀ z ∈ subM P t, x.f0 < z.f0 := fun z hz => by
        obtain ⟨u, hu, e⟩ := sub_mem hz
        have := h1 u hu; omega
      have hsm : subM P' t = subM P t := sub_same fun z hz e => hP _ _ (by have := h1 z hz; omega)
      have hne2 : ¬ (x.f1.filter (P' x.f0)).isEmpty = true := fun h => hne (List.isEmpty_iff.1 h)
      rw [if_neg hne2, hsm]
      split
      · rw [List.nil_append, putM_up hup]; rfl
      · rw [List.cons_append, putM, if_neg (Int.lt_irrefl _), if_pos rfl]; rfl
    · have hlt := h1 x hx
      have hPy : P' y.f0 = P y.f0 := funext fun e => hP _ _ (by omega)
      rw [hPy, putM_pre fun z hz => ?_, ih h2 hx]
      split at hz
      · cases hz
      · rw [List.mem_singleton.1 hz]; exact hlt
end
theorem checkM_maps {m : List S94} (h : Flag.checkM (m.map toM) = 0) : m.length ≤ 9 ∧ SortM m ∧ ∀ x ∈ m, 0 ≤ x.f0 ∧ x.f0 ≤ 255 ∧ Flag.Map5 (x.f1.map toE) := by
  have h9 := Flag.checkM_ok.1 h
  refine ⟨by have := h9.len; simpa using this, ?_, fun x hx => h9.each (toM x) (List.mem_map_of_mem hx)⟩
  have := h9.ris
  rw [List.pairwise_map] at this
  exact this
theorem back_all {m : List S94} (hm : Flag.checkM (m.map toM) = 0) (R : List S88) : ∀ P : Int → S24 → Bool, (∀ r ∈ R, ∃ x ∈ m, ∃ e ∈ x.f1, r = ⟨e.f1, e.f2, x.f0, e.f0⟩ ∧ P x.f0 e = false) → R.Pairwise (fun a b => ¬ (a.f2 = b.f2 ∧ a.f3 = b.f3)) →
    (∀ x ∈ m, ∀ e ∈ x.f1, P x.f0 e = true ∨ (⟨e.f1, e.f2, x.f0, e.f0⟩ : S88) ∈ R) → backG R (subM P m) false = (someM m, 0) := by
  obtain ⟨hlen, hsort, heach⟩ := checkM_maps hm
  induction R with
  | nil =>
    intro P _ _ hall
    have e1 : subM P m = someM m := by
      unfold subM
      congr 1
      have : (m.map fun x => (⟨x.f0, x.f1.filter (P x.f0)⟩ : S94)) = m.map id := List.map_congr_left fun x hx => by
        have : x.f1.filter (P x.f0) = x.f1 := List.filter_eq_self.2 fun e he => (hall x hx e he).resolve_right (by simp)
        rw [this]; rfl
      rw [this, List.map_id]
    have e2 : (someM m).length ≤ 9 := Nat.le_trans (List.length_filter_le _ _) hlen
    rw [e1, backG, if_neg (by decide), if_neg (by omega)]
  | cons r t ih =>
    intro P hin hpw hall
    obtain ⟨x, hx, e, he, rfl, hPe⟩ := hin r List.mem_cons_self
    obtain ⟨p1, p2⟩ := List.pairwise_cons.1 hpw
    obtain ⟨k1, k2, k3⟩ := heach x hx
    obtain ⟨P', hP'⟩ : ∃ P' : Int → S24 → Bool, P' = fun o y => P o y || (decide (o = x.f0) && decide (y.f0 = e.f0)) := ⟨_, rfl⟩
    have hone : ∀ y ∈ x.f1, y.f0 = e.f0 → y = e := fun y hy h => by
      have a1 := (k3.ok _ (List.mem_map_of_mem hy)).1
      have a2 := (k3.ok _ (List.mem_map_of_mem he)).1
      simp only [toE] at a1 a2
      exact ext_one k3 hy he (i := y.f0) (by omega) (by omega) (by omega) (by omega)
    have hq' : ∀ y ∈ x.f1, (P' x.f0 y = true ↔ P x.f0 y = true ∨ y = e) := fun y hy => by
      rw [hP']
      simp only [decide_true, Bool.true_and, Bool.or_eq_true, decide_eq_true_eq]
      constructor
      · rintro (h | h)
        · exact .inl h
        · exact .inr (hone y hy h)
      · rintro (h | h)
        · exact .inl h
        · exact .inr (by rw [h])
    obtain ⟨f1, f2⟩ := filt_put k3 he hPe hq'
    have hne : x.f1.filter (P' x.f0) ≠ [] := fun h => by
      have : e ∈ x.f1.filter (P' x.f0) := List.mem_filter.2 ⟨he, (hq' e he).2 (.inr rfl)⟩
      rw [h] at this; cases this
    rw [backG]
    dsimp only
    rw [if_neg (by omega), sub_get hsort hx, f1, if_pos rfl, f2]
    dsimp only
    rw [sub_put hsort hx (P' := P') (fun o y ho => by rw [hP']; simp [ho]) hne, Bool.or_false]
    refine ih P' (fun s hs => ?_) p2 (fun y hy d hd => ?_)
    · obtain ⟨y, hy, d, hd, rfl, h3⟩ := hin s (List.mem_cons_of_mem _ hs)
      refine ⟨y, hy, d, hd, rfl, ?_⟩
      have := p1 _ hs
      dsimp only at this
      rw [hP']
      dsimp only
      rw [h3, Bool.false_or]
      by_cases h4 : y.f0 = x.f0
      · have : ¬ d.f0 = e.f0 := fun h5 => this ⟨h4.symm, h5.symm⟩
        simp [this]
      · simp [h4]
    · rcases hall y hy d hd with h | h
      · exact .inl (by rw [hP']; simp [h])
      · rcases List.mem_cons.1 h with h | h
        · injection h with h1 h2 h3 h4
          exact .inl (by rw [hP']; simp [h3, h4])
        · exact .inr h
theorem refs_apart {m : List S94} (hm : Flag.checkM (m.map toM) = 0) : (refsG m).Pairwise fun a b => ¬ (a.f2 = b.f2 ∧ a.f3 = b.f3) := by
  obtain ⟨hlen, hsort, heach⟩ := checkM_maps hm
  unfold refsG
  rw [List.pairwise_flatMap]
  refine ⟨fun x hx => ?_, hsort.imp fun {a b} h u hu v hv => ?_⟩
  · unfold refsOf
    rw [List.pairwise_map]
    have h1 := (heach x hx).2.2.nf.up
    rw [List.pairwise_map] at h1
    exact h1.imp fun {a b} h h2 => by
      have h : a.f0 < b.f0 := h
      have h3 : a.f0 = b.f0 := h2.2
      omega
  · obtain ⟨y, _, rfl⟩ := List.mem_map.1 hu
    obtain ⟨z, _, rfl⟩ := List.mem_map.1 hv
    intro h2
    have h3 : a.f0 = b.f0 := h2.1
    omega
theorem back_again {m : List S94} (hm : Flag.checkM (m.map toM) = 0) {l : List S88} (hp : l.Perm (refsG m)) (hl : l.length ≤ 4096) : backF l = (someM m, 0) := by
  unfold backF
  rw [if_neg (by omega)]
  have h0 : subM (fun _ _ => false) m = [] := by
    unfold subM someM
    refine List.filter_eq_nil_iff.2 fun x hx => ?_
    obtain ⟨y, _, rfl⟩ := List.mem_map.1 hx
    simp
  rw [← h0]
  refine back_all hm l _ (fun r hr => ?_) ?_ (fun x hx e he => .inr ?_)
  · have h1 := hp.mem_iff.1 hr
    unfold refsG at h1
    obtain ⟨x, hx, h2⟩ := List.mem_flatMap.1 h1
    obtain ⟨e, he, rfl⟩ := List.mem_map.1 h2
    exact ⟨x, hx, e, he, rfl, rfl⟩
  · exact (hp.pairwise_iff (fun {a b} h h2 => h ⟨h2.1.symm, h2.2.symm⟩)).2 (refs_apart hm)
  · refine hp.mem_iff.2 ?_
    unfold refsG
    exact List.mem_flatMap.2 ⟨x, hx, List.mem_map.2 ⟨e, he, rfl⟩⟩
theorem sortRefL_perm (l : List S88) : (sortRefL l).Perm l := by
  unfold sortRefL
  have h := (Flag.sortR_perm (l.map toR)).map ofR
  rw [List.map_map] at h
  have e : l.map (ofR ∘ toR) = l := List.map_id' l
  rw [e] at h
  exact h
section
variable {α : Type} {d : Kd α} {enc : α → List Value} {e : Nat} {w : World} {base : Nat} {ok : Nat → Prop} {v : Value} {xs : List α} {k g cap : Nat}
def LieL (enc : α → List Value) (k e : Nat) (w : World) (g cap : Nat) (cur : Array Value) (xs : List α) : Prop :=
  w.heap[g]? = some (.cells cur e (0, 0)) ∧ cur.size = cap * k ∧ xs.length ≤ cap ∧ cap ≤ maxLen ∧ cur.toList.take (xs.length * k) = xs.flatMap enc
theorem flat_len (hk : ∀ x, (enc x).length = k) (l : List α) : (l.flatMap enc).length = l.length * k := by
  induction l with
  | nil => simp
  | cons x t ih => rw [List.flatMap_cons, List.length_append, hk, ih, List.length_cons, Nat.succ_mul]; omega
theorem flat_take (hk : ∀ x, (enc x).length = k) (l : List α) (j : Nat) : (l.flatMap enc).take (j * k) = (l.take j).flatMap enc := by
  induction l generalizing j with
  | nil => simp
  | cons x t ih =>
    cases j with
    | zero => simp
    | succ j => rw [List.take_succ_cons, List.flatMap_cons, List.flatMap_cons, ← ih, List.take_append, hk, Nat.succ_mul, List.take_of_length_le (by rw [hk]; omega)]; congr 2; omega
theorem flat_drop (hk : ∀ x, (enc x).length = k) (l : List α) (j : Nat) : (l.flatMap enc).drop (j * k) = (l.drop j).flatMap enc := by
  induction l generalizing j with
  | nil => simp
  | cons x t ih =>
    cases j with
    | zero => simp
    | succ j => rw [List.drop_succ_cons, List.flatMap_cons, ← ih, List.drop_append, hk, Nat.succ_mul, List.drop_of_length_le (by rw [hk]; omega), List.nil_append]; congr 1; omega
theorem flat_get (hk : ∀ x, (enc x).length = k) (l : List α) (j : Nat) (x : α) (hj : l[j]? = some x) (i : Nat) (u : Value) (hu : (enc x)[i]? = some u) : (l.flatMap enc)[j * k + i]? = some u := by
  have h1 := flat_drop (enc := enc) hk l j
  have hjl := (List.getElem?_eq_some_iff.1 hj).1
  have h2 : l.drop j = x :: l.drop (j + 1) := by
    rw [← List.getElem_cons_drop hjl]
    have := (List.getElem?_eq_some_iff.1 hj).2
    rw [this]
  rw [h2, List.flatMap_cons] at h1
  have h3 : ((l.flatMap enc).drop (j * k))[i]? = some u := by
    rw [h1, List.getElem?_append_left (List.getElem?_eq_some_iff.1 hu).1]
    exact hu
  rwa [List.getElem?_drop] at h3
theorem flat_inj (hk : ∀ x, (enc x).length = k) (cs : List Value) : ∀ (l : List α), cs.length = l.length * k → (∀ j x, l[j]? = some x → ∀ i u, (enc x)[i]? = some u → cs[j * k + i]? = some u) → cs = l.flatMap enc := by
  intro l hl h
  apply List.ext_getElem?
  intro t
  by_cases ht : t < cs.length
  · have hk0 : 0 < k := by
      rcases Nat.eq_zero_or_pos k with h0 | h0
      · rw [h0, Nat.mul_zero] at hl; omega
      · exact h0
    have hj : t / k < l.length := by rw [Nat.div_lt_iff_lt_mul hk0]; omega
    have e1 : l[t / k]? = some l[t / k] := List.getElem?_eq_getElem hj
    have hm : t % k < (enc l[t / k]).length := by rw [hk]; exact Nat.mod_lt _ hk0
    have e2 := List.getElem?_eq_getElem hm
    have e3 : t / k * k + t % k = t := Nat.div_add_mod' t k
    have h1 := h _ _ e1 _ _ e2
    have h2 := flat_get (enc := enc) hk l _ _ e1 _ _ e2
    rw [e3] at h1 h2
    rw [h1, h2]
  · rw [List.getElem?_eq_none (by omega), List.getElem?_eq_none (by rw [flat_len hk]; omega)]
theorem Lies.toL (hk : ∀ x, (enc x).length = k) (h : Lies enc k e w g cap xs) : ∃ cur, LieL enc k e w g cap cur xs := by
  obtain ⟨cur, h1, h2, h3, h4, h5⟩ := h
  refine ⟨cur, h1, h2, h3, h4, flat_inj hk _ xs ?_ ?_⟩
  · rw [List.length_take, (show cur.toList.length = cur.size from Array.length_toList), h2]
    exact Nat.min_eq_left (Nat.mul_le_mul_right _ h3)
  · intro j x hj i u hu
    have hjl := (List.getElem?_eq_some_iff.1 hj).1
    have hi : i < k := by have := (List.getElem?_eq_some_iff.1 hu).1; rw [hk] at this; exact this
    have : (j + 1) * k ≤ xs.length * k := Nat.mul_le_mul_right _ hjl
    rw [Nat.add_mul, Nat.one_mul] at this
    rw [List.getElem?_take_of_lt (by omega), Array.getElem?_toList]
    exact h5 j x hj i u hu
theorem LieL.to (hk : ∀ x, (enc x).length = k) {cur : Array Value} (h : LieL enc k e w g cap cur xs) : Lies enc k e w g cap xs := by
  obtain ⟨h1, h2, h3, h4, h5⟩ := h
  refine ⟨cur, h1, h2, h3, h4, fun j x hj i u hu => ?_⟩
  have hjl := (List.getElem?_eq_some_iff.1 hj).1
  have hi : i < k := by have := (List.getElem?_eq_some_iff.1 hu).1; rw [hk] at this; exact this
  have : (j + 1) * k ≤ xs.length * k := Nat.mul_le_mul_right _ hjl
  rw [Nat.add_mul, Nat.one_mul] at this
  have h6 := flat_get (enc := enc) hk xs j x hj i u hu
  rw [← h5, List.getElem?_take_of_lt (by omega), Array.getElem?_toList] at h6
  exact h6
theorem LieL.cell {cur : Array Value} (h : LieL enc k e w g cap cur xs) (o j : Nat) (u : Value) (hj : cur.toList[o + j]? = some u) : w.cell? ((⟨g, o, none⟩ : Addr).add j) = some u := by
  rw [add_at, blk_cell h.1, ← Array.getElem?_toList]
  exact hj
end
section
variable {P : Program}
theorem run_copy_k (w : World) (dT sT ty elem : TypeId) (g o dLen dCap : Nat) (a : Addr) (sLen sCap : Nat) (cur : Array Value) (t : TypeId) (cs : List Value) (k : Nat)
    (hu : P.underlying dT = some (.slice elem)) (hs : ∀ w, (Go.sizeOf elem).run P w = .ok k w)
    (hg : w.heap[g]? = some (.cells cur t (0, 0))) (hn : cs.length = Nat.min sLen dLen * k)
    (hsrc : ∀ j v, cs[j]? = some v → w.cell? (a.add j) = some v) (hfit : o + cs.length ≤ cur.size) (h1 : ∀ v ∈ cs, v.oneCell' = true) :
    (Builtin.copy_ #[dT, sT] ty #[.slice (some ⟨g, o, none⟩) dLen dCap, .slice (some a) sLen sCap]).run P w =
      .ok (goInt (Nat.min sLen dLen)) (w.setRow g (cur.toList.take o ++ cs ++ cur.toList.drop (o + cs.length)).toArray) := by
  have hl := run_loadCells_list (P := P) w a cs hsrc
  have hst := run_storeCells_at P g o t cs 0 cur w hg (by simpa using hfit) h1
  rw [hn] at hl
  simp only [Nat.add_zero] at hst
  simp [Builtin.copy_, run_underlying hu, Builtin.lenOf, Builtin.firstCells, hs, hl, hst]
end
section
variable {α : Type} {enc : α → List Value} {e : Nat} {w : World} {k g cap : Nat}
theorem take_app_len {β : Type} (a b : List β) (n : Nat) (h : a.length = n) : (a ++ b).take n = a := by subst h; simp
theorem drop_app_len {β : Type} (a b : List β) (n : Nat) (h : a.length = n) : (a ++ b).drop n = b := by subst h; simp
theorem LieL.put (hk : ∀ x, (enc x).length = k) {cur : Array Value} {xs ys : List α} {i : Nat} (h : LieL enc k e w g cap cur xs) (hi : i ≤ xs.length) (hc : i + ys.length ≤ cap) :
    LieL enc k e (w.setRow g (cur.toList.take (i * k) ++ ys.flatMap enc ++ cur.toList.drop (i * k + (ys.flatMap enc).length)).toArray) g cap (cur.toList.take (i * k) ++ ys.flatMap enc ++ cur.toList.drop (i * k + (ys.flatMap enc).length)).toArray (xs.take i ++ ys) := by
  obtain ⟨h1, h2, h3, h4, h5⟩ := h
  have hfl := flat_len (enc := enc) hk ys
  have hik : i * k ≤ xs.length * k := Nat.mul_le_mul_right _ hi
  have hck : (i + ys.length) * k ≤ cap * k := Nat.mul_le_mul_right _ hc
  rw [Nat.add_mul] at hck
  have hl1 : (cur.toList.take (i * k)).length = i * k := by rw [List.length_take, (show cur.toList.length = cur.size from Array.length_toList), h2]; exact Nat.min_eq_left (by omega)
  have hpre : cur.toList.take (i * k) = (xs.take i).flatMap enc := by
    rw [← flat_take (enc := enc) hk xs i, ← h5, List.take_take, Nat.min_eq_left hik]
  have hxl : (xs.take i).length = i := by rw [List.length_take]; omega
  refine ⟨setRow_heap w g cur _ e (0, 0) h1, ?_, by rw [List.length_append, hxl]; exact hc, h4, ?_⟩
  · rw [List.size_toArray, List.length_append, List.length_append, hl1, List.length_drop, (show cur.toList.length = cur.size from Array.length_toList), h2, hfl]; omega
  · rw [List.length_append, hxl, List.flatMap_append, ← hpre, Nat.add_mul]
    exact take_app_len _ _ _ (by rw [List.length_append, hl1, hfl])
theorem LieL.cut (hk : ∀ x, (enc x).length = k) {cur : Array Value} {xs : List α} (h : LieL enc k e w g cap cur xs) (i : Nat) (hi : i ≤ xs.length) : LieL enc k e w g cap cur (xs.take i) := by
  obtain ⟨h1, h2, h3, h4, h5⟩ := h
  have hik : i * k ≤ xs.length * k := Nat.mul_le_mul_right _ hi
  have hxl : (xs.take i).length = i := by rw [List.length_take]; omega
  refine ⟨h1, h2, by omega, h4, ?_⟩
  rw [hxl, ← flat_take (enc := enc) hk xs i, ← h5, List.take_take, Nat.min_eq_left hik]
theorem LieL.behind {cur cur' : Array Value} {xs : List α} (h : LieL enc k e w g cap cur xs) (o : Nat) (ho : xs.length * k ≤ o) (hs : cur'.size = cur.size) (hc : cur'.toList.take o = cur.toList.take o) : LieL enc k e (w.setRow g cur') g cap cur' xs := by
  obtain ⟨h1, h2, h3, h4, h5⟩ := h
  refine ⟨setRow_heap w g cur _ e (0, 0) h1, by rw [hs, h2], h3, h4, ?_⟩
  have e1 : cur'.toList.take (xs.length * k) = (cur'.toList.take o).take (xs.length * k) := by rw [List.take_take, Nat.min_eq_left ho]
  rw [e1, hc, List.take_take, Nat.min_eq_left ho, h5]
theorem setRow_below {B : Nat} {w0 w : World} (h : Below B w0 w) (hg : B ≤ g) (cs : Array Value) : Below B w0 (w.setRow g cs) :=
  ⟨h.os, h.tape, h.output, by rw [setRow_size]; exact h.size, fun i hi => by rw [setRow_other w g i cs (by omega)]; exact h.block i hi⟩
end
section
variable {α : Type} {enc : α → List Value} {e : Nat} {w : World} {k g cap : Nat}
theorem LieL.put_mid (hk : ∀ x, (enc x).length = k) {cur : Array Value} {xs ys : List α} {i : Nat} (h : LieL enc k e w g cap cur xs) (hi : i + ys.length ≤ xs.length) :
    LieL enc k e (w.setRow g (cur.toList.take (i * k) ++ ys.flatMap enc ++ cur.toList.drop (i * k + (ys.flatMap enc).length)).toArray) g cap (cur.toList.take (i * k) ++ ys.flatMap enc ++ cur.toList.drop (i * k + (ys.flatMap enc).length)).toArray (xs.take i ++ ys ++ xs.drop (i + ys.length)) := by
  have hp := h.put hk (ys := ys) (show i ≤ xs.length by omega) (by have := h.2.2.1; omega)
  obtain ⟨h1, h2, h3, h4, h5⟩ := h
  have hfl := flat_len (enc := enc) hk ys
  have hxl : (xs.take i).length = i := by rw [List.length_take]; omega
  refine ⟨hp.1, hp.2.1, ?_, h4, ?_⟩
  · simp only [List.length_append, hxl, List.length_drop]; omega
  · have hlen : (xs.take i ++ ys ++ xs.drop (i + ys.length)).length = xs.length := by simp only [List.length_append, hxl, List.length_drop]; omega
    rw [hlen, List.flatMap_append]
    have h6 := hp.2.2.2.2
    simp only at h6 ⊢
    have hpl : (xs.take i ++ ys).length = i + ys.length := by rw [List.length_append, hxl]
    rw [hpl, Nat.add_mul] at h6
    have hl1 : (cur.toList.take (i * k)).length = i * k := by
      rw [List.length_take, (show cur.toList.length = cur.size from Array.length_toList), h2]
      exact Nat.min_eq_left (Nat.mul_le_mul_right _ (by omega))
    have hA : (cur.toList.take (i * k) ++ ys.flatMap enc).length = i * k + ys.length * k := by rw [List.length_append, hl1, hfl]
    have hle : i * k + ys.length * k ≤ xs.length * k := by rw [← Nat.add_mul]; exact Nat.mul_le_mul_right _ hi
    have h7 : cur.toList.take (i * k) ++ ys.flatMap enc = (xs.take i ++ ys).flatMap enc := by
      rw [← h6]
      exact (take_app_len _ _ _ hA).symm
    rw [List.take_append, List.take_of_length_le (by rw [hA]; exact hle), h7]
    congr 1
    rw [← h7, hA, hfl, ← flat_drop (enc := enc) hk xs (i + ys.length), ← h5, Nat.add_mul, List.drop_take]
theorem LieL.src (hk : ∀ x, (enc x).length = k) {cur : Array Value} {xs : List α} (h : LieL enc k e w g cap cur xs) (j : Nat) : ∀ t u, ((xs.drop j).flatMap enc)[t]? = some u → w.cell? ((⟨g, j * k, none⟩ : Addr).add t) = some u := by
  intro t u ht
  refine h.cell _ _ _ ?_
  rw [← flat_drop (enc := enc) hk xs j, ← h.2.2.2.2, List.getElem?_drop] at ht
  have hl := (List.getElem?_eq_some_iff.1 ht).1
  rw [List.length_take] at hl
  rw [List.getElem?_take_of_lt (by omega)] at ht
  exact ht
theorem LieL.same {w1 : World} {cur : Array Value} {xs : List α} (h : LieL enc k e w g cap cur xs) (hk : w1.heap[g]? = w.heap[g]?) : LieL enc k e w1 g cap cur xs := ⟨hk.trans h.1, h.2⟩
end
structure RawM where
  f0 : Int
  A : Option Addr
  n : Nat
  c : Nat
def encRM (x : RawM) : List Value := [.int .i64 x.f0, .slice x.A x.n x.c]
def kRM : Kd RawM := Kd.iso (Kd.pair (Kd.int .i64) (Kd.scalar (fun y : Option Addr × Nat × Nat => Value.slice y.1 y.2.1 y.2.2) (fun _ => rfl))) (fun x => (x.f0, (x.A, x.n, x.c)))
theorem rawLen (x : RawM) : (encRM x).length = 2 := rfl
theorem flatRM : Flat kRM encRM :=
  ⟨fun _ => rfl, by decide, fun x v hv => by
    simp only [encRM, List.mem_cons, List.not_mem_nil, or_false] at hv
    rcases hv with rfl | rfl <;> rfl, fun h => by
    obtain ⟨c0, c1, rfl, rfl, rfl⟩ := h
    rfl, fun w base ok x => ⟨_, _, rfl, rfl, rfl⟩⟩
theorem raw_one (l : List RawM) : ∀ v ∈ l.flatMap encRM, v.oneCell' = true := by
  intro v hv
  obtain ⟨x, _, hx⟩ := List.mem_flatMap.1 hv
  exact flatRM.one x v hx
theorem LieL.RR {w : World} {g cap : Nat} {cur : Array Value} {xs : List RawM} {base : Nat} {ok : Nat → Prop} (h : LieL encRM 2 94 w g cap cur xs) (hb : base ≤ g) (hg : ok g) : Kd.R kRM 94 w base ok (.slice (some ⟨g, 0, none⟩) xs.length cap) xs :=
  R_of_lies flatRM hb hg (h.to rawLen)
theorem raw_lie {w : World} {base : Nat} {ok : Nat → Prop} {v : Value} {xs : List RawM} (h : Kd.R kRM 94 w base ok v xs) (hx : xs ≠ []) : ∃ g c cur, v = .slice (some ⟨g, 0, none⟩) xs.length c ∧ base ≤ g ∧ ok g ∧ LieL encRM 2 94 w g c cur xs := by
  rcases R_lies flatRM h with ⟨_, h2⟩ | ⟨g, cap, h1, h2, h3, h4⟩
  · exact absurd h2 hx
  · obtain ⟨cur, h5⟩ := h4.toL rawLen
    exact ⟨g, cap, cur, h1, h2, h3, h5⟩
def FitsR (w : World) (base : Nat) (ok : Nat → Prop) (p : RawM × S94) : Prop := p.1.f0 = p.2.f0 ∧ Kd.R k24 24 w base ok (.slice p.1.A p.1.n p.1.c) p.2.f1
theorem FitsR.step {w w1 : World} {base : Nat} {ok : Nat → Prop} {p : RawM × S94} (h : FitsR w base ok p) (hs : ∀ k, ok k → k < w.heap.size → w1.heap[k]? = w.heap[k]?) : FitsR w1 base (fun k => ok k ∧ k < w.heap.size) p := by
  refine ⟨h.1, ?_⟩
  have h2 := Kd.R_bound h.2
  refine Kd.R_mono (Kd.R_move h2 (fun k hk => hs k hk.1 hk.2.2.1)) (fun k hk => ⟨hk.1, hk.2.2.1⟩)
theorem FitsR.mono {w : World} {base : Nat} {ok ok' : Nat → Prop} {p : RawM × S94} (h : FitsR w base ok p) (hs : ∀ k, ok k → ok' k) : FitsR w base ok' p := ⟨h.1, Kd.R_mono h.2 hs⟩
theorem reps_raw {w : World} {base : Nat} {ok : Nat → Prop} (o : List S94) : ∀ inner : List Value, Reps (Kd.M k94 w base ok) 2 o inner → ∃ ps : List (RawM × S94), o = ps.map (·.2) ∧ inner = (ps.map (·.1)).flatMap encRM ∧ ∀ p ∈ ps, FitsR w base ok p := by
  induction o with
  | nil =>
    intro inner h
    refine ⟨[], rfl, List.eq_nil_of_length_eq_zero (by simpa using h.1), fun p hp => (by cases hp)⟩
  | cons x t ih =>
    intro inner h
    have h0 := h.2 0 x rfl
    have hl := h.1
    rw [List.length_cons, Nat.add_mul] at hl
    obtain ⟨ps, e1, e2, e3⟩ := ih (inner.drop 2) ⟨by rw [List.length_drop]; omega, fun j p hj => by
      have h1 := h.2 (j + 1) p (by simpa using hj)
      rw [List.drop_drop]
      have : 2 + j * 2 = (j + 1) * 2 := by omega
      rw [this]
      exact h1⟩
    obtain ⟨c0, c1, hc, h1, v1, hv1, hR⟩ := h0
    obtain ⟨A1, cc, rfl⟩ := Kd.R_slice hR
    have hc0 : c0 = [.int .i64 x.f0] := h1
    refine ⟨(⟨x.f0, A1, x.f1.length, cc⟩, x) :: ps, by rw [e1]; rfl, ?_, fun p hp => ?_⟩
    · rw [List.map_cons, List.flatMap_cons, ← e2]
      have e4 : (inner.drop (0 * 2)).take 2 = inner.take 2 := by simp
      rw [e4, hc0, hv1] at hc
      show inner = [.int .i64 x.f0, .slice A1 x.f1.length cc] ++ inner.drop 2
      have e5 : [Value.int .i64 x.f0, Value.slice A1 x.f1.length cc] = inner.take 2 := hc.symm
      rw [e5, List.take_append_drop]
    · rcases List.mem_cons.1 hp with rfl | hp
      · exact ⟨rfl, hR⟩
      · exact e3 p hp
theorem raw_of {w : World} {base : Nat} {ok : Nat → Prop} {v : Value} {o : List S94} (h : Kd.R k94 94 w base ok v o) : (v = .slice none 0 0 ∧ o = []) ∨ ∃ g c cur, ∃ ps : List (RawM × S94), v = .slice (some ⟨g, 0, none⟩) o.length c ∧ base ≤ g ∧ ok g ∧ o = ps.map (·.2) ∧ LieL encRM 2 94 w g c cur (ps.map (·.1)) ∧ ∀ p ∈ ps, FitsR w base (fun k => ok k ∧ k ≠ g) p := by
  obtain ⟨hok, inner, ⟨hlen, hown⟩, hr⟩ := h
  rcases hown with ⟨h1, h2⟩ | ⟨g, cap, cur, rfl, hb, hh, h2, h3, h4, h5⟩
  · exact .inl ⟨h1, List.eq_nil_of_length_eq_zero h2⟩
  · obtain ⟨ps, e1, e2, e3⟩ := reps_raw o inner hr
    have hl : (ps.map (·.1)).length = o.length := by rw [e1]; simp
    refine .inr ⟨g, cap, cur, ps, rfl, hb, hok g rfl, e1, ⟨hh, h4, by rw [hl]; exact h2, h3, ?_⟩, fun p hp => (e3 p hp).mono fun k hk => ⟨hk.1, fun hg => hk.2 (by rw [hg]; rfl)⟩⟩
    rw [hl, ← e2]
    exact h5
theorem R_of_raw {w : World} {base : Nat} {ok : Nat → Prop} {g c : Nat} {cur : Array Value} {ps : List (RawM × S94)} (hL : LieL encRM 2 94 w g c cur (ps.map (·.1))) (hb : base ≤ g) (hg : ok g) (hf : ∀ p ∈ ps, FitsR w base (fun k => ok k ∧ k ≠ g) p) : Kd.R k94 94 w base ok (.slice (some ⟨g, 0, none⟩) ps.length c) (ps.map (·.2)) := by
  obtain ⟨h1, h2, h3, h4, h5⟩ := hL
  rw [List.length_map] at h3 h5
  have hl : ((ps.map (·.1)).flatMap encRM).length = ps.length * 2 := by rw [flat_len (enc := encRM) rawLen, List.length_map]
  refine ⟨fun k hk => ?_, (ps.map (·.1)).flatMap encRM, ⟨by rw [hl, List.length_map]; rfl, .inr ⟨g, c, cur, ?_, hb, h1, ?_, h4, h2, ?_⟩⟩, by rw [hl, List.length_map]; rfl, fun j p hj => ?_⟩
  · have : g = k := by simpa [Value.ownBlock] using hk
    rw [← this]; exact hg
  · rw [List.length_map]
  · rw [List.length_map]; exact h3
  · rw [List.length_map]; exact h5
  · rw [List.getElem?_map] at hj
    obtain ⟨q, hq, rfl⟩ := Option.map_eq_some_iff.1 hj
    have hjl := (List.getElem?_eq_some_iff.1 hq).1
    obtain ⟨f1, f2⟩ := hf q (List.mem_of_getElem? hq)
    have he : (((ps.map (·.1)).flatMap encRM).drop (j * 2)).take 2 = [.int .i64 q.2.f0, .slice q.1.A q.1.n q.1.c] := by
      have hd : (ps.map (·.1)).drop j = q.1 :: (ps.map (·.1)).drop (j + 1) := by
        have hj2 : j < (ps.map (·.1)).length := by rw [List.length_map]; exact hjl
        rw [← List.getElem_cons_drop hj2, List.getElem_map]
        rw [(List.getElem?_eq_some_iff.1 hq).2]
      rw [flat_drop (enc := encRM) rawLen, hd, List.flatMap_cons, ← f1]
      rfl
    show Kd.M k94 w base _ q.2 ((((ps.map (·.1)).flatMap encRM).drop (j * 2)).take 2)
    rw [he]
    refine k94_mkM w base _ q.2 (Kd.R_mono f2 fun k hk => ⟨hk.1, fun h => hk.2 ?_⟩)
    have := Option.some.inj h
    exact this
instance inhab40 : Inhabited S40 := ⟨z40⟩
def encSpan (x : S40) : List Value := [.int .i64 x.f0, .int .i64 x.f1]
theorem flatSpan : Flat k40 encSpan :=
  ⟨fun _ => rfl, by decide, fun x v hv => by
    simp only [encSpan, List.mem_cons, List.not_mem_nil, or_false] at hv
    rcases hv with rfl | rfl <;> rfl, fun h => k40_openM h, fun w base ok x => k40_mkM w base ok x⟩
def cmpAt (x y : S40) : Int := if x.f0 < y.f0 then -1 else if y.f0 < x.f0 then 1 else 0
open Go.Sort Go.Proofs in
theorem lt_cmpAt (x y : S40) : ltOf cmpAt x y = decide (x.f0 < y.f0) := by
  unfold ltOf cmpAt
  by_cases h1 : x.f0 < y.f0
  · simp [h1]
  · by_cases h2 : y.f0 < x.f0 <;> simp [h1, h2]
open Go.Sort Go.Proofs in
theorem swo_cmpAt : SWO (ltOf cmpAt) where
  irrefl x := by rw [lt_cmpAt]; simp
  trans x y z h1 h2 := by rw [lt_cmpAt] at *; simp at *; omega
  ntrans x y z h1 h2 := by rw [lt_cmpAt] at *; simp at *; omega
theorem cmp_f (a b : Int) : cmp_Compare_int.f a b = some (if a < b then -1 else if b < a then 1 else 0) := by
  unfold cmp_Compare_int.f cmp_isNaN_int.f
  simp only [bne_self_eq_false, Option.bind_some, Bool.false_eq_true, if_false]
  split
  · rfl
  · split
    · rfl
    · rfl
structure OkSp (x : S40) : Prop where
  a : 0 ≤ x.f0
  n : 0 < x.f1
  e : x.f0 + x.f1 ≤ 1099511627776
instance okSp_dec (x : S40) : Decidable (OkSp x) := decidable_of_iff (0 ≤ x.f0 ∧ 0 < x.f1 ∧ x.f0 + x.f1 ≤ 1099511627776) ⟨fun h => ⟨h.1, h.2.1, h.2.2⟩, fun h => ⟨h.a, h.n, h.e⟩⟩
def sortL (l : List S40) : List S40 := l.mergeSort fun a b => decide (a.f0 ≤ b.f0)
theorem sortL_perm (l : List S40) : (sortL l).Perm l := List.mergeSort_perm l _
theorem sortL_sorted (l : List S40) : (sortL l).Pairwise fun a b => a.f0 ≤ b.f0 := by
  have h := List.pairwise_mergeSort (le := fun a b : S40 => decide (a.f0 ≤ b.f0)) (fun a b c h1 h2 => by simp at *; omega) (fun a b => by simp; omega) l
  exact h.imp (fun {a b} h => by simpa using h)
def toC (c : S96) : Flag.Ex := ⟨c.f0, c.f2 + c.f0, c.f1⟩
def ofC (x : Flag.Ex) : S96 := ⟨x.v, x.n, x.p - x.v⟩
theorem ofC_toC (c : S96) : ofC (toC c) = c := by
  unfold ofC toC
  have : c.f2 + c.f0 - c.f0 = c.f2 := by omega
  rw [this]
theorem mapC_inj {l m : List S96} (h : l.map toC = m.map toC) : l = m := by
  have key : ∀ l : List S96, (l.map toC).map ofC = l := by
    intro l
    rw [List.map_map]
    induction l with
    | nil => rfl
    | cons x t ih => rw [List.map_cons, ih]; congr 1; exact ofC_toC x
  rw [← key l, h, key m]
def toEd (x : S40) : Flag.Ed := ⟨x.f0, x.f1⟩
def edgesR (r : S88) : List S40 := [⟨r.f0, 1⟩, ⟨wrap64 (r.f0 + r.f1), -1⟩]
def edgesS (l : List S88) : List S40 := l.flatMap edgesR
theorem edgesS_len (l : List S88) : (edgesS l).length = 2 * l.length := by
  unfold edgesS
  induction l with
  | nil => rfl
  | cons r t ih => rw [List.flatMap_cons, List.length_append, ih, List.length_cons]; unfold edgesR; simp; omega
def pushC (o : List S96) (at_ n x : Int) : List S96 :=
  if 0 < o.length ∧ (rd_T96 o (o.length - 1)).f2 = n ∧ wrap64 ((rd_T96 o (o.length - 1)).f0 + (rd_T96 o (o.length - 1)).f1) = at_ then
    o.set ((o.length : Int) - 1).toNat ⟨(rd_T96 o (o.length - 1)).f0, wrap64 ((rd_T96 o (o.length - 1)).f1 + wrap64 (x - at_)), (rd_T96 o (o.length - 1)).f2⟩
  else o ++ [⟨at_, wrap64 (x - at_), n⟩]
def stepS (s : List S96 × Int × Int) (x : S40) : List S96 × Int × Int :=
  (if 0 < s.2.1 ∧ s.2.2 < x.f0 then pushC s.1 s.2.2 s.2.1 x.f0 else s.1, wrap64 (s.2.1 + x.f1), x.f0)
theorem pushC_length (o : List S96) (a n x : Int) : (pushC o a n x).length ≤ o.length + 1 := by
  unfold pushC
  split
  · rw [List.length_set]; omega
  · simp
theorem stepS_length (s : List S96 × Int × Int) (x : S40) : (stepS s x).1.length ≤ s.1.length + 1 := by
  unfold stepS
  dsimp only
  split
  · exact pushC_length _ _ _ _
  · omega
theorem foldS_length (l : List S40) : ∀ s : List S96 × Int × Int, (l.foldl stepS s).1.length ≤ s.1.length + l.length := by
  induction l with
  | nil => intro s; simp
  | cons x t ih =>
    intro s
    have h1 := ih (stepS s x)
    have h2 := stepS_length s x
    simp only [List.foldl_cons, List.length_cons]
    omega
structure OkC (c : S96) : Prop where
  a : 0 ≤ c.f0
  n : 0 < c.f1
  e : c.f0 + c.f1 ≤ 65536
  p : 0 < c.f2
structure InvC (s : List S96 × Int × Int) (k : Nat) : Prop where
  ok : ∀ c ∈ s.1, OkC c
  a : 0 ≤ s.2.2
  e : s.2.2 ≤ 65536
  lo : -(k : Int) ≤ s.2.1
  hi : s.2.1 ≤ k
structure OkEd (x : S40) : Prop where
  a : 0 ≤ x.f0
  e : x.f0 ≤ 65536
  lo : -1 ≤ x.f1
  hi : x.f1 ≤ 1
theorem pushC_toC {o : List S96} {a n x : Int} (ho : ∀ c ∈ o, OkC c) (ha : 0 ≤ a) (hn : 0 < n) (hx : x ≤ 65536) (hax : a < x) :
    (pushC o a n x).map toC = Flag.addE (o.map toC) ⟨a, n + a, x - a⟩ ∧ ∀ c ∈ pushC o a n x, OkC c := by
  unfold pushC Flag.addE
  dsimp only
  rw [if_neg (show ¬ x - a ≤ 0 by omega), w64 (n := x - a) (by omega)]
  rcases List.eq_nil_or_concat o with rfl | ⟨m, y, rfl⟩
  · rw [if_neg (by simp)]
    refine ⟨rfl, fun z hz => ?_⟩
    have : z = ⟨a, x - a, n⟩ := by simpa using hz
    rw [this]; exact ⟨ha, show 0 < x - a by omega, show a + (x - a) ≤ 65536 by omega, hn⟩
  · rw [List.concat_eq_append] at ho ⊢
    have hr : rd_T96 (m ++ [y]) (((m ++ [y]).length : Int) - 1) = y := by simp [rd_T96]
    obtain ⟨y1, y2, y3, y4⟩ := ho y (by simp)
    have hl : (m ++ [y]).map toC = m.map toC ++ [toC y] := by simp
    rw [hr, w64 (n := y.f0 + y.f1) (by omega), w64 (n := y.f1 + (x - a)) (by omega), hl, List.getLast?_concat]
    dsimp only
    by_cases hc : y.f2 = n ∧ y.f0 + y.f1 = a
    · rw [if_pos ⟨by simp, hc⟩, if_pos (by
        refine ⟨hc.2, Or.inr ⟨?_, ?_⟩⟩
        · show 0 ≤ y.f2 + y.f0; omega
        · show n + a = y.f2 + y.f0 + y.f1; omega)]
      have e : (((m ++ [y]).length : Int) - 1).toNat = m.length := by simp
      rw [e]
      have e2 : (m ++ [y]).set m.length (⟨y.f0, y.f1 + (x - a), y.f2⟩ : S96) = m ++ [⟨y.f0, y.f1 + (x - a), y.f2⟩] := by simp
      rw [e2, List.dropLast_concat]
      refine ⟨by simp [toC], fun z hz => ?_⟩
      rcases List.mem_append.1 hz with hz | hz
      · exact ho z (List.mem_append_left _ hz)
      · have : z = ⟨y.f0, y.f1 + (x - a), y.f2⟩ := by simpa using hz
        rw [this]
        exact ⟨y1, show 0 < y.f1 + (x - a) by omega, show y.f0 + (y.f1 + (x - a)) ≤ 65536 by omega, y4⟩
    · rw [if_neg (fun h => hc h.2), if_neg (by
        rintro ⟨h1, h2⟩
        have h1 : y.f0 + y.f1 = a := h1
        rcases h2 with ⟨h3, _⟩ | ⟨_, h4⟩
        · have h3 : y.f2 + y.f0 < 0 := h3
          omega
        · have h4 : n + a = y.f2 + y.f0 + y.f1 := h4
          exact hc ⟨by omega, h1⟩)]
      refine ⟨by simp [toC], fun z hz => ?_⟩
      rcases List.mem_append.1 hz with hz | hz
      · exact ho z hz
      · have : z = ⟨a, x - a, n⟩ := by simpa using hz
        rw [this]; exact ⟨ha, show 0 < x - a by omega, show a + (x - a) ≤ 65536 by omega, hn⟩
theorem stepS_toC {s : List S96 × Int × Int} {x : S40} {k : Nat} (hs : InvC s k) (hk : k < 1000000) (hx : OkEd x) :
    ((stepS s x).1.map toC, (stepS s x).2.1, (stepS s x).2.2) = Flag.stepC (s.1.map toC, s.2.1, s.2.2) (toEd x) ∧ InvC (stepS s x) (k + 1) := by
  obtain ⟨h1, h2, h3, h4, h5⟩ := hs
  obtain ⟨x1, x2, x3, x4⟩ := hx
  unfold stepS Flag.stepC toEd
  dsimp only
  rw [w64 (n := s.2.1 + x.f1) (by omega)]
  by_cases hc : 0 < s.2.1 ∧ s.2.2 < x.f0
  · rw [if_pos hc, if_pos hc]
    obtain ⟨g1, g2⟩ := pushC_toC h1 h2 hc.1 x2 hc.2
    rw [g1]
    exact ⟨rfl, g2, x1, x2, by dsimp only; omega, by dsimp only; omega⟩
  · rw [if_neg hc, if_neg hc]
    exact ⟨rfl, h1, x1, x2, by dsimp only; omega, by dsimp only; omega⟩
theorem foldS_toC {l : List S40} : ∀ {s : List S96 × Int × Int} {k : Nat}, InvC s k → k + l.length < 1000000 → (∀ x ∈ l, OkEd x) →
    (l.foldl stepS s).1.map toC = ((l.map toEd).foldl Flag.stepC (s.1.map toC, s.2.1, s.2.2)).1 ∧ ∀ c ∈ (l.foldl stepS s).1, OkC c := by
  induction l with
  | nil => intro s k hs _ _; exact ⟨rfl, hs.ok⟩
  | cons x t ih =>
    intro s k hs hk hl
    rw [List.length_cons] at hk
    obtain ⟨h1, h2⟩ := stepS_toC hs (by omega) (hl x List.mem_cons_self)
    obtain ⟨h3, h4⟩ := ih h2 (by omega) fun y hy => hl y (List.mem_cons_of_mem _ hy)
    refine ⟨?_, h4⟩
    rw [List.foldl_cons, h3, h1, List.map_cons, List.foldl_cons]
def countsL (l : List S88) : List S96 := ((sortL (edgesS l)).foldl stepS ([], 0, 0)).1
theorem edges_toEd {l : List S88} (h : Flag.Ok9 (l.map toR)) : (edgesS l).map toEd = Flag.edges (l.map toR) ∧ ∀ x ∈ edgesS l, OkEd x := by
  have key : ∀ r ∈ l, 0 < r.f1 ∧ 0 ≤ r.f0 ∧ r.f0 + r.f1 ≤ 65536 := fun r hr => by
    have := h.each (toR r) (List.mem_map_of_mem hr)
    exact ⟨this.1, this.2.1, this.2.2.1⟩
  clear h
  unfold edgesS Flag.edges
  induction l with
  | nil => exact ⟨rfl, by intro x hx; cases hx⟩
  | cons r t ih =>
    obtain ⟨i1, i2⟩ := ih fun x hx => key x (List.mem_cons_of_mem _ hx)
    obtain ⟨k1, k2, k3⟩ := key r List.mem_cons_self
    rw [List.flatMap_cons, List.map_append, i1, List.map_cons, List.flatMap_cons]
    have hw : edgesR r = [⟨r.f0, 1⟩, ⟨r.f0 + r.f1, -1⟩] := by unfold edgesR; rw [w64 (n := r.f0 + r.f1) (by omega)]
    refine ⟨by rw [hw]; rfl, fun x hx => ?_⟩
    rcases List.mem_append.1 hx with hx | hx
    · rw [hw] at hx
      simp at hx
      rcases hx with rfl | rfl
      · exact ⟨by dsimp only; omega, by dsimp only; omega, by dsimp only; omega, by dsimp only; omega⟩
      · exact ⟨by dsimp only; omega, by dsimp only; omega, by dsimp only; omega, by dsimp only; omega⟩
    · exact i2 x hx
theorem inv_start : InvC (([], 0, 0) : List S96 × Int × Int) 0 := InvC.mk (fun c hc => nomatch hc) (Int.le_refl 0) (show (0 : Int) ≤ 65536 by omega) (Int.le_refl 0) (Int.le_refl 0)
theorem counts_any {l : List S88} {ys : List S40} (h : Flag.Ok9 (l.map toR)) (hl : l.length ≤ 9216) (hp : ys.Perm (edgesS l)) (hs : ys.Pairwise fun a b => a.f0 ≤ b.f0) :
    Flag.CountsOf (l.map toR) ((ys.foldl stepS ([], 0, 0)).1.map toC) ∧ ∀ c ∈ (ys.foldl stepS ([], 0, 0)).1, OkC c := by
  obtain ⟨e1, e2⟩ := edges_toEd h
  have hn := hp.length_eq
  rw [edgesS_len] at hn
  obtain ⟨f1, f2⟩ := foldS_toC (l := ys) inv_start (by omega) fun x hx => e2 x (hp.mem_iff.1 hx)
  refine ⟨?_, f2⟩
  rw [f1]
  refine Flag.counts_prog (l := l.map toR) (es := ys.map toEd) (fun r hr => ?_) ?_ ?_
  · have := h.each r hr
    exact ⟨this.1, this.2.1⟩
  · rw [← e1]; exact hp.map toEd
  · exact List.pairwise_map.2 hs
theorem counts_one {l : List S88} {ys : List S40} (h : Flag.Ok9 (l.map toR)) (hl : l.length ≤ 9216) (hp : ys.Perm (edgesS l)) (hs : ys.Pairwise fun a b => a.f0 ≤ b.f0) : (ys.foldl stepS ([], 0, 0)).1 = countsL l :=
  mapC_inj ((counts_any h hl hp hs).1.one (counts_any h hl (sortL_perm _) (sortL_sorted _)).1)
def sortEdge_ren : Go.Shelf.Ren := ⟨fun | 6 => 117 | 15 => 147 | 14 => 146 | 28 => 169 | 29 => 170 | 20 => 161 | 21 => 162 | 22 => 163 | 23 => 164 | 24 => 165 | 25 => 166 | 26 => 167 | 27 => 168 | 46 => 189 | 47 => 190 | 48 => 191 | 49 => 192 | 50 => 193 | 57 => 203 | n => n, fun | 22 => 165 | 24 => 167 | 25 => 169 | 3 => 3 | 39 => 183 | 0 => 0 | 53 => 213 | 55 => 215 | 4 => 4 | 46 => 207 | 45 => 206 | 50 => 147 | 5 => 5 | 9 => 9 | 66 => 226 | 70 => 230 | 76 => 238 | 77 => 50 | n => n, fun | n => n⟩
theorem sortEdge : Go.Proofs.SlLaysF0.n6 Try.prog sortEdge_ren := {
  mixed := by kernel_rfl,
  f6 := ⟨Try.f117.name, by decide, Try.func117.trans (congrArg some (by kernel_rfl))⟩,
  f14 := ⟨Try.f146.name, by decide, Try.func146.trans (congrArg some (by kernel_rfl))⟩,
  f15 := Try.func147.trans (congrArg some (by kernel_rfl)),
  f20 := ⟨Try.f161.name, by decide, Try.func161.trans (congrArg some (by kernel_rfl))⟩,
  f21 := ⟨Try.f162.name, by decide, Try.func162.trans (congrArg some (by kernel_rfl))⟩,
  f22 := ⟨Try.f163.name, by decide, Try.func163.trans (congrArg some (by kernel_rfl))⟩,
  f23 := ⟨Try.f164.name, by decide, Try.func164.trans (congrArg some (by kernel_rfl))⟩,
  f24 := ⟨Try.f165.name, by decide, Try.func165.trans (congrArg some (by kernel_rfl))⟩,
  f25 := ⟨Try.f166.name, by decide, Try.func166.trans (congrArg some (by kernel_rfl))⟩,
  f26 := ⟨Try.f167.name, by decide, Try.func167.trans (congrArg some (by kernel_rfl))⟩,
  f27 := ⟨Try.f168.name, by decide, Try.func168.trans (congrArg some (by kernel_rfl))⟩,
  f28 := Try.func169.trans (congrArg some (by kernel_rfl)),
  f29 := Try.func170.trans (congrArg some (by kernel_rfl)),
  f46 := ⟨Try.f189.name, by decide, Try.func189.trans (congrArg some (by kernel_rfl))⟩,
  f47 := Try.func190.trans (congrArg some (by kernel_rfl)),
  f48 := Try.func191.trans (congrArg some (by kernel_rfl)),
  f49 := ⟨Try.f192.name, by decide, Try.func192.trans (congrArg some (by kernel_rfl))⟩,
  f50 := ⟨Try.f193.name, by decide, Try.func193.trans (congrArg some (by kernel_rfl))⟩,
  f57 := ⟨Try.f203.name, by decide, Try.func203.trans (congrArg some (by kernel_rfl))⟩,
  t0 := Try.underlying0,
  a0 := Try.isAgg0,
  z0 := Try.sizeOf0,
  v0 := Try.zeroValue0,
  t3 := Try.underlying3,
  a3 := Try.isAgg3,
  z3 := Try.sizeOf3,
  v3 := Try.zeroValue3,
  t4 := Try.underlying4,
  a4 := Try.isAgg4,
  z4 := Try.sizeOf4,
  v4 := Try.zeroValue4,
  t5 := Try.underlying5,
  a5 := Try.isAgg5,
  z5 := Try.sizeOf5,
  v5 := Try.zeroValue5,
  t9 := Try.underlying9,
  a9 := Try.isAgg9,
  z9 := Try.sizeOf9,
  v9 := Try.zeroValue9,
  t22 := Try.underlying165,
  a22 := Try.isAgg165,
  z22 := Try.sizeOf165,
  v22 := Try.zeroValue165,
  t25 := Try.underlying169,
  a25 := Try.isAgg169,
  z25 := Try.sizeOf169,
  v25 := Try.zeroValue169,
  t39 := Try.underlying183,
  a39 := Try.isAgg183,
  z39 := Try.sizeOf183,
  v39 := Try.zeroValue183,
  t45 := Try.underlying206,
  a45 := Try.isAgg206,
  z45 := Try.sizeOf206,
  v45 := Try.zeroValue206,
  t46 := Try.underlying207,
  a46 := Try.isAgg207,
  z46 := Try.sizeOf207,
  v46 := Try.zeroValue207,
  t50 := Try.underlying147,
  a50 := Try.isAgg147,
  z50 := Try.sizeOf147,
  v50 := Try.zeroValue147,
  t53 := Try.underlying213,
  a53 := Try.isAgg213,
  z53 := Try.sizeOf213,
  v53 := Try.zeroValue213,
  t55 := Try.underlying215,
  a55 := Try.isAgg215,
  z55 := Try.sizeOf215,
  v55 := Try.zeroValue215,
  t66 := Try.underlying226,
  a66 := Try.isAgg226,
  z66 := Try.sizeOf226,
  v66 := Try.zeroValue226,
  t70 := Try.underlying230,
  a70 := Try.isAgg230,
  z70 := Try.sizeOf230,
  v70 := Try.zeroValue230,
  t76 := Try.underlying238,
  a76 := Try.isAgg238,
  z76 := Try.sizeOf238,
  v76 := Try.zeroValue238,
  t77 := Try.underlying50,
  a77 := Try.isAgg50,
  z77 := Try.sizeOf50,
  v77 := Try.zeroValue50 }
set_option maxHeartbeats 1000000 in
set_option maxRecDepth 100000 in
open Go.Proofs Go.Sort in
theorem edge_cmp (x y : S40) (W : World) : Calls Try.prog 118 #[.agg #[.int .i64 x.f0, .int .i64 x.f1], .agg #[.int .i64 y.f0, .int .i64 y.f1]] W fun e w' => e = .returned (.int .i64 (cmpAt x y)) ∧ ∃ q os', w' = grow (W.drewN q) os' := by
  have hu167 := Try.underlying167
  have hf : cmp_Compare_int.f x.f0 y.f0 = some (cmpAt x y) := cmp_f x.f0 y.f0
  go_enter Try.func118, Try.ntmps118
  go_wp2_with fail
  refine (cmp_Compare_int.calls x.f0 y.f0 _ _ hf).mono ?_
  rintro e w1 ⟨rfl, ⟨q, rfl⟩⟩
  clear hf
  go_wp2
  go_ret
  exact ⟨rfl, q, _, by rw [alloc_eq_grow, alloc_eq_grow, grow_grow]; rfl⟩
open Go.Proofs Go.Sort in
theorem sort_edge (cl : Nat) (eg : ∀ args w, (callFunc cl args).run Try.prog w = .ok (.enter cl args) w)
    (hcl : ∀ (x y : S40) (W : World), Calls Try.prog cl #[.agg #[.int .i64 x.f0, .int .i64 x.f1], .agg #[.int .i64 y.f0, .int .i64 y.f1]] W fun e w' => e = .returned (.int .i64 (cmpAt x y)) ∧ ∃ q os', w' = grow (W.drewN q) os')
    {w0 w : World} {base : Nat} {ok : Nat → Prop} {v : Value} {xs : List S40} (HO : Kd.R k40 167 w base ok v xs) (HB : Go.RowKit.Below base w0 w) (hbase : base ≤ w.heap.size) (hlen : xs.length < 4611686018427387904) :
    Calls Try.prog 117 #[v, .func (.func cl) #[] #[]] w fun e w' => e = .returned (.tuple #[]) ∧ ∃ ys : List S40, ys.Perm xs ∧ (ys.Pairwise fun a b => a.f0 ≤ b.f0) ∧ Kd.R k40 167 w' base ok v ys ∧ Go.RowKit.Below base w0 w' ∧ w.heap.size ≤ w'.heap.size ∧ (∀ i, i < w.heap.size → some i ≠ v.ownBlock → w'.heap[i]? = w.heap[i]?) := by
  rcases R_lies flatSpan HO with ⟨rfl, rfl⟩ | ⟨g, cap, rfl, hg, hok, hL⟩
  · refine (AnyF.slices_SortFunc_none sortEdge none 0 (.func (.func cl) #[] #[]) w).mono ?_
    rintro e w' ⟨rfl, rfl⟩
    exact ⟨rfl, [], List.Perm.nil, List.Pairwise.nil, HO, HB, Nat.le_refl _, fun _ _ _ => rfl⟩
  · have hk : ∀ x : S40, (encSpan x).length = 2 := fun _ => rfl
    have hcon := AnyQ.slices_SortFunc sortEdge 2 Try.isAgg167 Try.sizeOf167 encSpan hk flatSpan.one cmpAt swo_cmpAt cl #[] g 0 cap xs.toArray w eg (fun m os dk hd x y => hcl x y _) (hL.holds hk (by decide)) hL.block (by simpa using hlen)
    refine Calls.mono hcon ?_
    rintro e w' ⟨rfl, d', n, os, hp, hs, rfl⟩
    obtain ⟨h1, h2, h3⟩ := sort_list hp hs
    have h4 := hL.sorted (n := n) (os := os) hk (by decide) h1
    refine ⟨rfl, d'.toList, h2, h3.imp (fun {a b} h => ?_), ?_, sorted_below HB hg hbase, ?_, fun i hi hne => ?_⟩
    · rw [lt_cmpAt] at h
      have := of_decide_eq_false h
      omega
    · have h5 := R_of_lies (base := base) (ok := ok) flatSpan hg hok h4
      have e1 : d'.toList.length = xs.length := by simpa using h1
      rw [e1] at h5
      exact h5
    · exact size_sortWorldK_c encSpan 2 w g 0 n d' os
    · rw [sorted_heap 2 g n d' os i hi, if_neg (fun h => hne (by rw [h]; rfl))]
theorem infoEdge : (Try.prog.info? 167).map (fun i => (i.zero, i.size, i.bytes)) = some (some (.agg #[(.int .i64 0), (.int .i64 0)]), 2, 16) := by kernel_rfl
theorem reads_two (W : World) (x y : S40) : ReadsRow (fun (x : S40) cs => cs = [.int .i64 x.f0, .int .i64 x.f1]) 2 (W.alloc (.cells #[.int .i64 x.f0, .int .i64 x.f1, .int .i64 y.f0, .int .i64 y.f1] 167)) (some ⟨W.heap.size, 0, none⟩) 2 [x, y] := by
  refine ⟨rfl, by decide, fun _ => ⟨_, rfl, fun j p hp => ?_⟩⟩
  have hb := blk_new W (.cells #[.int .i64 x.f0, .int .i64 x.f1, .int .i64 y.f0, .int .i64 y.f1] 167)
  match j, hp with
  | 0, hp =>
    cases hp
    refine ⟨_, rfl, rfl, fun i u hu => ?_⟩
    match i, hu with
    | 0, hu => cases hu; exact (blk_cell hb 0).trans rfl
    | 1, hu => cases hu; exact (blk_cell hb 1).trans rfl
    | n + 2, hu => cases hu
  | 1, hp =>
    cases hp
    refine ⟨_, rfl, rfl, fun i u hu => ?_⟩
    match i, hu with
    | 0, hu => cases hu; exact (blk_cell hb 2).trans rfl
    | 1, hu => cases hu; exact (blk_cell hb 3).trans rfl
    | n + 2, hu => cases hu
  | n + 2, hp => cases hp
def refs_Counts.f (l0 : List (S94)) : Option ((List (S96)) × Int) := some (if Flag.checkM (l0.map toM) = 0 then (countsL (sortRefL (refsG l0)), 0) else ([], 9))
set_option maxHeartbeats 8000000 in
set_option maxRecDepth 100000 in
theorem refs_Counts.calls (A0 : Option Addr) (c0 : Nat) (l0 : List (S94)) (r1 : List (S96)) (r2 : Int) (w : World) (hr0 : Kd.C k94 w A0 l0.length l0) (hc0 : l0.length ≤ c0) (h : refs_Counts.f l0 = some (r1, r2)) :
    Calls Try.prog 62 #[.slice A0 l0.length c0] w fun e w' => ∃ v0_ : Value, e = .returned (.tuple #[v0_, .int .i64 r2]) ∧ Kd.R k96 96 w' w.heap.size (fun _ => True) v0_ r1 ∧ Below w.heap.size w w' := by
  have hu94 := Try.underlying94
  have hu88 := Try.underlying88
  have hu167 := Try.underlying167
  have hu96 := Try.underlying96
  unfold refs_Counts.f at h
  have h := Option.some.inj h
  by_cases hc : Flag.checkM (l0.map toM) = 0
  · rw [if_pos hc] at h
    obtain ⟨rfl, rfl⟩ := Prod.mk.inj h
    have h9 := Flag.checkM_ok.1 hc
    have hln := refsG_len h9
    obtain ⟨r, hr⟩ : ∃ r, r = sortRefL (refsG l0) := ⟨_, rfl⟩
    have hok : Flag.Ok9 (r.map toR) := by
      rw [hr, sortRefL_toR, refsG_toR]
      exact (Flag.refsM_ok h9).perm (Flag.sortR_perm _)
    obtain ⟨n, hn⟩ : ∃ n, n = r.length := ⟨_, rfl⟩
    have hn9 : n ≤ 9216 := by
      have e1 : (r.map toR).length = (refsG l0).length := by rw [hr, sortRefL_toR, (Flag.sortR_perm _).length_eq, List.length_map]
      rw [List.length_map] at e1
      omega
    have hcr := refs_Refs.calls A0 c0 l0 r 0 w hr0 hc0 (by unfold refs_Refs.f; rw [if_pos hc, hr])
    have HCR := Aside0.mk hcr
    have HOK := Aside0.mk hok
    have HN := Aside0.mk hn
    have HN9 := Aside0.mk hn9
    rw [← hr]
    clear hcr hok hn hn9 hln h9 h hr hc hr0
    go_enter Try.func62, Try.ntmps62
    go_wp2_with fail
    refine HCR.out.mono ?_
    rintro e w1 ⟨v1, rfl, hR1, hb1⟩
    obtain ⟨A1, c1, rfl⟩ := Kd.R_slice hR1
    rw [← HN.out] at hR1 ⊢
    have HR1 := Aside0.mk hR1
    have HB1 := Aside0.mk hb1
    clear hR1 hb1
    go_wp2_with fail
    go_loopg [6, 25] n (fun gk v6 v25 W => ∃ (i : Int) (o : List S40), v25 = .int .i64 i ∧ Aside0 (0 ≤ i ∧ i + gk = n) ∧ Aside0 (o = edgesS (r.take i.toNat) ∧ (o.length : Int) = 2 * i) ∧ Aside0 (Kd.R k40 167 W w.heap.size (fun k => some k ≠ (Value.slice A1 n c1).ownBlock) v6 o) ∧ Aside0 (Below w.heap.size w W ∧ w1.heap.size ≤ W.heap.size ∧ ∀ k, (Value.slice A1 n c1).ownBlock = some k → W.heap[k]? = w1.heap[k]?))
    case atStart => exact ⟨0, [], rfl, ⟨Int.le_refl _, by simp⟩, ⟨rfl, rfl⟩, ⟨Kd.R_nil _ _ _ _ _⟩, ⟨HB1.out, Nat.le_refl _, fun _ _ => rfl⟩⟩
    case round =>
      obtain ⟨i, o, rfl, HI, HOE, HO, HS⟩ := hrel
      obtain ⟨Ao, co, rfl⟩ := Kd.R_slice HO.out
      obtain ⟨no, hno⟩ : ∃ m, m = o.length := ⟨_, rfl⟩
      rw [← hno] at HO ⊢
      have HNO := Aside0.mk hno
      clear hno
      cases gk with
      | zero =>
        have hi : i = n := by have := HI.out.2; omega
        have hd : decide (i < (n : Int)) = false := decide_eq_false (by omega)
        have hoe : o = edgesS r := by rw [HOE.out.1, hi, Int.toNat_natCast, HN.out, List.take_length]
        have hol : o.length ≤ 18432 := by rw [hoe, edgesS_len]; have := HN.out; have := HN9.out; omega
        have hso := sort_edge 118 (fun args w => enters_ Try.func118 (by kernel_rfl) rfl args w) (fun x y W => edge_cmp x y W) HO.out HS.out.1 HS.out.1.size (by omega)
        have HSO := Aside0.mk hso
        have HE := Aside0.mk hoe
        have HOL := Aside0.mk hol
        clear hi hoe hol hso
        go_wp2_with fail
        refine HSO.out.mono ?_
        rintro e w2 ⟨rfl, ys, hperm, hsort, hR2, hb2, hs2, hk2⟩
        have hlen : ys.length = no := by rw [HNO.out]; exact hperm.length_eq
        have hres : (ys.foldl stepS ([], 0, 0)).1 = countsL r := counts_one HOK.out (by rw [← HN.out]; exact HN9.out) (by rw [← HE.out]; exact hperm) hsort
        have HYL := Aside0.mk hlen
        have HR2 := Aside0.mk hR2
        have HB2 := Aside0.mk hb2
        have HRES := Aside0.mk hres
        clear hperm hsort hR2 hb2 hs2 hk2 hres hlen HSO HS HO
        go_wp2_with fail
        go_loopg [9, 10, 11, 46] no (fun gk v9 v10 v11 v46 W => ∃ (i2 : Int) (c : List S96) (m a : Int), v10 = .int .i64 m ∧ v11 = .int .i64 a ∧ v46 = .int .i64 i2 ∧ Aside0 (0 ≤ i2 ∧ i2 + gk = no) ∧ Aside0 ((ys.take i2.toNat).foldl stepS ([], 0, 0) = (c, m, a)) ∧ Aside0 (Kd.R k96 96 W w.heap.size (fun k => some k ≠ (Value.slice Ao no co).ownBlock) v9 c) ∧ Aside0 (Below w.heap.size w W ∧ w2.heap.size ≤ W.heap.size ∧ ∀ k, (Value.slice Ao no co).ownBlock = some k → W.heap[k]? = w2.heap[k]?))
        case atStart => exact ⟨0, [], 0, 0, rfl, rfl, rfl, ⟨Int.le_refl _, by simp⟩, ⟨by simp⟩, ⟨Kd.R_nil _ _ _ _ _⟩, ⟨HB2.out, Nat.le_refl _, fun _ _ => rfl⟩⟩
        case round =>
          obtain ⟨i2, c, m, a, rfl, rfl, rfl, HI2, HF, HO, HS⟩ := hrel
          have hcl : c.length ≤ no := by
            have h1 := foldS_length (ys.take i2.toNat) ([], 0, 0)
            rw [HF.out] at h1
            have h2 : (ys.take i2.toNat).length ≤ ys.length := by rw [List.length_take]; omega
            have h3 := HYL.out
            simp only [List.length_nil] at h1
            omega
          have HCL := Aside0.mk hcl
          clear hcl
          cases gk with
          | zero =>
            have hi : i2 = no := by have := HI2.out.2; omega
            have hd : decide (i2 < (no : Int)) = false := decide_eq_false (by omega)
            have hor : c = countsL r := by rw [← HRES.out, ← List.take_length (l := ys), HYL.out, ← Int.toNat_natCast no, ← hi, HF.out]
            have HOR := Aside0.mk hor
            clear hi hor
            go_wp2
            go_ret2
            refine ⟨_, rfl, ?_, HS.out.1⟩
            rw [← HOR.out]
            exact Kd.R_mono HO.out (fun _ _ => trivial)
          | succ k2 =>
            have hp0 : 0 ≤ i2 := HI2.out.1
            have hp1 : i2 < (no : Int) := by have := HI2.out.2; omega
            have hd : decide (i2 < (no : Int)) = true := decide_eq_true hp1
            have hC : Kd.C k40 wr Ao no ys := by
              rcases R_lies flatSpan HR2.out with ⟨h1, h2⟩ | ⟨g, cap, h1, h2, h3, h4⟩
              · exfalso; have := HYL.out; rw [h2] at this; simp at this; omega
              · rw [← HYL.out] at h1 HS ⊢
                injection h1 with h5 _ h6
                subst h5 h6
                have h7 := R_of_lies (base := w.heap.size) (ok := fun _ => True) flatSpan h2 trivial (h4.far (HS.out.2.2 g rfl))
                exact (Kd.R_reads' h7).2.2
            obtain ⟨ad, e3, g0, g1⟩ := at_T40 hC i2 hp0 hp1
            cases e3
            obtain ⟨x, hx⟩ : ∃ x, x = rd_T40 ys i2 := ⟨_, rfl⟩
            rw [← hx] at g0 g1
            have hst : (ys.take (i2 + 1).toNat).foldl stepS ([], 0, 0) = stepS (c, m, a) x := by
              have h3 : (i2 + 1).toNat = i2.toNat + 1 := by omega
              have h4 : i2.toNat < ys.length := by have := HYL.out; omega
              have h5 : x = ys[i2.toNat] := by rw [hx]; unfold rd_T40; rw [List.getD_eq_getElem?_getD, List.getElem?_eq_getElem h4]; rfl
              rw [h3, List.take_succ_eq_append_getElem h4, List.foldl_append, ← h5, HF.out]
              rfl
            unfold stepS at hst
            dsimp only at hst
            have HP2 := Aside0.mk (And.intro hp0 hp1)
            obtain ⟨A3, c3, rfl⟩ := Kd.R_slice HO.out
            obtain ⟨j, hj⟩ : ∃ j : Int, j = (c.length : Int) - 1 := ⟨_, rfl⟩
            have hwj : IntKind.i64.wrap ((c.length : Int) - 1) = j := by rw [hj]; exact IntWalk.i64_in _ (by have := HCL.out; have := HOL.out; have := HNO.out; omega)
            have hwj2 : wrap64 ((c.length : Int) - 1) = j := by rw [hj]; exact w64 (by have := HCL.out; have := HOL.out; have := HNO.out; omega)
            have HJ := Aside0.mk hj
            have HLT := Aside0.mk (show ∀ k, some k = (Value.slice A3 c.length c3).ownBlock → k ≠ wr.heap.size from fun k hk => Nat.ne_of_lt (Kd.R_lt HO.out k hk.symm))
            clear hx hC hj
            obtain ⟨W1, hW1⟩ : ∃ W, W = wr.alloc (.cells #[.int .i64 x.f0, .int .i64 x.f1] 167) := ⟨_, rfl⟩
            obtain ⟨bx, hbx⟩ : ∃ b, b = wr.heap.size := ⟨_, rfl⟩
            have hx1 : W1.heap[bx]? = some (.cells #[.int .i64 x.f0, .int .i64 x.f1] 167 (0, 0)) := by rw [hW1, hbx]; exact blk_new wr _
            have hb1 : Below w.heap.size w W1 := by rw [hW1]; exact HS.out.1.alloc HS.out.1.size _
            have hs1 : w2.heap.size ≤ W1.heap.size := by rw [hW1]; exact Nat.le_trans HS.out.2.1 (by simp)
            have ho1 : Kd.R k96 96 W1 w.heap.size (fun k => some k ≠ (Value.slice (some ad) no co).ownBlock) (.slice A3 c.length c3) c := by rw [hW1]; exact Kd.R_alloc HO.out _
            have hk1 : ∀ k, (Value.slice (some ad) no co).ownBlock = some k → k < W1.heap.size ∧ W1.heap[k]? = w2.heap[k]? := by
              intro k hk
              have h2 : k < w2.heap.size := Kd.R_lt HR2.out k hk
              have h1 : k < wr.heap.size := Nat.lt_of_lt_of_le h2 HS.out.2.1
              refine ⟨by rw [hW1]; simp; omega, ?_⟩
              rw [hW1, Below.heap_alloc _ _ _ h1]
              exact HS.out.2.2 k hk
            rw [← hbx] at HLT
            have HX1 := Aside0.mk hx1
            have HB1' := Aside0.mk hb1
            have HS1 := Aside0.mk hs1
            have HO1 := Aside0.mk ho1
            have HK1 := Aside0.mk hk1
            have q0 : W1.cell? ⟨bx, 0, none⟩ = some (.int .i64 x.f0) := (blk_cell hx1 0).trans rfl
            have q1 : W1.cell? ⟨bx, 1, none⟩ = some (.int .i64 x.f1) := (blk_cell hx1 1).trans rfl
            rw [hW1, hbx] at q0 q1
            have hwd : IntKind.i64.wrap (x.f0 - a) = wrap64 (x.f0 - a) := IntWalk.i64_left _
            by_cases hm0 : 0 < m
            · have hdm : decide (0 < m) = true := decide_eq_true hm0
              by_cases hax : a < x.f0
              · have hda : decide (a < x.f0) = true := decide_eq_true hax
                rw [if_pos ⟨hm0, hax⟩] at hst
                by_cases hn : 0 < c.length
                · have hdj : decide (0 ≤ j) = true := decide_eq_true (by have := HJ.out; omega)
                  have hi0 : 0 ≤ j := by have := HJ.out; omega
                  have hi1 : j < (c.length : Int) := by have := HJ.out; omega
                  obtain ⟨g, cap, hv, hgb, hgl, cells, hgc⟩ := Kd.R_form ho1 hn
                  injection hv with hv1 _ hv2
                  subst hv1 hv2
                  obtain ⟨ce, hcl, hM, hcc, hfz⟩ := Kd.R_elem ho1 z96 j hi0 hi1
                  obtain rfl := k96_openM hM
                  have e0 : W1.cell? ⟨g, j.toNat * 3, none⟩ = some (.int .i64 (c.getD j.toNat z96).f0) := hcc 0 _ rfl
                  have e1 : W1.cell? ⟨g, j.toNat * 3 + 1, none⟩ = some (.int .i64 (c.getD j.toNat z96).f1) := hcc 1 _ rfl
                  have e2 : W1.cell? ⟨g, j.toNat * 3 + 2, none⟩ = some (.int .i64 (c.getD j.toNat z96).f2) := hcc 2 _ rfl
                  obtain ⟨y, hy⟩ : ∃ y, y = c.getD j.toNat z96 := ⟨_, rfl⟩
                  rw [← hy] at e0 e1 e2 hM hcc
                  have hy2 : y = rd_T96 c ((c.length : Int) - 1) := by rw [hy, HJ.out]; rfl
                  have HCC := Aside0.mk hcc
                  have hws : IntKind.i64.wrap (y.f0 + y.f1) = wrap64 (y.f0 + y.f1) := IntWalk.i64_left _
                  clear hM hcc hfz hcl hgc hgl hgb hx1 hb1 hs1 ho1 hk1
                  by_cases hc2 : y.f2 = m
                  · have hde : (y.f2 == m) = true := beq_iff_eq.mpr hc2
                    by_cases hc3 : wrap64 (y.f0 + y.f1) = a
                    · have hdf : (wrap64 (y.f0 + y.f1) == a) = true := beq_iff_eq.mpr hc3
                      have hag : pushC c a m x.f0 = c.set j.toNat ⟨y.f0, wrap64 (y.f1 + wrap64 (x.f0 - a)), y.f2⟩ := by
                        unfold pushC
                        rw [← hy2, if_pos ⟨hn, hc2, hc3⟩, HJ.out]
                      rw [hag] at hst
                      have HST2 := Aside0.mk hst
                      have HC2 := Aside0.mk (And.intro hc2 hc3)
                      obtain ⟨cs, hcs⟩ : ∃ cs, cs = c.set j.toNat ⟨y.f0, wrap64 (y.f1 + wrap64 (x.f0 - a)), y.f2⟩ := ⟨_, rfl⟩
                      rw [← hcs] at HST2
                      have HCS := Aside0.mk hcs
                      clear hag hst hy hy2 hc2 hc3 hcs
                      go_wp2_with fail
                      rw [← hW1, ← hbx]
                      have HW1 := Aside0.mk hW1
                      have HBX1 := Aside0.mk hbx
                      clear hW1 hbx
                      go_quiet (fail)
                      obtain ⟨W2, hW2⟩ : ∃ W, W = W1.drewN nq := ⟨_, rfl⟩
                      rw [← hW2]
                      have HO2 := Aside0.mk (show Kd.R k96 96 W2 w.heap.size (fun k => some k ≠ (Value.slice (some ad) no co).ownBlock) _ c by rw [hW2]; exact Kd.R_drewN HO1.out nq)
                      have HB2' := Aside0.mk (show Below w.heap.size w W2 by rw [hW2]; exact pw_below_drewN HB1'.out nq)
                      have HS2 := Aside0.mk (show w2.heap.size ≤ W2.heap.size by rw [hW2]; exact HS1.out)
                      have HK2 := Aside0.mk (show ∀ k, (Value.slice (some ad) no co).ownBlock = some k → k < W2.heap.size ∧ W2.heap[k]? = w2.heap[k]? by rw [hW2]; exact HK1.out)
                      have HX2 := Aside0.mk (show W2.heap[bx]? = some (.cells #[.int .i64 x.f0, .int .i64 x.f1] 167 (0, 0)) by rw [hW2]; exact HX1.out)
                      have p0 : W2.cell? ⟨bx, 0, none⟩ = some (.int .i64 x.f0) := (blk_cell HX2.out 0).trans rfl
                      have p1 : W2.cell? ⟨bx, 1, none⟩ = some (.int .i64 x.f1) := (blk_cell HX2.out 1).trans rfl
                      have e0' : W2.cell? ⟨g, j.toNat * 3, none⟩ = some (.int .i64 y.f0) := by rw [hW2]; exact e0
                      have e1' : W2.cell? ⟨g, j.toNat * 3 + 1, none⟩ = some (.int .i64 y.f1) := by rw [hW2]; exact e1
                      have HCC2 := Aside0.mk (show ∀ (j_1 : Nat) (u : Value), [Value.int IntKind.i64 y.f0, Value.int IntKind.i64 y.f1, Value.int IntKind.i64 y.f2][j_1]? = some u → W2.cell? ⟨g, j.toNat * 3 + j_1, none⟩ = some u by rw [hW2]; exact HCC.out)
                      clear e0 e1 e2
                      clear hW2 q0 q1
                      obtain ⟨L, hL⟩ : ∃ s : Int, s = wrap64 (y.f1 + wrap64 (x.f0 - a)) := ⟨_, rfl⟩
                      have hLw : IntKind.i64.wrap (y.f1 + wrap64 (x.f0 - a)) = L := by rw [hL]; exact IntWalk.i64_left _
                      rw [← hL] at HCS
                      clear hL
                      go_wp2_with fail
                      go_still_tail 12, (by kernel_rfl)
                      change wpList _ _ _ _ _ W2.drew
                      refine Kd.R_store k96 (w0 := w) (W := W2.drew) w.heap.size rfl rfl 3 (.tmp 98) (.tmp 96) rfl 96 j 1 c (⟨y.f0, L, y.f2⟩ : S96) (.int .i64 L) [.int .i64 L] [.int .i64 y.f0, .int .i64 y.f1, .int .i64 y.f2] (fun k => some k ≠ (Value.slice (some ad) no co).ownBlock) (fun _ => False) rfl rfl rfl rfl (by kernel_rfl) (by simp [Value.oneCell']) (Kd.R_drew HO2.out) hi0 hi1 rfl (fun j u hu => HCC2.out j u hu) (show 2 ≤ 3 by omega) (k96_mkM _ _ _ (⟨y.f0, L, y.f2⟩ : S96)) (fun _ hk => hk.elim) (below_drew HB2'.out) ?_
                      intro w4 hO4 hB4 hG4
                      rw [← HCS.out] at hO4
                      have HO4 := Aside0.mk hO4
                      have HB4 := Aside0.mk hB4
                      have HG4 := Aside0.mk hG4
                      clear hO4 hB4 hG4 e0' e1'
                      have HS4 := Aside0.mk (show w2.heap.size ≤ w4.heap.size from Nat.le_trans HS2.out HG4.out.size)
                      have HK4 := Aside0.mk (show ∀ k, (Value.slice (some ad) no co).ownBlock = some k → k < w4.heap.size ∧ w4.heap[k]? = w2.heap[k]? by
                        intro k hk
                        have h1 := HK2.out k hk
                        refine ⟨Nat.lt_of_lt_of_le h1.1 HG4.out.size, ?_⟩
                        rw [HG4.out.block k h1.1 (fun e => HO2.out.1 k e.symm hk.symm)]
                        exact h1.2)
                      have HX4 := Aside0.mk (show w4.heap[bx]? = some (.cells #[.int .i64 x.f0, .int .i64 x.f1] 167 (0, 0)) by
                        rw [HG4.out.block bx (blk_lt HX2.out) (fun e => HLT.out bx e rfl)]
                        exact HX2.out)
                      clear p0 p1
                      go_wp2_with fail
                      have p0 : w4.cell? ⟨bx, 0, none⟩ = some (.int .i64 x.f0) := (blk_cell HX4.out 0).trans rfl
                      have p1 : w4.cell? ⟨bx, 1, none⟩ = some (.int .i64 x.f1) := (blk_cell HX4.out 1).trans rfl
                      have hwm : IntKind.i64.wrap (m + x.f1) = wrap64 (m + x.f1) := IntWalk.i64_left _
                      have hwi : IntKind.i64.wrap (i2 + 1) = i2 + 1 := IntWalk.i64_in _ (by have := HP2.out.2; have := HOL.out; have := HNO.out; omega)
                      go_quiet (fail)
                      obtain ⟨W6, hW6⟩ : ∃ W, W = w4.drewN nq := ⟨_, rfl⟩
                      rw [← hW6]
                      have HO6 := Aside0.mk (show Kd.R k96 96 W6 w.heap.size (fun k => some k ≠ (Value.slice (some ad) no co).ownBlock) _ cs by rw [hW6]; exact Kd.R_drewN HO4.out nq)
                      have HB6 := Aside0.mk (show Below w.heap.size w W6 by rw [hW6]; exact pw_below_drewN HB4.out nq)
                      have HS6 := Aside0.mk (show w2.heap.size ≤ W6.heap.size by rw [hW6]; exact HS4.out)
                      have HK6 := Aside0.mk (show ∀ k, (Value.slice (some ad) no co).ownBlock = some k → k < W6.heap.size ∧ W6.heap[k]? = w2.heap[k]? by rw [hW6]; exact HK4.out)
                      clear hW6 p0 p1
                      go_wp2
                      go_roundg k2
                      case measure => omega
                      case rel =>
                        refine ⟨i2 + 1, cs, wrap64 (m + x.f1), x.f0, by first | rfl | (simp; done) | go_num, by first | rfl | (simp; done) | go_num, by first | rfl | (simp; done) | go_num, ⟨by have := HP2.out.1; omega, by have := HI2.out.2; omega⟩, ⟨HST2.out⟩, ⟨HO6.out⟩, ⟨HB6.out, HS6.out, fun k hk => (HK6.out k hk).2⟩⟩
                    · have hdf : (wrap64 (y.f0 + y.f1) == a) = false := beq_eq_false_iff_ne.mpr hc3
                      have hag : pushC c a m x.f0 = c ++ [⟨a, wrap64 (x.f0 - a), m⟩] := by
                        unfold pushC
                        rw [← hy2, if_neg (fun h => hc3 h.2.2)]
                      rw [hag] at hst
                      have HST2 := Aside0.mk hst
                      obtain ⟨cs, hcs⟩ : ∃ cs, cs = c ++ [(⟨a, wrap64 (x.f0 - a), m⟩ : S96)] := ⟨_, rfl⟩
                      rw [← hcs] at HST2
                      have HAG := Aside0.mk hcs
                      clear hag hst hy hy2 hc3 hcs
                      go_wp2_with fail
                      rw [← hW1, ← hbx]
                      have HW1 := Aside0.mk hW1
                      have HBX1 := Aside0.mk hbx
                      clear hW1 hbx
                      go_quiet (fail)
                      obtain ⟨W2, hW2⟩ : ∃ W, W = W1.drewN nq := ⟨_, rfl⟩
                      rw [← hW2]
                      have HO2 := Aside0.mk (show Kd.R k96 96 W2 w.heap.size (fun k => some k ≠ (Value.slice (some ad) no co).ownBlock) _ c by rw [hW2]; exact Kd.R_drewN HO1.out nq)
                      have HB2' := Aside0.mk (show Below w.heap.size w W2 by rw [hW2]; exact pw_below_drewN HB1'.out nq)
                      have HS2 := Aside0.mk (show w2.heap.size ≤ W2.heap.size by rw [hW2]; exact HS1.out)
                      have HK2 := Aside0.mk (show ∀ k, (Value.slice (some ad) no co).ownBlock = some k → k < W2.heap.size ∧ W2.heap[k]? = w2.heap[k]? by rw [hW2]; exact HK1.out)
                      have HX2 := Aside0.mk (show W2.heap[bx]? = some (.cells #[.int .i64 x.f0, .int .i64 x.f1] 167 (0, 0)) by rw [hW2]; exact HX1.out)
                      have p0 : W2.cell? ⟨bx, 0, none⟩ = some (.int .i64 x.f0) := (blk_cell HX2.out 0).trans rfl
                      have p1 : W2.cell? ⟨bx, 1, none⟩ = some (.int .i64 x.f1) := (blk_cell HX2.out 1).trans rfl
                      have e0' : W2.cell? ⟨g, j.toNat * 3, none⟩ = some (.int .i64 y.f0) := by rw [hW2]; exact e0
                      have e1' : W2.cell? ⟨g, j.toNat * 3 + 1, none⟩ = some (.int .i64 y.f1) := by rw [hW2]; exact e1
                      have HCC2 := Aside0.mk (show ∀ (j_1 : Nat) (u : Value), [Value.int IntKind.i64 y.f0, Value.int IntKind.i64 y.f1, Value.int IntKind.i64 y.f2][j_1]? = some u → W2.cell? ⟨g, j.toNat * 3 + j_1, none⟩ = some u by rw [hW2]; exact HCC.out)
                      clear e0 e1 e2
                      clear hW2 q0 q1
                      clear e0' e1'
                      go_wp2_with (first | ((with_reducible refine gate_builtin (b := .append) (xs := #[.tmp 99, .tmp 107]) rfl ?_); at_builtin; refine Kd.R_append k96 (w0 := w) w.heap.size rfl (.tmp 99) (.tmp 107) 91 96 (.agg #[(.int .i64 0), (.int .i64 0), (.int .i64 0)]) 24 rfl Try.underlying91 info96 rfl (by decide) (by omega) (.slice (some ⟨g, 0, none⟩) c.length c3) c (⟨a, wrap64 (x.f0 - a), m⟩ : S96) [.int .i64 a, .int .i64 (wrap64 (x.f0 - a)), .int .i64 m] (fun k => some k ≠ (Value.slice (some ad) no co).ownBlock) (fun _ => False) rfl (by first | (go_simp; done) | (go_simp; rfl)) ?aP (fun _ hk => hk.elim) ?aF ?aO ?aB ?aS ?aL ?_; (case aP => exact k96_mkM _ _ _ (⟨a, wrap64 (x.f0 - a), m⟩ : S96)); (case aF => intro k hk e; have h1 := (HK2.out k e.symm).1; omega); (case aO => exact HO2.out); (case aB => exact HB2'.out); (case aS => exact HB2'.out.size); (case aL => have := HCL.out; have := HOL.out; have := HNO.out; omega); intro v1 w4 ho hb hg hat; rw [← HAG.out] at ho; have HO4 := Aside0.mk ho; have HB4 := Aside0.mk hb; have HG4 := Aside0.mk hg; clear ho hb hg hat))
                      have HS4 := Aside0.mk (show w2.heap.size ≤ w4.heap.size from Nat.le_trans HS2.out HG4.out.size)
                      have HK4 := Aside0.mk (show ∀ k, (Value.slice (some ad) no co).ownBlock = some k → k < w4.heap.size ∧ w4.heap[k]? = w2.heap[k]? by
                        intro k hk
                        have h1 := HK2.out k hk
                        refine ⟨Nat.lt_of_lt_of_le h1.1 HG4.out.size, ?_⟩
                        rw [HG4.out.block k h1.1 (fun e => HO2.out.1 k e.symm hk.symm)]
                        exact h1.2)
                      have HX4 := Aside0.mk (show w4.heap[bx]? = some (.cells #[.int .i64 x.f0, .int .i64 x.f1] 167 (0, 0)) by
                        rw [HG4.out.block bx (blk_lt HX2.out) (fun e => HLT.out bx e rfl)]
                        exact HX2.out)
                      clear p0 p1
                      have p0 : w4.cell? ⟨bx, 0, none⟩ = some (.int .i64 x.f0) := (blk_cell HX4.out 0).trans rfl
                      have p1 : w4.cell? ⟨bx, 1, none⟩ = some (.int .i64 x.f1) := (blk_cell HX4.out 1).trans rfl
                      have hwm : IntKind.i64.wrap (m + x.f1) = wrap64 (m + x.f1) := IntWalk.i64_left _
                      have hwi : IntKind.i64.wrap (i2 + 1) = i2 + 1 := IntWalk.i64_in _ (by have := HP2.out.2; have := HOL.out; have := HNO.out; omega)
                      go_quiet (fail)
                      obtain ⟨W6, hW6⟩ : ∃ W, W = w4.drewN nq := ⟨_, rfl⟩
                      rw [← hW6]
                      have HO6 := Aside0.mk (show Kd.R k96 96 W6 w.heap.size (fun k => some k ≠ (Value.slice (some ad) no co).ownBlock) _ cs by rw [hW6]; exact Kd.R_drewN HO4.out nq)
                      have HB6 := Aside0.mk (show Below w.heap.size w W6 by rw [hW6]; exact pw_below_drewN HB4.out nq)
                      have HS6 := Aside0.mk (show w2.heap.size ≤ W6.heap.size by rw [hW6]; exact HS4.out)
                      have HK6 := Aside0.mk (show ∀ k, (Value.slice (some ad) no co).ownBlock = some k → k < W6.heap.size ∧ W6.heap[k]? = w2.heap[k]? by rw [hW6]; exact HK4.out)
                      clear hW6 p0 p1
                      go_wp2
                      go_roundg k2
                      case measure => omega
                      case rel =>
                        refine ⟨i2 + 1, cs, wrap64 (m + x.f1), x.f0, by first | rfl | (simp; done) | go_num, by first | rfl | (simp; done) | go_num, by first | rfl | (simp; done) | go_num, ⟨by have := HP2.out.1; omega, by have := HI2.out.2; omega⟩, ⟨HST2.out⟩, ⟨HO6.out⟩, ⟨HB6.out, HS6.out, fun k hk => (HK6.out k hk).2⟩⟩
                  · have hde : (y.f2 == m) = false := beq_eq_false_iff_ne.mpr hc2
                    have hag : pushC c a m x.f0 = c ++ [⟨a, wrap64 (x.f0 - a), m⟩] := by
                      unfold pushC
                      rw [← hy2, if_neg (fun h => hc2 h.2.1)]
                    rw [hag] at hst
                    have HST2 := Aside0.mk hst
                    obtain ⟨cs, hcs⟩ : ∃ cs, cs = c ++ [(⟨a, wrap64 (x.f0 - a), m⟩ : S96)] := ⟨_, rfl⟩
                    rw [← hcs] at HST2
                    have HAG := Aside0.mk hcs
                    clear hag hst hy hy2 hc2 hcs
                    go_wp2_with fail
                    rw [← hW1, ← hbx]
                    have HW1 := Aside0.mk hW1
                    have HBX1 := Aside0.mk hbx
                    clear hW1 hbx
                    go_quiet (fail)
                    obtain ⟨W2, hW2⟩ : ∃ W, W = W1.drewN nq := ⟨_, rfl⟩
                    rw [← hW2]
                    have HO2 := Aside0.mk (show Kd.R k96 96 W2 w.heap.size (fun k => some k ≠ (Value.slice (some ad) no co).ownBlock) _ c by rw [hW2]; exact Kd.R_drewN HO1.out nq)
                    have HB2' := Aside0.mk (show Below w.heap.size w W2 by rw [hW2]; exact pw_below_drewN HB1'.out nq)
                    have HS2 := Aside0.mk (show w2.heap.size ≤ W2.heap.size by rw [hW2]; exact HS1.out)
                    have HK2 := Aside0.mk (show ∀ k, (Value.slice (some ad) no co).ownBlock = some k → k < W2.heap.size ∧ W2.heap[k]? = w2.heap[k]? by rw [hW2]; exact HK1.out)
                    have HX2 := Aside0.mk (show W2.heap[bx]? = some (.cells #[.int .i64 x.f0, .int .i64 x.f1] 167 (0, 0)) by rw [hW2]; exact HX1.out)
                    have p0 : W2.cell? ⟨bx, 0, none⟩ = some (.int .i64 x.f0) := (blk_cell HX2.out 0).trans rfl
                    have p1 : W2.cell? ⟨bx, 1, none⟩ = some (.int .i64 x.f1) := (blk_cell HX2.out 1).trans rfl
                    have e0' : W2.cell? ⟨g, j.toNat * 3, none⟩ = some (.int .i64 y.f0) := by rw [hW2]; exact e0
                    have e1' : W2.cell? ⟨g, j.toNat * 3 + 1, none⟩ = some (.int .i64 y.f1) := by rw [hW2]; exact e1
                    have HCC2 := Aside0.mk (show ∀ (j_1 : Nat) (u : Value), [Value.int IntKind.i64 y.f0, Value.int IntKind.i64 y.f1, Value.int IntKind.i64 y.f2][j_1]? = some u → W2.cell? ⟨g, j.toNat * 3 + j_1, none⟩ = some u by rw [hW2]; exact HCC.out)
                    clear e0 e1 e2
                    clear hW2 q0 q1
                    clear e0' e1'
                    go_wp2_with (first | ((with_reducible refine gate_builtin (b := .append) (xs := #[.tmp 99, .tmp 107]) rfl ?_); at_builtin; refine Kd.R_append k96 (w0 := w) w.heap.size rfl (.tmp 99) (.tmp 107) 91 96 (.agg #[(.int .i64 0), (.int .i64 0), (.int .i64 0)]) 24 rfl Try.underlying91 info96 rfl (by decide) (by omega) (.slice (some ⟨g, 0, none⟩) c.length c3) c (⟨a, wrap64 (x.f0 - a), m⟩ : S96) [.int .i64 a, .int .i64 (wrap64 (x.f0 - a)), .int .i64 m] (fun k => some k ≠ (Value.slice (some ad) no co).ownBlock) (fun _ => False) rfl (by first | (go_simp; done) | (go_simp; rfl)) ?aP (fun _ hk => hk.elim) ?aF ?aO ?aB ?aS ?aL ?_; (case aP => exact k96_mkM _ _ _ (⟨a, wrap64 (x.f0 - a), m⟩ : S96)); (case aF => intro k hk e; have h1 := (HK2.out k e.symm).1; omega); (case aO => exact HO2.out); (case aB => exact HB2'.out); (case aS => exact HB2'.out.size); (case aL => have := HCL.out; have := HOL.out; have := HNO.out; omega); intro v1 w4 ho hb hg hat; rw [← HAG.out] at ho; have HO4 := Aside0.mk ho; have HB4 := Aside0.mk hb; have HG4 := Aside0.mk hg; clear ho hb hg hat))
                    have HS4 := Aside0.mk (show w2.heap.size ≤ w4.heap.size from Nat.le_trans HS2.out HG4.out.size)
                    have HK4 := Aside0.mk (show ∀ k, (Value.slice (some ad) no co).ownBlock = some k → k < w4.heap.size ∧ w4.heap[k]? = w2.heap[k]? by
                      intro k hk
                      have h1 := HK2.out k hk
                      refine ⟨Nat.lt_of_lt_of_le h1.1 HG4.out.size, ?_⟩
                      rw [HG4.out.block k h1.1 (fun e => HO2.out.1 k e.symm hk.symm)]
                      exact h1.2)
                    have HX4 := Aside0.mk (show w4.heap[bx]? = some (.cells #[.int .i64 x.f0, .int .i64 x.f1] 167 (0, 0)) by
                      rw [HG4.out.block bx (blk_lt HX2.out) (fun e => HLT.out bx e rfl)]
                      exact HX2.out)
                    clear p0 p1
                    have p0 : w4.cell? ⟨bx, 0, none⟩ = some (.int .i64 x.f0) := (blk_cell HX4.out 0).trans rfl
                    have p1 : w4.cell? ⟨bx, 1, none⟩ = some (.int .i64 x.f1) := (blk_cell HX4.out 1).trans rfl
                    have hwm : IntKind.i64.wrap (m + x.f1) = wrap64 (m + x.f1) := IntWalk.i64_left _
                    have hwi : IntKind.i64.wrap (i2 + 1) = i2 + 1 := IntWalk.i64_in _ (by have := HP2.out.2; have := HOL.out; have := HNO.out; omega)
                    go_quiet (fail)
                    obtain ⟨W6, hW6⟩ : ∃ W, W = w4.drewN nq := ⟨_, rfl⟩
                    rw [← hW6]
                    have HO6 := Aside0.mk (show Kd.R k96 96 W6 w.heap.size (fun k => some k ≠ (Value.slice (some ad) no co).ownBlock) _ cs by rw [hW6]; exact Kd.R_drewN HO4.out nq)
                    have HB6 := Aside0.mk (show Below w.heap.size w W6 by rw [hW6]; exact pw_below_drewN HB4.out nq)
                    have HS6 := Aside0.mk (show w2.heap.size ≤ W6.heap.size by rw [hW6]; exact HS4.out)
                    have HK6 := Aside0.mk (show ∀ k, (Value.slice (some ad) no co).ownBlock = some k → k < W6.heap.size ∧ W6.heap[k]? = w2.heap[k]? by rw [hW6]; exact HK4.out)
                    clear hW6 p0 p1
                    go_wp2
                    go_roundg k2
                    case measure => omega
                    case rel =>
                      refine ⟨i2 + 1, cs, wrap64 (m + x.f1), x.f0, by first | rfl | (simp; done) | go_num, by first | rfl | (simp; done) | go_num, by first | rfl | (simp; done) | go_num, ⟨by have := HP2.out.1; omega, by have := HI2.out.2; omega⟩, ⟨HST2.out⟩, ⟨HO6.out⟩, ⟨HB6.out, HS6.out, fun k hk => (HK6.out k hk).2⟩⟩
                · have hdj : decide (0 ≤ j) = false := decide_eq_false (by have := HJ.out; omega)
                  clear hx1 hb1 hs1 ho1 hk1
                  have hag : pushC c a m x.f0 = c ++ [⟨a, wrap64 (x.f0 - a), m⟩] := by
                    unfold pushC
                    rw [if_neg (fun h => hn h.1)]
                  rw [hag] at hst
                  have HST2 := Aside0.mk hst
                  obtain ⟨cs, hcs⟩ : ∃ cs, cs = c ++ [(⟨a, wrap64 (x.f0 - a), m⟩ : S96)] := ⟨_, rfl⟩
                  rw [← hcs] at HST2
                  have HAG := Aside0.mk hcs
                  clear hag hst  hcs
                  go_wp2_with fail
                  rw [← hW1, ← hbx]
                  have HW1 := Aside0.mk hW1
                  have HBX1 := Aside0.mk hbx
                  clear hW1 hbx
                  go_quiet (fail)
                  obtain ⟨W2, hW2⟩ : ∃ W, W = W1.drewN nq := ⟨_, rfl⟩
                  rw [← hW2]
                  have HO2 := Aside0.mk (show Kd.R k96 96 W2 w.heap.size (fun k => some k ≠ (Value.slice (some ad) no co).ownBlock) _ c by rw [hW2]; exact Kd.R_drewN HO1.out nq)
                  have HB2' := Aside0.mk (show Below w.heap.size w W2 by rw [hW2]; exact pw_below_drewN HB1'.out nq)
                  have HS2 := Aside0.mk (show w2.heap.size ≤ W2.heap.size by rw [hW2]; exact HS1.out)
                  have HK2 := Aside0.mk (show ∀ k, (Value.slice (some ad) no co).ownBlock = some k → k < W2.heap.size ∧ W2.heap[k]? = w2.heap[k]? by rw [hW2]; exact HK1.out)
                  have HX2 := Aside0.mk (show W2.heap[bx]? = some (.cells #[.int .i64 x.f0, .int .i64 x.f1] 167 (0, 0)) by rw [hW2]; exact HX1.out)
                  have p0 : W2.cell? ⟨bx, 0, none⟩ = some (.int .i64 x.f0) := (blk_cell HX2.out 0).trans rfl
                  have p1 : W2.cell? ⟨bx, 1, none⟩ = some (.int .i64 x.f1) := (blk_cell HX2.out 1).trans rfl
                  clear hW2 q0 q1
                  go_wp2_with (first | ((with_reducible refine gate_builtin (b := .append) (xs := #[.tmp 99, .tmp 107]) rfl ?_); at_builtin; refine Kd.R_append k96 (w0 := w) w.heap.size rfl (.tmp 99) (.tmp 107) 91 96 (.agg #[(.int .i64 0), (.int .i64 0), (.int .i64 0)]) 24 rfl Try.underlying91 info96 rfl (by decide) (by omega) (.slice A3 c.length c3) c (⟨a, wrap64 (x.f0 - a), m⟩ : S96) [.int .i64 a, .int .i64 (wrap64 (x.f0 - a)), .int .i64 m] (fun k => some k ≠ (Value.slice (some ad) no co).ownBlock) (fun _ => False) rfl (by first | (go_simp; done) | (go_simp; rfl)) ?aP (fun _ hk => hk.elim) ?aF ?aO ?aB ?aS ?aL ?_; (case aP => exact k96_mkM _ _ _ (⟨a, wrap64 (x.f0 - a), m⟩ : S96)); (case aF => intro k hk e; have h1 := (HK2.out k e.symm).1; omega); (case aO => exact HO2.out); (case aB => exact HB2'.out); (case aS => exact HB2'.out.size); (case aL => have := HCL.out; have := HOL.out; have := HNO.out; omega); intro v1 w4 ho hb hg hat; rw [← HAG.out] at ho; have HO4 := Aside0.mk ho; have HB4 := Aside0.mk hb; have HG4 := Aside0.mk hg; clear ho hb hg hat))
                  have HS4 := Aside0.mk (show w2.heap.size ≤ w4.heap.size from Nat.le_trans HS2.out HG4.out.size)
                  have HK4 := Aside0.mk (show ∀ k, (Value.slice (some ad) no co).ownBlock = some k → k < w4.heap.size ∧ w4.heap[k]? = w2.heap[k]? by
                    intro k hk
                    have h1 := HK2.out k hk
                    refine ⟨Nat.lt_of_lt_of_le h1.1 HG4.out.size, ?_⟩
                    rw [HG4.out.block k h1.1 (fun e => HO2.out.1 k e.symm hk.symm)]
                    exact h1.2)
                  have HX4 := Aside0.mk (show w4.heap[bx]? = some (.cells #[.int .i64 x.f0, .int .i64 x.f1] 167 (0, 0)) by
                    rw [HG4.out.block bx (blk_lt HX2.out) (fun e => HLT.out bx e rfl)]
                    exact HX2.out)
                  clear p0 p1
                  have p0 : w4.cell? ⟨bx, 0, none⟩ = some (.int .i64 x.f0) := (blk_cell HX4.out 0).trans rfl
                  have p1 : w4.cell? ⟨bx, 1, none⟩ = some (.int .i64 x.f1) := (blk_cell HX4.out 1).trans rfl
                  have hwm : IntKind.i64.wrap (m + x.f1) = wrap64 (m + x.f1) := IntWalk.i64_left _
                  have hwi : IntKind.i64.wrap (i2 + 1) = i2 + 1 := IntWalk.i64_in _ (by have := HP2.out.2; have := HOL.out; have := HNO.out; omega)
                  go_quiet (fail)
                  obtain ⟨W6, hW6⟩ : ∃ W, W = w4.drewN nq := ⟨_, rfl⟩
                  rw [← hW6]
                  have HO6 := Aside0.mk (show Kd.R k96 96 W6 w.heap.size (fun k => some k ≠ (Value.slice (some ad) no co).ownBlock) _ cs by rw [hW6]; exact Kd.R_drewN HO4.out nq)
                  have HB6 := Aside0.mk (show Below w.heap.size w W6 by rw [hW6]; exact pw_below_drewN HB4.out nq)
                  have HS6 := Aside0.mk (show w2.heap.size ≤ W6.heap.size by rw [hW6]; exact HS4.out)
                  have HK6 := Aside0.mk (show ∀ k, (Value.slice (some ad) no co).ownBlock = some k → k < W6.heap.size ∧ W6.heap[k]? = w2.heap[k]? by rw [hW6]; exact HK4.out)
                  clear hW6 p0 p1
                  go_wp2
                  go_roundg k2
                  case measure => omega
                  case rel =>
                    refine ⟨i2 + 1, cs, wrap64 (m + x.f1), x.f0, by first | rfl | (simp; done) | go_num, by first | rfl | (simp; done) | go_num, by first | rfl | (simp; done) | go_num, ⟨by have := HP2.out.1; omega, by have := HI2.out.2; omega⟩, ⟨HST2.out⟩, ⟨HO6.out⟩, ⟨HB6.out, HS6.out, fun k hk => (HK6.out k hk).2⟩⟩
              · have hda : decide (a < x.f0) = false := decide_eq_false hax
                rw [if_neg (fun h => hax h.2)] at hst
                have HST2 := Aside0.mk hst
                clear hst hx1 hb1 hs1 ho1 hk1
                go_wp2_with fail
                rw [← hW1, ← hbx]
                have HW1 := Aside0.mk hW1
                have HBX1 := Aside0.mk hbx
                clear hW1 hbx
                have p0 : W1.cell? ⟨bx, 0, none⟩ = some (.int .i64 x.f0) := (blk_cell HX1.out 0).trans rfl
                have p1 : W1.cell? ⟨bx, 1, none⟩ = some (.int .i64 x.f1) := (blk_cell HX1.out 1).trans rfl
                have hwm : IntKind.i64.wrap (m + x.f1) = wrap64 (m + x.f1) := IntWalk.i64_left _
                have hwi : IntKind.i64.wrap (i2 + 1) = i2 + 1 := IntWalk.i64_in _ (by have := HP2.out.2; have := HOL.out; have := HNO.out; omega)
                go_quiet (fail)
                obtain ⟨W6, hW6⟩ : ∃ W, W = W1.drewN nq := ⟨_, rfl⟩
                rw [← hW6]
                have HO6 := Aside0.mk (show Kd.R k96 96 W6 w.heap.size (fun k => some k ≠ (Value.slice (some ad) no co).ownBlock) _ c by rw [hW6]; exact Kd.R_drewN HO1.out nq)
                have HB6 := Aside0.mk (show Below w.heap.size w W6 by rw [hW6]; exact pw_below_drewN HB1'.out nq)
                have HS6 := Aside0.mk (show w2.heap.size ≤ W6.heap.size by rw [hW6]; exact HS1.out)
                have HK6 := Aside0.mk (show ∀ k, (Value.slice (some ad) no co).ownBlock = some k → k < W6.heap.size ∧ W6.heap[k]? = w2.heap[k]? by rw [hW6]; exact HK1.out)
                clear hW6 p0 p1
                go_wp2
                go_roundg k2
                case measure => omega
                case rel =>
                  refine ⟨i2 + 1, c, wrap64 (m + x.f1), x.f0, by first | rfl | (simp; done) | go_num, by first | rfl | (simp; done) | go_num, by first | rfl | (simp; done) | go_num, ⟨by have := HP2.out.1; omega, by have := HI2.out.2; omega⟩, ⟨HST2.out⟩, ⟨HO6.out⟩, ⟨HB6.out, HS6.out, fun k hk => (HK6.out k hk).2⟩⟩
            · have hdm : decide (0 < m) = false := decide_eq_false hm0
              rw [if_neg (fun h => hm0 h.1)] at hst
              have HST2 := Aside0.mk hst
              clear hst hx1 hb1 hs1 ho1 hk1
              go_wp2_with fail
              rw [← hW1, ← hbx]
              have HW1 := Aside0.mk hW1
              have HBX1 := Aside0.mk hbx
              clear hW1 hbx
              have p0 : W1.cell? ⟨bx, 0, none⟩ = some (.int .i64 x.f0) := (blk_cell HX1.out 0).trans rfl
              have p1 : W1.cell? ⟨bx, 1, none⟩ = some (.int .i64 x.f1) := (blk_cell HX1.out 1).trans rfl
              have hwm : IntKind.i64.wrap (m + x.f1) = wrap64 (m + x.f1) := IntWalk.i64_left _
              have hwi : IntKind.i64.wrap (i2 + 1) = i2 + 1 := IntWalk.i64_in _ (by have := HP2.out.2; have := HOL.out; have := HNO.out; omega)
              go_quiet (fail)
              obtain ⟨W6, hW6⟩ : ∃ W, W = W1.drewN nq := ⟨_, rfl⟩
              rw [← hW6]
              have HO6 := Aside0.mk (show Kd.R k96 96 W6 w.heap.size (fun k => some k ≠ (Value.slice (some ad) no co).ownBlock) _ c by rw [hW6]; exact Kd.R_drewN HO1.out nq)
              have HB6 := Aside0.mk (show Below w.heap.size w W6 by rw [hW6]; exact pw_below_drewN HB1'.out nq)
              have HS6 := Aside0.mk (show w2.heap.size ≤ W6.heap.size by rw [hW6]; exact HS1.out)
              have HK6 := Aside0.mk (show ∀ k, (Value.slice (some ad) no co).ownBlock = some k → k < W6.heap.size ∧ W6.heap[k]? = w2.heap[k]? by rw [hW6]; exact HK1.out)
              clear hW6 p0 p1
              go_wp2
              go_roundg k2
              case measure => omega
              case rel =>
                refine ⟨i2 + 1, c, wrap64 (m + x.f1), x.f0, by first | rfl | (simp; done) | go_num, by first | rfl | (simp; done) | go_num, by first | rfl | (simp; done) | go_num, ⟨by have := HP2.out.1; omega, by have := HI2.out.2; omega⟩, ⟨HST2.out⟩, ⟨HO6.out⟩, ⟨HB6.out, HS6.out, fun k hk => (HK6.out k hk).2⟩⟩
      | succ k1 =>
        have hp0 : 0 ≤ i := HI.out.1
        have hp1 : i < (n : Int) := by have := HI.out.2; omega
        have hd : decide (i < (n : Int)) = true := decide_eq_true hp1
        have hC : Kd.C k88 wr A1 n r := by
          rw [HN.out]
          rcases R_lies flatRef HR1.out with ⟨h1, h2⟩ | ⟨g, cap, h1, h2, h3, h4⟩
          · exfalso; have := HN.out; rw [h2] at this; simp at this; omega
          · rw [HN.out] at h1 HS
            injection h1 with h5 _ h6
            subst h5 h6
            have h7 := R_of_lies (base := w.heap.size) (ok := fun _ => True) flatRef h2 trivial (h4.far (HS.out.2.2 g rfl))
            exact (Kd.R_reads' h7).2.2
        obtain ⟨ad, e3, g0, g1, g2, g3⟩ := at_T88 hC i hp0 hp1
        cases e3
        obtain ⟨x, hx⟩ : ∃ x, x = rd_T88 r i := ⟨_, rfl⟩
        rw [← hx] at g0 g1 g2 g3
        obtain ⟨os, hos⟩ : ∃ os, os = o ++ [(⟨x.f0, 1⟩ : S40), ⟨wrap64 (x.f0 + x.f1), -1⟩] := ⟨_, rfl⟩
        have hst : os = edgesS (r.take (i + 1).toNat) := by
          have h3 : (i + 1).toNat = i.toNat + 1 := by omega
          have h4 : i.toNat < r.length := by rw [← HN.out]; omega
          have h5 : x = r[i.toNat] := by rw [hx]; unfold rd_T88; rw [List.getD_eq_getElem?_getD, List.getElem?_eq_getElem h4]; rfl
          unfold edgesS
          rw [hos, h3, List.take_succ_eq_append_getElem h4, List.flatMap_append, ← h5, HOE.out.1]
          simp [edgesS, edgesR]
        have HST := Aside0.mk hst
        have HOS := Aside0.mk hos
        have HP := Aside0.mk (And.intro hp0 hp1)
        have hwi : IntKind.i64.wrap (i + 1) = i + 1 := IntWalk.i64_in _ (by have := HN9.out; omega)
        have hws : IntKind.i64.wrap (x.f0 + x.f1) = wrap64 (x.f0 + x.f1) := IntWalk.i64_left _
        clear hx hC hst hos
        obtain ⟨W1, hW1⟩ : ∃ W, W = wr.alloc (.cells #[.int .i64 x.f0, .int .i64 x.f1, .int .i64 x.f2, .int .i64 x.f3] 88) := ⟨_, rfl⟩
        obtain ⟨bx, hbx⟩ : ∃ b, b = wr.heap.size := ⟨_, rfl⟩
        have hx1 : W1.heap[bx]? = some (.cells #[.int .i64 x.f0, .int .i64 x.f1, .int .i64 x.f2, .int .i64 x.f3] 88 (0, 0)) := by rw [hW1, hbx]; exact blk_new wr _
        have hb1 : Below w.heap.size w W1 := by rw [hW1]; exact HS.out.1.alloc HS.out.1.size _
        have ho1 : Kd.R k40 167 W1 w.heap.size (fun k => some k ≠ (Value.slice (some ad) n c1).ownBlock) (.slice Ao no co) o := by rw [hW1]; exact Kd.R_alloc HO.out _
        have hk1 : ∀ k, (Value.slice (some ad) n c1).ownBlock = some k → k < w1.heap.size := by
          intro k hk
          exact Kd.R_lt HR1.out k hk
        have hs1 : w1.heap.size ≤ W1.heap.size ∧ ∀ k, (Value.slice (some ad) n c1).ownBlock = some k → W1.heap[k]? = w1.heap[k]? := by
          refine ⟨by rw [hW1]; exact Nat.le_trans HS.out.2.1 (by simp), fun k hk => ?_⟩
          rw [hW1, Below.heap_alloc _ _ _ (Nat.lt_of_lt_of_le (hk1 k hk) HS.out.2.1)]
          exact HS.out.2.2 k hk
        have q0 : W1.cell? ⟨bx, 0, none⟩ = some (.int .i64 x.f0) := (blk_cell hx1 0).trans rfl
        have q1 : W1.cell? ⟨bx, 1, none⟩ = some (.int .i64 x.f1) := (blk_cell hx1 1).trans rfl
        have HX1 := Aside0.mk hx1
        have HB1' := Aside0.mk hb1
        have HO1 := Aside0.mk ho1
        have HK1 := Aside0.mk hk1
        have HS1 := Aside0.mk hs1
        clear hx1 hb1 ho1 hk1 hs1
        have hbz : W1.heap.size = wr.heap.size + 1 := by rw [hW1]; simp
        have HBZ := Aside0.mk hbz
        clear hbz
        subst hW1 hbx
        go_wp2_with (first | ((with_reducible refine gate_builtin (b := .append) (xs := #[.tmp 29, .tmp 39]) rfl ?_); at_builtin; refine Kd.R_append_rows k40 (Rr := fun (x : S40) cs => cs = [.int .i64 x.f0, .int .i64 x.f1]) (w0 := w) w.heap.size rfl (.tmp 29) (.tmp 39) 165 167 (.agg #[(.int .i64 0), (.int .i64 0)]) 16 rfl Try.underlying165 infoEdge rfl (by decide) (by omega) (.slice Ao no co) o [(⟨x.f0, 1⟩ : S40), ⟨wrap64 (x.f0 + x.f1), -1⟩] (some ⟨wr.heap.size + 1, 0, none⟩) 2 2 (fun k => some k ≠ (Value.slice (some ad) n c1).ownBlock) (fun _ => False) rfl (by first | (go_simp; done) | (go_simp; rfl)) ?aO ?aR (fun y cs h => by subst h; exact k40_mkM _ _ _ y) (fun _ h => h.elim) ?aF ?aB ?aS ?aL ?_; (case aR => rw [← HBZ.out]; exact reads_two _ _ _); (case aB => exact HB1'.out.alloc HB1'.out.size _); (case aF => intro k hk e; have h1 := HK1.out k e.symm; have h2 := HS1.out.1; have h3 := HBZ.out; have h4 := hk; simp at h4; omega); (case aO => exact Kd.R_alloc HO1.out _); (case aS => exact below_size (HB1'.out.alloc HB1'.out.size _)); (case aL => have := HOE.out.2; have := HI.out.2; have := HN9.out; omega); intro v1 w8 ho hb hg hat; rw [← HOS.out] at ho; have HO8 := Aside0.mk ho; have HB8 := Aside0.mk hb; have HG8 := Aside0.mk hg; clear ho hb hg hat))
        go_roundg k1
        case measure => omega
        case rel =>
          refine ⟨i + 1, os, by first | rfl | (simp; done) | go_num, ⟨by have := HP.out.1; omega, by have := HI.out.2; omega⟩, ⟨HST.out, ?_⟩, ⟨HO8.out⟩, ⟨HB8.out, ?_, ?_⟩⟩
          · rw [HOS.out, List.length_append]; have := HOE.out.2; simp; omega
          · have h1 := HG8.out.size; have h2 := HS1.out.1; rw [HBZ.out] at h2; simp at h1; omega
          · intro k hk
            have h1 := HK1.out k hk
            have h2 := HS1.out.1
            rw [HBZ.out] at h2
            rw [HG8.out.block k (by simp; omega) (fun e => HO1.out.1 k e.symm hk.symm), Below.heap_alloc _ _ _ (by rw [HBZ.out]; omega)]
            exact HS1.out.2 k hk
  · rw [if_neg hc] at h
    obtain ⟨rfl, rfl⟩ := Prod.mk.inj h
    have hcr := refs_Refs.calls A0 c0 l0 [] 9 w hr0 hc0 (by unfold refs_Refs.f; rw [if_neg hc])
    have HCR := Aside0.mk hcr
    clear hcr h hc hr0
    go_enter Try.func62, Try.ntmps62
    go_wp2_with fail
    refine HCR.out.mono ?_
    rintro e w1 ⟨v1, rfl, hR1, hb1⟩
    have HB1 := Aside0.mk hb1
    clear hb1 hR1
    go_wp2
    go_ret2
    exact ⟨_, rfl, Kd.R_nil _ _ _ _ _, HB1.out⟩
end Go.Proofs.Ytkkfkdncddbaeaa.Fn
namespace Go.Proofs.Ytkkfkdncddbaeaa.Fn
open Go.RowKit Go.Proofs.YtkkfkdncddbaeaaW.PrintWords Go.Proofs.YtkkfkdncddbaeaaW.PrintLast Go.Proofs.YtkkfkdncddbaeaaW.PrintMore
attribute [local go_sem] max2_int min2_int max_two min_two max_three min_three max_four min_four
set_option linter.unusedVariables false
set_option linter.unusedSimpArgs false
attribute [local go_sem high] eqA96
def flagstonelaw09_alive.f  : Option (Bool) := (refs_Counts.f (([(⟨0, (([(⟨0, 3, 4⟩ : S24)] : List (S24)))⟩ : S94), (⟨1, (([(⟨9, 3, 4⟩ : S24)] : List (S24)))⟩ : S94)] : List (S94)))).bind fun bt110 => ((flagstonelaw09_num.f bt110.2).bind fun t114 => (if t114 = 0 then (if (bt110.1.length : Int) = 1 then (if 0 < (bt110.1.length : Int) then (some (((rd_T96 bt110.1 0).f0) == 3 && (((rd_T96 bt110.1 0).f1) == 4 && (((rd_T96 bt110.1 0).f2) == 2)))) else (none)) else (some false)) else (some false)))
set_option maxHeartbeats 8000000 in
set_option maxRecDepth 100000 in
theorem flagstonelaw09_alive.calls  (r : Bool) (w : World) (h : flagstonelaw09_alive.f  = some r) :
 Calls Try.prog 57 #[] w fun e w' => e = .returned (.bool r) ∧ Below w.heap.size w w' := by
 have hu24 := Try.underlying24
 have hu94 := Try.underlying94
 have hu96 := Try.underlying96
 have HB := Aside0.mk (Below.refl w.heap.size w)
 have H : ((refs_Counts.f (([(⟨0, (([(⟨0, 3, 4⟩ : S24)] : List (S24)))⟩ : S94), (⟨1, (([(⟨9, 3, 4⟩ : S24)] : List (S24)))⟩ : S94)] : List (S94)))).bind fun bt110 => ((flagstonelaw09_num.f bt110.2).bind fun t114 => (if t114 = 0 then (if (bt110.1.length : Int) = 1 then (if 0 < (bt110.1.length : Int) then (some (((rd_T96 bt110.1 0).f0) == 3 && (((rd_T96 bt110.1 0).f1) == 4 && (((rd_T96 bt110.1 0).f2) == 2)))) else (none)) else (some false)) else (some false)))) = some r := h
 clear h
 obtain ⟨y101, hy101⟩ : ∃ y_ : List (S24), y_ = (([(⟨0, 3, 4⟩ : S24)] : List (S24))) := ⟨_, rfl⟩
 replace H : ((refs_Counts.f (([(⟨0, y101⟩ : S94), (⟨1, (([(⟨9, 3, 4⟩ : S24)] : List (S24)))⟩ : S94)] : List (S94)))).bind fun bt110 => ((flagstonelaw09_num.f bt110.2).bind fun t114 => (if t114 = 0 then (if (bt110.1.length : Int) = 1 then (if 0 < (bt110.1.length : Int) then (some (((rd_T96 bt110.1 0).f0) == 3 && (((rd_T96 bt110.1 0).f1) == 4 && (((rd_T96 bt110.1 0).f2) == 2)))) else (none)) else (some false)) else (some false)))) = some r := by first | (rw [hy101]; with_reducible exact H) | (have H2_ := (Option.bind_some _ _).symm.trans H; rw [hy101]; with_reducible exact H2_) | (have H2_ := (Option.bind_some _ _).symm.trans H; with_reducible exact H2_) | with_reducible exact H | (rw [hy101]; exact H) | exact H
 have Ny101 := Aside0.mk hy101
 clear hy101
 obtain ⟨y104, hy104⟩ : ∃ y_ : List (S24), y_ = (([(⟨9, 3, 4⟩ : S24)] : List (S24))) := ⟨_, rfl⟩
 replace H : ((refs_Counts.f (([(⟨0, y101⟩ : S94), (⟨1, y104⟩ : S94)] : List (S94)))).bind fun bt110 => ((flagstonelaw09_num.f bt110.2).bind fun t114 => (if t114 = 0 then (if (bt110.1.length : Int) = 1 then (if 0 < (bt110.1.length : Int) then (some (((rd_T96 bt110.1 0).f0) == 3 && (((rd_T96 bt110.1 0).f1) == 4 && (((rd_T96 bt110.1 0).f2) == 2)))) else (none)) else (some false)) else (some false)))) = some r := by first | (rw [hy104]; with_reducible exact H) | (have H2_ := (Option.bind_some _ _).symm.trans H; rw [hy104]; with_reducible exact H2_) | (have H2_ := (Option.bind_some _ _).symm.trans H; with_reducible exact H2_) | with_reducible exact H | (rw [hy104]; exact H) | exact H
 have Ny104 := Aside0.mk hy104
 clear hy104
 obtain ⟨y107, hy107⟩ : ∃ y_ : List (S94), y_ = (([(⟨0, y101⟩ : S94), (⟨1, y104⟩ : S94)] : List (S94))) := ⟨_, rfl⟩
 replace H : ((refs_Counts.f y107).bind fun bt110 => ((flagstonelaw09_num.f bt110.2).bind fun t114 => (if t114 = 0 then (if (bt110.1.length : Int) = 1 then (if 0 < (bt110.1.length : Int) then (some (((rd_T96 bt110.1 0).f0) == 3 && (((rd_T96 bt110.1 0).f1) == 4 && (((rd_T96 bt110.1 0).f2) == 2)))) else (none)) else (some false)) else (some false)))) = some r := by first | (rw [hy107]; with_reducible exact H) | (have H2_ := (Option.bind_some _ _).symm.trans H; rw [hy107]; with_reducible exact H2_) | (have H2_ := (Option.bind_some _ _).symm.trans H; with_reducible exact H2_) | with_reducible exact H | (rw [hy107]; exact H) | exact H
 have Ny107 := Aside0.mk hy107
 clear hy107
 replace H := Option.bind_eq_some_iff.mp H
 obtain ⟨⟨t110, t111⟩, A10, H⟩ := H
 try dsimp only at H
 have A1 := Aside0.mk A10
 clear A10
 replace H := Option.bind_eq_some_iff.mp H
 obtain ⟨t114, A20, H⟩ := H
 try dsimp only at H
 have A2 := Aside0.mk A20
 clear A20
 by_cases c3 : t114 = 0
 ·rw [if_pos c3] at H
  have c3b0 : (t114 == 0) = true := beq_iff_eq.mpr c3
  have c3b1 : (t114 != 0) = false := bne_eq_false_iff_eq.mpr c3
  clear c3
  by_cases c4 : (t110.length : Int) = 1
  ·rw [if_pos c4] at H
   have c4b0 : ((t110.length : Int) == 1) = true := beq_iff_eq.mpr c4
   have c4b1 : ((t110.length : Int) != 1) = false := bne_eq_false_iff_eq.mpr c4
   clear c4
   by_cases c5 : 0 < (t110.length : Int)
   ·rw [if_pos c5] at H
    have c5b0 : decide (0 < (t110.length : Int)) = true := decide_eq_true c5
    have c5b1 : decide (0 < t110.length) = true := decide_eq_true (by omega)
    clear c5
    obtain rfl := Option.some.inj H
    go_enter Try.func57, Try.ntmps57
    go_wp2_with (first | ((with_reducible refine gate_dst (N := 5) rfl ?_); (try (refine gate_guard (by rfl) ?_; dsimp only)); refine Kd.R_lit k24 _ 24 ?hg (N := 5) ?hd (xs := ([(⟨0, 3, 4⟩ : S24)] : List (S24))) (inner := [.int .i64 0, .int .i64 3, .int .i64 4]) (ok := fun _ => True) (okp := fun _ => True) ?hr ?hp (fun _ hk => hk) trivial (Below.refl _ _) (Nat.le_refl _) (by simp) ?_; (case hd => rfl); (case hg => rfl); (case hr => first | (go_simp; done) | (go_simp; rfl)); (case hp => exact (Reps.c3 (show Kd.M k24 _ _ _ (⟨0, 3, 4⟩ : S24) [.int .i64 0, .int .i64 3, .int .i64 4] from (k24_mkM _ _ _ (⟨0, 3, 4⟩ : S24) )) (Reps.none _ _))); intro v102 w6 ho7 hb hg_ hnew_; clear hg_ hnew_; (first | rw [← Ny101.out] at ho7 | (simp only [Int.reduceToNat] at ho7; rw [← Ny101.out] at ho7)); have n0_ := Aside0.mk (Kd.R_lower ho7 (below_size (by repeat (first | (with_reducible first | exact HB.out | apply below_alloc | apply pw_below_drewN | apply below_drew1) | exact HB.out)))); have n1_ := Aside0.mk (below_step (by repeat (first | (with_reducible first | exact HB.out | apply below_alloc | apply pw_below_drewN | apply below_drew1) | exact HB.out)) hb); clear HB; have HO103 := n0_; have HB := n1_; clear n0_ n1_; clear hb ho7; obtain ⟨Ao8, co8, eo8⟩ := Kd.R_slice HO103.out; subst eo8) | ((with_reducible refine gate_dst (N := 8) rfl ?_); (try (refine gate_guard (by rfl) ?_; dsimp only)); refine Kd.R_lit k24 _ 24 ?hg (N := 8) ?hd (xs := ([(⟨9, 3, 4⟩ : S24)] : List (S24))) (inner := [.int .i64 9, .int .i64 3, .int .i64 4]) (ok := fun _ => True) (okp := fun _ => True) ?hr ?hp (fun _ hk => hk) trivial (Below.refl _ _) (Nat.le_refl _) (by simp) ?_; (case hd => rfl); (case hg => rfl); (case hr => first | (go_simp; done) | (go_simp; rfl)); (case hp => exact (Reps.c3 (show Kd.M k24 _ _ _ (⟨9, 3, 4⟩ : S24) [.int .i64 9, .int .i64 3, .int .i64 4] from (k24_mkM _ _ _ (⟨9, 3, 4⟩ : S24) )) (Reps.none _ _))); intro v105 w9 ho10 hb hg_ hnew_; clear hg_ hnew_; (first | rw [← Ny104.out] at ho10 | (simp only [Int.reduceToNat] at ho10; rw [← Ny104.out] at ho10)); have n0_ := Aside0.mk (Kd.R_elder' (by (with_reducible repeat (first | apply Kd.R_alloc | apply Kd.R_drewN | apply Kd.R_drew)); exact HO103.out) (Kd.R_base ho10) hb); have n1_ := Aside0.mk (Kd.R_lower (Kd.R_new' ho10 (Kd.R_lt (by (with_reducible repeat (first | apply Kd.R_alloc | apply Kd.R_drewN | apply Kd.R_drew)); exact HO103.out))) (below_size (by repeat (first | (with_reducible first | exact HB.out | apply below_alloc | apply pw_below_drewN | apply below_drew1) | exact HB.out)))); have n2_ := Aside0.mk (below_step (by repeat (first | (with_reducible first | exact HB.out | apply below_alloc | apply pw_below_drewN | apply below_drew1) | exact HB.out)) hb); clear HO103; clear HB; have HO103 := n0_; have HO106 := n1_; have HB := n2_; clear n0_ n1_ n2_; clear hb ho10; obtain ⟨Ao11, co11, eo11⟩ := Kd.R_slice HO106.out; subst eo11) | ((with_reducible refine gate_dst (N := 10) rfl ?_); (try (refine gate_guard (by rfl) ?_; dsimp only)); refine Kd.N_lit k94 _ 94 ?hg (N' := 10) ?hd (xs := ([(⟨0, y101⟩ : S94), (⟨1, y104⟩ : S94)] : List (S94))) (inner := [.int .i64 0, .slice Ao8 y101.length co8, .int .i64 1, .slice Ao11 y104.length co11]) (ok := (fun _ => True)) (okp := (fun _ => True)) ?hr ?hp (fun _ hk => hk) ((show ∀ k_, w9.heap.size ≤ k_ → (fun _ => True) k_ from fun k_ hk => trivial) _ (Nat.le_refl _)) (Below.refl _ _) (Nat.le_refl _) (by simp) ?_; (case hd => rfl); (case hg => rfl); (case hr => first | (go_simp; done) | (go_simp; rfl)); (case hp => exact (Reps.c2 (show Kd.FK k94 _ _ (⟨0, y101⟩ : S94) [.int .i64 0, .slice Ao8 y101.length co8] from (k94_mkF _ _ (⟨0, y101⟩ : S94) (Kd.R_reads' (Kd.R_mono (ok' := (fun _ => True)) (HO103.out) (fun k_ hk => trivial))).2.1 (Kd.R_F (Kd.R_mono (ok' := (fun _ => True)) (HO103.out) (fun k_ hk => trivial))))) (Reps.c2 (show Kd.FK k94 _ _ (⟨1, y104⟩ : S94) [.int .i64 1, .slice Ao11 y104.length co11] from (k94_mkF _ _ (⟨1, y104⟩ : S94) (Kd.R_reads' (Kd.R_mono (ok' := (fun _ => True)) (HO106.out) (fun k_ hk => trivial))).2.1 (Kd.R_F (Kd.R_mono (ok' := (fun _ => True)) (HO106.out) (fun k_ hk => trivial))))) (Reps.none _ _)))); intro v108 w12 ho13 hb hg_ hnew_; clear hg_ hnew_; (first | rw [← Ny107.out] at ho13 | (simp only [Int.reduceToNat] at ho13; rw [← Ny107.out] at ho13)); have n0_ := Aside0.mk (Kd.N_lower ho13 (below_size (by repeat (first | (with_reducible first | exact HB.out | apply below_alloc | apply pw_below_drewN | apply below_drew1) | exact HB.out)))); have n1_ := Aside0.mk (below_step (by repeat (first | (with_reducible first | exact HB.out | apply below_alloc | apply pw_below_drewN | apply below_drew1) | exact HB.out)) hb); clear HB; clear HO103; clear HO106; have HO109 := n0_; have HB := n1_; clear n0_ n1_; clear hb ho13; obtain ⟨Ao14, co14, eo14⟩ := Kd.N_slice HO109.out; subst eo14) | ((with_reducible refine gate_callee (f := 62) rfl ?_); refine goesL_ (some 13) rfl rfl Try.func62 (by kernel_rfl) rfl #[.slice Ao14 y107.length co14] rfl (by (try simp only [List.map_toArray, List.map_cons, List.map_nil]); first | done | rfl | (simp only [List.length_drop, List.length_take]; rfl)) ?_; (with_reducible refine (refs_Counts.calls _ _ y107 t110 t111 _ ?side1 ?side2 A1.out).mono ?_); (case side1 => repeat (first | exact (Kd.N_reads' HO109.out).2.2 | (with_reducible refine Kd.C_alloc ?_ _) | (with_reducible refine Kd.C_drewN ?_ _) | (with_reducible refine Kd.C_drew ?_))); (case side2 => exact (Kd.N_reads' HO109.out).2.1); rintro e w15 ⟨v112, rfl, ho0, hb⟩; refine ⟨_, rfl, ?_⟩; have n0_ := Aside0.mk (Kd.N_elder' (by (with_reducible repeat (first | apply Kd.N_alloc | apply Kd.N_drewN | apply Kd.N_drew)); exact HO109.out) (Kd.R_base ho0) hb); have n1_ := Aside0.mk (Kd.R_lower ho0 (below_size (by repeat (first | (with_reducible first | exact HB.out | apply below_alloc | apply pw_below_drewN | apply below_drew1) | exact HB.out)))); have n2_ := Aside0.mk (below_step (by repeat (first | (with_reducible first | exact HB.out | apply below_alloc | apply pw_below_drewN | apply below_drew1) | exact HB.out)) hb); clear HO109; clear HB; have HO109 := n0_; have HO113 := n1_; have HB := n2_; clear n0_ n1_ n2_; (try clear hb); (try clear hb2); (try clear hk); (try clear hi); (try clear ho0)) | ((with_reducible refine gate_callee (f := 60) rfl ?_); refine goesL_ (some 17) rfl rfl Try.func60 (by kernel_rfl) rfl #[.int .i64 t111] rfl (by (try simp only [List.map_toArray, List.map_cons, List.map_nil]); first | done | rfl | (simp only [List.length_drop, List.length_take]; rfl)) ?_; (with_reducible refine (flagstonelaw09_num.calls t111 t114 _ A2.out).mono ?_); rintro e w' ⟨rfl, ⟨nd, rfl⟩⟩; refine ⟨_, rfl, ?_⟩; obtain ⟨Ao16, co16, eo16⟩ := Kd.R_slice HO113.out; subst eo16; have p115 : 0 ≤ (0 : Int) := (by omega); have q115 : 0 < (t110.length : Int) := of_decide_eq_true (by first | (with_reducible assumption) | assumption); obtain ⟨ad115, e115, hx115_0, hx115_1, hx115_2⟩ := at_T96 (Kd.R_reads' HO113.out).2.2 0 p115 q115; cases e115; have qi115 : (0 < t110.length) = True := eq_true (by omega); (try rw [show ((0 : Int)).toNat = 0 from rfl] at hx115_0); (try rw [show 0 * 3 = 0 from rfl] at hx115_0); (try rw [Addr.add_zero'] at hx115_0); (try rw [show ((0 : Int)).toNat = 0 from rfl] at hx115_1); (try rw [show 0 * 3 = 0 from rfl] at hx115_1); (try rw [Addr.add_zero'] at hx115_1); (try rw [show ((0 : Int)).toNat = 0 from rfl] at hx115_2); (try rw [show 0 * 3 = 0 from rfl] at hx115_2); (try rw [Addr.add_zero'] at hx115_2); replace p115 := eq_true p115; replace q115 := eq_true q115))
    go_ret
    exact ⟨by first | rfl | (simp [errW_none, errW_some] <;> rfl) | (simp [*, errW_none, errW_some] <;> rfl), by repeat (first | (with_reducible first | exact HB.out | apply below_alloc | apply pw_below_drewN | apply below_drew1) | exact HB.out)⟩
   ·rw [if_neg c5] at H
    exact absurd H (by simp)
  ·rw [if_neg c4] at H
   have c4b0 : ((t110.length : Int) == 1) = false := beq_eq_false_iff_ne.mpr c4
   have c4b1 : ((t110.length : Int) != 1) = true := bne_iff_ne.mpr c4
   obtain rfl := Option.some.inj H
   go_enter Try.func57, Try.ntmps57
   go_wp2_with (first | ((with_reducible refine gate_dst (N := 5) rfl ?_); (try (refine gate_guard (by rfl) ?_; dsimp only)); refine Kd.R_lit k24 _ 24 ?hg (N := 5) ?hd (xs := ([(⟨0, 3, 4⟩ : S24)] : List (S24))) (inner := [.int .i64 0, .int .i64 3, .int .i64 4]) (ok := fun _ => True) (okp := fun _ => True) ?hr ?hp (fun _ hk => hk) trivial (Below.refl _ _) (Nat.le_refl _) (by simp) ?_; (case hd => rfl); (case hg => rfl); (case hr => first | (go_simp; done) | (go_simp; rfl)); (case hp => exact (Reps.c3 (show Kd.M k24 _ _ _ (⟨0, 3, 4⟩ : S24) [.int .i64 0, .int .i64 3, .int .i64 4] from (k24_mkM _ _ _ (⟨0, 3, 4⟩ : S24) )) (Reps.none _ _))); intro v102 w17 ho18 hb hg_ hnew_; clear hg_ hnew_; (first | rw [← Ny101.out] at ho18 | (simp only [Int.reduceToNat] at ho18; rw [← Ny101.out] at ho18)); have n0_ := Aside0.mk (Kd.R_lower ho18 (below_size (by repeat (first | (with_reducible first | exact HB.out | apply below_alloc | apply pw_below_drewN | apply below_drew1) | exact HB.out)))); have n1_ := Aside0.mk (below_step (by repeat (first | (with_reducible first | exact HB.out | apply below_alloc | apply pw_below_drewN | apply below_drew1) | exact HB.out)) hb); clear HB; have HO103 := n0_; have HB := n1_; clear n0_ n1_; clear hb ho18; obtain ⟨Ao19, co19, eo19⟩ := Kd.R_slice HO103.out; subst eo19) | ((with_reducible refine gate_dst (N := 8) rfl ?_); (try (refine gate_guard (by rfl) ?_; dsimp only)); refine Kd.R_lit k24 _ 24 ?hg (N := 8) ?hd (xs := ([(⟨9, 3, 4⟩ : S24)] : List (S24))) (inner := [.int .i64 9, .int .i64 3, .int .i64 4]) (ok := fun _ => True) (okp := fun _ => True) ?hr ?hp (fun _ hk => hk) trivial (Below.refl _ _) (Nat.le_refl _) (by simp) ?_; (case hd => rfl); (case hg => rfl); (case hr => first | (go_simp; done) | (go_simp; rfl)); (case hp => exact (Reps.c3 (show Kd.M k24 _ _ _ (⟨9, 3, 4⟩ : S24) [.int .i64 9, .int .i64 3, .int .i64 4] from (k24_mkM _ _ _ (⟨9, 3, 4⟩ : S24) )) (Reps.none _ _))); intro v105 w20 ho21 hb hg_ hnew_; clear hg_ hnew_; (first | rw [← Ny104.out] at ho21 | (simp only [Int.reduceToNat] at ho21; rw [← Ny104.out] at ho21)); have n0_ := Aside0.mk (Kd.R_elder' (by (with_reducible repeat (first | apply Kd.R_alloc | apply Kd.R_drewN | apply Kd.R_drew)); exact HO103.out) (Kd.R_base ho21) hb); have n1_ := Aside0.mk (Kd.R_lower (Kd.R_new' ho21 (Kd.R_lt (by (with_reducible repeat (first | apply Kd.R_alloc | apply Kd.R_drewN | apply Kd.R_drew)); exact HO103.out))) (below_size (by repeat (first | (with_reducible first | exact HB.out | apply below_alloc | apply pw_below_drewN | apply below_drew1) | exact HB.out)))); have n2_ := Aside0.mk (below_step (by repeat (first | (with_reducible first | exact HB.out | apply below_alloc | apply pw_below_drewN | apply below_drew1) | exact HB.out)) hb); clear HO103; clear HB; have HO103 := n0_; have HO106 := n1_; have HB := n2_; clear n0_ n1_ n2_; clear hb ho21; obtain ⟨Ao22, co22, eo22⟩ := Kd.R_slice HO106.out; subst eo22) | ((with_reducible refine gate_dst (N := 10) rfl ?_); (try (refine gate_guard (by rfl) ?_; dsimp only)); refine Kd.N_lit k94 _ 94 ?hg (N' := 10) ?hd (xs := ([(⟨0, y101⟩ : S94), (⟨1, y104⟩ : S94)] : List (S94))) (inner := [.int .i64 0, .slice Ao19 y101.length co19, .int .i64 1, .slice Ao22 y104.length co22]) (ok := (fun _ => True)) (okp := (fun _ => True)) ?hr ?hp (fun _ hk => hk) ((show ∀ k_, w20.heap.size ≤ k_ → (fun _ => True) k_ from fun k_ hk => trivial) _ (Nat.le_refl _)) (Below.refl _ _) (Nat.le_refl _) (by simp) ?_; (case hd => rfl); (case hg => rfl); (case hr => first | (go_simp; done) | (go_simp; rfl)); (case hp => exact (Reps.c2 (show Kd.FK k94 _ _ (⟨0, y101⟩ : S94) [.int .i64 0, .slice Ao19 y101.length co19] from (k94_mkF _ _ (⟨0, y101⟩ : S94) (Kd.R_reads' (Kd.R_mono (ok' := (fun _ => True)) (HO103.out) (fun k_ hk => trivial))).2.1 (Kd.R_F (Kd.R_mono (ok' := (fun _ => True)) (HO103.out) (fun k_ hk => trivial))))) (Reps.c2 (show Kd.FK k94 _ _ (⟨1, y104⟩ : S94) [.int .i64 1, .slice Ao22 y104.length co22] from (k94_mkF _ _ (⟨1, y104⟩ : S94) (Kd.R_reads' (Kd.R_mono (ok' := (fun _ => True)) (HO106.out) (fun k_ hk => trivial))).2.1 (Kd.R_F (Kd.R_mono (ok' := (fun _ => True)) (HO106.out) (fun k_ hk => trivial))))) (Reps.none _ _)))); intro v108 w23 ho24 hb hg_ hnew_; clear hg_ hnew_; (first | rw [← Ny107.out] at ho24 | (simp only [Int.reduceToNat] at ho24; rw [← Ny107.out] at ho24)); have n0_ := Aside0.mk (Kd.N_lower ho24 (below_size (by repeat (first | (with_reducible first | exact HB.out | apply below_alloc | apply pw_below_drewN | apply below_drew1) | exact HB.out)))); have n1_ := Aside0.mk (below_step (by repeat (first | (with_reducible first | exact HB.out | apply below_alloc | apply pw_below_drewN | apply below_drew1) | exact HB.out)) hb); clear HB; clear HO103; clear HO106; have HO109 := n0_; have HB := n1_; clear n0_ n1_; clear hb ho24; obtain ⟨Ao25, co25, eo25⟩ := Kd.N_slice HO109.out; subst eo25) | ((with_reducible refine gate_callee (f := 62) rfl ?_); refine goesL_ (some 13) rfl rfl Try.func62 (by kernel_rfl) rfl #[.slice Ao25 y107.length co25] rfl (by (try simp only [List.map_toArray, List.map_cons, List.map_nil]); first | done | rfl | (simp only [List.length_drop, List.length_take]; rfl)) ?_; (with_reducible refine (refs_Counts.calls _ _ y107 t110 t111 _ ?side1 ?side2 A1.out).mono ?_); (case side1 => repeat (first | exact (Kd.N_reads' HO109.out).2.2 | (with_reducible refine Kd.C_alloc ?_ _) | (with_reducible refine Kd.C_drewN ?_ _) | (with_reducible refine Kd.C_drew ?_))); (case side2 => exact (Kd.N_reads' HO109.out).2.1); rintro e w26 ⟨v112, rfl, ho0, hb⟩; refine ⟨_, rfl, ?_⟩; have n0_ := Aside0.mk (Kd.N_elder' (by (with_reducible repeat (first | apply Kd.N_alloc | apply Kd.N_drewN | apply Kd.N_drew)); exact HO109.out) (Kd.R_base ho0) hb); have n1_ := Aside0.mk (Kd.R_lower ho0 (below_size (by repeat (first | (with_reducible first | exact HB.out | apply below_alloc | apply pw_below_drewN | apply below_drew1) | exact HB.out)))); have n2_ := Aside0.mk (below_step (by repeat (first | (with_reducible first | exact HB.out | apply below_alloc | apply pw_below_drewN | apply below_drew1) | exact HB.out)) hb); clear HO109; clear HB; have HO109 := n0_; have HO113 := n1_; have HB := n2_; clear n0_ n1_ n2_; (try clear hb); (try clear hb2); (try clear hk); (try clear hi); (try clear ho0)) | ((with_reducible refine gate_callee (f := 60) rfl ?_); refine goesL_ (some 17) rfl rfl Try.func60 (by kernel_rfl) rfl #[.int .i64 t111] rfl (by (try simp only [List.map_toArray, List.map_cons, List.map_nil]); first | done | rfl | (simp only [List.length_drop, List.length_take]; rfl)) ?_; (with_reducible refine (flagstonelaw09_num.calls t111 t114 _ A2.out).mono ?_); rintro e w' ⟨rfl, ⟨nd, rfl⟩⟩; refine ⟨_, rfl, ?_⟩; obtain ⟨Ao27, co27, eo27⟩ := Kd.R_slice HO113.out; subst eo27))
   go_ret
   exact ⟨by first | rfl | (simp [errW_none, errW_some] <;> rfl) | (simp [*, errW_none, errW_some] <;> rfl), by repeat (first | (with_reducible first | exact HB.out | apply below_alloc | apply pw_below_drewN | apply below_drew1) | exact HB.out)⟩
 ·rw [if_neg c3] at H
  have c3b0 : (t114 == 0) = false := beq_eq_false_iff_ne.mpr c3
  have c3b1 : (t114 != 0) = true := bne_iff_ne.mpr c3
  obtain rfl := Option.some.inj H
  go_enter Try.func57, Try.ntmps57
  go_wp2_with (first | ((with_reducible refine gate_dst (N := 5) rfl ?_); (try (refine gate_guard (by rfl) ?_; dsimp only)); refine Kd.R_lit k24 _ 24 ?hg (N := 5) ?hd (xs := ([(⟨0, 3, 4⟩ : S24)] : List (S24))) (inner := [.int .i64 0, .int .i64 3, .int .i64 4]) (ok := fun _ => True) (okp := fun _ => True) ?hr ?hp (fun _ hk => hk) trivial (Below.refl _ _) (Nat.le_refl _) (by simp) ?_; (case hd => rfl); (case hg => rfl); (case hr => first | (go_simp; done) | (go_simp; rfl)); (case hp => exact (Reps.c3 (show Kd.M k24 _ _ _ (⟨0, 3, 4⟩ : S24) [.int .i64 0, .int .i64 3, .int .i64 4] from (k24_mkM _ _ _ (⟨0, 3, 4⟩ : S24) )) (Reps.none _ _))); intro v102 w28 ho29 hb hg_ hnew_; clear hg_ hnew_; (first | rw [← Ny101.out] at ho29 | (simp only [Int.reduceToNat] at ho29; rw [← Ny101.out] at ho29)); have n0_ := Aside0.mk (Kd.R_lower ho29 (below_size (by repeat (first | (with_reducible first | exact HB.out | apply below_alloc | apply pw_below_drewN | apply below_drew1) | exact HB.out)))); have n1_ := Aside0.mk (below_step (by repeat (first | (with_reducible first | exact HB.out | apply below_alloc | apply pw_below_drewN | apply below_drew1) | exact HB.out)) hb); clear HB; have HO103 := n0_; have HB := n1_; clear n0_ n1_; clear hb ho29; obtain ⟨Ao30, co30, eo30⟩ := Kd.R_slice HO103.out; subst eo30) | ((with_reducible refine gate_dst (N := 8) rfl ?_); (try (refine gate_guard (by rfl) ?_; dsimp only)); refine Kd.R_lit k24 _ 24 ?hg (N := 8) ?hd (xs := ([(⟨9, 3, 4⟩ : S24)] : List (S24))) (inner := [.int .i64 9, .int .i64 3, .int .i64 4]) (ok := fun _ => True) (okp := fun _ => True) ?hr ?hp (fun _ hk => hk) trivial (Below.refl _ _) (Nat.le_refl _) (by simp) ?_; (case hd => rfl); (case hg => rfl); (case hr => first | (go_simp; done) | (go_simp; rfl)); (case hp => exact (Reps.c3 (show Kd.M k24 _ _ _ (⟨9, 3, 4⟩ : S24) [.int .i64 9, .int .i64 3, .int .i64 4] from (k24_mkM _ _ _ (⟨9, 3, 4⟩ : S24) )) (Reps.none _ _))); intro v105 w31 ho32 hb hg_ hnew_; clear hg_ hnew_; (first | rw [← Ny104.out] at ho32 | (simp only [Int.reduceToNat] at ho32; rw [← Ny104.out] at ho32)); have n0_ := Aside0.mk (Kd.R_elder' (by (with_reducible repeat (first | apply Kd.R_alloc | apply Kd.R_drewN | apply Kd.R_drew)); exact HO103.out) (Kd.R_base ho32) hb); have n1_ := Aside0.mk (Kd.R_lower (Kd.R_new' ho32 (Kd.R_lt (by (with_reducible repeat (first | apply Kd.R_alloc | apply Kd.R_drewN | apply Kd.R_drew)); exact HO103.out))) (below_size (by repeat (first | (with_reducible first | exact HB.out | apply below_alloc | apply pw_below_drewN | apply below_drew1) | exact HB.out)))); have n2_ := Aside0.mk (below_step (by repeat (first | (with_reducible first | exact HB.out | apply below_alloc | apply pw_below_drewN | apply below_drew1) | exact HB.out)) hb); clear HO103; clear HB; have HO103 := n0_; have HO106 := n1_; have HB := n2_; clear n0_ n1_ n2_; clear hb ho32; obtain ⟨Ao33, co33, eo33⟩ := Kd.R_slice HO106.out; subst eo33) | ((with_reducible refine gate_dst (N := 10) rfl ?_); (try (refine gate_guard (by rfl) ?_; dsimp only)); refine Kd.N_lit k94 _ 94 ?hg (N' := 10) ?hd (xs := ([(⟨0, y101⟩ : S94), (⟨1, y104⟩ : S94)] : List (S94))) (inner := [.int .i64 0, .slice Ao30 y101.length co30, .int .i64 1, .slice Ao33 y104.length co33]) (ok := (fun _ => True)) (okp := (fun _ => True)) ?hr ?hp (fun _ hk => hk) ((show ∀ k_, w31.heap.size ≤ k_ → (fun _ => True) k_ from fun k_ hk => trivial) _ (Nat.le_refl _)) (Below.refl _ _) (Nat.le_refl _) (by simp) ?_; (case hd => rfl); (case hg => rfl); (case hr => first | (go_simp; done) | (go_simp; rfl)); (case hp => exact (Reps.c2 (show Kd.FK k94 _ _ (⟨0, y101⟩ : S94) [.int .i64 0, .slice Ao30 y101.length co30] from (k94_mkF _ _ (⟨0, y101⟩ : S94) (Kd.R_reads' (Kd.R_mono (ok' := (fun _ => True)) (HO103.out) (fun k_ hk => trivial))).2.1 (Kd.R_F (Kd.R_mono (ok' := (fun _ => True)) (HO103.out) (fun k_ hk => trivial))))) (Reps.c2 (show Kd.FK k94 _ _ (⟨1, y104⟩ : S94) [.int .i64 1, .slice Ao33 y104.length co33] from (k94_mkF _ _ (⟨1, y104⟩ : S94) (Kd.R_reads' (Kd.R_mono (ok' := (fun _ => True)) (HO106.out) (fun k_ hk => trivial))).2.1 (Kd.R_F (Kd.R_mono (ok' := (fun _ => True)) (HO106.out) (fun k_ hk => trivial))))) (Reps.none _ _)))); intro v108 w34 ho35 hb hg_ hnew_; clear hg_ hnew_; (first | rw [← Ny107.out] at ho35 | (simp only [Int.reduceToNat] at ho35; rw [← Ny107.out] at ho35)); have n0_ := Aside0.mk (Kd.N_lower ho35 (below_size (by repeat (first | (with_reducible first | exact HB.out | apply below_alloc | apply pw_below_drewN | apply below_drew1) | exact HB.out)))); have n1_ := Aside0.mk (below_step (by repeat (first | (with_reducible first | exact HB.out | apply below_alloc | apply pw_below_drewN | apply below_drew1) | exact HB.out)) hb); clear HB; clear HO103; clear HO106; have HO109 := n0_; have HB := n1_; clear n0_ n1_; clear hb ho35; obtain ⟨Ao36, co36, eo36⟩ := Kd.N_slice HO109.out; subst eo36) | ((with_reducible refine gate_callee (f := 62) rfl ?_); refine goesL_ (some 13) rfl rfl Try.func62 (by kernel_rfl) rfl #[.slice Ao36 y107.length co36] rfl (by (try simp only [List.map_toArray, List.map_cons, List.map_nil]); first | done | rfl | (simp only [List.length_drop, List.length_take]; rfl)) ?_; (with_reducible refine (refs_Counts.calls _ _ y107 t110 t111 _ ?side1 ?side2 A1.out).mono ?_); (case side1 => repeat (first | exact (Kd.N_reads' HO109.out).2.2 | (with_reducible refine Kd.C_alloc ?_ _) | (with_reducible refine Kd.C_drewN ?_ _) | (with_reducible refine Kd.C_drew ?_))); (case side2 => exact (Kd.N_reads' HO109.out).2.1); rintro e w37 ⟨v112, rfl, ho0, hb⟩; refine ⟨_, rfl, ?_⟩; have n0_ := Aside0.mk (Kd.N_elder' (by (with_reducible repeat (first | apply Kd.N_alloc | apply Kd.N_drewN | apply Kd.N_drew)); exact HO109.out) (Kd.R_base ho0) hb); have n1_ := Aside0.mk (Kd.R_lower ho0 (below_size (by repeat (first | (with_reducible first | exact HB.out | apply below_alloc | apply pw_below_drewN | apply below_drew1) | exact HB.out)))); have n2_ := Aside0.mk (below_step (by repeat (first | (with_reducible first | exact HB.out | apply below_alloc | apply pw_below_drewN | apply below_drew1) | exact HB.out)) hb); clear HO109; clear HB; have HO109 := n0_; have HO113 := n1_; have HB := n2_; clear n0_ n1_ n2_; (try clear hb); (try clear hb2); (try clear hk); (try clear hi); (try clear ho0)) | ((with_reducible refine gate_callee (f := 60) rfl ?_); refine goesL_ (some 17) rfl rfl Try.func60 (by kernel_rfl) rfl #[.int .i64 t111] rfl (by (try simp only [List.map_toArray, List.map_cons, List.map_nil]); first | done | rfl | (simp only [List.length_drop, List.length_take]; rfl)) ?_; (with_reducible refine (flagstonelaw09_num.calls t111 t114 _ A2.out).mono ?_); rintro e w' ⟨rfl, ⟨nd, rfl⟩⟩; refine ⟨_, rfl, ?_⟩))
  go_ret
  exact ⟨by first | rfl | (simp [errW_none, errW_some] <;> rfl) | (simp [*, errW_none, errW_some] <;> rfl), by repeat (first | (with_reducible first | exact HB.out | apply below_alloc | apply pw_below_drewN | apply below_drew1) | exact HB.out)⟩
end Go.Proofs.Ytkkfkdncddbaeaa.Fn
namespace Go.Proofs.Ytkkfkdncddbaeaa.Fn
open Go.RowKit Go.Proofs.YtkkfkdncddbaeaaW.PrintWords Go.Proofs.YtkkfkdncddbaeaaW.PrintLast Go.Proofs.YtkkfkdncddbaeaaW.PrintMore
attribute [local go_sem] max2_int min2_int max_two min_two max_three min_three max_four min_four
set_option linter.unusedVariables false
set_option linter.unusedSimpArgs false
theorem refs9 {l : List S94} (h : Flag.checkM (l.map toM) = 0) : Flag.Ok9 ((sortRefL (refsG l)).map toR) ∧ (sortRefL (refsG l)).length ≤ 9216 := by
  have h9 := Flag.checkM_ok.1 h
  have e1 : ((sortRefL (refsG l)).map toR).length = (refsG l).length := by rw [sortRefL_toR, (Flag.sortR_perm _).length_eq, List.length_map]
  rw [List.length_map] at e1
  refine ⟨?_, by rw [e1]; exact refsG_len h9⟩
  rw [sortRefL_toR, refsG_toR]
  exact (Flag.refsM_ok h9).perm (Flag.sortR_perm _)
theorem example9 : refs_Counts.f [(⟨0, [⟨0, 3, 4⟩]⟩ : S94), ⟨1, [⟨9, 3, 4⟩]⟩] = some ([⟨3, 4, 2⟩], 0) := by
  have h1 : Flag.checkM (List.map toM [(⟨0, [⟨0, 3, 4⟩]⟩ : S94), ⟨1, [⟨9, 3, 4⟩]⟩]) = 0 := by kernel_rfl
  have h2 : sortRefL (refsG [(⟨0, [⟨0, 3, 4⟩]⟩ : S94), ⟨1, [⟨9, 3, 4⟩]⟩]) = [⟨3, 4, 0, 0⟩, ⟨3, 4, 1, 9⟩] := by kernel_rfl
  have h3 : countsL [(⟨3, 4, 0, 0⟩ : S88), ⟨3, 4, 1, 9⟩] = [⟨3, 4, 2⟩] := by
    have h4 := (refs9 h1)
    rw [h2] at h4
    have e : edgesS [(⟨3, 4, 0, 0⟩ : S88), ⟨3, 4, 1, 9⟩] = [⟨3, 1⟩, ⟨7, -1⟩, ⟨3, 1⟩, ⟨7, -1⟩] := by kernel_rfl
    have hp : List.Perm [(⟨3, 1⟩ : S40), ⟨3, 1⟩, ⟨7, -1⟩, ⟨7, -1⟩] (edgesS [(⟨3, 4, 0, 0⟩ : S88), ⟨3, 4, 1, 9⟩]) := by
      rw [e]
      exact List.Perm.cons _ (List.Perm.swap _ _ _)
    have hs : List.Pairwise (fun a b : S40 => a.f0 ≤ b.f0) [⟨3, 1⟩, ⟨3, 1⟩, ⟨7, -1⟩, ⟨7, -1⟩] := by simp
    have h5 : (List.foldl stepS (([], 0, 0) : List S96 × Int × Int) [(⟨3, 1⟩ : S40), ⟨3, 1⟩, ⟨7, -1⟩, ⟨7, -1⟩]).1 = [⟨3, 4, 2⟩] := by kernel_rfl
    exact (counts_one h4.1 h4.2 hp hs).symm.trans h5
  unfold refs_Counts.f
  rw [if_pos h1, h2, h3]
theorem alive9 : flagstonelaw09_alive.f = some true := by
  unfold flagstonelaw09_alive.f flagstonelaw09_num.f
  rw [example9]
  kernel_rfl
def toS (x : S86) : S94 := ⟨x.f0, x.f1⟩
theorem rd_m9 (pre : List S86) (x : S86) (t : List S86) {i : Int} (h : i = pre.length) : rd_T86 (pre ++ x :: t) i = x := by
  unfold rd_T86
  rw [h, Int.toNat_natCast, List.getD_eq_getElem?_getD, List.getElem?_append_right (Nat.le_refl _), Nat.sub_self]; rfl
theorem copy9 {l : List S24} (hl : l.length < 5864062014805) : flagstoneplain_CopyExtents.f l = some l := by
  unfold flagstoneplain_CopyExtents.f
  rw [if_pos (by simp; omega), List.nil_append]
theorem of_loop (l : List S86) (hl : l.length < 4398046511104) (hx : ∀ x ∈ l, x.f1.length < 5864062014805) (t : List S86) : ∀ (pre : List S86) (k : Nat), l = pre ++ t → t.length < k → flagstonelaw09_Of.l0 k l (pre.map toS) (pre.length : Int) = some (l.map toS) := by
  induction t with
  | nil =>
    intro pre k h hk
    obtain ⟨k, rfl⟩ : ∃ k', k = k' + 1 := ⟨k - 1, by simp at hk; omega⟩
    rw [flagstonelaw09_Of.l0, if_neg (by rw [h]; simp), h, List.append_nil]
  | cons x t ih =>
    intro pre k h hk
    obtain ⟨k, rfl⟩ : ∃ k', k = k' + 1 := ⟨k - 1, by simp at hk; omega⟩
    have hlen : l.length = pre.length + t.length + 1 := by rw [h]; simp; omega
    have hr : rd_T86 l (pre.length : Int) = x := by rw [h]; exact rd_m9 pre x t rfl
    have e1 : wrap64 ((pre.length : Int) + 1) = ((pre ++ [x]).length : Int) := by rw [w64 (by omega)]; simp
    have hnext := ih (pre ++ [x]) k (by rw [h]; simp) (by simp at hk; omega)
    rw [flagstonelaw09_Of.l0, if_pos (by omega), if_pos (by omega), hr, copy9 (hx x (by rw [h]; simp)), Option.bind_some, if_pos (by rw [List.length_map]; omega), e1]
    rw [List.map_append] at hnext
    exact hnext
theorem of9 {l : List S86} (hl : l.length < 4398046511104) (hx : ∀ x ∈ l, x.f1.length < 5864062014805) {k : Nat} (hk : l.length < k) : flagstonelaw09_Of.f k l = some (l.map toS) := by
  unfold flagstonelaw09_Of.f
  have := of_loop l hl hx l [] k rfl hk
  exact this
def someP (m : List S86) : List S86 := m.filter fun x => !x.f1.isEmpty
theorem someP_toS (m : List S86) : (someP m).map toS = someM (m.map toS) := by
  unfold someP someM
  rw [List.filter_map]
  rfl
def Came (w : World) (p : RawM × S86) : Prop := p.1.f0 = p.2.f0 ∧ p.1.n = p.2.f1.length ∧ p.1.n ≤ p.1.c ∧ Kd.C k24 w p.1.A p.2.f1.length p.2.f1
theorem C_came {w W : World} {A : Option Addr} {n : Nat} {ps : List (RawM × S86)} (hb : Below w.heap.size w W) (h : Kd.C kRM W A n (ps.map (·.1))) (hc : ∀ p ∈ ps, Came w p) : Kd.C k86 W A n (ps.map (·.2)) := by
  obtain ⟨h1, h2, h3⟩ := h
  rw [List.length_map] at h1
  refine ⟨by rw [List.length_map]; exact h1, h2, fun hp => ?_⟩
  obtain ⟨ad, rfl, h4⟩ := h3 hp
  refine ⟨ad, rfl, fun j p hj => ?_⟩
  rw [List.getElem?_map] at hj
  obtain ⟨q, hq, rfl⟩ := Option.map_eq_some_iff.1 hj
  obtain ⟨cs, h5, h6, h7⟩ := h4 j q.1 (by rw [List.getElem?_map, hq]; rfl)
  obtain ⟨c0, c1, rfl, h8, h9⟩ := h6
  obtain ⟨f1, f2, f3, f4⟩ := hc q (List.mem_of_getElem? hq)
  have h8 : c0 = [.int .i64 q.1.f0] := h8
  have h9 : c1 = [.slice q.1.A q.1.n q.1.c] := h9
  subst h8 h9
  refine ⟨_, h5, ?_, h7⟩
  show Kd.K k86 W q.2 [.int .i64 q.1.f0, .slice q.1.A q.1.n q.1.c]
  rw [f1, f2]
  exact k86_mk W q.2 (by omega) (Kd.C_below f4 hb)
def Gathers (w : World) (m : List S86) (ps : List (RawM × S86)) : Prop := ps.map (·.2) = someP m ∧ ∀ p ∈ ps, Came w p
theorem gathers_nil (w : World) : Gathers w [] [] := ⟨rfl, fun p hp => by cases hp⟩
theorem Gathers.len {w : World} {m : List S86} {ps : List (RawM × S86)} (h : Gathers w m ps) : ps.length ≤ m.length := by
  have h1 := congrArg List.length h.1
  rw [List.length_map] at h1
  have h2 : (someP m).length ≤ m.length := List.length_filter_le _ _
  omega
theorem Gathers.skip {w : World} {m : List S86} {ps : List (RawM × S86)} {x : S86} (h : Gathers w m ps) (hx : x.f1.length = 0) : Gathers w (m ++ [x]) ps := by
  refine ⟨?_, h.2⟩
  rw [h.1]
  unfold someP
  have e : x.f1 = [] := List.eq_nil_of_length_eq_zero hx
  rw [List.filter_append]
  simp [e]
theorem Gathers.take {w : World} {m : List S86} {ps : List (RawM × S86)} {x : S86} {A : Option Addr} {c : Nat} (h : Gathers w m ps) (hx : 0 < x.f1.length) (hc : x.f1.length ≤ c) (hr : Kd.C k24 w A x.f1.length x.f1) : Gathers w (m ++ [x]) (ps ++ [(⟨x.f0, A, x.f1.length, c⟩, x)]) := by
  refine ⟨?_, fun p hp => ?_⟩
  · rw [List.map_append, h.1]
    unfold someP
    have e : x.f1.isEmpty = false := by
      cases hh : x.f1 with
      | nil => rw [hh] at hx; exact absurd hx (by simp)
      | cons _ _ => rfl
    rw [List.filter_append]
    simp [e]
  · rcases List.mem_append.1 hp with hp | hp
    · exact h.2 p hp
    · rw [List.mem_singleton.1 hp]
      exact ⟨rfl, rfl, hc, hr⟩
theorem again9 {l : List S86} (hc : Flag.checkM ((l.map toS).map toM) = 0) (hl : (sortRefL (refsG (l.map toS))).length ≤ 4096) : backF (sortRefL (refsG (l.map toS))) = ((someP l).map toS, 0) := by
  rw [someP_toS]
  exact back_again hc (sortRefL_perm _) hl
namespace Sym
open Go.Sort
variable {α : Type} [Inhabited α]
variable {lt : α → α → Bool}
theorem SortedIn.le {a b i j : Nat} {d : Array α} (hS : SWO lt) (h : SortedIn lt a b d) (ha : a ≤ i) (hij : i ≤ j) (hj : j < b) : lt d[j]! d[i]! = false := by
  by_cases e : i = j
  · subst e; exact hS.irrefl _
  · exact h i j ha (by omega) hj
end Sym
def cv (r : S88) : S118 := ⟨r.f0, r.f1, r.f2, r.f3⟩
def idxF {α : Type} (p : α → Bool) (l : List α) : Int := match l.findIdx? p with
  | some i => (i : Int)
  | none => -1
theorem idxF_hit {α : Type} {p : α → Bool} {l : List α} {k : Nat} (hk : k < l.length) (h : p l[k] = true) (ha : ∀ j (hj : j < k), p (l[j]'(by omega)) = false) : idxF p l = (k : Int) := by
  have : l.findIdx? p = some k := List.findIdx?_eq_some_iff_getElem.2 ⟨hk, h, fun j hj => by simpa using ha j hj⟩
  unfold idxF; rw [this]
theorem idxF_miss {α : Type} {p : α → Bool} {l : List α} (ha : ∀ x ∈ l, p x = false) : idxF p l = -1 := by
  have : l.findIdx? p = none := List.findIdx?_eq_none_iff.2 ha
  unfold idxF; rw [this]
theorem same9 (a : List S24) (hl : a.length < 5864062014805) (t : List S24) : ∀ pre : List S24, a = pre ++ t → Ev (fun k => flagstoneplain_SameExtents.l0 k a a (pre.length : Int)) true := by
  induction t with
  | nil =>
    intro pre he
    refine Ev.step (f := fun _ => some true) (fun k => ?_) (Ev.now _)
    rw [flagstoneplain_SameExtents.l0, if_neg (by rw [he]; simp)]
  | cons x t ih =>
    intro pre he
    have hlen : a.length = pre.length + t.length + 1 := by rw [he]; simp; omega
    have e1 : wrap64 ((pre.length : Int) + 1) = ((pre ++ [x]).length : Int) := by rw [w64 (by omega)]; simp
    refine Ev.step (fun k => ?_) (ih (pre ++ [x]) (by rw [he]; simp))
    rw [flagstoneplain_SameExtents.l0, if_pos (by omega), if_pos (by omega), if_pos (by omega), if_neg (by simp), e1]
theorem same9f (a : List S24) (hl : a.length < 5864062014805) : Ev (fun k => flagstoneplain_SameExtents.f k a a) true :=
  Ev.congr (f := fun k => flagstoneplain_SameExtents.l0 k a a 0) (fun k => by unfold flagstoneplain_SameExtents.f; rw [if_pos rfl]) (same9 a hl a [] rfl)
theorem rd_94 (pre : List S94) (x : S94) (t : List S94) {i : Int} (h : i = pre.length) : rd_T94 (pre ++ x :: t) i = x := by
  unfold rd_T94
  rw [h, Int.toNat_natCast, List.getD_eq_getElem?_getD, List.getElem?_append_right (Nat.le_refl _), Nat.sub_self]; rfl
theorem alike9 (m : List S86) (hl : m.length < 4398046511104) (hx : ∀ x ∈ m, x.f1.length < 5864062014805) (t : List S86) : ∀ pre : List S86, m = pre ++ t → Ev (fun k => flagstonelaw09_Alike.l0 k (m.map toS) m (pre.length : Int)) 0 := by
  induction t with
  | nil =>
    intro pre he
    refine Ev.step (f := fun _ => some 0) (fun k => ?_) (Ev.now _)
    rw [flagstonelaw09_Alike.l0, if_neg (by rw [he]; simp)]
  | cons x t ih =>
    intro pre he
    have hlen : m.length = pre.length + t.length + 1 := by rw [he]; simp; omega
    have e1 : wrap64 ((pre.length : Int) + 1) = ((pre ++ [x]).length : Int) := by rw [w64 (by omega)]; simp
    have h1 : rd_T86 m (pre.length : Int) = x := by rw [he]; exact rd_m9 pre x t rfl
    have h2 : rd_T94 (m.map toS) (pre.length : Int) = toS x := by
      rw [he, List.map_append, List.map_cons]
      exact rd_94 _ _ _ (by simp)
    have h3 := ih (pre ++ [x]) (by rw [he]; simp)
    have h4 : Ev (fun k => (flagstoneplain_SameExtents.f k x.f1 x.f1).bind fun t105 => (if t105 = true then (flagstonelaw09_Alike.l0 k (m.map toS) m ((pre ++ [x]).length : Int)) else (some 1))) 0 := by
      refine Ev.bind (same9f x.f1 (hx x (by rw [he]; simp))) ?_
      exact Ev.congr (fun k => if_pos rfl) h3
    refine Ev.step (fun k => ?_) h4
    rw [flagstonelaw09_Alike.l0, if_pos (by rw [List.length_map]; omega), if_pos (by omega), if_pos (by omega), h1, h2, e1]
    exact if_pos rfl
theorem alike9f (m : List S86) (hl : m.length < 4398046511104) (hx : ∀ x ∈ m, x.f1.length < 5864062014805) : Ev (fun k => flagstonelaw09_Alike.f k (m.map toS) m) 0 :=
  Ev.congr (f := fun k => flagstonelaw09_Alike.l0 k (m.map toS) m 0) (fun k => by unfold flagstonelaw09_Alike.f; rw [if_pos (by rw [List.length_map])]) (alike9 m hl hx m [] rfl)
set_option maxHeartbeats 4000000 in
set_option maxRecDepth 100000 in
theorem ins_rend (w0 w : World) (base : Nat) (ok : Nat → Prop) (A : Option Addr) (c : Nat) (xs vs : List RawM) (gv : Nat) (cv : Nat) (curv : Array Value) (HO : Kd.R kRM 94 w base ok (.slice A xs.length c) xs) (hV : LieL encRM 2 94 w gv cv curv vs)
    (hB : Below base w0 w) (hbw : base ≤ w.heap.size) (hfr : ∀ k, w.heap.size ≤ k → ok k) (hn : xs.length ≤ 4096) (hm : vs.length ≤ 2) (hm0 : 0 < vs.length) :
    Calls Try.prog 127 #[.slice A xs.length c, .int .i64 (xs.length : Int), .slice (some ⟨gv, 0, none⟩) vs.length cv] w fun e w' => ∃ v' : Value, e = .returned v' ∧ Kd.R kRM 94 w' base ok v' (xs ++ vs) ∧ Below base w0 w' ∧ (∀ k, k < w.heap.size → some k ≠ (Value.slice A xs.length c).ownBlock → w'.heap[k]? = w.heap[k]?) ∧ (v'.ownBlock = (Value.slice A xs.length c).ownBlock ∨ ∃ b, v'.ownBlock = some b ∧ w.heap.size ≤ b) := by
  have hu94 := Try.underlying94
  have hmc : Kd.C kRM w (some ⟨gv, 0, none⟩) vs.length vs := (Kd.R_reads' (hV.RR (base := 0) (ok := fun _ => True) (Nat.zero_le _) trivial)).2.2
  have hnc : xs.length ≤ c := (Kd.R_reads' HO).2.1
  have hcm : c ≤ 9223372036854775807 := by
    rcases R_lies flatRM HO with ⟨h1, h2⟩ | ⟨g, cap, h1, h2, h3, h4⟩
    · injection h1 with _ _ h5; omega
    · injection h1 with _ _ h5
      obtain ⟨cur, _, _, _, h6, _⟩ := h4
      unfold maxLen at h6
      omega
  obtain ⟨n, hnn⟩ : ∃ n, n = xs.length := ⟨_, rfl⟩
  obtain ⟨m, hmm⟩ : ∃ m, m = vs.length := ⟨_, rfl⟩
  rw [← hnn] at hn hnc HO
  rw [← hmm] at hm hm0 hmc
  have b1 : (0 : Int) ≤ (n : Int) := by omega
  have b2 : ((m : Int) == 0) = false := by simp; omega
  have b3 : ¬ ((m : Int) = 0) := by omega
  have HO' := Aside0.mk HO
  have HMC := Aside0.mk hmc
  have HB := Aside0.mk hB
  have HX := Aside0.mk (And.intro hbw (And.intro hfr (And.intro hnn hmm)))
  rw [← hnn, ← hmm]
  clear HO hmc hV hB hbw hfr hnn hmm
  go_enter Try.func127, Try.ntmps127
  go_wp2_with (first | ((with_reducible refine gate_builtin (b := .append) (xs := #[.tmp 23, .tmp 24]) rfl ?_); at_builtin; refine Kd.R_append_rows kRM (w0 := w0) base rfl (.tmp 23) (.tmp 24) 83 94 (.agg #[(.int .i64 0), (.slice none 0 0)]) 32 rfl Try.underlying83 info94 rfl (by decide) (by omega) (.slice A n c) xs vs _ _ _ ok (fun _ => False) rfl rfl ?aO ?aR (fun _ _ h => h) (fun _ h => h.elim) ?aF ?aB ?aS ?aL ?_; (case aR => exact HMC.out); (case aB => exact HB.out); (case aF => exact HX.out.2.1); (case aO => exact HO'.out); (case aS => exact HX.out.1); (case aL => rw [← HX.out.2.2.1]; omega); intro v1 w3 ho hb hg hat; have HO := Aside0.mk ho; have HB3 := Aside0.mk hb; have HG := Aside0.mk hg; have HAT := Aside0.mk hat; clear ho hb hg hat))
  all_goals
    go_ret
    exact ⟨_, rfl, HO.out, HB3.out, fun k h1 h2 => HG.out.block k h1 (by cases A <;> exact h2), by cases A <;> exact HAT.out⟩
set_option maxHeartbeats 4000000 in
set_option maxRecDepth 100000 in
theorem ins_rmid (w0 w : World) (base g c : Nat) (ok : Nat → Prop) (cur : Array Value) (xs vs : List RawM) (gv cv : Nat) (curv : Array Value) (i : Nat) (hL : LieL encRM 2 94 w g c cur xs) (hLv : LieL encRM 2 94 w gv cv curv vs) (hgv : gv ≠ g)
    (hB : Below base w0 w) (hbg : base ≤ g) (hok : ok g) (hfr : ∀ k, w.heap.size ≤ k → ok k) (hin : i < xs.length) (hn : xs.length ≤ 4096) (hm1 : vs.length = 1) :
    Calls Try.prog 127 #[.slice (some ⟨g, 0, none⟩) xs.length c, .int .i64 i, .slice (some ⟨gv, 0, none⟩) vs.length cv] w fun e w' => ∃ v' : Value, e = .returned v' ∧ Kd.R kRM 94 w' base ok v' (xs.take i ++ vs ++ xs.drop i) ∧ Below base w0 w' ∧ (∀ k, k < w.heap.size → k ≠ g → w'.heap[k]? = w.heap[k]?) ∧ (∀ g', v'.ownBlock = some g' → g' = g ∨ w.heap.size ≤ g') := by
  have hu94 := Try.underlying94
  have hnc : xs.length ≤ c := hL.2.2.1
  have hcm : c ≤ 9223372036854775807 := by have := hL.2.2.2.1; unfold maxLen at this; omega
  obtain ⟨n, hnn⟩ : ∃ n, n = xs.length := ⟨_, rfl⟩
  rw [← hnn] at hin hn hnc
  have b1 : (0 : Int) ≤ (i : Int) := by omega
  have b2 : (i : Int) ≤ (n : Int) := by omega
  have hwz : ∀ z : Int, 0 ≤ z → z ≤ 100000 → IntKind.i64.wrap z = z ∧ wrap64 z = z := fun z h1 h2 => ⟨IntWalk.i64_in _ ⟨by omega, by omega⟩, w64 ⟨by omega, by omega⟩⟩
  have hq1 : (n : Int) + 1 ≤ 100000 := by omega
  have hq2 : (i : Int) + 1 ≤ 100000 := by omega
  have hq3 : (0 : Int) ≤ (n : Int) + 1 - (i : Int) := by omega
  have hq4 : (n : Int) + 1 - (i : Int) ≤ 100000 := by omega
  have HW := Aside0.mk (And.intro (hwz ((n : Int) + 1) (by omega) hq1) (And.intro (hwz ((i : Int) + 1) (by omega) hq2) (hwz ((n : Int) + 1 - (i : Int)) hq3 hq4)))
  have hdl1 : 1 ≤ n + 1 - i := by omega
  have hdl2 : n - i ≤ n + 1 - (i + 1) := by omega
  have hdl3 : n - i ≤ n + 1 - i := by omega
  have hdl4 : n + 1 - (i + 1) = n - i := by omega
  have HDL := Aside0.mk (And.intro hdl1 (And.intro hdl2 (And.intro hdl3 hdl4)))
  clear hdl1 hdl2 hdl3 hdl4
  clear hwz hq1 hq2 hq3 hq4
  have b3 : ((i : Int) == (n : Int)) = false := by simp; omega
  have b4 : ¬ ((i : Int) = (n : Int)) := by omega
  have b5 : ¬ (c = i) := by omega
  have b6 : i ≤ n := by omega
  have b7 : (i : Int) ≤ (c : Int) := by omega
  have hx1 : (0 : Int) ≤ (i : Int) + 1 := by omega
  have hx2 : (0 : Int) ≤ (n : Int) + 1 := by omega
  have htn : ((i : Int) + 1).toNat = i + 1 := by omega
  have htn2 : ((n : Int) + 1).toNat = n + 1 := by omega
  have hx3 : (i : Int) + 1 ≤ (n : Int) + 1 := by omega
  have hx4 : (i : Int) ≤ (n : Int) + 1 := by omega
  have HL := Aside0.mk hL
  have HLV := Aside0.mk hLv
  have HB := Aside0.mk hB
  have HOK := Aside0.mk (And.intro hbg (And.intro hok hfr))
  have HNN := Aside0.mk hnn
  have HM1 := Aside0.mk hm1
  rw [← hnn, hm1]
  obtain ⟨i0, hi0', hz0⟩ := Option.map_eq_some_iff.1 info94
  simp only [Prod.mk.injEq] at hz0
  have HI0 := Aside0.mk (And.intro hi0' hz0)
  have hfv : (vs.flatMap encRM).length = 1 * 2 := by rw [flat_len (enc := encRM) rawLen, hm1]
  have hfd : ((xs.drop i).flatMap encRM).length = (n - i) * 2 := by rw [flat_len (enc := encRM) rawLen, List.length_drop, ← hnn]
  have hxl : (xs.take i).length = i := by rw [List.length_take, ← hnn]; omega
  have hpl : ((xs.take i).flatMap encRM).length = i * 2 := by rw [flat_len (enc := encRM) rawLen, hxl]
  have hlen : (xs.take i ++ vs ++ xs.drop i).length = n + 1 := by simp only [List.length_append, hxl, hm1, List.length_drop, ← hnn]; omega
  have hvsrc : ∀ {W : World}, LieL encRM 2 94 W gv cv curv vs → ∀ t u, (vs.flatMap encRM)[t]? = some u → W.cell? ((⟨gv, 0, none⟩ : Addr).add t) = some u := fun h t u hu => by have := h.src rawLen 0 t u (by simpa using hu); simpa using this
  by_cases hr : n + 1 > c
  · have hdr : decide ((c : Int) < (n : Int) + 1) = true := decide_eq_true (by omega)
    obtain ⟨G, hG⟩ : ∃ G, G = grownCap w (n + 1) c 94 := ⟨_, rfl⟩
    have hGt : n + 1 ≤ G := by rw [hG]; exact grownCap_ge w _ _ _
    have hGm : G ≤ maxLen := by rw [hG]; exact grownCap_le_maxLen w (n + 1) c 94 (by unfold maxLen; omega)
    obtain ⟨ROW, hROW⟩ : ∃ ROW : Array Value, ROW = ((xs.take i).flatMap encRM).toArray ++ Builtin.zeroCells (Value.agg #[.int .i64 0, .slice none 0 0]).cells (n + 1 - i) ++ Builtin.zeroCells (Value.agg #[.int .i64 0, .slice none 0 0]).cells (G - (n + 1)) := ⟨_, rfl⟩
    have hrz : ∀ ty, (Builtin.append_ #[83, 3] ty #[.slice (some ⟨g, 0, none⟩) i c, .int .i64 ((n : Int) + 1 - (i : Int))]).run Try.prog w = .ok (.slice (some ⟨w.heap.size, 0, none⟩) (n + 1) G) (w.drew.alloc (.cells ROW 94)) := fun ty => by
      obtain ⟨hi0', hz0a, hz0b, hz0c⟩ := HI0.out
      have hold : (Builtin.firstCells i0.size i (.slice (some ⟨g, 0, none⟩) i c)).run Try.prog w.drew = .ok ((xs.take i).flatMap encRM).toArray w.drew := by
        rw [hz0b]
        refine run_firstCells_some w.drew 2 i ⟨g, 0, none⟩ i c ((xs.take i).flatMap encRM) hpl (fun t u hu => ?_)
        have h1 := (HL.out.cut rawLen i (by rw [← hnn]; exact b6)).src rawLen 0 t u (by simpa using hu)
        simpa using h1
      have e1 : i + (n + 1 - i) = n + 1 := by omega
      have h := Lib.run_append_grow_zeros (P := Try.prog) w 83 3 ty 94 i0 _ .i64 .i64 Try.underlying83 Try.underlying3 hi0' hz0a (some ⟨g, 0, none⟩) i c _ hold (n + 1 - i) (by omega) (by rw [hz0b]; decide) (by omega) (by omega) (by rw [hz0c]; omega) (by
        rw [hz0c, e1]
        exact growslice_fits (by omega) (by omega))
      have e2 : (n : Int) + 1 - (i : Int) = ((n + 1 - i : Nat) : Int) := by omega
      rw [e1] at h
      rw [e2, hROW, hG]
      exact h
    have hROWs : ROW.size = G * 2 := by
      rw [hROW]
      simp only [Array.size_append, List.size_toArray, hpl, Builtin.zeroCells, Array.size_map, Array.size_range, Value.cells, List.size_toArray, List.length_cons, List.length_nil]
      omega
    have hb5 : ¬ (G = i) := by omega
    have hb6 : ¬ (G = i + 1) := by omega
    have hLN : LieL encRM 2 94 (w.drew.alloc (.cells ROW 94)) w.heap.size G ROW (xs.take i) := by
      refine ⟨blk_new w.drew _, hROWs, by omega, hGm, ?_⟩
      rw [hROW, hxl]
      simp only [Array.toList_append]
      rw [List.append_assoc]
      exact take_app_len _ _ _ hpl
    obtain ⟨N, hN⟩ : ∃ N, N = w.heap.size := ⟨_, rfl⟩
    obtain ⟨W3, hW3⟩ : ∃ W, W = w.drew.alloc (.cells ROW 94) := ⟨_, rfl⟩
    rw [← hW3, ← hN] at hLN
    have hgN : g ≠ N := by have := blk_lt HL.out.1; omega
    have hL3 : LieL encRM 2 94 W3 g c cur xs := HL.out.same (by rw [hW3]; exact Below.heap_alloc w.drew _ _ (blk_lt HL.out.1))
    have hV3 : LieL encRM 2 94 W3 gv cv curv vs := HLV.out.same (by rw [hW3]; exact Below.heap_alloc w.drew _ _ (blk_lt HLV.out.1))
    have hBN : base ≤ N := by have h1 := HOK.out.1; have h2 := blk_lt HL.out.1; omega
    have hB3 : Below base w0 W3 := by rw [hW3]; exact (below_drew HB.out).alloc (by show base ≤ w.heap.size; rw [← hN]; exact hBN) _
    have hcpA : ∀ ty dl, Nat.min 1 dl = 1 → (Builtin.copy_ #[83, 83] ty #[.slice (some ⟨N, i * 2, none⟩) dl (G - i), .slice (some ⟨gv, 0, none⟩) 1 cv]).run Try.prog W3 = .ok (goInt (Nat.min 1 dl)) (W3.setRow N (ROW.toList.take (i * 2) ++ vs.flatMap encRM ++ ROW.toList.drop (i * 2 + (vs.flatMap encRM).length)).toArray) := fun ty dl hdl =>
      run_copy_k W3 83 83 ty 94 N (i * 2) dl (G - i) ⟨gv, 0, none⟩ 1 cv ROW 94 (vs.flatMap encRM) 2 Try.underlying83 Try.sizeOf94 hLN.1 (by rw [hdl]; exact hfv) (hvsrc hV3) (by rw [hfv, hROWs]; omega) (raw_one vs)
    have hLN1 := hLN.put rawLen (ys := vs) (i := i) (by omega) (by rw [hm1]; omega)
    obtain ⟨ROW1, hROW1⟩ : ∃ R : Array Value, R = (ROW.toList.take (i * 2) ++ vs.flatMap encRM ++ ROW.toList.drop (i * 2 + (vs.flatMap encRM).length)).toArray := ⟨_, rfl⟩
    rw [← hROW1] at hcpA hLN1
    obtain ⟨W4, hW4⟩ : ∃ W, W = W3.setRow N ROW1 := ⟨_, rfl⟩
    rw [← hW4] at hcpA hLN1
    have e1 : (xs.take i).take i = xs.take i := by rw [List.take_take, Nat.min_self]
    rw [e1] at hLN1
    have hL4 : LieL encRM 2 94 W4.drew g c cur xs := hL3.same (by rw [hW4]; exact setRow_other W3 N g ROW1 hgN)
    have hLN1d : LieL encRM 2 94 W4.drew N G ROW1 (xs.take i ++ vs) := hLN1.same rfl
    have hcpB : ∀ ty dl, Nat.min (n - i) dl = n - i → (Builtin.copy_ #[83, 83] ty #[.slice (some ⟨N, (i + 1) * 2, none⟩) dl (G - (i + 1)), .slice (some ⟨g, i * 2, none⟩) (n - i) (c - i)]).run Try.prog W4.drew = .ok (goInt (Nat.min (n - i) dl)) (W4.drew.setRow N (ROW1.toList.take ((i + 1) * 2) ++ (xs.drop i).flatMap encRM ++ ROW1.toList.drop ((i + 1) * 2 + ((xs.drop i).flatMap encRM).length)).toArray) := fun ty dl hdl =>
      run_copy_k W4.drew 83 83 ty 94 N ((i + 1) * 2) dl (G - (i + 1)) ⟨g, i * 2, none⟩ (n - i) (c - i) ROW1 94 ((xs.drop i).flatMap encRM) 2 Try.underlying83 Try.sizeOf94 hLN1d.1 (by rw [hdl]; exact hfd) (fun t u hu => hL4.src rawLen i t u hu) (by rw [hfd, hLN1d.2.1]; omega) (raw_one _)
    have hl1 : (xs.take i ++ vs).length = i + 1 := by rw [List.length_append, hxl, hm1]
    have hLN2 := hLN1d.put rawLen (ys := xs.drop i) (i := i + 1) (by rw [hl1]; exact Nat.le_refl _) (by rw [List.length_drop, ← hnn]; omega)
    obtain ⟨ROW2, hROW2⟩ : ∃ R : Array Value, R = (ROW1.toList.take ((i + 1) * 2) ++ (xs.drop i).flatMap encRM ++ ROW1.toList.drop ((i + 1) * 2 + ((xs.drop i).flatMap encRM).length)).toArray := ⟨_, rfl⟩
    rw [← hROW2] at hcpB hLN2
    have e2 : (xs.take i ++ vs).take (i + 1) = xs.take i ++ vs := List.take_of_length_le (by rw [hl1]; exact Nat.le_refl _)
    rw [e2] at hLN2
    have hRes := hLN2.RR (base := base) (ok := ok) hBN (HOK.out.2.2 N (by rw [hN]; exact Nat.le_refl _))
    rw [hlen] at hRes
    have hB5 : Below base w0 (W4.drew.setRow N ROW2) := setRow_below (below_drew (by rw [hW4]; exact setRow_below hB3 hBN ROW1)) hBN ROW2
    have hfr5 : ∀ k, k < w.heap.size → k ≠ g → (W4.drew.setRow N ROW2).heap[k]? = w.heap[k]? := fun k h1 _ => by
      rw [setRow_other W4.drew N k ROW2 (by omega)]
      show W4.heap[k]? = _
      rw [hW4, setRow_other W3 N k ROW1 (by omega), hW3]
      exact Below.heap_alloc w.drew _ _ h1
    have hown5 : ∀ g', (Value.slice (some ⟨N, 0, none⟩) (n + 1) G).ownBlock = some g' → g' = g ∨ w.heap.size ≤ g' := fun g' h => .inr (by have := Option.some.inj h; have h2 : N = g' := this; omega)
    have HRES := Aside0.mk (And.intro hRes (And.intro hB5 (And.intro hfr5 hown5)))
    have hx5 : (i : Int) ≤ (G : Int) := by omega
    have hcpA2 := fun ty => hcpA ty (n + 1 - i) (Nat.min_eq_left HDL.out.1)
    have hcpB2 := fun ty => hcpB ty (n + 1 - (i + 1)) (Nat.min_eq_left HDL.out.2.1)
    have hcpB3 := fun ty => hcpB ty (n - i) (Nat.min_eq_left (Nat.le_refl _))
    rw [← hN, ← hW3] at hrz
    clear hfr5 hown5 hROW1 hROW2 hW3 hW4 hLN hLN1 hLN1d hLN2 hL3 hV3 hL4 hB3 hB5 hRes e1 e2 hlen hpl hxl hROW hROWs hG hgN hN hBN hGm hcpA hcpB hl1 hfv hfd hvsrc hnn hm1 hi0' hz0 hL hLv hB hbg hok hfr hgv hin
    obtain ⟨⟨hw1, hw1'⟩, ⟨hw2, hw2'⟩, ⟨hw3, hw3'⟩⟩ := HW.out
    go_enter Try.func127, Try.ntmps127
    go_wp2_with (first
      | (at_builtin; refine Lib.wpList_append_run _ rfl _ _ _ _ rfl _ _ rfl rfl _ _ (hrz _) ?_)
      | (at_builtin; refine wpList_copy_runI _ rfl _ _ 83 83 rfl _ _ rfl rfl (hcpA2 _) ?_))
    go_still_tail 8, (by kernel_rfl)
    change wpList _ _ _ _ _ W4.drew
    refine wpList_copy_runI W4.drew rfl _ _ 83 83 rfl _ _ rfl rfl (by first | exact hcpB2 _ | exact hcpB3 _) ?_
    go_wp2
    go_ret
    exact ⟨_, rfl, HRES.out.1, HRES.out.2.1, HRES.out.2.2.1, HRES.out.2.2.2⟩
  · have hdr : decide ((c : Int) < (n : Int) + 1) = false := decide_eq_false (by omega)
    have hb6 : ¬ (c = i + 1) := by omega
    have hx5 : (n : Int) + 1 ≤ (c : Int) := by omega
    have hcv0 : cur.size ≠ 0 := by rw [HL.out.2.1]; omega
    have hov : ∀ lb cb, (callFunc 151 #[.slice (some ⟨gv, 0, none⟩) 1 cv, .slice (some ⟨g, (i + 1) * 2, none⟩) lb cb]).run Try.prog w = .ok (.value (.bool false)) w := fun lb cb => by
      rw [run_callFunc_extern Try.func151 (by kernel_rfl) (by kernel_rfl) (by kernel_rfl) (e := Extern.SlicesOverlaps.overlaps #[83, 83] #[4]) (by kernel_rfl),
        Lib.run_overlaps_apart w 83 4 94 Try.underlying83 2 Try.sizeOf94 ⟨gv, 0, none⟩ ⟨g, (i + 1) * 2, none⟩ 1 cv lb cb hgv 94 94 curv.size cur.size (by simp [World.shape?, HLV.out.1]) (by simp [World.shape?, HL.out.1]) hcv0 (blk_frozen HLV.out.1 _) (blk_frozen HLV.out.1 _)]
      rfl
    have hcp1 : ∀ ty dl sl, Nat.min sl dl = n - i → (Builtin.copy_ #[83, 83] ty #[.slice (some ⟨g, (i + 1) * 2, none⟩) dl (c - (i + 1)), .slice (some ⟨g, i * 2, none⟩) sl (c - i)]).run Try.prog w.drew = .ok (goInt (Nat.min sl dl)) (w.drew.setRow g (cur.toList.take ((i + 1) * 2) ++ (xs.drop i).flatMap encRM ++ cur.toList.drop ((i + 1) * 2 + ((xs.drop i).flatMap encRM).length)).toArray) := fun ty dl sl hdl =>
      run_copy_k w.drew 83 83 ty 94 g ((i + 1) * 2) dl (c - (i + 1)) ⟨g, i * 2, none⟩ sl (c - i) cur 94 ((xs.drop i).flatMap encRM) 2 Try.underlying83 Try.sizeOf94 HL.out.1 (by rw [hdl]; exact hfd) (fun t u hu => (HL.out.same (w1 := w.drew) rfl).src rawLen i t u hu) (by rw [hfd, HL.out.2.1]; omega) (raw_one _)
    have hxl1 : (xs.take (i + 1)).length = i + 1 := by rw [List.length_take, ← hnn]; omega
    have hdl : (xs.drop i).length = n - i := by rw [List.length_drop, hnn]
    have hL3 := (HL.out.same (w1 := w.drew) rfl).put rawLen (ys := xs.drop i) (i := i + 1) (by rw [← hnn]; omega) (by rw [hdl]; omega)
    obtain ⟨cur1, hcur1⟩ : ∃ R : Array Value, R = (cur.toList.take ((i + 1) * 2) ++ (xs.drop i).flatMap encRM ++ cur.toList.drop ((i + 1) * 2 + ((xs.drop i).flatMap encRM).length)).toArray := ⟨_, rfl⟩
    rw [← hcur1] at hcp1 hL3
    have hB3 : Below base w0 (w.drew.setRow g cur1) := setRow_below (below_drew HB.out) HOK.out.1 cur1
    have hV3 : LieL encRM 2 94 (w.drew.setRow g cur1) gv cv curv vs := HLV.out.same (setRow_other w.drew g gv cur1 hgv)
    obtain ⟨W3, hW3⟩ : ∃ W, W = w.drew.setRow g cur1 := ⟨_, rfl⟩
    rw [← hW3] at hcp1 hL3 hB3 hV3
    have hcp2 : ∀ ty dl, Nat.min 1 dl = 1 → (Builtin.copy_ #[83, 83] ty #[.slice (some ⟨g, i * 2, none⟩) dl (c - i), .slice (some ⟨gv, 0, none⟩) 1 cv]).run Try.prog W3 = .ok (goInt (Nat.min 1 dl)) (W3.setRow g (cur1.toList.take (i * 2) ++ vs.flatMap encRM ++ cur1.toList.drop (i * 2 + (vs.flatMap encRM).length)).toArray) := fun ty dl hdl =>
      run_copy_k W3 83 83 ty 94 g (i * 2) dl (c - i) ⟨gv, 0, none⟩ 1 cv cur1 94 (vs.flatMap encRM) 2 Try.underlying83 Try.sizeOf94 hL3.1 (by rw [hdl]; exact hfv) (hvsrc hV3) (by rw [hfv, hL3.2.1]; omega) (raw_one vs)
    have hL4 := hL3.put_mid rawLen (ys := vs) (i := i) (by rw [List.length_append, hxl1, hm1]; omega)
    have e3 : (xs.take (i + 1) ++ xs.drop i).take i = xs.take i := by rw [List.take_append, List.take_take, Nat.min_eq_left (by omega), hxl1]; simp [show i - (i + 1) = 0 by omega]
    have e4 : (xs.take (i + 1) ++ xs.drop i).drop (i + vs.length) = xs.drop i := by rw [hm1]; exact drop_app_len _ _ _ hxl1
    rw [e3, e4] at hL4
    obtain ⟨cur2, hcur2⟩ : ∃ R : Array Value, R = (cur1.toList.take (i * 2) ++ vs.flatMap encRM ++ cur1.toList.drop (i * 2 + (vs.flatMap encRM).length)).toArray := ⟨_, rfl⟩
    rw [← hcur2] at hcp2 hL4
    have hres := hL4.RR (base := base) (ok := ok) HOK.out.1 HOK.out.2.1
    rw [hlen] at hres
    have hfr5 : ∀ k, k < w.heap.size → k ≠ g → (W3.setRow g cur2).heap[k]? = w.heap[k]? := fun k _ h2 => by
      rw [setRow_other W3 g k cur2 h2, hW3, setRow_other w.drew g k cur1 h2]
      rfl
    have hown5 : ∀ g', (Value.slice (some ⟨g, 0, none⟩) (n + 1) c).ownBlock = some g' → g' = g ∨ w.heap.size ≤ g' := fun g' h => .inl (by have := Option.some.inj h; have h2 : g = g' := this; exact h2.symm)
    have HRES := Aside0.mk (And.intro hres (And.intro (setRow_below hB3 HOK.out.1 cur2) (And.intro hfr5 hown5)))
    have hcpA2 := fun ty => hcp1 ty (n - i) (n + 1 - i) (Nat.min_eq_right HDL.out.2.2.1)
    have hcpA3 := fun ty => hcp1 ty (n + 1 - (i + 1)) (n + 1 - i) (by rw [HDL.out.2.2.2]; exact Nat.min_eq_right HDL.out.2.2.1)
    have hcpB2 := fun ty => hcp2 ty (n + 1 - i) (Nat.min_eq_left HDL.out.1)
    clear hfr5 hown5 hcur1 hcur2 hW3 hL3 hB3 hV3 hL4 e3 e4 hlen hres hxl hdl hcv0 hxl1 hcp1 hcp2 hfv hfd hvsrc hnn hm1 hi0' hz0 hL hLv hB hbg hok hfr hgv hin hpl
    obtain ⟨⟨hw1, hw1'⟩, ⟨hw2, hw2'⟩, ⟨hw3, hw3'⟩⟩ := HW.out
    go_enter Try.func127, Try.ntmps127
    go_wp2_with (simp only [hov])
    go_still_tail 8, (by kernel_rfl)
    change wpList _ _ _ _ _ w.drew
    refine wpList_copy_runI w.drew rfl _ _ 83 83 rfl _ _ rfl rfl (by first | exact hcpA2 _ | exact hcpA3 _) ?_
    go_wp2_with (at_builtin; refine wpList_copy_runI _ rfl _ _ 83 83 rfl _ _ rfl rfl (hcpB2 _) ?_)
    go_ret
    exact ⟨_, rfl, HRES.out.1, HRES.out.2.1, HRES.out.2.2.1, HRES.out.2.2.2⟩
theorem ins_maps (w0 w : World) (base : Nat) (v : Value) (o : List S94) (i : Nat) (x : Int) (gv cv : Nat) (curv : Array Value) (HO : Kd.R k94 94 w base (fun _ => True) v o) (hV : LieL encRM 2 94 w gv cv curv [⟨x, none, 0, 0⟩])
    (hgv : v.ownBlock ≠ some gv) (hB : Below base w0 w) (hbw : base ≤ w.heap.size) (hi : i ≤ o.length) (hn : o.length ≤ 4096) :
    Calls Try.prog 127 #[v, .int .i64 (i : Int), .slice (some ⟨gv, 0, none⟩) 1 cv] w fun e w' => ∃ v' : Value, e = .returned v' ∧ Kd.R k94 94 w' base (fun _ => True) v' (o.take i ++ [⟨x, []⟩] ++ o.drop i) ∧ Below base w0 w' ∧ ∀ k, k < w.heap.size → some k ≠ v.ownBlock → w'.heap[k]? = w.heap[k]? := by
  rcases raw_of HO with ⟨rfl, rfl⟩ | ⟨g, c, cur, ps, rfl, hbg, _, rfl, hL, hf⟩
  · have h0 : i = 0 := by simpa using hi
    subst h0
    refine (ins_rend w0 w base (fun _ => True) none 0 [] [⟨x, none, 0, 0⟩] gv cv curv (Kd.R_nil _ _ _ _ _) hV hB hbw (fun _ _ => trivial) (Nat.zero_le _) (by simp) (by simp)).mono ?_
    rintro e w' ⟨v', rfl, hR, hB', hk, _⟩
    obtain ⟨g, c, cur, rfl, hbg, _, hL⟩ := raw_lie hR (by simp)
    refine ⟨_, rfl, ?_, hB', hk⟩
    exact R_of_raw (ps := [(⟨x, none, 0, 0⟩, ⟨x, []⟩)]) hL hbg trivial (fun p hp => by
      have : p = (⟨x, none, 0, 0⟩, ⟨x, []⟩) := by simpa using hp
      rw [this]
      exact ⟨rfl, Kd.R_nil _ _ _ _ _⟩)
  · rw [List.length_map] at hi hn ⊢
    have hfin : ∀ (w' : World) (v' : Value), Kd.R kRM 94 w' base (fun _ => True) v' ((ps.map (·.1)).take i ++ [⟨x, none, 0, 0⟩] ++ (ps.map (·.1)).drop i) → (∀ k, k < w.heap.size → k ≠ g → w'.heap[k]? = w.heap[k]?) → (∀ g', v'.ownBlock = some g' → g' = g ∨ w.heap.size ≤ g') →
        Kd.R k94 94 w' base (fun _ => True) v' ((ps.map (·.2)).take i ++ [⟨x, []⟩] ++ (ps.map (·.2)).drop i) := by
      intro w' v' hR hk hg'
      obtain ⟨g', c', cur', rfl, hb', _, hL'⟩ := raw_lie hR (by simp)
      have e1 : (ps.map (·.1)).take i ++ [⟨x, none, 0, 0⟩] ++ (ps.map (·.1)).drop i = (ps.take i ++ [((⟨x, none, 0, 0⟩ : RawM), (⟨x, []⟩ : S94))] ++ ps.drop i).map (·.1) := by simp [List.map_take, List.map_drop]
      have e2 : (ps.map (·.2)).take i ++ [⟨x, []⟩] ++ (ps.map (·.2)).drop i = (ps.take i ++ [((⟨x, none, 0, 0⟩ : RawM), (⟨x, []⟩ : S94))] ++ ps.drop i).map (·.2) := by simp [List.map_take, List.map_drop]
      rw [e1] at hL'
      have h3 := R_of_raw (base := base) (ok := fun _ => True) hL' hb' trivial (fun p hp => by
        have hp2 : p = (⟨x, none, 0, 0⟩, ⟨x, []⟩) ∨ p ∈ ps := by
          rcases List.mem_append.1 hp with hp | hp
          · rcases List.mem_append.1 hp with hp | hp
            · exact .inr (List.mem_of_mem_take hp)
            · exact .inl (by simpa using hp)
          · exact .inr (List.mem_of_mem_drop hp)
        rcases hp2 with rfl | hp2
        · exact ⟨rfl, Kd.R_nil _ _ _ _ _⟩
        · refine ((hf p hp2).step (w1 := w') (fun k hq hlt => hk k hlt hq.2)).mono fun k hq => ⟨trivial, fun he => ?_⟩
          rcases hg' g' rfl with h | h
          · exact hq.1.2 (he.trans h)
          · omega)
      rw [e2]
      have e3 := congrArg List.length e1
      rw [List.length_map] at e3
      rw [e3]
      exact h3
    by_cases hin : i < ps.length
    · have hc := ins_rmid w0 w base g c (fun _ => True) cur (ps.map (·.1)) [⟨x, none, 0, 0⟩] gv cv curv i hL hV (fun h => hgv (by rw [h]; rfl)) hB hbg trivial (fun _ _ => trivial) (by rw [List.length_map]; exact hin) (by rw [List.length_map]; exact hn) rfl
      rw [List.length_map] at hc
      refine hc.mono ?_
      rintro e w' ⟨v', rfl, hR, hB', hk, ho⟩
      exact ⟨_, rfl, hfin w' v' hR hk ho, hB', fun k h1 h2 => hk k h1 fun h => h2 (by rw [h]; rfl)⟩
    · have hie : i = ps.length := by omega
      have hc := ins_rend w0 w base (fun _ => True) (some ⟨g, 0, none⟩) c (ps.map (·.1)) [⟨x, none, 0, 0⟩] gv cv curv (hL.RR hbg trivial) hV hB hbw (fun _ _ => trivial) (by rw [List.length_map]; exact hn) (by simp) (by simp)
      rw [List.length_map] at hc
      rw [hie]
      refine hc.mono ?_
      rintro e w' ⟨v', rfl, hR, hB', hk, ho⟩
      rw [← hie]
      refine ⟨_, rfl, hfin w' v' ?_ (fun k h1 h2 => hk k h1 (fun h => h2 (Option.some.inj h))) (fun g' h => ?_), hB', hk⟩
      · rw [List.take_of_length_le (by rw [List.length_map]; omega), List.drop_of_length_le (by rw [List.length_map]; omega), List.append_nil]
        exact hR
      · rcases ho with ho | ⟨b, hb, hle⟩
        · rw [ho] at h; exact .inl (Option.some.inj h).symm
        · rw [hb] at h; have := Option.some.inj h; exact .inr (by omega)
def cmpO (a b : Int) : Int := if a < b then -1 else if b < a then 1 else 0
set_option maxHeartbeats 1000000 in
set_option maxRecDepth 100000 in
theorem map_cmp (o : Int) (A : Option Addr) (n c : Nat) (v : Int) (w : World) :
    Calls Try.prog 126 #[.agg #[.int .i64 o, .slice A n c], .int .i64 v] w fun e w' => e = .returned (.int .i64 (cmpO o v)) ∧ Below w.heap.size w w' := by
  have hu94 := Try.underlying94
  go_enter Try.func126, Try.ntmps126
  go_wp2_with fail
  have hf : cmp_Compare_int.f o v = some (cmpO o v) := by
    unfold cmp_Compare_int.f cmp_isNaN_int.f cmpO
    simp only [bne_self_eq_false, Option.bind_some, Bool.false_eq_true, if_false]
    split
    · rfl
    · split
      · rfl
      · rfl
  refine (cmp_Compare_int.calls o v _ _ hf).mono ?_
  rintro e w1 ⟨rfl, hd⟩
  have HB := Aside0.mk (below_step ((Below.refl w.heap.size w).alloc (Nat.le_refl _) (.cells #[.int .i64 o, .slice A n c] 94)) hd.below)
  clear hd hf
  go_wp2
  go_ret
  exact ⟨rfl, HB.out⟩
theorem rdM_get {l : List S94} {j : Int} (h0 : 0 ≤ j) (h1 : j < l.length) : rd_T94 l j = l[j.toNat]'(by omega) := by
  unfold rd_T94; rw [List.getD_eq_getElem?_getD, List.getElem?_eq_getElem (by omega)]; rfl
set_option maxHeartbeats 2000000 in
set_option maxRecDepth 100000 in
theorem bsearch_map (A0 : Option Addr) (c0 : Nat) (l0 : List S94) (v : Int) (w : World) (hr0 : Kd.C k94 w A0 l0.length l0) (hlen : l0.length ≤ 4096) (hso : SortM l0) :
    Calls Try.prog 125 #[.slice A0 l0.length c0, .int .i64 v, .func (.func 126) #[] #[]] w fun e w' => ∃ i : Nat, AtM v l0 i ∧ e = .returned (.tuple #[.int .i64 i, .bool (decide ((i : Int) < l0.length) && ((rd_T94 l0 i).f0 == v))]) ∧ Below w.heap.size w w' := by
  have hu94 := Try.underlying94
  have hs : ∀ i j : Int, 0 ≤ i → i < j → j < l0.length → (rd_T94 l0 i).f0 < (rd_T94 l0 j).f0 := fun i j h1 h2 h3 => by
    rw [rdM_get h1 (by omega), rdM_get (by omega) h3]
    exact List.pairwise_iff_getElem.1 hso _ _ _ _ (by omega)
  have hat : ∀ i : Int, 0 ≤ i → i ≤ l0.length → (∀ j : Int, 0 ≤ j → j < i → (rd_T94 l0 j).f0 < v) → (∀ j : Int, i ≤ j → j < l0.length → v ≤ (rd_T94 l0 j).f0) → AtM v l0 i.toNat := fun i h1 h2 h3 h4 => by
    refine ⟨by omega, fun y hy => ?_, fun y hy => ?_⟩
    · obtain ⟨j, hj, rfl⟩ := List.mem_iff_getElem.1 hy
      rw [List.length_take] at hj
      have := h3 j (by omega) (by omega)
      rw [rdM_get (by omega) (by omega)] at this
      rw [List.getElem_take]
      exact this
    · obtain ⟨j, hj, rfl⟩ := List.mem_iff_getElem.1 hy
      rw [List.length_drop] at hj
      have := h4 (i + j) (by omega) (by omega)
      rw [rdM_get (by omega) (by omega)] at this
      rw [List.getElem_drop]
      have e : (i + (j : Int)).toNat = i.toNat + j := by omega
      simpa only [e] using this
  have HR0 := Aside0.mk hr0
  have HS := Aside0.mk hs
  have HAT := Aside0.mk hat
  clear hr0 hs hso hat
  go_enter Try.func125, Try.ntmps125
  go_wp2_with fail
  go_loopg [9, 10] l0.length (fun gk v9 v10 W => ∃ lo hi : Int, v9 = .int .i64 lo ∧ v10 = .int .i64 hi ∧ Aside0 (0 ≤ lo ∧ lo ≤ hi ∧ hi ≤ l0.length ∧ hi - lo ≤ gk) ∧ Aside0 ((∀ j : Int, 0 ≤ j → j < lo → (rd_T94 l0 j).f0 < v) ∧ (∀ j : Int, hi ≤ j → j < l0.length → v ≤ (rd_T94 l0 j).f0)) ∧ Aside0 (Below w.heap.size w W))
  case atStart => exact ⟨0, l0.length, rfl, rfl, ⟨Int.le_refl _, by omega, Int.le_refl _, by omega⟩, ⟨fun j h1 h2 => by omega, fun j h1 h2 => by omega⟩, ⟨Below.refl _ _⟩⟩
  case round =>
    obtain ⟨lo, hi, rfl, rfl, HI, HQ, HB⟩ := hrel
    by_cases hlt : lo < hi
    · have hd : decide (lo < hi) = true := decide_eq_true hlt
      obtain ⟨h1, h2, h3, h4⟩ := HI.out
      have hlen64 : (l0.length : Int) ≤ 4096 := by omega
      obtain ⟨k1, rfl⟩ : ∃ k, gk = k + 1 := ⟨gk - 1, by omega⟩
      have m0 : lo ≤ (lo + hi) / 2 := by omega
      have m1 : (lo + hi) / 2 < hi := by omega
      have q0 : 0 ≤ (lo + hi) / 2 := by omega
      have q1 : (lo + hi) / 2 < (l0.length : Int) := by omega
      have hC : Kd.C k94 wr A0 l0.length l0 := Kd.C_below HR0.out HB.out
      obtain ⟨ad, A1, c1, e3, g0, g1, _, _⟩ := at_T94 hC ((lo + hi) / 2) q0 q1
      cases e3
      obtain ⟨x, hx⟩ : ∃ x, x = rd_T94 l0 ((lo + hi) / 2) := ⟨_, rfl⟩
      rw [← hx] at g0 g1
      have HX := Aside0.mk hx
      have HM := Aside0.mk (And.intro m0 m1)
      clear hx hC
      go_wp2_with fail
      refine (map_cmp x.f0 A1 x.f1.length c1 v _).mono ?_
      rintro e w1 ⟨rfl, hb1⟩
      have HB1 := Aside0.mk (below_step HB.out hb1)
      clear hb1 g0 g1
      by_cases hc : x.f0 < v
      · have hcv : cmpO x.f0 v = -1 := by unfold cmpO; rw [if_pos hc]
        rw [hcv]
        go_wp2
        go_roundg k1
        case measure => omega
        case rel =>
          refine ⟨(lo + hi) / 2 + 1, hi, by first | rfl | (simp; done), by first | rfl | (simp; done), ⟨by omega, by omega, by omega, by omega⟩, ⟨fun j h5 h6 => ?_, HQ.out.2⟩, HB1⟩
          by_cases h7 : j = (lo + hi) / 2
          · rw [h7, ← HX.out]; exact hc
          · have := HS.out j ((lo + hi) / 2) h5 (by omega) q1
            rw [← HX.out] at this
            omega
      · have hcv : 0 ≤ cmpO x.f0 v := by unfold cmpO; rw [if_neg hc]; split <;> omega
        have hdc : decide (cmpO x.f0 v < 0) = false := decide_eq_false (by omega)
        go_wp2
        go_roundg k1
        case measure => omega
        case rel =>
          refine ⟨lo, (lo + hi) / 2, by first | rfl | (simp; done), by first | rfl | (simp; done), ⟨by omega, by omega, by omega, by omega⟩, ⟨HQ.out.1, fun j h5 h6 => ?_⟩, HB1⟩
          by_cases h7 : j = (lo + hi) / 2
          · rw [h7, ← HX.out]; omega
          · have := HS.out ((lo + hi) / 2) j q0 (by omega) h6
            rw [← HX.out] at this
            omega
    · have hd : decide (lo < hi) = false := decide_eq_false hlt
      obtain ⟨h1, h2, h3, h4⟩ := HI.out
      have e5 : (lo.toNat : Int) = lo := by omega
      by_cases hn : lo < (l0.length : Int)
      · have hdn : decide (lo < (l0.length : Int)) = true := decide_eq_true hn
        have hC : Kd.C k94 wr A0 l0.length l0 := Kd.C_below HR0.out HB.out
        obtain ⟨ad, A1, c1, e3, g0, g1, _, _⟩ := at_T94 hC lo h1 hn
        cases e3
        obtain ⟨x, hx⟩ : ∃ x, x = rd_T94 l0 lo := ⟨_, rfl⟩
        rw [← hx] at g0 g1
        have HX := Aside0.mk hx
        clear hx hC
        go_wp2_with fail
        refine (map_cmp x.f0 A1 x.f1.length c1 v _).mono ?_
        rintro e w1 ⟨rfl, hb1⟩
        have HB1 := Aside0.mk (below_step HB.out hb1)
        clear hb1 g0 g1
        have hce : (cmpO x.f0 v == 0) = (x.f0 == v) := by
          unfold cmpO
          rcases Int.lt_trichotomy x.f0 v with h5 | h5 | h5
          · rw [if_pos h5]; have : ¬ x.f0 = v := by omega
            simp [this]
          · simp [h5]
          · rw [if_neg (by omega), if_pos h5]; have : ¬ x.f0 = v := by omega
            simp [this]
        go_wp2
        go_ret2
        refine ⟨lo.toNat, HAT.out lo h1 (by omega) HQ.out.1 (fun j h5 h6 => HQ.out.2 j (by omega) h6), ?_, HB1.out⟩
        have hdn2 : decide (lo.toNat < l0.length) = true := decide_eq_true (by omega)
        first | rw [e5, hdn, ← HX.out, ← hce] | rw [e5, hdn2, ← HX.out, ← hce]
        rfl
      · have hdn : decide (lo < (l0.length : Int)) = false := decide_eq_false hn
        go_wp2
        go_ret2
        refine ⟨lo.toNat, HAT.out lo h1 (by omega) HQ.out.1 (fun j h5 h6 => HQ.out.2 j (by omega) h6), ?_, HB.out⟩
        have hdn2 : decide (lo.toNat < l0.length) = false := decide_eq_false (by omega)
        first | rw [e5, hdn] | rw [e5, hdn2]
        rfl
set_option maxHeartbeats 2000000 in
set_option maxRecDepth 100000 in
theorem idx_ext (cl : Nat) (lb : Array Value) (p : S24 → Bool) (eg : ∀ args w, (callFunc cl args).run Try.prog w = .ok (.enter cl args) w)
    (A0 : Option Addr) (c0 : Nat) (l0 : List S24) (w : World) (hr0 : Kd.C k24 w A0 l0.length l0)
    (hp : ∀ (W : World) (x : S24), Below w.heap.size w W → Calls Try.prog cl (#[.agg #[.int .i64 x.f0, .int .i64 x.f1, .int .i64 x.f2]] ++ lb) W fun e w' => e = .returned (.bool (p x)) ∧ Below w.heap.size w w') :
    Calls Try.prog 153 #[.slice A0 l0.length c0, .func (.func cl) #[] lb] w fun e w' => e = .returned (.int .i64 (idxF p l0)) ∧ Below w.heap.size w w' := by
  have hu24 := Try.underlying24
  have HR0 := Aside0.mk hr0
  have HP := Aside0.mk hp
  clear hr0 hp
  go_enter Try.func153, Try.ntmps153
  go_wp2
  go_loopg [5, 8] l0.length (fun gk _ v8 W => ∃ i : Int, v8 = .int .i64 i ∧ Aside0 (0 ≤ i ∧ i + gk = l0.length) ∧ Aside0 (Below w.heap.size w W) ∧ Aside0 (∀ j (hj : j < l0.length), (j : Int) < i → p l0[j] = false))
  case atStart => exact ⟨0, rfl, ⟨Int.le_refl _, by simp⟩, ⟨Below.refl _ w⟩, ⟨fun j hj h => by omega⟩⟩
  case round =>
    obtain ⟨i, rfl, HI, HB, HA⟩ := hrel
    cases gk with
    | zero =>
      have hi : i = l0.length := by have := HI.out.2; omega
      have hd : decide (i < (l0.length : Int)) = false := decide_eq_false (by omega)
      have hr : idxF p l0 = -1 := idxF_miss (fun x hx => by
        obtain ⟨j, hj, rfl⟩ := List.mem_iff_getElem.1 hx
        exact HA.out j hj (by omega))
      have HRES := Aside0.mk hr
      clear hi hr
      go_wp2
      go_ret
      exact ⟨by rw [HRES.out]; rfl, HB.out⟩
    | succ k1 =>
      have hp0 : 0 ≤ i := HI.out.1
      have hp1 : i < (l0.length : Int) := by have := HI.out.2; omega
      have hd : decide (i < (l0.length : Int)) = true := decide_eq_true hp1
      have hC : Kd.C k24 wr A0 l0.length l0 := Kd.C_below HR0.out HB.out
      have hlen64 : (l0.length : Int) ≤ 9223372036854775807 := by have := HR0.out.2.1; omega
      obtain ⟨ad, e3, g0, g1, g2⟩ := at_T24 hC i hp0 hp1
      cases e3
      obtain ⟨x, hx⟩ : ∃ x, x = rd_T24 l0 i := ⟨_, rfl⟩
      rw [← hx] at g0 g1 g2
      have hxi : x = l0[i.toNat]'(by omega) := by rw [hx]; unfold rd_T24; rw [List.getD_eq_getElem?_getD, List.getElem?_eq_getElem (by omega)]; rfl
      have hcall := HP.out wr x HB.out
      have HX := Aside0.mk hxi
      have HPI := Aside0.mk (And.intro hp0 hp1)
      clear hx hC hxi
      cases hq : p x with
      | true =>
        rw [hq] at hcall
        have hres : idxF p l0 = i := by
          have h1 := idxF_hit (p := p) (l := l0) (k := i.toNat) (by omega) (by rw [← HX.out]; exact hq) (fun j hj => HA.out j (by omega) (by omega))
          rw [h1]; omega
        have HRES := Aside0.mk hres
        clear hres
        go_wp2_with (go_at_fn cl; refine hcall.mono ?_; rintro e w' ⟨rfl, hb'⟩)
        go_ret
        exact ⟨by rw [HRES.out]; rfl, hb'⟩
      | false =>
        rw [hq] at hcall
        have HQ := Aside0.mk hq
        go_wp2_with (go_at_fn cl; refine hcall.mono ?_; rintro e w' ⟨rfl, hb'⟩)
        go_roundg k1
        case measure => omega
        case rel =>
          refine ⟨i + 1, by first | rfl | (simp; done) | go_num, ⟨by have := HPI.out.1; omega, by have := HI.out.2; omega⟩, ⟨hb'⟩, ⟨fun j hj h => ?_⟩⟩
          by_cases e : (j : Int) = i
          · have e2 : j = i.toNat := by omega
            subst e2
            rw [← HX.out]; exact HQ.out
          · exact HA.out j hj (by omega)
set_option maxHeartbeats 1000000 in
set_option maxRecDepth 100000 in
theorem has_ext (cl : Nat) (lb : Array Value) (p : S24 → Bool) (eg : ∀ args w, (callFunc cl args).run Try.prog w = .ok (.enter cl args) w)
    (A0 : Option Addr) (c0 : Nat) (l0 : List S24) (w : World) (hr0 : Kd.C k24 w A0 l0.length l0)
    (hp : ∀ (W : World) (x : S24), Below w.heap.size w W → Calls Try.prog cl (#[.agg #[.int .i64 x.f0, .int .i64 x.f1, .int .i64 x.f2]] ++ lb) W fun e w' => e = .returned (.bool (p x)) ∧ Below w.heap.size w w') :
    Calls Try.prog 128 #[.slice A0 l0.length c0, .func (.func cl) #[] lb] w fun e w' => e = .returned (.bool (l0.any p)) ∧ Below w.heap.size w w' := by
  have hidx := idx_ext cl lb p eg A0 c0 l0 w hr0 hp
  have hres : decide (0 ≤ idxF p l0) = l0.any p := by
    unfold idxF
    cases h : l0.findIdx? p with
    | some i =>
      have := List.findIdx?_eq_some_iff_getElem.1 h
      obtain ⟨h1, h2, _⟩ := this
      rw [List.any_eq_true.2 ⟨_, List.getElem_mem h1, h2⟩]
      exact decide_eq_true (by show (0 : Int) ≤ (i : Int); omega)
    | none =>
      have := List.findIdx?_eq_none_iff.1 h
      rw [List.any_eq_false.2 (fun x hx => by rw [this x hx]; decide)]
      rfl
  have HI := Aside0.mk hidx
  have HRES := Aside0.mk hres
  clear hidx hres hp hr0
  go_enter Try.func128, Try.ntmps128
  go_wp2_with fail
  refine HI.out.mono ?_
  rintro e w1 ⟨rfl, hb⟩
  have HB := Aside0.mk hb
  clear hb
  go_wp2
  go_ret
  exact ⟨by rw [← HRES.out]; rfl, HB.out⟩
set_option maxHeartbeats 1000000 in
set_option maxRecDepth 100000 in
theorem hole_cl (x : S24) (w : World) :
    Calls Try.prog 129 (#[.agg #[.int .i64 x.f0, .int .i64 x.f1, .int .i64 x.f2]] ++ #[]) w fun e w' => e = .returned (.bool (x.f1 != -1)) ∧ Below w.heap.size w w' := by
  have hu24 := Try.underlying24
  have HB := Aside0.mk ((Below.refl w.heap.size w).alloc (Nat.le_refl _) (.cells #[.int .i64 x.f0, .int .i64 x.f1, .int .i64 x.f2] 24))
  go_enter Try.func129, Try.ntmps129
  go_wp2
  go_ret
  exact ⟨rfl, HB.out⟩
theorem map_elem {w : World} {base : Nat} {v : Value} {o : List S94} {i : Nat} (h : Kd.R k94 94 w base (fun _ => True) v o) (hi : i < o.length) : ∃ g c A1 c1, v = .slice (some ⟨g, 0, none⟩) o.length c ∧ w.cell? ⟨g, i * 2, none⟩ = some (.int .i64 (rd_T94 o i).f0) ∧ w.cell? ⟨g, i * 2 + 1, none⟩ = some (.slice A1 (rd_T94 o i).f1.length c1) ∧ (rd_T94 o i).f1.length ≤ c1 ∧ Kd.C k24 w A1 (rd_T94 o i).f1.length (rd_T94 o i).f1 := by
  obtain ⟨g, c, rfl, _⟩ := Kd.R_form h (by omega)
  obtain ⟨ce, hcl, hM, hcc, _⟩ := Kd.R_elem h z94 (i : Int) (by omega) (by omega)
  have e1 : o.getD (i : Int).toNat z94 = rd_T94 o i := rfl
  rw [e1] at hM
  obtain ⟨c0, cc, rfl, h0, v1, rfl, hR⟩ := hM
  obtain ⟨A1, c1, rfl⟩ := Kd.R_slice hR
  have hr := Kd.R_reads' hR
  have h0 : c0 = [.int .i64 (rd_T94 o i).f0] := h0
  subst h0
  exact ⟨g, c, A1, c1, rfl, hcc 0 _ rfl, hcc 1 _ rfl, hr.2.1, hr.2.2⟩
theorem map_at {w : World} {base g n c : Nat} {o : List S94} {i : Nat} (h : Kd.R k94 94 w base (fun _ => True) (.slice (some ⟨g, 0, none⟩) n c) o) (hi : i < o.length) : ∃ A1 c1, w.cell? ⟨g, i * 2, none⟩ = some (.int .i64 (rd_T94 o i).f0) ∧ w.cell? ⟨g, i * 2 + 1, none⟩ = some (.slice A1 (rd_T94 o i).f1.length c1) ∧ (rd_T94 o i).f1.length ≤ c1 ∧ Kd.C k24 w A1 (rd_T94 o i).f1.length (rd_T94 o i).f1 := by
  obtain ⟨g', c', A1, c1, hv, h1, h2, h3, h4⟩ := map_elem h hi
  injection hv with hv1 hv2 hv3
  injection hv1 with hv1
  injection hv1 with hv1
  subst hv1
  exact ⟨A1, c1, h1, h2, h3, h4⟩
def back_T13 : Bool × List (List Nat × List Nat) := (true, [([], []), ([], []), ([0, 1], [0, 1]), ([2], [2]), ([3], [3]), ([], []), ([5], [5]), ([], []), ([7], [7]), ([4, 6, 8], [4, 6, 8]), ([9], [9]), ([10], [10]), ([10], [10]), ([11, 9, 0, 1, 2, 3, 4, 5, 6, 7, 8, 9, 10, 11], [11]), ([12, 13, 0, 1, 2, 3, 4, 5, 6, 7, 8, 9, 10, 11, 12, 13], [12])])
def back_B13 : List Nat := [0, 0, 3, 7, 15, 0, 32, 0, 128, 511, 1023, 2047, 2047, 4095, 16383]
def back_T15 : Bool × List (List Nat × List Nat) := (true, [([], []), ([], []), ([0, 1], [0, 1]), ([2], [2]), ([3], [3]), ([], []), ([5], [5]), ([], []), ([7], [7]), ([], []), ([9], [9]), ([6, 8, 10], [6, 8, 10]), ([4, 11], [4, 11]), ([12], [12]), ([13], [13]), ([13], [13]), ([14, 12, 0, 1, 2, 3, 4, 5, 6, 7, 8, 9, 10, 11, 12, 13, 14], [14]), ([15, 16, 0, 1, 2, 3, 4, 5, 6, 7, 8, 9, 10, 11, 12, 13, 14, 15, 16], [15])])
def back_B15 : List Nat := [0, 0, 3, 7, 15, 0, 32, 0, 128, 0, 512, 2016, 4095, 8191, 16383, 16383, 32767, 131071]
theorem back_tab13 : rtab .any (opsOf Try.f75 13) = back_T13 := by kernel_rfl
theorem back_bits13 : waitsOk back_T13.2 back_B13 = true := by kernel_rfl
theorem back_tab15 : rtab .any (opsOf Try.f75 15) = back_T15 := by kernel_rfl
theorem back_bits15 : waitsOk back_T15.2 back_B15 = true := by kernel_rfl
def refs_Back.f (l0 : List (S88)) : Option ((List (S94)) × Int) := some (backF l0)
set_option maxHeartbeats 8000000 in
set_option maxRecDepth 100000 in
theorem refs_Back.calls (A0 : Option Addr) (c0 : Nat) (l0 : List (S88)) (r1 : List (S94)) (r2 : Int) (w : World) (hr0 : Kd.C k88 w A0 l0.length l0) (hc0 : l0.length ≤ c0) (h : refs_Back.f l0 = some (r1, r2)) :
    Calls Try.prog 75 #[.slice A0 l0.length c0] w fun e w' => ∃ v0_ : Value, e = .returned (.tuple #[v0_, .int .i64 r2]) ∧ Kd.R k94 94 w' w.heap.size (fun _ => True) v0_ r1 ∧ Below w.heap.size w w' := by
  have hu88 := Try.underlying88
  have hu94 := Try.underlying94
  have hu24 := Try.underlying24
  unfold refs_Back.f at h
  replace h := Option.some.inj h
  unfold backF at h
  have HR0 := Aside0.mk hr0
  clear hr0
  by_cases hlen : 4096 < l0.length
  · rw [if_pos hlen] at h
    obtain ⟨rfl, rfl⟩ := Prod.mk.inj h
    have hd : decide ((4096 : Int) < (l0.length : Int)) = true := decide_eq_true (by omega)
    go_enter Try.func75, Try.ntmps75
    go_wp2
    go_ret2
    exact ⟨_, rfl, Kd.R_nil _ _ _ _ _, Below.refl _ _⟩
  rw [if_neg hlen] at h
  have hd0 : decide ((4096 : Int) < (l0.length : Int)) = false := decide_eq_false (by omega)
  have HG0 := Aside0.mk h
  have HLEN := Aside0.mk hlen
  clear h hlen hc0
  go_enter Try.func75, Try.ntmps75
  go_wp2_with fail
  go_loopg [4, 5, 19] l0.length (fun gk v4 v5 v19 W => ∃ (i : Int) (o : List S94) (tw : Bool), v5 = .bool tw ∧ v19 = .int .i64 i ∧ Aside0 (0 ≤ i ∧ i + gk = l0.length) ∧ Aside0 (backG (l0.drop i.toNat) o tw = (r1, r2)) ∧ Aside0 (Maps9 o ∧ (o.length : Int) ≤ i) ∧ Aside0 (Kd.R k94 94 W w.heap.size (fun _ => True) v4 o) ∧ Aside0 (Below w.heap.size w W))
  case atStart => exact ⟨0, [], false, rfl, rfl, ⟨Int.le_refl _, by simp⟩, HG0, ⟨maps9_nil, Int.le_refl _⟩, ⟨Kd.R_nil _ _ _ _ _⟩, ⟨Below.refl _ _⟩⟩
  case round =>
    obtain ⟨i, o, tw, rfl, rfl, HI, HG, HM, HO, HS⟩ := hrel
    obtain ⟨Ao, co, rfl⟩ := Kd.R_slice HO.out
    obtain ⟨no, hno⟩ : ∃ m, m = o.length := ⟨_, rfl⟩
    rw [← hno] at HO ⊢
    have HNO := Aside0.mk hno
    clear hno
    cases gk with
    | zero =>
      have hi : i = l0.length := by have := HI.out.2; omega
      have hd : decide (i < (l0.length : Int)) = false := decide_eq_false (by omega)
      have hg := HG.out
      rw [hi, Int.toNat_natCast, List.drop_length, backG] at hg
      rw [← HNO.out] at hg
      clear hi
      cases tw with
      | true =>
        rw [if_pos rfl] at hg
        obtain ⟨rfl, rfl⟩ := Prod.mk.inj hg
        clear hg
        go_wp2
        go_ret2
        exact ⟨_, rfl, Kd.R_nil _ _ _ _ _, HS.out⟩
      | false =>
        rw [if_neg (by decide)] at hg
        by_cases h9 : 9 < no
        · rw [if_pos h9] at hg
          obtain ⟨rfl, rfl⟩ := Prod.mk.inj hg
          have hd9 : decide ((9 : Int) < (no : Int)) = true := decide_eq_true (by omega)
          clear hg h9
          go_wp2
          go_ret2
          exact ⟨_, rfl, Kd.R_nil _ _ _ _ _, HS.out⟩
        · rw [if_neg h9] at hg
          obtain ⟨rfl, rfl⟩ := Prod.mk.inj hg
          have hd9 : decide ((9 : Int) < (no : Int)) = false := decide_eq_false (by omega)
          clear hg h9
          go_wp2
          go_ret2
          exact ⟨_, rfl, HO.out, HS.out⟩
    | succ k1 =>
      have hp0 : 0 ≤ i := HI.out.1
      have hp1 : i < (l0.length : Int) := by have := HI.out.2; omega
      have hd : decide (i < (l0.length : Int)) = true := decide_eq_true hp1
      obtain ⟨ad, e3, g0, g1, g2, g3⟩ := at_T88 (Kd.C_below HR0.out HS.out) i hp0 hp1
      cases e3
      obtain ⟨x, hx⟩ : ∃ x, x = rd_T88 l0 i := ⟨_, rfl⟩
      rw [← hx] at g0 g1 g2 g3
      have hst : l0.drop i.toNat = x :: l0.drop (i + 1).toNat := by
        have h3 : (i + 1).toNat = i.toNat + 1 := by omega
        have h4 : i.toNat < l0.length := by omega
        have h5 : x = l0[i.toNat] := by rw [hx]; unfold rd_T88; rw [List.getD_eq_getElem?_getD, List.getElem?_eq_getElem h4]; rfl
        rw [h3, h5, List.getElem_cons_drop]
      have hg := HG.out
      rw [hst, backG] at hg
      have HP := Aside0.mk (And.intro hp0 hp1)
      have HI4 := Aside0.mk (show (i : Int) ≤ 4096 by have := HLEN.out; omega)
      clear HG
      obtain ⟨bx, hbx⟩ : ∃ b, b = wr.heap.size := ⟨_, rfl⟩
      obtain ⟨W1, hW1⟩ : ∃ W, W = wr.alloc (.cells #[.int .i64 x.f0, .int .i64 x.f1, .int .i64 x.f2, .int .i64 x.f3] 88) := ⟨_, rfl⟩
      have hx1 : W1.heap[bx]? = some (.cells #[.int .i64 x.f0, .int .i64 x.f1, .int .i64 x.f2, .int .i64 x.f3] 88 (0, 0)) := by rw [hW1, hbx]; exact blk_new wr _
      have hb1 : Below w.heap.size w W1 := by rw [hW1]; exact HS.out.alloc HS.out.size _
      have ho1 : Kd.R k94 94 W1 w.heap.size (fun _ => True) (.slice Ao no co) o := by rw [hW1]; exact Kd.R_alloc HO.out _
      have hbxs : w.heap.size ≤ bx := by rw [hbx]; exact HS.out.size
      have q2 : W1.cell? ⟨bx, 2, none⟩ = some (.int .i64 x.f2) := (blk_cell hx1 2).trans rfl
      rw [hW1, hbx] at q2
      have HX1 := Aside0.mk hx1
      have HB1 := Aside0.mk hb1
      have HO1 := Aside0.mk ho1
      have HBX := Aside0.mk hbxs
      have HBN := Aside0.mk (show some bx ≠ (Value.slice Ao no co).ownBlock from fun e => by have := Kd.R_lt HO.out bx e.symm; omega)
      clear hx hx1 hb1 ho1 hst hbxs HO HS
      by_cases ho2 : x.f2 < 0 ∨ 255 < x.f2
      · rw [if_pos ho2] at hg
        obtain ⟨rfl, rfl⟩ := Prod.mk.inj hg
        clear hg
        by_cases ho3 : x.f2 < 0
        · have hda : decide (x.f2 < 0) = true := decide_eq_true ho3
          clear ho2 ho3
          go_wp2_with fail
          rw [← hW1]
          go_ret2
          exact ⟨_, rfl, Kd.R_nil _ _ _ _ _, HB1.out⟩
        · have hda : decide (x.f2 < 0) = false := decide_eq_false ho3
          have hdb : decide (255 < x.f2) = true := decide_eq_true (by omega)
          clear ho2 ho3
          go_wp2_with fail
          rw [← hW1]
          go_ret2
          exact ⟨_, rfl, Kd.R_nil _ _ _ _ _, HB1.out⟩
      rw [if_neg ho2] at hg
      have HOK := Aside0.mk ho2
      have hda : decide (x.f2 < 0) = false := decide_eq_false (by omega)
      have hdb : decide (255 < x.f2) = false := decide_eq_false (by omega)
      have hoC := (Kd.R_reads' HO1.out).2.2
      have hol : o.length ≤ 4096 := by have := HM.out.2; have := HI4.out; omega
      have hbs := bsearch_map Ao co o x.f2 W1 hoC hol HM.out.1.sort
      rw [← HNO.out] at hbs
      have HBS := Aside0.mk hbs
      have HG := Aside0.mk hg
      have HOL := Aside0.mk hol
      clear ho2 hg hoC hol hbs
      go_wp2_with fail
      rw [← hW1, ← hbx]
      clear hW1 hbx q2 hda hdb g0 g1 g2 g3
      refine HBS.out.mono ?_
      rintro e w2 ⟨j, hat, rfl, hb2⟩
      have HX2 := Aside0.mk (show w2.heap[bx]? = some (.cells #[.int .i64 x.f0, .int .i64 x.f1, .int .i64 x.f2, .int .i64 x.f3] 88 (0, 0)) by rw [hb2.block _ (blk_lt HX1.out)]; exact HX1.out)
      have HB2 := Aside0.mk (HB1.out.trans (hb2.mono HB1.out.size))
      have HO2 := Aside0.mk (Kd.R_below HO1.out hb2)
      have HAT := Aside0.mk hat
      obtain ⟨old, hold⟩ : ∃ l, l = getM x.f2 o := ⟨_, rfl⟩
      have HOLD := Aside0.mk hold
      clear hb2 HX1 HB1 HO1 hat HBS
      rcases Classical.em (∃ hj : j < o.length, o[j].f0 = x.f2) with hh | hh
      case' inl =>
        have hnext : j < o.length ∧ rd_T94 o (j : Int) = ⟨x.f2, old⟩ ∧ ∀ m, putM x.f2 m o = o.set j ⟨x.f2, m⟩ := by
          obtain ⟨hj, he⟩ := hh
          refine ⟨hj, ?_, fun m => (HAT.out.hit (m := m) hj he).2⟩
          rw [rdM_get (by omega) (by omega), hold, (HAT.out.hit (m := []) hj he).1]
          show o[j] = ⟨x.f2, o[j].f1⟩
          rw [← he]
        have hb : (decide ((j : Int) < (no : Int)) && ((rd_T94 o (j : Int)).f0 == x.f2)) = true := by
          rw [hnext.2.1]
          have := hnext.1
          simp
          rw [HNO.out]; exact this
        rw [hb]
        obtain ⟨wz, hwz⟩ : ∃ W, W = w2 := ⟨_, rfl⟩
        rw [← hwz] at HX2 HB2 HO2 ⊢
        obtain ⟨o', ho'⟩ : ∃ l, l = o := ⟨_, rfl⟩
        rw [← ho'] at hnext
        have HO' := Aside0.mk (show Kd.R k94 94 wz w.heap.size (fun _ => True) (.slice Ao no co) o' by rw [ho']; exact HO2.out)
        have HK := Aside0.mk (show j < o'.length ∧ rd_T94 o' (j : Int) = ⟨x.f2, old⟩ ∧ ∀ m, putM x.f2 m o = o'.set j ⟨x.f2, m⟩ by rw [ho']; rw [ho'] at hnext; exact hnext)
        have HX' := HX2
        have HB' := HB2
        clear hh hb hwz ho' HX2 HB2 HO2 hnext hold
        obtain ⟨g, c', A1, c1, hv, y0, y1, hc1, hC1⟩ := map_elem HO'.out HK.out.1
        rw [HK.out.2.1] at y0 y1 hc1 hC1
        injection hv with hv1 hv2 hv3
        subst hv1 hv3
        have q1 : wz.cell? ⟨bx, 1, none⟩ = some (.int .i64 x.f1) := (blk_cell HX'.out 1).trans rfl
        have q3 : wz.cell? ⟨bx, 3, none⟩ = some (.int .i64 x.f3) := (blk_cell HX'.out 3).trans rfl
        have hj0 : (0 : Int) ≤ (j : Int) := by omega
        have hj1 : (j : Int) < (o'.length : Int) := by have := HK.out.1; omega
        have hj2 : j < o'.length := HK.out.1
        have HLK := Aside0.mk (extent_Look.calls A1 c1 old x.f3 x.f1 (lookS old x.f3 x.f1).1 (lookS old x.f3 x.f1).2 wz.drew (Kd.C_below hC1 (below_drew (Below.refl _ _))) hc1 rfl)
        clear hC1 hc1
        go_wp2_with fail
      case' inr =>
        have hm : ∀ hi : j < o.length, o[j].f0 ≠ x.f2 := fun hi he => hh ⟨hi, he⟩
        have hb : (decide ((j : Int) < (no : Int)) && ((rd_T94 o (j : Int)).f0 == x.f2)) = false := by
          by_cases hi : j < o.length
          · have := hm hi
            rw [rdM_get (by omega) (by omega)]
            have h2 : (o[(j : Int).toNat].f0 == x.f2) = false := beq_eq_false_iff_ne.2 this
            rw [h2, Bool.and_false]
          · have := HNO.out
            have h2 : decide ((j : Int) < (no : Int)) = false := decide_eq_false (by omega)
            rw [h2, Bool.false_and]
        rw [hb]
        obtain ⟨W3, hW3⟩ : ∃ W, W = w2.alloc (.cells #[.int .i64 x.f2, .slice none 0 0] 94) := ⟨_, rfl⟩
        obtain ⟨gv, hgv⟩ : ∃ b, b = w2.heap.size := ⟨_, rfl⟩
        have hLv : LieL encRM 2 94 W3 gv 1 #[.int .i64 x.f2, .slice none 0 0] [⟨x.f2, none, 0, 0⟩] := ⟨by rw [hW3, hgv]; exact blk_new w2 _, rfl, Nat.le_refl 1, by decide, rfl⟩
        have hB3 : Below w.heap.size w W3 := by rw [hW3]; exact HB2.out.alloc HB2.out.size _
        have hO3 : Kd.R k94 94 W3 w.heap.size (fun _ => True) (.slice Ao no co) o := by rw [hW3]; exact Kd.R_alloc HO2.out _
        have hne : (Value.slice Ao no co).ownBlock ≠ some gv := fun h => by have := Kd.R_lt HO2.out _ h; omega
        have HINS := Aside0.mk (ins_maps w W3 w.heap.size _ o j x.f2 gv 1 _ hO3 hLv hne hB3 hB3.size HAT.out.le HOL.out)
        have HX3 := Aside0.mk (show W3.heap[bx]? = some (.cells #[.int .i64 x.f0, .int .i64 x.f1, .int .i64 x.f2, .int .i64 x.f3] 88 (0, 0)) by rw [hW3]; exact blk_alloc HX2.out _)
        have q2 : w2.cell? ⟨bx, 2, none⟩ = some (.int .i64 x.f2) := (blk_cell HX2.out 2).trans rfl
        have HHM := Aside0.mk hm
        have HBXL := Aside0.mk (show bx < W3.heap.size from blk_lt HX3.out)
        clear hh hb hm hLv hB3 hO3 hne HX2 HB2 HO2 hold
        go_wp2_with fail
        rw [← hW3, ← hgv]
        clear hW3 hgv q2
        refine HINS.out.mono ?_
        rintro e wz ⟨vz, rfl, hRz, hBz, hkz⟩
        obtain ⟨o', ho'⟩ : ∃ l, l = o.take j ++ [(⟨x.f2, []⟩ : S94)] ++ o.drop j := ⟨_, rfl⟩
        rw [← ho'] at hRz
        have hle := HAT.out.le
        have hl' : o'.length = o.length + 1 := by rw [ho']; simp; omega
        have hx' : o'[j]'(by omega) = ⟨x.f2, []⟩ := by
          subst ho'
          rw [List.getElem_append_left (by simp; omega), List.getElem_append_right (by rw [List.length_take]; omega)]
          simp
        have HK := Aside0.mk (show j < o'.length ∧ rd_T94 o' (j : Int) = ⟨x.f2, old⟩ ∧ ∀ m, putM x.f2 m o = o'.set j ⟨x.f2, m⟩ by
          refine ⟨by omega, ?_, fun m => by rw [(HAT.out.miss (m := m) HHM.out).2, ho']⟩
          rw [rdM_get (by omega) (by omega), HOLD.out, (HAT.out.miss (m := []) HHM.out).1]
          exact hx')
        obtain ⟨g, c', A1, c1, rfl, y0, y1, hc1, hC1⟩ := map_elem hRz HK.out.1
        rw [HK.out.2.1] at y0 y1 hc1 hC1
        have HO' := Aside0.mk hRz
        have HB' := Aside0.mk hBz
        have HX' := Aside0.mk ((hkz bx HBXL.out HBN.out).trans HX3.out)
        obtain ⟨no', hno'⟩ : ∃ m, m = o'.length := ⟨_, rfl⟩
        have hj2 : j < no' := by rw [hno']; exact HK.out.1
        have hj1 : (j : Int) < (no' : Int) := by omega
        rw [← hno'] at HO' ⊢
        have hj0 : (0 : Int) ≤ (j : Int) := by omega
        clear hRz hBz hkz ho' hl' hx' hle hno' HX3
        have q1 : wz.cell? ⟨bx, 1, none⟩ = some (.int .i64 x.f1) := (blk_cell HX'.out 1).trans rfl
        have q3 : wz.cell? ⟨bx, 3, none⟩ = some (.int .i64 x.f3) := (blk_cell HX'.out 3).trans rfl
        have HLK := Aside0.mk (extent_Look.calls A1 c1 old x.f3 x.f1 (lookS old x.f3 x.f1).1 (lookS old x.f3 x.f1).2 wz.drew (Kd.C_below hC1 (below_drew (Below.refl _ _))) hc1 rfl)
        clear hC1 hc1
        go_wp2_with fail
      all_goals
        refine start_ (n := 15) (S := fun w' => w'.cell? ⟨g, j * 2 + 1, none⟩ = some (.slice A1 old.length c1) ∧ w'.cell? ⟨bx, 3, none⟩ = some (.int .i64 x.f3) ∧ w'.cell? ⟨bx, 1, none⟩ = some (.int .i64 x.f1)) (ds := []) (lb 15 0) (by kernel_rfl) rfl (by kernel_rfl) ⟨y1, q3, q1⟩ (fun hHeld => ?_)
        refine with_tabW back_tab13 back_bits13 (fun HT_ HW_ => ?_)
        have HOd := Aside0.mk (Kd.R_drew HO'.out)
        have HXd := Aside0.mk (show wz.drew.heap[bx]? = some (.cells #[.int .i64 x.f0, .int .i64 x.f1, .int .i64 x.f2, .int .i64 x.f3] 88 (0, 0)) from HX'.out)
        have HBd := Aside0.mk (below_drew HB'.out)
        clear HO' HX' HB' y0 y1 q1 q3
        generalize wz.drew = wd at hHeld HLK HOd HXd HBd ⊢
        refine pu_ 0 48 15 1 ?_
        refine pu_ 1 49 15 3 ?_
        refine pu_ 2 50 15 7 ?_
        refine pu_ 3 51 15 15 ?_
        refine pu_ 5 53 15 47 ?_
        refine pu_ 7 55 15 175 ?_
        refine tk_ 4 52 15 191 ?_
        refine tk_ 6 54 15 255 ?_
        refine tk_ 8 56 15 511 ?_
        refine on_ 9 57 15 1023 (fun K hK => ?_)
        refine goes_ Try.func37 (by kernel_rfl) rfl #[.slice A1 old.length c1, .int .i64 x.f3, .int .i64 x.f1] (by rfl) rfl rfl (by (try simp only [List.map_toArray, List.map_cons, List.map_nil]); first | done | rfl) ?_
        with_reducible refine HLK.out.mono ?_
        rintro e w4 ⟨vl, rfl, hRl, hb4⟩
        refine ⟨_, rfl, ?_⟩
        refine hK.out _ _ ⟨(hb4.cell (World.block_lt_of_cell? wd _ hHeld.1)).trans hHeld.1, (hb4.cell (World.block_lt_of_cell? wd _ hHeld.2.1)).trans hHeld.2.1, (hb4.cell (World.block_lt_of_cell? wd _ hHeld.2.2)).trans hHeld.2.2⟩ (fun hHeld => ?_)
        clear hK K
        refine nm_ 57 ?_
        refine pu_ 10 47 15 2047 ?_
        refine pu_ 11 58 15 4095 ?_
        refine pu_ 12 59 15 8191 ?_
        refine pu_ 13 10 15 16383 ?_
        refine pu_ 14 11 15 32767 ?_
        refine done_ (done_of HT_.out (by kernel_rfl)) ?_
        clear hHeld HT_ HW_
        obtain ⟨Al, cl, rfl⟩ := Kd.R_slice hRl
        obtain ⟨lk, hlk⟩ : ∃ l, l = (lookS old x.f3 x.f1).1 := ⟨_, rfl⟩
        obtain ⟨ek, hek⟩ : ∃ l, l = (lookS old x.f3 x.f1).2 := ⟨_, rfl⟩
        have hg := HG.out
        rw [← HOLD.out, ← hlk] at hg
        rw [← hlk] at hRl ⊢
        rw [← hek]
        have HG2 := Aside0.mk hg
        have HO4 := Aside0.mk (Kd.R_below HOd.out hb4)
        have HX4 := Aside0.mk (show w4.heap[bx]? = some (.cells #[.int .i64 x.f0, .int .i64 x.f1, .int .i64 x.f2, .int .i64 x.f3] 88 (0, 0)) by rw [hb4.block _ (blk_lt HXd.out)]; exact HXd.out)
        have HB4 := Aside0.mk (HBd.out.trans (hb4.mono HBd.out.size))
        have hRC := (Kd.R_reads' hRl).2.2
        obtain ⟨nk, hnk⟩ : ∃ n, n = lk.length := ⟨_, rfl⟩
        have hhas := has_ext 129 #[] (fun x => x.f1 != -1) (fun args w => enters_ Try.func129 (by kernel_rfl) rfl args w) Al cl lk w4 hRC (fun W x hB => Calls.mono (hole_cl x W) fun e w' h => ⟨h.1, below_step hB h.2⟩)
        rw [← hnk] at hhas ⊢
        have HHAS := Aside0.mk hhas
        clear hb4 hlk hek hg HLK HG HXd HBd HOd hRC hRl hnk hhas
        cases tw
        case' true =>
          obtain ⟨w5, hw5⟩ : ∃ W, W = w4 := ⟨_, rfl⟩
          rw [← hw5] at HO4 HX4 HB4 ⊢
          have HO5 := HO4
          have HX5 := HX4
          have HB5 := HB4
          clear HO4 HX4 HB4 HHAS hw5
        case' false =>
          go_wp2_with fail
          refine HHAS.out.mono ?_
          rintro e w5 ⟨rfl, hb5⟩
          have HO5 := Aside0.mk (Kd.R_below HO4.out hb5)
          have HX5 := Aside0.mk (show w5.heap[bx]? = some (.cells #[.int .i64 x.f0, .int .i64 x.f1, .int .i64 x.f2, .int .i64 x.f3] 88 (0, 0)) by rw [hb5.block _ (blk_lt HX4.out)]; exact HX4.out)
          have HB5 := Aside0.mk (HB4.out.trans (hb5.mono HB4.out.size))
          clear HO4 HX4 HB4 HHAS hb5
        all_goals
          obtain ⟨A2, c2, y0, y1, hc2, hC2⟩ := map_at HO5.out HK.out.1
          rw [HK.out.2.1] at y0 y1 hc2 hC2
          have q0 : w5.cell? ⟨bx, 0, none⟩ = some (.int .i64 x.f0) := (blk_cell HX5.out 0).trans rfl
          have q1 : w5.cell? ⟨bx, 1, none⟩ = some (.int .i64 x.f1) := (blk_cell HX5.out 1).trans rfl
          have q3 : w5.cell? ⟨bx, 3, none⟩ = some (.int .i64 x.f3) := (blk_cell HX5.out 3).trans rfl
          have HPT := Aside0.mk (extent_Put.calls 1100 A2 c2 old x.f3 x.f0 x.f1 (putS old ⟨x.f3, x.f0, x.f1⟩).1 (putS old ⟨x.f3, x.f0, x.f1⟩).2 w5.drew (Kd.C_below hC2 (below_drew (Below.refl _ _))) hc2 (put_x (x := ⟨x.f3, x.f0, x.f1⟩) (by have := getM_len (o := x.f2) HM.out.1; rw [← HOLD.out] at this; omega)))
          have HOd := Aside0.mk (Kd.R_drew HO5.out)
          have HBd := Aside0.mk (below_drew HB5.out)
          clear hC2 hc2 y0 HO5 HB5
          go_wp2_with fail
          refine start_ (n := 18) (S := fun w' => w'.cell? ⟨g, j * 2 + 1, none⟩ = some (.slice A2 old.length c2) ∧ w'.cell? ⟨bx, 3, none⟩ = some (.int .i64 x.f3) ∧ w'.cell? ⟨bx, 0, none⟩ = some (.int .i64 x.f0) ∧ w'.cell? ⟨bx, 1, none⟩ = some (.int .i64 x.f1)) (ds := []) (lb 18 0) (by kernel_rfl) rfl (by kernel_rfl) ⟨y1, q3, q0, q1⟩ (fun hHeld => ?_)
          refine with_tabW back_tab15 back_bits15 (fun HT_ HW_ => ?_)
          clear y1 q0 q1 q3 HX5
          generalize w5.drew = wd at hHeld HPT HOd HBd ⊢
          refine pu_ 0 66 18 1 ?_
          refine pu_ 1 67 18 3 ?_
          refine pu_ 2 68 18 7 ?_
          refine pu_ 3 69 18 15 ?_
          refine pu_ 5 71 18 47 ?_
          refine pu_ 7 73 18 175 ?_
          refine pu_ 9 75 18 687 ?_
          refine tk_ 4 70 18 703 ?_
          refine tk_ 6 72 18 767 ?_
          refine tk_ 8 74 18 1023 ?_
          refine tk_ 10 76 18 2047 ?_
          refine pu_ 11 77 18 4095 ?_
          refine on_ 12 78 18 8191 (fun K hK => ?_)
          refine goes_ Try.func27 (by kernel_rfl) rfl #[.slice A2 old.length c2, .agg #[.int .i64 x.f3, .int .i64 x.f0, .int .i64 x.f1]] (by rfl) rfl rfl (by (try simp only [List.map_toArray, List.map_cons, List.map_nil]); first | done | rfl) ?_
          with_reducible refine HPT.out.mono ?_
          rintro e w6 ⟨vm, rfl, hRm, hb6⟩
          refine ⟨_, rfl, ?_⟩
          refine hK.out _ _ ⟨(hb6.cell (World.block_lt_of_cell? wd _ hHeld.1)).trans hHeld.1, (hb6.cell (World.block_lt_of_cell? wd _ hHeld.2.1)).trans hHeld.2.1, (hb6.cell (World.block_lt_of_cell? wd _ hHeld.2.2.1)).trans hHeld.2.2.1, (hb6.cell (World.block_lt_of_cell? wd _ hHeld.2.2.2)).trans hHeld.2.2.2⟩ (fun hHeld => ?_)
          clear hK K
          refine nm_ 78 ?_
          refine pu_ 13 65 18 16383 ?_
          refine pu_ 14 79 18 32767 ?_
          refine pu_ 15 80 18 65535 ?_
          refine pu_ 16 12 18 131071 ?_
          refine pu_ 17 13 18 262143 ?_
          refine done_ (done_of HT_.out (by kernel_rfl)) ?_
          clear hHeld HT_ HW_ HPT
          obtain ⟨Am, cm, rfl⟩ := Kd.R_slice hRm
          obtain ⟨m, hm⟩ : ∃ l, l = (putS old ⟨x.f3, x.f0, x.f1⟩).1 := ⟨_, rfl⟩
          obtain ⟨ep, hep⟩ : ∃ l, l = (putS old ⟨x.f3, x.f0, x.f1⟩).2 := ⟨_, rfl⟩
          have hg := HG2.out
          rw [← hm, ← hep] at hg
          rw [← hm] at hRm ⊢
          rw [← hep]
          by_cases hp : ep = 0
          · rw [if_pos hp] at hg
            have HG3 := Aside0.mk hg
            have HMM := Aside0.mk (show Maps9 (putM x.f2 m o) by
              have h1 := HM.out.1.put (o := x.f2) HOK.out (x := ⟨x.f3, x.f0, x.f1⟩) (by rw [← HOLD.out, ← hep]; exact hp)
              rw [← HOLD.out, ← hm] at h1
              exact h1)
            have hR6 := Kd.R_below HOd.out hb6
            have hglt := Kd.R_lt HOd.out g rfl
            obtain ⟨A3, c3, z0, z1, _, _⟩ := map_at hR6 HK.out.1
            rw [HK.out.2.1] at z0 z1
            have HZ := Aside0.mk (And.intro z0 z1)
            have HMm := Aside0.mk (show Kd.R k24 24 w6 w.heap.size (fun k => k ≠ g) (.slice Am m.length cm) m from Kd.R_lower (Kd.R_mono (Kd.R_bound hRm) (fun k hk => by have := hk.2.1; omega)) HBd.out.size)
            have HB6 := Aside0.mk (HBd.out.trans (hb6.mono HBd.out.size))
            have HR6 := Aside0.mk hR6
            rw [hp]
            clear hg hm hep hp hRm hb6 hR6 hglt z0 z1 HOd HBd HG2
            go_wp2_with ((with_reducible refine gate_ (.store 22 (.tmp 87) (.tmp 85)) rfl ?_); refine Kd.R_store k94 (w0 := w) (W := w6) w.heap.size rfl rfl 22 (.tmp 87) (.tmp 85) rfl 94 (j : Int) 1 o' (⟨x.f2, m⟩ : S94) (.slice Am m.length cm) [.slice Am m.length cm] [.int .i64 x.f2, .slice A3 old.length c3] (fun _ => True) (fun k => k ≠ g) rfl rfl rfl rfl (by kernel_rfl) (by simp [Value.oneCell']) HR6.out hj0 (by have h1 := HK.out.1; have h2 := (Kd.R_reads' HR6.out).1; omega) rfl ?cells (Nat.le_refl 2) (k94_mkM _ _ _ (⟨x.f2, m⟩ : S94) HMm.out) (fun _ hk => ⟨trivial, hk⟩) HB6.out ?_; (case cells => intro t u hu; match t, hu with | 0, hu => cases hu; exact HZ.out.1 | 1, hu => cases hu; exact HZ.out.2 | t + 2, hu => cases hu); intro w7 hO7 hB7 hG7; have HO7 := Aside0.mk hO7; have HB7 := Aside0.mk hB7; clear hO7 hB7 hG7)
            go_roundg k1
            case measure => omega
            case rel =>
              have hnx : putM x.f2 m o = o'.set (j : Int).toNat ⟨x.f2, m⟩ := HK.out.2.2 m
              have hwi : wrap64 (i + 1) = i + 1 := w64 (by have := HP.out.1; have := HI4.out; omega)
              refine ⟨i + 1, o'.set (j : Int).toNat ⟨x.f2, m⟩, _, rfl, by first | rw [hwi] | rfl | go_num, ⟨by have := HP.out.1; omega, by have := HI.out.2; omega⟩, ⟨by rw [← hnx]; exact HG3.out⟩, ⟨by rw [← hnx]; exact HMM.out, ?_⟩, ⟨by first | exact HO7.out | (have h1 := (Kd.R_reads' HR6.out).1; have h2 := HO7.out; rw [h1] at h2; exact h2)⟩, ⟨HB7.out⟩⟩
              rw [← hnx]
              have := putM_len (o := x.f2) (m := m) (l := o)
              have := HM.out.2
              omega
          · rw [if_neg hp] at hg
            obtain ⟨rfl, rfl⟩ := Prod.mk.inj hg
            have hpn : (ep != 0) = true := bne_iff_ne.mpr hp
            have HB6 := Aside0.mk (HBd.out.trans (hb6.mono HBd.out.size))
            clear hg hm hep hp hRm hb6 HOd HBd HG2
            go_wp2
            go_ret2
            exact ⟨_, rfl, Kd.R_nil _ _ _ _ _, HB6.out⟩
theorem drawn_below {w w' : World} {B : Nat} (h : Drawn0 w w') : Below B w w' := by
  obtain ⟨n, rfl⟩ := h
  exact pw_below_drewN (Below.refl _ _) n
def flagstonelaw09_RefsAgain.f (l : List S86) : Option Bool := if l.length < 4398046511104 ∧ ∀ x ∈ l, x.f1.length < 5864062014805 then some true else none
set_option maxHeartbeats 8000000 in
set_option maxRecDepth 100000 in
theorem flagstonelaw09_RefsAgain.calls (A0 : Option Addr) (c0 : Nat) (l0 : List (S86)) (r : Bool) (w : World) (hr0 : Kd.C k86 w A0 l0.length l0) (hc0 : l0.length ≤ c0) (h : flagstonelaw09_RefsAgain.f l0 = some r) :
    Calls Try.prog 21 #[.slice A0 l0.length c0] w fun e w' => e = .returned (.bool r) ∧ Below w.heap.size w w' := by
  have hu86 := Try.underlying86
  unfold flagstonelaw09_RefsAgain.f at h
  split at h
  case isFalse => cases h
  rename_i hxr
  obtain rfl := Option.some.inj h
  have HAL := Aside0.mk (flagstonelaw09_alive.calls true w alive9)
  have HR0 := Aside0.mk hr0
  have HC0 := Aside0.mk hc0
  have HXR := Aside0.mk hxr
  clear hr0 hc0 hxr h
  go_enter Try.func21, Try.ntmps21
  go_wp2_with fail
  refine HAL.out.mono ?_
  rintro e w1 ⟨rfl, hb⟩
  have HB1 := Aside0.mk hb
  clear hb HAL
  have HOF := Aside0.mk (flagstonelaw09_Of.calls (l0.length + 1) A0 c0 l0 (l0.map toS) w1 (Kd.C_below HR0.out HB1.out) HC0.out (of9 HXR.out.1 HXR.out.2 (by omega)))
  go_wp2_with fail
  refine HOF.out.mono ?_
  rintro e w2 ⟨v2, rfl, hS, hb⟩
  obtain ⟨A2, c2, rfl⟩ := Kd.S_slice hS
  have hr2 := Kd.S_reads' hS
  have HB2 := Aside0.mk (HB1.out.trans (hb.mono HB1.out.size))
  clear hb HOF HB1 hS
  obtain ⟨m, hm⟩ : ∃ m, m = l0.map toS := ⟨_, rfl⟩
  rw [← hm] at hr2 ⊢
  by_cases hc : Flag.checkM (m.map toM) = 0
  case neg =>
    have HRF := Aside0.mk (refs_Refs.calls A2 c2 m [] 9 w2 hr2.2.2 hr2.2.1 (by unfold refs_Refs.f; rw [if_neg hc]))
    clear hr2 hc hm
    go_wp2_with fail
    refine HRF.out.mono ?_
    rintro e w3 ⟨v3, rfl, hR, hb⟩
    obtain ⟨A3, c3, rfl⟩ := Kd.R_slice hR
    have HB3 := Aside0.mk (HB2.out.trans (hb.mono HB2.out.size))
    clear hb hR HRF HB2
    go_wp2_with fail
    refine (flagstonelaw09_num.calls 9 9 _ rfl).mono ?_
    rintro e w4 ⟨rfl, hd⟩
    have HB4 := Aside0.mk (HB3.out.trans (drawn_below (B := w.heap.size) hd))
    clear hd HB3
    go_wp2
    go_ret
    exact ⟨rfl, HB4.out⟩
  case pos =>
    obtain ⟨r, hr⟩ : ∃ r, r = sortRefL (refsG m) := ⟨_, rfl⟩
    have HRF := Aside0.mk (refs_Refs.calls A2 c2 m r 0 w2 hr2.2.2 hr2.2.1 (by unfold refs_Refs.f; rw [if_pos hc, hr]))
    have h9 := (refs9 hc).2
    rw [← hr] at h9
    have HCK := Aside0.mk hc
    have HM := Aside0.mk hm
    have HRR := Aside0.mk hr
    clear hr2 hc hm hr
    go_wp2_with fail
    refine HRF.out.mono ?_
    rintro e w3 ⟨v3, rfl, hR, hb⟩
    obtain ⟨A3, c3, rfl⟩ := Kd.R_slice hR
    have HR3 := Aside0.mk (Kd.R_reads' hR).2
    have HB3 := Aside0.mk (HB2.out.trans (hb.mono HB2.out.size))
    obtain ⟨n, hn⟩ : ∃ n, n = r.length := ⟨_, rfl⟩
    rw [← hn] at HR3 h9 ⊢
    have HN := Aside0.mk hn
    have HN9 := Aside0.mk h9
    clear hb hR HRF HB2 hn h9
    go_wp2_with fail
    refine (flagstonelaw09_num.calls 0 0 _ rfl).mono ?_
    rintro e w4 ⟨rfl, hd⟩
    have hb4 := drawn_below (B := w3.heap.size) hd
    have HB4 := Aside0.mk (HB3.out.trans (drawn_below (B := w.heap.size) hd))
    have HR4 := Aside0.mk (Kd.C_below HR3.out.2 hb4)
    have HN3 := Aside0.mk HR3.out.1
    clear hd HB3 hb4 HR3
    by_cases hbig : n > 4096
    · have hd : decide ((4096 : Int) < (n : Int)) = true := decide_eq_true (by omega)
      clear hbig
      go_wp2
      go_ret
      exact ⟨rfl, HB4.out⟩
    have hd : decide ((4096 : Int) < (n : Int)) = false := decide_eq_false (by omega)
    have HSM := Aside0.mk hbig
    clear hbig
    go_wp2_with fail
    go_loopg [5, 6] l0.length (fun gk v5 v6 W => ∃ (i : Int) (ps : List (RawM × S86)), v6 = .int .i64 i ∧ Aside0 (0 ≤ i ∧ i + gk = l0.length) ∧ Aside0 (Gathers w (l0.take i.toNat) ps) ∧ Aside0 (Kd.R kRM 86 W w4.heap.size (fun _ => True) v5 (ps.map (·.1))) ∧ Aside0 (Below w4.heap.size w4 W))
    case atStart => exact ⟨0, [], rfl, ⟨Int.le_refl _, by simp⟩, ⟨gathers_nil w⟩, ⟨Kd.R_nil _ _ _ _ _⟩, ⟨Below.refl _ _⟩⟩
    case round =>
      obtain ⟨i, ps, rfl, HI, HGA, HO, HS⟩ := hrel
      obtain ⟨Ao, co, rfl⟩ := Kd.R_slice HO.out
      obtain ⟨no, hno⟩ : ∃ k, k = ps.length := ⟨_, rfl⟩
      rw [List.length_map, ← hno] at HO ⊢
      have HNO := Aside0.mk hno
      clear hno
      cases gk with
      | zero =>
        have hi : i = l0.length := by have := HI.out.2; omega
        have hd : decide (i < (l0.length : Int)) = false := decide_eq_false (by omega)
        have hga := HGA.out
        rw [hi, Int.toNat_natCast, List.take_length] at hga
        have HG := Aside0.mk hga
        obtain ⟨sp, hsp⟩ : ∃ s, s = someP l0 := ⟨_, rfl⟩
        obtain ⟨q, hq⟩ : ∃ s, s = sp.map toS := ⟨_, rfl⟩
        have hbk : refs_Back.f r = some (q, 0) := by
          have h1 := HM.out
          have h2 := HRR.out
          have h3 := HCK.out
          subst h1
          unfold refs_Back.f
          rw [h2, hq, hsp, again9 h3 (by rw [← h2, ← HN.out]; have := HSM.out; omega)]
        obtain ⟨k, hk⟩ : ∃ k, flagstonelaw09_Alike.f k q sp = some 0 := by
          rw [hq]
          exact Ev.rounds (alike9f sp (by have := List.length_filter_le (fun x : S86 => !x.f1.isEmpty) l0; have := HXR.out.1; rw [hsp]; show (List.filter _ l0).length < _; omega) (fun x hx => by rw [hsp] at hx; exact HXR.out.2 x (List.mem_filter.1 hx).1))
        have hcs : no = sp.length ∧ no ≤ co ∧ Kd.C k86 wr Ao no sp := by
          have h1 := Kd.R_reads' HO.out
          have h2 : Kd.C kRM wr Ao no (ps.map (·.1)) := by
            have h3 := h1.2.2
            rw [List.length_map, ← HNO.out] at h3
            exact h3
          have h4 := C_came (HB4.out.trans (HS.out.mono HB4.out.size)) h2 hga.2
          rw [hga.1, ← hsp] at h4
          exact ⟨h4.1.symm, h1.2.1, h4⟩
        have hbc := refs_Back.calls A3 c3 r q 0 wr (by rw [← HN.out]; exact Kd.C_below HR4.out HS.out) (by rw [← HN.out]; exact HN3.out) hbk
        rw [← HN.out] at hbc
        have HBC := Aside0.mk hbc
        have HCS := Aside0.mk hcs
        have HAK := Aside0.mk hk
        have HB5 := Aside0.mk (HB4.out.trans (HS.out.mono HB4.out.size))
        clear hi hga hbk hbc hcs hk hsp hq HB4 HS HO HGA HM HRR HCK
        go_wp2_with fail
        refine HBC.out.mono ?_
        rintro e w6 ⟨v6, rfl, hR, hb⟩
        obtain ⟨A6, c6, rfl⟩ := Kd.R_slice hR
        obtain ⟨nq, hnq⟩ : ∃ k, k = q.length := ⟨_, rfl⟩
        rw [← hnq] at hR ⊢
        have HR6 := Aside0.mk (Kd.R_reads' hR)
        have HCS6 := Aside0.mk (Kd.C_below HCS.out.2.2 hb)
        have HB6 := Aside0.mk (HB5.out.trans (hb.mono HB5.out.size))
        clear hb hR HBC hnq
        go_wp2_with fail
        refine (flagstonelaw09_num.calls 0 0 _ rfl).mono ?_
        rintro e w7 ⟨rfl, hd7⟩
        have hb7 := drawn_below (B := w6.heap.size) hd7
        have HB7 := Aside0.mk (HB6.out.trans (drawn_below (B := w.heap.size) hd7))
        have hal : Calls Try.prog 74 #[.slice A6 nq c6, .slice Ao no co] w7 fun e w' => e = .returned (.int .i64 0) ∧ Drawn0 w7 w' := by
          have h1 := HR6.out.1
          have h2 := HCS.out.1
          have h3 := HR6.out.2
          have h4 := HCS6.out
          have h5 := HCS.out.2.1
          rw [h1] at h3 ⊢
          rw [h2] at h4 h5 ⊢
          exact flagstonelaw09_Alike.calls k A6 c6 q Ao co sp 0 w7 (Kd.C_below h3.2 hb7) h3.1 (Kd.C_below h4 hb7) h5 HAK.out
        have HAL := Aside0.mk hal
        clear hd7 hb7 hal
        go_wp2_with fail
        refine HAL.out.mono ?_
        rintro e w8 ⟨rfl, hd8⟩
        have HB8 := Aside0.mk (HB7.out.trans (drawn_below (B := w.heap.size) hd8))
        clear hd8
        go_wp2
        go_ret
        exact ⟨rfl, HB8.out⟩
      | succ k1 =>
        have hp0 : 0 ≤ i := HI.out.1
        have hp1 : i < (l0.length : Int) := by have := HI.out.2; omega
        have hd : decide (i < (l0.length : Int)) = true := decide_eq_true hp1
        have hB := HB4.out.trans (HS.out.mono HB4.out.size)
        obtain ⟨ad, A1, c1, e3, g0, g1, g2, g3⟩ := at_T86 HR0.out i hp0 hp1
        cases e3
        replace g0 := (hB.cell (World.block_lt_of_cell? w _ g0)).trans g0
        replace g1 := (hB.cell (World.block_lt_of_cell? w _ g1)).trans g1
        obtain ⟨x, hx⟩ : ∃ x, x = rd_T86 l0 i := ⟨_, rfl⟩
        rw [← hx] at g0 g1 g2 g3
        have hst : l0.take (i + 1).toNat = l0.take i.toNat ++ [x] := by
          have h3 : (i + 1).toNat = i.toNat + 1 := by omega
          have h4 : i.toNat < l0.length := by omega
          have h5 : x = l0[i.toNat] := by rw [hx]; unfold rd_T86; rw [List.getD_eq_getElem?_getD, List.getElem?_eq_getElem h4]; rfl
          rw [h3, List.take_succ_eq_append_getElem h4, ← h5]
        have HST := Aside0.mk hst
        have HP := Aside0.mk (And.intro hp0 hp1)
        have HC3 := Aside0.mk (And.intro g2 g3)
        have HLL := Aside0.mk (show (i : Int) < 4398046511104 by have := HXR.out.1; omega)
        clear hx hst hB g2 g3
        obtain ⟨nx, hnx⟩ : ∃ k, k = x.f1.length := ⟨_, rfl⟩
        rw [← hnx] at g1
        have HNX := Aside0.mk hnx
        clear hnx
        by_cases hz : 0 < nx
        · have hdz : decide ((0 : Int) < (nx : Int)) = true := decide_eq_true (by omega)
          have hdz2 : decide (0 < nx) = true := decide_eq_true hz
          have HGT := Aside0.mk (show Gathers w (l0.take (i + 1).toNat) (ps ++ [(⟨x.f0, A1, nx, c1⟩, x)]) by
            rw [HST.out, HNX.out]
            exact HGA.out.take (by rw [← HNX.out]; exact hz) HC3.out.1 HC3.out.2)
          have HLP := Aside0.mk (show ps.length < 4398046511104 by have h1 := HGA.out.len; rw [List.length_take] at h1; have := HXR.out.1; omega)
          clear hz
          go_wp2_with (first | ((with_reducible refine gate_builtin (b := .append) (xs := #[.tmp 39, .tmp 44]) rfl ?_); at_builtin; refine Kd.R_append kRM (w0 := w4) w4.heap.size rfl (.tmp 39) (.tmp 44) 79 86 (.agg #[(.int .i64 0), (.slice none 0 0)]) 32 rfl Try.underlying79 info86 rfl (by decide) (by omega) (.slice Ao no co) (ps.map (·.1)) (⟨x.f0, A1, nx, c1⟩ : RawM) [.int .i64 x.f0, .slice A1 nx c1] (fun _ => True) (fun _ => False) rfl (by first | (go_simp; done) | (go_simp; rfl)) ?aP (fun _ hk => hk.elim) ?aF ?aO ?aB ?aS ?aL ?_; (case aP => exact flatRM.mkM _ _ _ (⟨x.f0, A1, nx, c1⟩ : RawM)); (case aF => exact fun _ _ => trivial); (case aO => exact HO.out); (case aB => exact HS.out); (case aS => exact HS.out.size); (case aL => rw [List.length_map]; have := HLP.out; omega); intro v1 w8 ho hb hg hat; have HO8 := Aside0.mk ho; have HB8 := Aside0.mk hb; clear ho hb hg hat))
          go_roundg k1
          case measure => omega
          case rel =>
            have hwi : wrap64 (i + 1) = i + 1 := w64 (by have := HP.out.1; have := HLL.out; omega)
            refine ⟨i + 1, ps ++ [(⟨x.f0, A1, nx, c1⟩, x)], by first | rw [hwi] | rfl | go_num, ⟨by have := HP.out.1; omega, by have := HI.out.2; omega⟩, ⟨HGT.out⟩, ⟨by rw [List.map_append]; exact HO8.out⟩, ⟨HB8.out⟩⟩
        · have hdz : decide ((0 : Int) < (nx : Int)) = false := decide_eq_false (by omega)
          have hdz2 : decide (0 < nx) = false := decide_eq_false hz
          have HGT := Aside0.mk (show Gathers w (l0.take (i + 1).toNat) ps by
            rw [HST.out]
            exact HGA.out.skip (by rw [← HNX.out]; omega))
          clear hz
          go_wp2_with fail
          go_roundg k1
          case measure => omega
          case rel =>
            have hwi : wrap64 (i + 1) = i + 1 := w64 (by have := HP.out.1; have := HLL.out; omega)
            refine ⟨i + 1, ps, by first | rw [hwi] | rfl | go_num, ⟨by have := HP.out.1; omega, by have := HI.out.2; omega⟩, ⟨HGT.out⟩, ⟨by first | exact HO.out | (rw [HNO.out, ← List.length_map (f := (·.1))] at *; exact HO.out)⟩, ⟨HS.out⟩⟩
theorem refsAgain_row (l : List S86) (y : l.length * 32 ≤ 140737488351232) (z : ∀ x ∈ l, x.f1.length * 24 ≤ 140737488351232) : flagstonelaw09_RefsAgain.f l = some true := by
  unfold flagstonelaw09_RefsAgain.f
  rw [if_pos ⟨by omega, fun x hx => by have := z x hx; omega⟩]
def flagstonelaw09_RefsOwn.f (l : List S86) : Option Bool := if l.length < 4398046511104 ∧ ∀ x ∈ l, x.f1.length < 5864062014805 then some true else none
set_option maxHeartbeats 8000000 in
set_option maxRecDepth 100000 in
theorem flagstonelaw09_RefsOwn.calls (A0 : Option Addr) (c0 : Nat) (l0 : List (S86)) (r : Bool) (w : World) (hr0 : Kd.C k86 w A0 l0.length l0) (hc0 : l0.length ≤ c0) (h : flagstonelaw09_RefsOwn.f l0 = some r) :
    Calls Try.prog 22 #[.slice A0 l0.length c0] w fun e w' => e = .returned (.bool r) ∧ Below w.heap.size w w' := by
  have hu86 := Try.underlying86
  unfold flagstonelaw09_RefsOwn.f at h
  split at h
  case isFalse => cases h
  rename_i hxr
  obtain rfl := Option.some.inj h
  have HAL := Aside0.mk (flagstonelaw09_alive.calls true w alive9)
  have HR0 := Aside0.mk hr0
  have HC0 := Aside0.mk hc0
  have HXR := Aside0.mk hxr
  clear hr0 hc0 hxr h
  go_enter Try.func22, Try.ntmps22
  go_wp2_with fail
  refine HAL.out.mono ?_
  rintro e w1 ⟨rfl, hb⟩
  have HB1 := Aside0.mk hb
  clear hb HAL
  have HOF := Aside0.mk (flagstonelaw09_Of.calls (l0.length + 1) A0 c0 l0 (l0.map toS) w1 (Kd.C_below HR0.out HB1.out) HC0.out (of9 HXR.out.1 HXR.out.2 (by omega)))
  go_wp2_with fail
  refine HOF.out.mono ?_
  rintro e w2 ⟨v2, rfl, hS, hb⟩
  obtain ⟨A2, c2, rfl⟩ := Kd.S_slice hS
  have hr2 := Kd.S_reads' hS
  have HB2 := Aside0.mk (HB1.out.trans (hb.mono HB1.out.size))
  clear hb HOF HB1 hS
  obtain ⟨m, hm⟩ : ∃ m, m = l0.map toS := ⟨_, rfl⟩
  rw [← hm] at hr2 ⊢
  by_cases hc : Flag.checkM (m.map toM) = 0
  case neg =>
    have HRF := Aside0.mk (refs_Refs.calls A2 c2 m [] 9 w2 hr2.2.2 hr2.2.1 (by unfold refs_Refs.f; rw [if_neg hc]))
    clear hr2 hc hm
    go_wp2_with fail
    refine HRF.out.mono ?_
    rintro e w3 ⟨v3, rfl, hR, hb⟩
    obtain ⟨A3, c3, rfl⟩ := Kd.R_slice hR
    have HB3 := Aside0.mk (HB2.out.trans (hb.mono HB2.out.size))
    clear hb hR HRF HB2
    go_wp2_with fail
    refine (flagstonelaw09_num.calls 9 9 _ rfl).mono ?_
    rintro e w4 ⟨rfl, hd⟩
    have HB4 := Aside0.mk (HB3.out.trans (drawn_below (B := w.heap.size) hd))
    clear hd HB3
    go_wp2_with fail
    refine (flagstonelaw09_num.calls 9 9 _ rfl).mono ?_
    rintro e w5 ⟨rfl, hd⟩
    have HB5 := Aside0.mk (HB4.out.trans (drawn_below (B := w.heap.size) hd))
    clear hd HB4
    go_wp2
    go_ret
    exact ⟨rfl, HB5.out⟩
  case pos =>
    obtain ⟨r, hr⟩ : ∃ r, r = sortRefL (refsG m) := ⟨_, rfl⟩
    have HRF := Aside0.mk (refs_Refs.calls A2 c2 m r 0 w2 hr2.2.2 hr2.2.1 (by unfold refs_Refs.f; rw [if_pos hc, hr]))
    have h9 := (refs9 hc).2
    rw [← hr] at h9
    have HCK := Aside0.mk hc
    have HM := Aside0.mk hm
    have HRR := Aside0.mk hr
    clear hr2 hc hm hr
    go_wp2_with fail
    refine HRF.out.mono ?_
    rintro e w3 ⟨v3, rfl, hR, hb⟩
    obtain ⟨A3, c3, rfl⟩ := Kd.R_slice hR
    have HR3 := Aside0.mk (Kd.R_reads' hR).2
    have HL3' := hR
    have HBy := Aside0.mk hb
    have HB3 := Aside0.mk (HB2.out.trans (hb.mono HB2.out.size))
    obtain ⟨n, hn⟩ : ∃ n, n = r.length := ⟨_, rfl⟩
    rw [← hn] at HR3 h9 HL3' ⊢
    have HL3 := Aside0.mk HL3'
    clear HL3'
    have HN := Aside0.mk hn
    have HN9 := Aside0.mk h9
    clear hb hR HRF hn h9
    go_wp2_with fail
    refine (flagstonelaw09_num.calls 0 0 _ rfl).mono ?_
    rintro e w4 ⟨rfl, hd⟩
    have hb4 := drawn_below (B := w3.heap.size) hd
    have HB4 := Aside0.mk (HB3.out.trans (drawn_below (B := w.heap.size) hd))
    have HR4 := Aside0.mk (Kd.C_below HR3.out.2 hb4)
    have HN3 := Aside0.mk HR3.out.1
    have HL4 := Aside0.mk (Kd.R_below HL3.out hb4)
    have HBz := Aside0.mk (HBy.out.trans (drawn_below (B := w2.heap.size) hd))
    clear hd HB3 hb4 HR3 HL3 HBy
    by_cases hbig : n > 4096
    · have hd : decide ((4096 : Int) < (n : Int)) = true := decide_eq_true (by omega)
      clear hbig
      go_wp2_with fail
      refine (flagstonelaw09_num.calls 0 0 _ rfl).mono ?_
      rintro e w5 ⟨rfl, hd5⟩
      have HB5 := Aside0.mk (HB4.out.trans (drawn_below (B := w.heap.size) hd5))
      clear hd5
      go_wp2
      go_ret
      exact ⟨rfl, HB5.out⟩
    have hd : decide ((4096 : Int) < (n : Int)) = false := decide_eq_false (by omega)
    obtain ⟨sp, hsp⟩ : ∃ s, s = someP l0 := ⟨_, rfl⟩
    obtain ⟨q, hq⟩ : ∃ s, s = sp.map toS := ⟨_, rfl⟩
    have hbk : refs_Back.f r = some (q, 0) := by
      have h1 := HM.out
      have h2 := HRR.out
      have h3 := HCK.out
      subst h1
      unfold refs_Back.f
      rw [h2, hq, hsp, again9 h3 (by rw [← h2, ← HN.out]; omega)]
    obtain ⟨k, hk⟩ : ∃ k, flagstonelaw09_Alike.f k q sp = some 0 := by
      rw [hq]
      exact Ev.rounds (alike9f sp (by have := List.length_filter_le (fun x : S86 => !x.f1.isEmpty) l0; have := HXR.out.1; rw [hsp]; show (List.filter _ l0).length < _; omega) (fun x hx => by rw [hsp] at hx; exact HXR.out.2 x (List.mem_filter.1 hx).1))
    have hbc := refs_Back.calls A3 c3 r q 0 w4 (by rw [← HN.out]; exact HR4.out) (by rw [← HN.out]; exact HN3.out) hbk
    rw [← HN.out] at hbc
    have HBC := Aside0.mk hbc
    have HAK := Aside0.mk hk
    have HSP := Aside0.mk hsp
    clear hbig hbk hbc hk hsp hq HM HRR HCK HR4
    go_wp2_with fail
    refine HBC.out.mono ?_
    rintro e w5 ⟨v5, rfl, hR, hb⟩
    obtain ⟨A6, c6, rfl⟩ := Kd.R_slice hR
    obtain ⟨nq, hnq⟩ : ∃ k, k = q.length := ⟨_, rfl⟩
    rw [← hnq] at hR ⊢
    have HA5 := Aside0.mk hR
    have HL5 := Aside0.mk (Kd.R_below HL4.out hb)
    have HBw := Aside0.mk (HBz.out.trans (hb.mono HBz.out.size))
    have HS4 := Aside0.mk (show w2.heap.size ≤ w4.heap.size from HBz.out.size)
    have HLT := Aside0.mk (show ∀ g, (Value.slice A3 n c3).ownBlock = some g → g < w4.heap.size from fun g h => Kd.R_lt HL4.out g h)
    clear hb hR HBC hnq HB4 HL4 HBz hd
    go_wp2_with fail
    go_loopg [7] n (fun gk v7 W => ∃ (i : Int) (l' : List S88), v7 = .int .i64 i ∧ Aside0 (0 ≤ i ∧ i + gk = n) ∧ Aside0 (Kd.R k88 88 W w2.heap.size (fun _ => True) (.slice A3 n c3) l') ∧ Aside0 (Below w2.heap.size w2 W) ∧ Aside0 (w5.heap.size ≤ W.heap.size ∧ ∀ k, w4.heap.size ≤ k → k < w5.heap.size → W.heap[k]? = w5.heap[k]?))
    case atStart => exact ⟨0, r, rfl, ⟨Int.le_refl _, by simp⟩, ⟨HL5.out⟩, ⟨HBw.out⟩, ⟨Nat.le_refl _, fun _ _ _ => rfl⟩⟩
    case round =>
     obtain ⟨i, l', rfl, HI, HL, HBl, HKP⟩ := hrel
     cases gk with
     | succ k1 =>
       have hp0 : 0 ≤ i := HI.out.1
       have hp1 : i < (n : Int) := by have := HI.out.2; omega
       have hd : decide (i < (n : Int)) = true := decide_eq_true hp1
       have hnl : n = l'.length := (Kd.R_reads' HL.out).1
       obtain ⟨g, cg, hv, _⟩ := Kd.R_form HL.out (by omega)
       injection hv with hv1 hv2 hv3
       subst hv1
       obtain ⟨ce, hcl, _, hcc, hfz⟩ := Kd.R_elem HL.out z88 i hp0 hp1
       have HCE := Aside0.mk (And.intro hcl hcc)
       have HG := Aside0.mk (show g < w4.heap.size from HLT.out g rfl)
       have HP := Aside0.mk (And.intro hp0 hp1)
       have HN4 := Aside0.mk (show (n : Int) ≤ 9216 by have := HN9.out; omega)
       clear hnl hv2 hv3 hcl hcc hfz
       go_wp2_with ((with_reducible refine gate_ (.store 88 (.tmp 48) (.tmp 47)) rfl ?_); refine Kd.R_store k88 (w0 := w2) (W := wr) w2.heap.size rfl rfl 88 (.tmp 48) (.tmp 47) rfl 88 i 0 l' (⟨0, 0, 0, 0⟩ : S88) (.agg #[.int .i64 0, .int .i64 0, .int .i64 0, .int .i64 0]) [.int .i64 0, .int .i64 0, .int .i64 0, .int .i64 0] ce (fun _ => True) (fun _ => False) rfl ?hoff rfl rfl (by kernel_rfl) (by simp [Value.oneCell']) HL.out HP.out.1 HP.out.2 HCE.out.1 HCE.out.2 (Nat.le_refl 4) ?mk (fun _ hk => hk.elim) HBl.out ?_; (case hoff => first | rfl | (simp; done)); (case mk => have h4 := HCE.out.1; have h5 : ce.drop (0 + 4) = [] := List.drop_of_length_le (by rw [h4]; exact Nat.le_refl 4); show Kd.M k88 _ _ _ _ (ce.take 0 ++ _ ++ ce.drop (0 + 4)); rw [h5]; exact k88_mkM _ _ _ (⟨0, 0, 0, 0⟩ : S88)); intro w7 hO7 hB7 hG7; have HO7 := Aside0.mk hO7; have HB7 := Aside0.mk hB7; have HG7 := Aside0.mk hG7; clear hO7 hB7 hG7)
       go_roundg k1
       case measure => omega
       case rel =>
         have hwi : wrap64 (i + 1) = i + 1 := w64 (by have := HP.out; have := HN4.out; omega)
         refine ⟨i + 1, _, by first | rw [hwi] | rfl | go_num, ⟨by have := HP.out.1; omega, by have := HI.out.2; omega⟩, ⟨HO7.out⟩, ⟨HB7.out⟩, ⟨Nat.le_trans HKP.out.1 HG7.out.size, fun k h1 h2 => ?_⟩⟩
         rw [← HKP.out.2 k h1 h2]
         refine HG7.out.block k (Nat.lt_of_lt_of_le h2 HKP.out.1) (fun he => ?_)
         have h3 := HG.out
         have h4 : k = g := Option.some.inj he
         omega
     | zero =>
      have hi : i = n := by have := HI.out.2; omega
      have hd : decide (i < (n : Int)) = false := decide_eq_false (by omega)
      have HA := Aside0.mk (show Kd.R k94 94 wr w4.heap.size (fun _ => True) (.slice A6 nq c6) q from Kd.R_mono (Kd.R_move (Kd.R_bound HA5.out) (fun k hk => HKP.out.2 k hk.2.1 hk.2.2.1)) (fun _ _ => trivial))
      have HB4 := Aside0.mk (show Below w.heap.size w wr from HB2.out.trans (HBl.out.mono HB2.out.size))
      obtain ⟨wl, hwl⟩ : ∃ W, W = wr := ⟨_, rfl⟩
      rw [← hwl] at HA HB4 ⊢
      clear hi HL HBl HKP HA5 HL5 HBw HS4 HLT hwl
      go_wp2_with fail
      go_loopg [8, 9] l0.length (fun gk v5 v6 W => ∃ (i : Int) (ps : List (RawM × S86)), v6 = .int .i64 i ∧ Aside0 (0 ≤ i ∧ i + gk = l0.length) ∧ Aside0 (Gathers w (l0.take i.toNat) ps) ∧ Aside0 (Kd.R kRM 86 W wl.heap.size (fun _ => True) v5 (ps.map (·.1))) ∧ Aside0 (Below wl.heap.size wl W))
      case atStart => exact ⟨0, [], rfl, ⟨Int.le_refl _, by simp⟩, ⟨gathers_nil w⟩, ⟨Kd.R_nil _ _ _ _ _⟩, ⟨Below.refl _ _⟩⟩
      case round =>
       obtain ⟨i, ps, rfl, HI, HGA, HO, HS⟩ := hrel
       obtain ⟨Ao, co, rfl⟩ := Kd.R_slice HO.out
       obtain ⟨no, hno⟩ : ∃ k, k = ps.length := ⟨_, rfl⟩
       rw [List.length_map, ← hno] at HO ⊢
       have HNO := Aside0.mk hno
       clear hno
       cases gk with
       | zero =>
        have hi : i = l0.length := by have := HI.out.2; omega
        have hd : decide (i < (l0.length : Int)) = false := decide_eq_false (by omega)
        have hga := HGA.out
        rw [hi, Int.toNat_natCast, List.take_length] at hga
        have hcs : no = sp.length ∧ no ≤ co ∧ Kd.C k86 wr Ao no sp := by
          have h1 := Kd.R_reads' HO.out
          have h2 : Kd.C kRM wr Ao no (ps.map (·.1)) := by
            have h3 := h1.2.2
            rw [List.length_map, ← HNO.out] at h3
            exact h3
          have h4 := C_came (HB4.out.trans (HS.out.mono HB4.out.size)) h2 hga.2
          rw [hga.1, ← HSP.out] at h4
          exact ⟨h4.1.symm, h1.2.1, h4⟩
        have HCS := Aside0.mk hcs
        have HR6 := Aside0.mk (show nq = q.length ∧ nq ≤ c6 ∧ Kd.C k94 wr A6 q.length q from ⟨(Kd.R_reads' HA.out).1, (Kd.R_reads' HA.out).2.1, Kd.C_below (Kd.R_reads' HA.out).2.2 HS.out⟩)
        have HB6 := Aside0.mk (HB4.out.trans (HS.out.mono HB4.out.size))
        clear hi hga hcs HB4 HS HO HGA HA
        go_wp2_with fail
        refine (flagstonelaw09_num.calls 0 0 _ rfl).mono ?_
        rintro e w7 ⟨rfl, hd7⟩
        have hb7 := drawn_below (B := wr.heap.size) hd7
        have HB7 := Aside0.mk (HB6.out.trans (drawn_below (B := w.heap.size) hd7))
        have hal : Calls Try.prog 74 #[.slice A6 nq c6, .slice Ao no co] w7 fun e w' => e = .returned (.int .i64 0) ∧ Drawn0 w7 w' := by
          have h1 := HR6.out.1
          have h2 := HCS.out.1
          have h3 := HR6.out.2
          have h4 := HCS.out.2.2
          have h5 := HCS.out.2.1
          rw [h1] at h3 ⊢
          rw [h2] at h4 h5 ⊢
          exact flagstonelaw09_Alike.calls k A6 c6 q Ao co sp 0 w7 (Kd.C_below h3.2 hb7) h3.1 (Kd.C_below h4 hb7) h5 HAK.out
        have HAL := Aside0.mk hal
        clear hd7 hb7 hal
        go_wp2_with fail
        refine HAL.out.mono ?_
        rintro e w8 ⟨rfl, hd8⟩
        have HB8 := Aside0.mk (HB7.out.trans (drawn_below (B := w.heap.size) hd8))
        clear hd8
        go_wp2
        go_ret
        exact ⟨rfl, HB8.out⟩
       | succ k1 =>
        have hp0 : 0 ≤ i := HI.out.1
        have hp1 : i < (l0.length : Int) := by have := HI.out.2; omega
        have hd : decide (i < (l0.length : Int)) = true := decide_eq_true hp1
        have hB := HB4.out.trans (HS.out.mono HB4.out.size)
        obtain ⟨ad, A1, c1, e3, g0, g1, g2, g3⟩ := at_T86 HR0.out i hp0 hp1
        cases e3
        replace g0 := (hB.cell (World.block_lt_of_cell? w _ g0)).trans g0
        replace g1 := (hB.cell (World.block_lt_of_cell? w _ g1)).trans g1
        obtain ⟨x, hx⟩ : ∃ x, x = rd_T86 l0 i := ⟨_, rfl⟩
        rw [← hx] at g0 g1 g2 g3
        have hst : l0.take (i + 1).toNat = l0.take i.toNat ++ [x] := by
          have h3 : (i + 1).toNat = i.toNat + 1 := by omega
          have h4 : i.toNat < l0.length := by omega
          have h5 : x = l0[i.toNat] := by rw [hx]; unfold rd_T86; rw [List.getD_eq_getElem?_getD, List.getElem?_eq_getElem h4]; rfl
          rw [h3, List.take_succ_eq_append_getElem h4, ← h5]
        have HST := Aside0.mk hst
        have HP := Aside0.mk (And.intro hp0 hp1)
        have HC3 := Aside0.mk (And.intro g2 g3)
        have HLL := Aside0.mk (show (i : Int) < 4398046511104 by have := HXR.out.1; omega)
        clear hx hst hB g2 g3
        obtain ⟨nx, hnx⟩ : ∃ k, k = x.f1.length := ⟨_, rfl⟩
        rw [← hnx] at g1
        have HNX := Aside0.mk hnx
        clear hnx
        by_cases hz : 0 < nx
        · have hdz : decide ((0 : Int) < (nx : Int)) = true := decide_eq_true (by omega)
          have hdz2 : decide (0 < nx) = true := decide_eq_true hz
          have HGT := Aside0.mk (show Gathers w (l0.take (i + 1).toNat) (ps ++ [(⟨x.f0, A1, nx, c1⟩, x)]) by
            rw [HST.out, HNX.out]
            exact HGA.out.take (by rw [← HNX.out]; exact hz) HC3.out.1 HC3.out.2)
          have HLP := Aside0.mk (show ps.length < 4398046511104 by have h1 := HGA.out.len; rw [List.length_take] at h1; have := HXR.out.1; omega)
          clear hz
          go_wp2_with (first | ((with_reducible refine gate_builtin (b := .append) (xs := #[.tmp 62, .tmp 67]) rfl ?_); at_builtin; refine Kd.R_append kRM (w0 := wl) wl.heap.size rfl (.tmp 62) (.tmp 67) 79 86 (.agg #[(.int .i64 0), (.slice none 0 0)]) 32 rfl Try.underlying79 info86 rfl (by decide) (by omega) (.slice Ao no co) (ps.map (·.1)) (⟨x.f0, A1, nx, c1⟩ : RawM) [.int .i64 x.f0, .slice A1 nx c1] (fun _ => True) (fun _ => False) rfl (by first | (go_simp; done) | (go_simp; rfl)) ?aP (fun _ hk => hk.elim) ?aF ?aO ?aB ?aS ?aL ?_; (case aP => exact flatRM.mkM _ _ _ (⟨x.f0, A1, nx, c1⟩ : RawM)); (case aF => exact fun _ _ => trivial); (case aO => exact HO.out); (case aB => exact HS.out); (case aS => exact HS.out.size); (case aL => rw [List.length_map]; have := HLP.out; omega); intro v1 w8 ho hb hg hat; have HO8 := Aside0.mk ho; have HB8 := Aside0.mk hb; clear ho hb hg hat))
          go_roundg k1
          case measure => omega
          case rel =>
            have hwi : wrap64 (i + 1) = i + 1 := w64 (by have := HP.out.1; have := HLL.out; omega)
            refine ⟨i + 1, ps ++ [(⟨x.f0, A1, nx, c1⟩, x)], by first | rw [hwi] | rfl | go_num, ⟨by have := HP.out.1; omega, by have := HI.out.2; omega⟩, ⟨HGT.out⟩, ⟨by rw [List.map_append]; exact HO8.out⟩, ⟨HB8.out⟩⟩
        · have hdz : decide ((0 : Int) < (nx : Int)) = false := decide_eq_false (by omega)
          have hdz2 : decide (0 < nx) = false := decide_eq_false hz
          have HGT := Aside0.mk (show Gathers w (l0.take (i + 1).toNat) ps by
            rw [HST.out]
            exact HGA.out.skip (by rw [← HNX.out]; omega))
          clear hz
          go_wp2_with fail
          go_roundg k1
          case measure => omega
          case rel =>
            have hwi : wrap64 (i + 1) = i + 1 := w64 (by have := HP.out.1; have := HLL.out; omega)
            refine ⟨i + 1, ps, by first | rw [hwi] | rfl | go_num, ⟨by have := HP.out.1; omega, by have := HI.out.2; omega⟩, ⟨HGT.out⟩, ⟨by first | exact HO.out | (rw [HNO.out, ← List.length_map (f := (·.1))] at *; exact HO.out)⟩, ⟨HS.out⟩⟩
theorem refsOwn_row (l : List S86) (y : l.length * 32 ≤ 140737488351232) (z : ∀ x ∈ l, x.f1.length * 24 ≤ 140737488351232) : flagstonelaw09_RefsOwn.f l = some true := by
  unfold flagstonelaw09_RefsOwn.f
  rw [if_pos ⟨by omega, fun x hx => by have := z x hx; omega⟩]
end Go.Proofs.Ytkkfkdncddbaeaa.Fn
