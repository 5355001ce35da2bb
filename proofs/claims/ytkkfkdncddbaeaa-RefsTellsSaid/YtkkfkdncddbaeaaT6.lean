/- Part 6 of the walk: printed by programs of this session (by way of the kit's print) or told by hand. -/
import Derived.Test.YtkkfkdncddbaeaaT5
import Derived.Shelf.SlSortCmp.WholeK
import Derived.Shelf.SlSortCmp.NoneTotal
import Derived.Deep.RegionLaw
import Derived.StillTailTactics
import Derived.IntWalk
import Derived.Sort.LotD2
import Derived.Shelf.SlSortCmp.KitK
import Derived.Sort.WalkB2
import Derived.Sort.WalkB12
import Derived.Shelf.SlSortCmp.PdqK
import Derived.Shelf.SlicesQ.IndexFunc
namespace Go.Proofs.Ytkkfkdncddbaeaa.Fn
open Go.RowKit Go.Proofs.YtkkfkdncddbaeaaW.PrintWords Go.Proofs.YtkkfkdncddbaeaaW.PrintLast Go.Proofs.YtkkfkdncddbaeaaW.PrintMore
attribute [local go_sem] max2_int min2_int max_two min_two max_three min_three max_four min_four
set_option linter.unusedVariables false
set_option linter.unusedSimpArgs false
structure Flat {α : Type} (d : Kd α) (enc : α → List Value) : Prop where
  len : ∀ x, (enc x).length = d.sz
  pos : 0 < d.sz
  one : ∀ x, ∀ v ∈ enc x, v.oneCell' = true
  openM : ∀ {w : World} {base : Nat} {ok : Nat → Prop} {x : α} {cs : List Value}, d.M w base ok x cs → cs = enc x
  mkM : ∀ (w : World) (base : Nat) (ok : Nat → Prop) (x : α), d.M w base ok x (enc x)
def Lies {α : Type} (enc : α → List Value) (k e : Nat) (w : World) (g cap : Nat) (xs : List α) : Prop :=
  ∃ cur : Array Value, w.heap[g]? = some (.cells cur e (0, 0)) ∧ cur.size = cap * k ∧ xs.length ≤ cap ∧ cap ≤ maxLen ∧
    ∀ j x, xs[j]? = some x → ∀ i v, (enc x)[i]? = some v → cur[j * k + i]? = some v
section
variable {α : Type} {d : Kd α} {enc : α → List Value} {e : Nat} {w : World} {base : Nat} {ok : Nat → Prop} {v : Value} {xs : List α}
theorem R_lies (F : Flat d enc) (h : d.R e w base ok v xs) : (v = .slice none 0 0 ∧ xs = []) ∨ ∃ g cap, v = .slice (some ⟨g, 0, none⟩) xs.length cap ∧ base ≤ g ∧ ok g ∧ Lies enc d.sz e w g cap xs := by
  obtain ⟨hok, inner, ⟨hlen, hown⟩, hr⟩ := h
  rcases hown with ⟨h1, h2⟩ | ⟨g, cap, cur, h1, hb, hh, h2, h3, h4, h5⟩
  · exact .inl ⟨h1, List.eq_nil_of_length_eq_zero h2⟩
  · subst h1
    refine .inr ⟨g, cap, rfl, hb, hok g rfl, cur, hh, h4, h2, h3, fun j x hj i u hu => ?_⟩
    have h6 := F.openM (hr.2 j x hj)
    have hi : i < d.sz := by
      have := (List.getElem?_eq_some_iff.1 hu).1
      rw [F.len] at this
      exact this
    rw [← h6, List.getElem?_take_of_lt hi, List.getElem?_drop, ← h5] at hu
    have h7 := (List.getElem?_eq_some_iff.1 hu).1
    rw [List.length_take] at h7
    rw [List.getElem?_take_of_lt (by omega), Array.getElem?_toList] at hu
    exact hu
theorem R_of_lies (F : Flat d enc) {g cap : Nat} (hb : base ≤ g) (hg : ok g) (h : Lies enc d.sz e w g cap xs) : d.R e w base ok (.slice (some ⟨g, 0, none⟩) xs.length cap) xs := by
  obtain ⟨cur, hh, h1, h2, h3, h4⟩ := h
  have hle : xs.length * d.sz ≤ cur.size := by rw [h1]; exact Nat.mul_le_mul_right _ h2
  refine ⟨fun k hk => ?_, cur.toList.take (xs.length * d.sz), ⟨?_, .inr ⟨g, cap, cur, rfl, hb, hh, h2, h3, h1, rfl⟩⟩, ?_, fun j p hj => ?_⟩
  · have : g = k := by simpa [Value.ownBlock] using hk
    rw [← this]; exact hg
  · rw [List.length_take, Array.length_toList]; exact Nat.min_eq_left hle
  · rw [List.length_take, Array.length_toList]; exact Nat.min_eq_left hle
  · have hjl : j < xs.length := (List.getElem?_eq_some_iff.1 hj).1
    have he : ((cur.toList.take (xs.length * d.sz)).drop (j * d.sz)).take d.sz = enc p := by
      apply List.ext_getElem?
      intro i
      by_cases hi : i < d.sz
      · have hm : j * d.sz + i < xs.length * d.sz := by
          have : (j + 1) * d.sz ≤ xs.length * d.sz := Nat.mul_le_mul_right _ hjl
          rw [Nat.add_mul, Nat.one_mul] at this
          omega
        rw [List.getElem?_take_of_lt hi, List.getElem?_drop, List.getElem?_take_of_lt hm, Array.getElem?_toList]
        have hl : i < (enc p).length := by rw [F.len]; exact hi
        rw [List.getElem?_eq_getElem hl]
        exact h4 j p hj i _ (List.getElem?_eq_getElem hl)
      · rw [List.getElem?_eq_none (by rw [List.length_take]; omega), List.getElem?_eq_none (by rw [F.len]; omega)]
    rw [he]
    exact F.mkM _ _ _ _
theorem R_new_nil (d : Kd α) (e : Nat) (w : World) (base : Nat) (ok : Nat → Prop) (hb : base ≤ w.heap.size) (hok : ok w.heap.size) : d.R e (w.alloc (.cells #[] e)) base ok (.slice (some ⟨w.heap.size, 0, none⟩) 0 0) [] := by
  refine ⟨fun k hk => ?_, [], ⟨by simp, .inr ⟨w.heap.size, 0, #[], rfl, hb, blk_new w _, Nat.le_refl _, by unfold maxLen; omega, by simp, by simp⟩⟩, Reps.none _ _⟩
  have : w.heap.size = k := by simpa [Value.ownBlock] using hk
  rw [← this]; exact hok
theorem Lies.block {k g cap : Nat} (h : Lies enc k e w g cap xs) : g < w.heap.size := by
  obtain ⟨cur, hh, _⟩ := h
  exact blk_lt hh
theorem Lies.far {k g cap : Nat} {w1 : World} (h : Lies enc k e w g cap xs) (hk : w1.heap[g]? = w.heap[g]?) : Lies enc k e w1 g cap xs := by
  obtain ⟨cur, hh, h2⟩ := h
  exact ⟨cur, hk.trans hh, h2⟩
open Go.Sort Go.Proofs in
theorem Lies.holds [Inhabited α] {k g cap : Nat} (hk : ∀ x, (enc x).length = k) (h0 : 0 < k) (h : Lies enc k e w g cap xs) : HoldsK enc k w g 0 xs.toArray := by
  obtain ⟨cur, hh, h1, h2, h3, h4⟩ := h
  intro j hj
  rw [size_flatK] at hj
  have hjk : j / k < xs.length := by
    rw [Nat.div_lt_iff_lt_mul h0]
    simpa using hj
  have hm : j % k < k := Nat.mod_lt _ h0
  have e1 : xs[j / k]? = some xs[j / k] := List.getElem?_eq_getElem hjk
  have hl : j % k < (enc xs[j / k]).length := by rw [hk]; exact hm
  have h5 := h4 (j / k) _ e1 (j % k) _ (List.getElem?_eq_getElem hl)
  have e2 : j / k * k + j % k = j := Nat.div_add_mod' j k
  rw [e2] at h5
  refine ⟨?_, ?_⟩
  · rw [Nat.zero_add, blk_cell hh, h5, get_flatK enc k _ j hj]
    have e3 : xs.toArray[j / k]! = xs[j / k] := by rw [getElem!_pos xs.toArray (j / k) (by simpa using hjk)]; simp
    rw [e3, getElem!_pos (enc xs[j / k]) (j % k) hl]
    rfl
  · exact blk_frozen hh _
open Go.Sort Go.Proofs in
theorem sorted_heap [Inhabited α] (k g n : Nat) (d' : Array α) (os : Array Obj) (i : Nat) (hi : i < w.heap.size) : (sortWorldK enc k w g 0 n d' os).heap[i]? = if g = i then (w.heap[i]?).map (onCells (putCells id 0 (flatK enc k d'))) else w.heap[i]? := by
  unfold sortWorldK grow putRowK putRow mapBlock Sort.ahead
  dsimp only
  rw [Array.getElem?_append_left (by rw [Array.size_modify]; exact hi), Array.getElem?_modify]
open Go.Sort Go.Proofs in
theorem Lies.sorted [Inhabited α] {k g cap n : Nat} {d' : Array α} {os : Array Obj} (hk : ∀ x, (enc x).length = k) (h0 : 0 < k) (h : Lies enc k e w g cap xs) (hd : d'.size = xs.length) : Lies enc k e (sortWorldK enc k w g 0 n d' os) g cap d'.toList := by
  have hg := h.block
  obtain ⟨cur, hh, h1, h2, h3, h4⟩ := h
  refine ⟨putCells id 0 (flatK enc k d') cur, ?_, ?_, by simpa [hd] using h2, h3, fun j x hj i u hu => ?_⟩
  · rw [sorted_heap k g n d' os g hg, if_pos rfl, hh]
    rfl
  · unfold putCells
    rw [Array.size_mapIdx, h1]
  · have hjl : j < d'.size := by
      have := (List.getElem?_eq_some_iff.1 hj).1
      simpa using this
    have hi : i < k := by
      have := (List.getElem?_eq_some_iff.1 hu).1
      rw [hk] at this
      exact this
    have hlt : j * k + i < d'.size * k := by
      have : (j + 1) * k ≤ d'.size * k := Nat.mul_le_mul_right _ hjl
      rw [Nat.add_mul, Nat.one_mul] at this
      omega
    have hc : j * k + i < cur.size := by
      rw [h1]
      have : d'.size * k ≤ cap * k := Nat.mul_le_mul_right _ (by omega)
      omega
    have e1 : (j * k + i) / k = j := by rw [Nat.mul_comm, Nat.mul_add_div h0, Nat.div_eq_of_lt hi, Nat.add_zero]
    have e2 : (j * k + i) % k = i := by rw [Nat.mul_comm, Nat.mul_add_mod, Nat.mod_eq_of_lt hi]
    unfold putCells
    rw [Array.getElem?_mapIdx, Array.getElem?_eq_getElem hc, Option.map_some, if_pos ⟨Nat.zero_le _, by rw [size_flatK]; omega⟩, Nat.sub_zero, get_flatK enc k d' _ hlt, e1, e2]
    have e3 : d'[j]! = x := by
      rw [getElem!_pos d' j hjl]
      rw [Array.getElem?_toList, Array.getElem?_eq_getElem hjl] at hj
      exact Option.some.inj hj
    have hil : i < (enc x).length := by rw [hk]; exact hi
    rw [e3, getElem!_pos (enc x) i hil]
    rw [List.getElem?_eq_getElem hil] at hu
    exact hu
open Go.Sort Go.Proofs in
theorem sorted_below [Inhabited α] {k g n : Nat} {d' : Array α} {os : Array Obj} {w0 : World} (h : Go.RowKit.Below base w0 w) (hg : base ≤ g) (hb : base ≤ w.heap.size) : Go.RowKit.Below base w0 (sortWorldK enc k w g 0 n d' os) := by
  refine ⟨h.os, h.tape, h.output, Nat.le_trans h.size ?_, fun i hi => ?_⟩
  · exact size_sortWorldK_c enc k w g 0 n d' os
  · rw [sorted_heap k g n d' os i (by omega), if_neg (by omega)]
    exact h.block i hi
open Go.Sort Go.Proofs in
theorem sort_list [Inhabited α] {lt : α → α → Bool} {xs : List α} {d' : Array α} (hp : PermIn 0 xs.toArray.size xs.toArray d') (hs : SortedIn lt 0 xs.toArray.size d') : d'.size = xs.length ∧ d'.toList.Perm xs ∧ d'.toList.Pairwise fun a b => lt b a = false := by
  obtain ⟨h1, _, h2⟩ := hp
  have hsz : d'.size = xs.length := by simpa using h1
  have e1 : d'.extract 0 xs.toArray.size = d' := by rw [← h1]; exact Array.extract_size
  have e2 : xs.toArray.extract 0 xs.toArray.size = xs.toArray := Array.extract_size
  rw [e1, e2] at h2
  refine ⟨hsz, by simpa using h2, ?_⟩
  rw [List.pairwise_iff_getElem]
  intro i j hi hj hij
  have := hs i j (Nat.zero_le _) hij (by rw [← h1]; simpa using hj)
  rw [getElem!_pos d' j (by simpa using hj), getElem!_pos d' i (by simpa using hi)] at this
  simpa using this
end
def sortRef_ren : Go.Shelf.Ren := ⟨fun | 6 => 122 | 15 => 147 | 14 => 149 | 28 => 169 | 29 => 170 | 20 => 159 | 21 => 171 | 22 => 172 | 23 => 173 | 24 => 174 | 25 => 175 | 26 => 176 | 27 => 177 | 46 => 194 | 47 => 190 | 48 => 191 | 49 => 195 | 50 => 196 | 57 => 204 | n => n, fun | 22 => 80 | 24 => 88 | 25 => 164 | 3 => 3 | 39 => 183 | 0 => 0 | 53 => 213 | 55 => 215 | 4 => 4 | 46 => 207 | 45 => 206 | 50 => 147 | 5 => 5 | 9 => 9 | 66 => 226 | 70 => 230 | 76 => 238 | 77 => 50 | n => n, fun | n => n⟩
theorem sortRef : Go.Proofs.SlLaysF0.n6 Try.prog sortRef_ren := {
  mixed := by kernel_rfl,
  f6 := ⟨Try.f122.name, by decide, Try.func122.trans (congrArg some (by kernel_rfl))⟩,
  f14 := ⟨Try.f149.name, by decide, Try.func149.trans (congrArg some (by kernel_rfl))⟩,
  f15 := Try.func147.trans (congrArg some (by kernel_rfl)),
  f20 := ⟨Try.f159.name, by decide, Try.func159.trans (congrArg some (by kernel_rfl))⟩,
  f21 := ⟨Try.f171.name, by decide, Try.func171.trans (congrArg some (by kernel_rfl))⟩,
  f22 := ⟨Try.f172.name, by decide, Try.func172.trans (congrArg some (by kernel_rfl))⟩,
  f23 := ⟨Try.f173.name, by decide, Try.func173.trans (congrArg some (by kernel_rfl))⟩,
  f24 := ⟨Try.f174.name, by decide, Try.func174.trans (congrArg some (by kernel_rfl))⟩,
  f25 := ⟨Try.f175.name, by decide, Try.func175.trans (congrArg some (by kernel_rfl))⟩,
  f26 := ⟨Try.f176.name, by decide, Try.func176.trans (congrArg some (by kernel_rfl))⟩,
  f27 := ⟨Try.f177.name, by decide, Try.func177.trans (congrArg some (by kernel_rfl))⟩,
  f28 := Try.func169.trans (congrArg some (by kernel_rfl)),
  f29 := Try.func170.trans (congrArg some (by kernel_rfl)),
  f46 := ⟨Try.f194.name, by decide, Try.func194.trans (congrArg some (by kernel_rfl))⟩,
  f47 := Try.func190.trans (congrArg some (by kernel_rfl)),
  f48 := Try.func191.trans (congrArg some (by kernel_rfl)),
  f49 := ⟨Try.f195.name, by decide, Try.func195.trans (congrArg some (by kernel_rfl))⟩,
  f50 := ⟨Try.f196.name, by decide, Try.func196.trans (congrArg some (by kernel_rfl))⟩,
  f57 := ⟨Try.f204.name, by decide, Try.func204.trans (congrArg some (by kernel_rfl))⟩,
  t0 := Try.underlying0,
  a0 := Try.isAgg0,
  z0 := Try.sizeOf0,
  v0 := Try.zeroValue0,
  t3 := Try.underlying3,
  a3 := Try.isAgg3,
  z3 := Try.sizeOf3,
  v3 := Try.zeroValue3,
  t4 := Try.underlying4,
  a4 := Try.isAgg4,
  z4 := Try.sizeOf4,
  v4 := Try.zeroValue4,
  t5 := Try.underlying5,
  a5 := Try.isAgg5,
  z5 := Try.sizeOf5,
  v5 := Try.zeroValue5,
  t9 := Try.underlying9,
  a9 := Try.isAgg9,
  z9 := Try.sizeOf9,
  v9 := Try.zeroValue9,
  t22 := Try.underlying80,
  a22 := Try.isAgg80,
  z22 := Try.sizeOf80,
  v22 := Try.zeroValue80,
  t25 := Try.underlying164,
  a25 := Try.isAgg164,
  z25 := Try.sizeOf164,
  v25 := Try.zeroValue164,
  t39 := Try.underlying183,
  a39 := Try.isAgg183,
  z39 := Try.sizeOf183,
  v39 := Try.zeroValue183,
  t45 := Try.underlying206,
  a45 := Try.isAgg206,
  z45 := Try.sizeOf206,
  v45 := Try.zeroValue206,
  t46 := Try.underlying207,
  a46 := Try.isAgg207,
  z46 := Try.sizeOf207,
  v46 := Try.zeroValue207,
  t50 := Try.underlying147,
  a50 := Try.isAgg147,
  z50 := Try.sizeOf147,
  v50 := Try.zeroValue147,
  t53 := Try.underlying213,
  a53 := Try.isAgg213,
  z53 := Try.sizeOf213,
  v53 := Try.zeroValue213,
  t55 := Try.underlying215,
  a55 := Try.isAgg215,
  z55 := Try.sizeOf215,
  v55 := Try.zeroValue215,
  t66 := Try.underlying226,
  a66 := Try.isAgg226,
  z66 := Try.sizeOf226,
  v66 := Try.zeroValue226,
  t70 := Try.underlying230,
  a70 := Try.isAgg230,
  z70 := Try.sizeOf230,
  v70 := Try.zeroValue230,
  t76 := Try.underlying238,
  a76 := Try.isAgg238,
  z76 := Try.sizeOf238,
  v76 := Try.zeroValue238,
  t77 := Try.underlying50,
  a77 := Try.isAgg50,
  z77 := Try.sizeOf50,
  v77 := Try.zeroValue50 }
instance inhabRef : Inhabited S88 := ⟨z88⟩
def encRef (x : S88) : List Value := [.int .i64 x.f0, .int .i64 x.f1, .int .i64 x.f2, .int .i64 x.f3]
theorem flatRef : Flat k88 encRef :=
  ⟨fun _ => rfl, by decide, fun x v hv => by
    simp only [encRef, List.mem_cons, List.not_mem_nil, or_false] at hv
    rcases hv with rfl | rfl | rfl | rfl <;> rfl, fun h => k88_openM h, fun w base ok x => k88_mkM w base ok x⟩
def cmp3 (a b : Int) : Int := if a < b then -1 else if b < a then 1 else 0
theorem cmp3_f (a b : Int) : cmp_Compare_int.f a b = some (cmp3 a b) := by
  unfold cmp_Compare_int.f cmp_isNaN_int.f
  simp only [bne_self_eq_false, Option.bind_some, Bool.false_eq_true, if_false]
  unfold cmp3
  split
  · rfl
  · split
    · rfl
    · rfl
def cmpRef (x y : S88) : Int := if cmp3 x.f0 y.f0 ≠ 0 then cmp3 x.f0 y.f0 else if cmp3 x.f2 y.f2 ≠ 0 then cmp3 x.f2 y.f2 else cmp3 x.f3 y.f3
theorem cmpRef_lt (x y : S88) : cmpRef x y < 0 ↔ Flag.ltR (toR x) (toR y) := by
  unfold cmpRef cmp3 Flag.ltR toR
  dsimp only
  repeat' split
  all_goals omega
open Go.Sort Go.Proofs in
theorem lt_cmpRef (x y : S88) : ltOf cmpRef x y = decide (Flag.ltR (toR x) (toR y)) := by
  unfold ltOf
  rw [decide_eq_decide]
  exact cmpRef_lt x y
open Go.Sort Go.Proofs in
theorem swo_cmpRef : SWO (ltOf cmpRef) where
  irrefl x := by rw [lt_cmpRef]; exact decide_eq_false (by unfold Flag.ltR; omega)
  trans x y z h1 h2 := by
    rw [lt_cmpRef] at *
    have h1 := of_decide_eq_true h1
    have h2 := of_decide_eq_true h2
    exact decide_eq_true (by unfold Flag.ltR at *; omega)
  ntrans x y z h1 h2 := by
    rw [lt_cmpRef] at *
    have h1 := of_decide_eq_false h1
    have h2 := of_decide_eq_false h2
    exact decide_eq_false (by unfold Flag.ltR at *; omega)
theorem or_f (a b c : Int) : cmp_Or_int.f 4 [a, b, c] = some (if a ≠ 0 then a else if b ≠ 0 then b else c) := by
  show cmp_Or_int.l0 4 0 [a, b, c] 3 0 = _
  have e1 : wrap64 ((0 : Int) + 1) = 1 := by unfold wrap64; omega
  have e2 : wrap64 ((1 : Int) + 1) = 2 := by unfold wrap64; omega
  have e3 : wrap64 ((2 : Int) + 1) = 3 := by unfold wrap64; omega
  have l3 : (([a, b, c] : List Int).length : Int) = 3 := rfl
  rw [cmp_Or_int.l0, if_pos (by decide), if_pos (by decide), l3, if_pos (by decide), show rd [a, b, c] 0 = a from rfl, e1]
  by_cases ha : a = 0
  · rw [if_pos ha, if_neg (fun h => h ha), cmp_Or_int.l0, if_pos (by decide), if_pos (by decide), l3, if_pos (by decide), show rd [a, b, c] 1 = b from rfl, e2]
    by_cases hb : b = 0
    · rw [if_pos hb, if_neg (fun h => h hb), cmp_Or_int.l0, if_pos (by decide), if_pos (by decide), l3, if_pos (by decide), show rd [a, b, c] 2 = c from rfl, e3]
      by_cases hc : c = 0
      · rw [if_pos hc, cmp_Or_int.l0, if_neg (by decide), hc]
      · rw [if_neg hc]
    · rw [if_neg hb, if_pos hb]
  · rw [if_neg ha, if_pos ha]
open Go.Proofs Go.Sort in
def Gw (w W : World) : Prop := ∃ q os', W = grow (w.drewN q) os'
open Go.Proofs Go.Sort in
theorem Gw.alloc {w W : World} (h : Gw w W) (o : Obj) : Gw w (W.alloc o) := by
  obtain ⟨q, os, rfl⟩ := h
  exact ⟨q, _, by rw [alloc_eq_grow, grow_grow]⟩
open Go.Proofs Go.Sort in
theorem Gw.drewN {w W : World} (h : Gw w W) (n : Nat) : Gw w (W.drewN n) := by
  obtain ⟨q, os, rfl⟩ := h
  exact ⟨q + n, os, by show grow ((w.drewN q).drewN n) os = _; rw [World.drewN_drewN]⟩
open Go.Proofs Go.Sort in
theorem Gw.refl (w : World) : Gw w w := ⟨0, #[], by rw [grow_empty]; rfl⟩
def or_T1 : Bool × List (List Nat × List Nat) := (true, [([], []), ([0], [0]), ([], []), ([2], [2]), ([1, 3], [1, 3]), ([], []), ([5], [5]), ([], []), ([7], [7]), ([6, 8, 4], [6, 8]), ([], []), ([10], [10]), ([], []), ([12], [12]), ([11, 13, 9], [11, 13]), ([4, 9, 14], [4, 9, 14]), ([15, 14], [15]), ([16, 16, 0, 1, 2, 3, 4, 5, 6, 7, 8, 9, 10, 11, 12, 13, 14, 15, 16], [16])])
def or_B1 : List Nat := [0, 1, 0, 4, 15, 0, 32, 0, 128, 511, 0, 1024, 0, 4096, 16383, 32767, 65535, 131071]
theorem or_tab1 : rtab .any (opsOf Try.f116 1) = or_T1 := by kernel_rfl
theorem or_bits1 : waitsOk or_T1.2 or_B1 = true := by kernel_rfl
set_option maxHeartbeats 8000000 in
set_option maxRecDepth 100000 in
open Go.Proofs Go.Sort in
theorem ref_cmp (x y : S88) (W : World) : Calls Try.prog 116 #[.agg #[.int .i64 x.f0, .int .i64 x.f1, .int .i64 x.f2, .int .i64 x.f3], .agg #[.int .i64 y.f0, .int .i64 y.f1, .int .i64 y.f2, .int .i64 y.f3]] W fun e w' => e = .returned (.int .i64 (cmpRef x y)) ∧ ∃ q os', w' = grow (W.drewN q) os' := by
  have hu88 := Try.underlying88
  obtain ⟨t1, h1⟩ : ∃ t, t = cmp3 x.f0 y.f0 := ⟨_, rfl⟩
  obtain ⟨t2, h2⟩ : ∃ t, t = cmp3 x.f2 y.f2 := ⟨_, rfl⟩
  obtain ⟨t3, h3⟩ : ∃ t, t = cmp3 x.f3 y.f3 := ⟨_, rfl⟩
  obtain ⟨r, hr⟩ : ∃ r, r = cmpRef x y := ⟨_, rfl⟩
  have A1 := Aside0.mk (show cmp_Compare_int.f x.f0 y.f0 = some t1 by rw [h1]; exact cmp3_f _ _)
  have A2 := Aside0.mk (show cmp_Compare_int.f x.f2 y.f2 = some t2 by rw [h2]; exact cmp3_f _ _)
  have A3 := Aside0.mk (show cmp_Compare_int.f x.f3 y.f3 = some t3 by rw [h3]; exact cmp3_f _ _)
  have A4 := Aside0.mk (show cmp_Or_int.f 4 [t1, t2, t3] = some r by rw [or_f, hr, h1, h2, h3]; rfl)
  rw [← hr]
  clear h1 h2 h3 hr
  obtain ⟨W0, hW0⟩ : ∃ X, X = (W.alloc (.cells #[.int .i64 x.f0, .int .i64 x.f1, .int .i64 x.f2, .int .i64 x.f3] 88)).alloc (.cells #[.int .i64 y.f0, .int .i64 y.f1, .int .i64 y.f2, .int .i64 y.f3] 88) := ⟨_, rfl⟩
  have G0 := Aside0.mk (show Gw W W0 by rw [hW0]; exact ((Gw.refl W).alloc _).alloc _)
  have B1 := Aside0.mk (show W0.heap[W.heap.size]? = some (.cells #[.int .i64 x.f0, .int .i64 x.f1, .int .i64 x.f2, .int .i64 x.f3] 88 (0, 0)) by rw [hW0]; exact blk_alloc (blk_new W _) _)
  have B2 := Aside0.mk (show W0.heap[W.heap.size + 1]? = some (.cells #[.int .i64 y.f0, .int .i64 y.f1, .int .i64 y.f2, .int .i64 y.f3] 88 (0, 0)) by
    have h1 := blk_new (W.alloc (.cells #[.int .i64 x.f0, .int .i64 x.f1, .int .i64 x.f2, .int .i64 x.f3] 88)) (.cells #[.int .i64 y.f0, .int .i64 y.f1, .int .i64 y.f2, .int .i64 y.f3] 88)
    rw [hW0]; simpa using h1)
  have HW0 := Aside0.mk hW0
  clear hW0
  go_enter Try.func116, Try.ntmps116
  go_wp2_with fail
  rw [← HW0.out]
  refine start_ (n := 18) (S := fun w' => w'.cell? ⟨W.heap.size, 0, none⟩ = some (.int .i64 x.f0) ∧ w'.cell? ⟨W.heap.size, 2, none⟩ = some (.int .i64 x.f2) ∧ w'.cell? ⟨W.heap.size, 3, none⟩ = some (.int .i64 x.f3) ∧ w'.cell? ⟨W.heap.size + 1, 0, none⟩ = some (.int .i64 y.f0) ∧ w'.cell? ⟨W.heap.size + 1, 2, none⟩ = some (.int .i64 y.f2) ∧ w'.cell? ⟨W.heap.size + 1, 3, none⟩ = some (.int .i64 y.f3)) (ds := []) (lb 18 0) (by kernel_rfl) rfl (by kernel_rfl) ⟨(blk_cell B1.out 0).trans rfl, (blk_cell B1.out 2).trans rfl, (blk_cell B1.out 3).trans rfl, (blk_cell B2.out 0).trans rfl, (blk_cell B2.out 2).trans rfl, (blk_cell B2.out 3).trans rfl⟩ (fun hHeld => ?_)
  refine with_tabW or_tab1 or_bits1 (fun HT_ HW_ => ?_)
  have G1 := Aside0.mk (show Gw W W0.drew from G0.out.drewN 1)
  have B3 := Aside0.mk (show W0.drew.heap[W.heap.size]? = some (.cells #[.int .i64 x.f0, .int .i64 x.f1, .int .i64 x.f2, .int .i64 x.f3] 88 (0, 0)) from B1.out)
  have B4 := Aside0.mk (show W0.drew.heap[W.heap.size + 1]? = some (.cells #[.int .i64 y.f0, .int .i64 y.f1, .int .i64 y.f2, .int .i64 y.f3] 88 (0, 0)) from B2.out)
  generalize W0.drew = W1 at hHeld G1 B3 B4 ⊢
  refine pu_ 0 5 18 1 ?_
  refine pu_ 2 7 18 5 ?_
  refine pu_ 5 10 18 37 ?_
  refine pu_ 7 12 18 165 ?_
  refine pu_ 10 15 18 1189 ?_
  refine pu_ 12 17 18 5285 ?_
  refine tk_ 1 6 18 5287 ?_
  refine tk_ 3 8 18 5295 ?_
  refine tk_ 6 11 18 5359 ?_
  refine tk_ 8 13 18 5615 ?_
  refine tk_ 11 16 18 7663 ?_
  refine tk_ 13 18 18 15855 ?_
  refine on_ 4 9 18 15871 (fun K hK => ?_)
  refine goes_ Try.func97 (by kernel_rfl) rfl #[.int .i64 x.f0, .int .i64 y.f0] (by rfl) rfl rfl (by (try simp only [List.map_toArray, List.map_cons, List.map_nil]); first | done | rfl) ?_
  with_reducible refine (cmp_Compare_int.calls x.f0 y.f0 t1 _ A1.out).mono ?_
  rintro e w' ⟨rfl, ⟨nd1, rfl⟩⟩
  refine ⟨_, rfl, ?_⟩
  refine hK.out _ _ ⟨(blk_cell B3.out 0).trans rfl, (blk_cell B3.out 2).trans rfl, (blk_cell B3.out 3).trans rfl, (blk_cell B4.out 0).trans rfl, (blk_cell B4.out 2).trans rfl, (blk_cell B4.out 3).trans rfl⟩ (fun hHeld => ?_)
  clear hK K
  refine nm_ 9 ?_
  refine on_ 9 14 18 16383 (fun K hK => ?_)
  refine goes_ Try.func97 (by kernel_rfl) rfl #[.int .i64 x.f2, .int .i64 y.f2] (by rfl) rfl rfl (by (try simp only [List.map_toArray, List.map_cons, List.map_nil]); first | done | rfl) ?_
  with_reducible refine (cmp_Compare_int.calls x.f2 y.f2 t2 _ A2.out).mono ?_
  rintro e w' ⟨rfl, ⟨nd2, rfl⟩⟩
  refine ⟨_, rfl, ?_⟩
  refine hK.out _ _ ⟨(blk_cell B3.out 0).trans rfl, (blk_cell B3.out 2).trans rfl, (blk_cell B3.out 3).trans rfl, (blk_cell B4.out 0).trans rfl, (blk_cell B4.out 2).trans rfl, (blk_cell B4.out 3).trans rfl⟩ (fun hHeld => ?_)
  clear hK K
  refine nm_ 14 ?_
  refine on_ 14 19 18 32767 (fun K hK => ?_)
  refine goes_ Try.func97 (by kernel_rfl) rfl #[.int .i64 x.f3, .int .i64 y.f3] (by rfl) rfl rfl (by (try simp only [List.map_toArray, List.map_cons, List.map_nil]); first | done | rfl) ?_
  with_reducible refine (cmp_Compare_int.calls x.f3 y.f3 t3 _ A3.out).mono ?_
  rintro e w' ⟨rfl, ⟨nd3, rfl⟩⟩
  refine ⟨_, rfl, ?_⟩
  refine hK.out _ _ ⟨(blk_cell B3.out 0).trans rfl, (blk_cell B3.out 2).trans rfl, (blk_cell B3.out 3).trans rfl, (blk_cell B4.out 0).trans rfl, (blk_cell B4.out 2).trans rfl, (blk_cell B4.out 3).trans rfl⟩ (fun hHeld => ?_)
  clear hK K
  refine nm_ 19 ?_
  have G2 := Aside0.mk (((G1.out.drewN nd1).drewN nd2).drewN nd3)
  have B5 := Aside0.mk (show (((W1.drewN nd1).drewN nd2).drewN nd3).heap[W.heap.size]? = some (.cells #[.int .i64 x.f0, .int .i64 x.f1, .int .i64 x.f2, .int .i64 x.f3] 88 (0, 0)) from B3.out)
  have B6 := Aside0.mk (show (((W1.drewN nd1).drewN nd2).drewN nd3).heap[W.heap.size + 1]? = some (.cells #[.int .i64 y.f0, .int .i64 y.f1, .int .i64 y.f2, .int .i64 y.f3] 88 (0, 0)) from B4.out)
  generalize ((W1.drewN nd1).drewN nd2).drewN nd3 = W2 at hHeld G2 B5 B6 ⊢
  refine on_ 15 20 18 65535 (fun K hK => ?_)
  refine value_ (w1 := ?_) (v := ?_) (by rfl) rfl ?_ ?_
  rotate_left 2
  · go_simp
    constructor
    · rfl
    · rfl
  have B7 := Aside0.mk (blk_alloc (B5.out) (.cells #[.int .i64 t1, .int .i64 t2, .int .i64 t3] 3))
  have B8 := Aside0.mk (blk_alloc (B6.out) (.cells #[.int .i64 t1, .int .i64 t2, .int .i64 t3] 3))
  have B9 := Aside0.mk (blk_new W2 (.cells #[.int .i64 t1, .int .i64 t2, .int .i64 t3] 3))
  have G3 := Aside0.mk (G2.out.alloc (.cells #[.int .i64 t1, .int .i64 t2, .int .i64 t3] 3))
  refine hK.out _ _ ⟨(blk_cell B7.out 0).trans rfl, (blk_cell B7.out 2).trans rfl, (blk_cell B7.out 3).trans rfl, (blk_cell B8.out 0).trans rfl, (blk_cell B8.out 2).trans rfl, (blk_cell B8.out 3).trans rfl⟩ (fun hHeld => ?_)
  clear hK K
  refine nm_ 20 ?_
  have hC : Kd.C (Kd.int .i64) (W2.alloc (.cells #[.int .i64 t1, .int .i64 t2, .int .i64 t3] 3)) (some ⟨W2.heap.size, 0, none⟩) 3 [t1, t2, t3] := by
    refine ⟨rfl, by omega, fun _ => ⟨_, rfl, fun j p hj => ⟨[.int .i64 p], rfl, rfl, fun i u hu => ?_⟩⟩⟩
    have hi : i = 0 := by
      have := (List.getElem?_eq_some_iff.1 hu).1
      simp at this; exact this
    subst hi
    have hu' : u = .int .i64 p := by simpa using hu.symm
    subst hu'
    have hj3 : j < 3 := (List.getElem?_eq_some_iff.1 hj).1
    have e : (Addr.add ⟨W2.heap.size, 0, none⟩ (j * (Kd.int .i64).sz + 0) : Addr) = ⟨W2.heap.size, j, none⟩ := by
      have e1 : j * (Kd.int .i64).sz + 0 = j := by show j * 1 + 0 = j; omega
      rw [e1]
      rw [show (⟨W2.heap.size, 0, none⟩ : Addr).add j = ⟨W2.heap.size, 0 + j, none⟩ from by cases j <;> rfl, Nat.zero_add]
    rw [e, blk_cell B9.out j]
    match j, hj3 with
    | 0, _ => cases hj; rfl
    | 1, _ => cases hj; rfl
    | 2, _ => cases hj; rfl
  have HC := Aside0.mk hC
  generalize W2.alloc (.cells #[.int .i64 t1, .int .i64 t2, .int .i64 t3] 3) = W3 at hHeld G3 B7 B8 HC ⊢
  clear hC
  refine on_ 16 21 18 131071 (fun K hK => ?_)
  refine goes_ Try.func145 (by kernel_rfl) rfl #[.slice (some ⟨W2.heap.size, 0, none⟩) 3 3] (by rfl) rfl rfl (by (try simp only [List.map_toArray, List.map_cons, List.map_nil]); first | done | rfl) ?_
  refine Calls.mono (show Calls Try.prog 145 #[.slice (some ⟨W2.heap.size, 0, none⟩) 3 3] W3 _ from cmp_Or_int.calls 4 _ 3 [t1, t2, t3] r _ HC.out (Nat.le_refl _) A4.out) ?_
  rintro e w' ⟨rfl, ⟨nd4, rfl⟩⟩
  refine ⟨_, rfl, ?_⟩
  refine hK.out _ _ ⟨(blk_cell B7.out 0).trans rfl, (blk_cell B7.out 2).trans rfl, (blk_cell B7.out 3).trans rfl, (blk_cell B8.out 0).trans rfl, (blk_cell B8.out 2).trans rfl, (blk_cell B8.out 3).trans rfl⟩ (fun hHeld => ?_)
  clear hK K
  refine nm_ 21 ?_
  refine pu_ 17 4 18 262143 ?_
  refine done_ (done_of HT_.out (by kernel_rfl)) ?_
  have G4 := Aside0.mk (G3.out.drewN nd4)
  clear hHeld
  go_wp2
  go_ret
  exact ⟨rfl, G4.out⟩
open Go.Proofs Go.Sort in
theorem sort_ref (cl : Nat) (eg : ∀ args w, (callFunc cl args).run Try.prog w = .ok (.enter cl args) w)
    (hcl : ∀ (x y : S88) (W : World), Calls Try.prog cl #[.agg #[.int .i64 x.f0, .int .i64 x.f1, .int .i64 x.f2, .int .i64 x.f3], .agg #[.int .i64 y.f0, .int .i64 y.f1, .int .i64 y.f2, .int .i64 y.f3]] W fun e w' => e = .returned (.int .i64 (cmpRef x y)) ∧ ∃ q os', w' = grow (W.drewN q) os')
    {w0 w : World} {base : Nat} {ok : Nat → Prop} {v : Value} {xs : List S88} (HO : Kd.R k88 88 w base ok v xs) (HB : Go.RowKit.Below base w0 w) (hbase : base ≤ w.heap.size) (hlen : xs.length < 4611686018427387904) :
    Calls Try.prog 122 #[v, .func (.func cl) #[] #[]] w fun e w' => e = .returned (.tuple #[]) ∧ ∃ ys : List S88, ys.Perm xs ∧ (ys.Pairwise fun a b => Flag.leR (toR a) (toR b)) ∧ Kd.R k88 88 w' base ok v ys ∧ Go.RowKit.Below base w0 w' ∧ w.heap.size ≤ w'.heap.size ∧ (∀ i, i < w.heap.size → some i ≠ v.ownBlock → w'.heap[i]? = w.heap[i]?) := by
  rcases R_lies flatRef HO with ⟨rfl, rfl⟩ | ⟨g, cap, rfl, hg, hok, hL⟩
  · refine (AnyF.slices_SortFunc_none sortRef none 0 (.func (.func cl) #[] #[]) w).mono ?_
    rintro e w' ⟨rfl, rfl⟩
    exact ⟨rfl, [], List.Perm.nil, List.Pairwise.nil, HO, HB, Nat.le_refl _, fun _ _ _ => rfl⟩
  · have hk : ∀ x : S88, (encRef x).length = 4 := fun _ => rfl
    have hcon := AnyQ.slices_SortFunc sortRef 4 Try.isAgg88 Try.sizeOf88 encRef hk flatRef.one cmpRef swo_cmpRef cl #[] g 0 cap xs.toArray w eg (fun m os dk hd x y => hcl x y _) (hL.holds hk (by decide)) hL.block (by simpa using hlen)
    refine Calls.mono hcon ?_
    rintro e w' ⟨rfl, d', n, os, hp, hs, rfl⟩
    obtain ⟨h1, h2, h3⟩ := sort_list hp hs
    have h4 := hL.sorted (n := n) (os := os) hk (by decide) h1
    refine ⟨rfl, d'.toList, h2, h3.imp (fun {a b} h => ?_), ?_, sorted_below HB hg hbase, ?_, fun i hi hne => ?_⟩
    · rw [lt_cmpRef] at h
      have h9 : ¬ Flag.ltR (toR b) (toR a) := of_decide_eq_false h
      exact h9
    · have h5 := R_of_lies (base := base) (ok := ok) flatRef hg hok h4
      have e1 : d'.toList.length = xs.length := by simpa using h1
      rw [e1] at h5
      exact h5
    · exact size_sortWorldK_c encRef 4 w g 0 n d' os
    · rw [sorted_heap 4 g n d' os i hi, if_neg (fun h => hne (by rw [h]; rfl))]
def refsOf (x : S94) : List S88 := x.f1.map fun y => ⟨y.f1, y.f2, x.f0, y.f0⟩
def refsG (l : List S94) : List S88 := l.flatMap refsOf
def ofR (r : Flag.Rf) : S88 := ⟨r.p, r.n, r.o, r.v⟩
def sortRefL (l : List S88) : List S88 := (Flag.sortR (l.map toR)).map ofR
theorem sortRefL_toR (l : List S88) : (sortRefL l).map toR = Flag.sortR (l.map toR) := by
  unfold sortRefL
  rw [List.map_map]
  exact List.map_id' _
theorem refsG_toR (l : List S94) : (refsG l).map toR = Flag.refsM (l.map toM) := by
  unfold refsG Flag.refsM
  induction l with
  | nil => rfl
  | cons x t ih =>
    rw [List.flatMap_cons, List.map_append, ih, List.map_cons, List.flatMap_cons]
    congr 1
    unfold refsOf toM
    rw [List.map_map, List.map_map]
    rfl
theorem sort_one {l m : List S88} (hk : Flag.KeyR (m.map toR)) (hp : l.Perm m) (hs : l.Pairwise fun a b => Flag.leR (toR a) (toR b)) : l = sortRefL m := by
  apply mapR_inj
  rw [sortRefL_toR]
  exact Flag.sorted_one hk (hp.map toR) (List.pairwise_map.2 hs)
theorem refsG_len {l : List S94} (h : Flag.Maps9 (l.map toM)) : (refsG l).length ≤ 9216 := by
  have hl := h.len
  rw [List.length_map] at hl
  have key : ∀ m : List S94, (∀ x ∈ m, x.f1.length ≤ 1024) → (refsG m).length ≤ 1024 * m.length := by
    intro m
    induction m with
    | nil => intro _; exact Nat.zero_le _
    | cons x t ih =>
      intro hm
      have h1 := hm x List.mem_cons_self
      have h2 := ih fun y hy => hm y (List.mem_cons_of_mem _ hy)
      unfold refsG at h2 ⊢
      rw [List.flatMap_cons, List.length_append, List.length_cons]
      unfold refsOf
      rw [List.length_map]
      unfold refsOf at h2
      omega
  have := key l fun x hx => by
    have := (h.each (toM x) (List.mem_map_of_mem hx)).2.2.len
    unfold toM at this
    simpa using this
  omega
def refs_Refs.f (l0 : List (S94)) : Option ((List (S88)) × Int) := some (if Flag.checkM (l0.map toM) = 0 then (sortRefL (refsG l0), 0) else ([], 9))
set_option maxHeartbeats 8000000 in
set_option maxRecDepth 100000 in
theorem refs_Refs.calls (A0 : Option Addr) (c0 : Nat) (l0 : List (S94)) (r1 : List (S88)) (r2 : Int) (w : World) (hr0 : Kd.C k94 w A0 l0.length l0) (hc0 : l0.length ≤ c0) (h : refs_Refs.f l0 = some (r1, r2)) :
    Calls Try.prog 65 #[.slice A0 l0.length c0] w fun e w' => ∃ v0_ : Value, e = .returned (.tuple #[v0_, .int .i64 r2]) ∧ Kd.R k88 88 w' w.heap.size (fun _ => True) v0_ r1 ∧ Below w.heap.size w w' := by
  have hu94 := Try.underlying94
  have hu88 := Try.underlying88
  have hu24 := Try.underlying24
  unfold refs_Refs.f at h
  have h := Option.some.inj h
  obtain ⟨n, hnn⟩ : ∃ n, n = l0.length := ⟨_, rfl⟩
  have hck := refs_Check.calls 1200 A0 c0 l0 _ w hr0 hc0 (check9 l0)
  obtain ⟨ec, hec⟩ : ∃ e, e = Flag.checkM (l0.map toM) := ⟨_, rfl⟩
  rw [← hec, ← hnn] at hck
  have HCK := Aside0.mk hck
  have HR0 := Aside0.mk hr0
  have HNN := Aside0.mk hnn
  have HEC := Aside0.mk hec
  rw [← hnn]
  clear hr0 hc0 hck
  by_cases hc : Flag.checkM (l0.map toM) = 0
  · rw [if_pos hc] at h
    obtain ⟨rfl, rfl⟩ := Prod.mk.inj h
    have h9 := Flag.checkM_ok.1 hc
    have hln := refsG_len h9
    have hl9 : n ≤ 9 := by have := h9.len; rw [List.length_map, ← hnn] at this; exact this
    have HLN := Aside0.mk hln
    have H9 := Aside0.mk h9
    have hec0 : ec = 0 := by rw [hec]; exact hc
    subst hec0
    have HL9 := Aside0.mk hl9
    clear h hc hnn hec h9 hln hl9
    go_enter Try.func65, Try.ntmps65
    go_wp2_with fail
    refine HCK.out.mono ?_
    rintro e w1 ⟨rfl, hb1⟩
    have HB1 := Aside0.mk hb1
    clear hb1
    go_wp2_with fail
    go_loopg [5, 17] n (fun gk v5 v17 W => ∃ (i : Int) (o : List S88), v17 = .int .i64 i ∧ Aside0 (0 ≤ i ∧ i + gk = n) ∧ Aside0 (o = refsG (l0.take i.toNat) ∧ (o.length : Int) ≤ 1024 * i) ∧ Aside0 (Kd.R k88 88 W w.heap.size (fun _ => True) v5 o) ∧ Aside0 (Below w.heap.size w W))
    case atStart => exact ⟨0, [], rfl, ⟨Int.le_refl _, by simp⟩, ⟨rfl, by simp⟩, ⟨Kd.R_nil _ _ _ _ _⟩, HB1⟩
    case round =>
      obtain ⟨i, o, rfl, HI, HOE, HO, HS⟩ := hrel
      obtain ⟨Ao, co, rfl⟩ := Kd.R_slice HO.out
      obtain ⟨no, hno⟩ : ∃ m, m = o.length := ⟨_, rfl⟩
      rw [← hno] at HO ⊢
      have HNO := Aside0.mk hno
      clear hno
      cases gk with
      | zero =>
        have hi : i = n := by have := HI.out.2; omega
        have hd : decide (i < (n : Int)) = false := decide_eq_false (by omega)
        have hoe : o = refsG l0 := by rw [HOE.out.1, hi, Int.toNat_natCast, HNN.out, List.take_length]
        have HE := Aside0.mk hoe
        have hol : o.length < 4611686018427387904 := by rw [hoe]; have := HLN.out; omega
        have hso := sort_ref 116 (fun args w => enters_ Try.func116 (by kernel_rfl) rfl args w) (fun x y W => ref_cmp x y W) HO.out HS.out HS.out.size hol
        have HSO := Aside0.mk hso
        clear hi hoe hol hso
        go_wp2_with fail
        refine HSO.out.mono ?_
        rintro e w3 ⟨rfl, ys, hp, hs, hR, hB, _, _⟩
        have HY := Aside0.mk (And.intro hp hs)
        have HR3 := Aside0.mk hR
        have HB3 := Aside0.mk hB
        clear hp hs hR hB
        go_wp2
        go_ret2
        refine ⟨_, rfl, ?_, HB3.out⟩
        have hk : Flag.KeyR ((refsG l0).map toR) := by rw [refsG_toR]; exact (Flag.refsM_ok H9.out).key
        have hy := sort_one hk (by rw [← HE.out]; exact HY.out.1) HY.out.2
        rw [← hy]
        exact HR3.out
      | succ k1 =>
        have hp0 : 0 ≤ i := HI.out.1
        have hp1 : i < (n : Int) := by have := HI.out.2; omega
        have hd : decide (i < (n : Int)) = true := decide_eq_true hp1
        obtain ⟨ad, A1, c1, e3, g0, g1, hc1, hr1⟩ := at_T94 HR0.out i hp0 (by rw [← HNN.out]; exact hp1)
        cases e3
        obtain ⟨x, hx⟩ : ∃ x, x = rd_T94 l0 i := ⟨_, rfl⟩
        rw [← hx] at g0 g1 hc1 hr1
        replace g0 := (HS.out.cell (World.block_lt_of_cell? w _ g0)).trans g0
        replace g1 := (HS.out.cell (World.block_lt_of_cell? w _ g1)).trans g1
        have hxm : x.f1.length ≤ 1024 := by
          have h4 : i.toNat < l0.length := by rw [← HNN.out]; omega
          have h5 : x = l0[i.toNat] := by rw [hx]; unfold rd_T94; rw [List.getD_eq_getElem?_getD, List.getElem?_eq_getElem h4]; rfl
          have h6 := (H9.out.each (toM x) (by rw [h5]; exact List.mem_map_of_mem (List.getElem_mem h4))).2.2.len
          unfold toM at h6
          simpa using h6
        have hst : refsG (l0.take (i + 1).toNat) = o ++ refsOf x := by
          have h3 : (i + 1).toNat = i.toNat + 1 := by omega
          have h4 : i.toNat < l0.length := by rw [← HNN.out]; omega
          have h5 : x = l0[i.toNat] := by rw [hx]; unfold rd_T94; rw [List.getD_eq_getElem?_getD, List.getElem?_eq_getElem h4]; rfl
          unfold refsG
          rw [h3, List.take_succ_eq_append_getElem h4, List.flatMap_append, ← h5, HOE.out.1]
          simp [refsG]
        have HST := Aside0.mk hst
        have HP := Aside0.mk (And.intro hp0 hp1)
        obtain ⟨m, hm⟩ : ∃ m, m = x.f1.length := ⟨_, rfl⟩
        have HR1 := Aside0.mk hr1
        rw [← hm] at g1 hxm
        have HM := Aside0.mk hm
        have HXM := Aside0.mk hxm
        have hwi : IntKind.i64.wrap (i + 1) = i + 1 := IntWalk.i64_in _ (by have := HL9.out; omega)
        obtain ⟨bx, hbx⟩ : ∃ b, b = wr.heap.size := ⟨_, rfl⟩
        obtain ⟨W1, hW1⟩ : ∃ W, W = wr.alloc (.cells #[.int .i64 x.f0, .slice A1 m c1] 94) := ⟨_, rfl⟩
        have hx1 : W1.heap[bx]? = some (.cells #[.int .i64 x.f0, .slice A1 m c1] 94 (0, 0)) := by rw [hW1, hbx]; exact blk_new wr _
        have hb1 : Below w.heap.size w W1 := by rw [hW1]; exact HS.out.alloc HS.out.size _
        have ho1 : Kd.R k88 88 W1 w.heap.size (fun k => k ≠ bx) (.slice Ao no co) o := by rw [hW1, hbx]; exact Kd.R_alloc (Kd.R_mono (Kd.R_bound HO.out) (fun k hk => Nat.ne_of_lt hk.2.2.1)) _
        have HX1 := Aside0.mk hx1
        have HB1' := Aside0.mk hb1
        have HO1 := Aside0.mk ho1
        have HW1 := Aside0.mk hW1
        have HBX := Aside0.mk hbx
        clear hx hr1 hm hc1 hst hx1 hb1 ho1 hxm hW1 hbx
        go_wp2_with fail
        rw [← HW1.out, ← HBX.out]
        clear g0 g1
        go_loopg [5, 24] m (fun gk2 v5 v24 W => ∃ (j : Int) (o2 : List S88), v24 = .int .i64 j ∧ Aside0 (0 ≤ j ∧ j + gk2 = m) ∧ Aside0 (o2 = o ++ (refsOf x).take j.toNat ∧ (o2.length : Int) ≤ 1024 * i + j) ∧ Aside0 (Kd.R k88 88 W w.heap.size (fun k => k ≠ bx) v5 o2) ∧ Aside0 (Below w.heap.size w W ∧ W.heap[bx]? = some (.cells #[.int .i64 x.f0, .slice A1 m c1] 94 (0, 0))))
        case atStart => exact ⟨0, o, rfl, ⟨Int.le_refl _, by simp⟩, ⟨by simp, by have := HOE.out.2; omega⟩, ⟨HO1.out⟩, ⟨HB1'.out, HX1.out⟩⟩
        case round =>
          clear HB1' HX1
          obtain ⟨j, o2, rfl, HJ, HOE2, HO2, HS2⟩ := hrel
          obtain ⟨Ao2, co2, rfl⟩ := Kd.R_slice HO2.out
          obtain ⟨no2, hno2⟩ : ∃ m, m = o2.length := ⟨_, rfl⟩
          rw [← hno2] at HO2 ⊢
          have HNO2 := Aside0.mk hno2
          clear hno2
          cases gk with
          | zero =>
            have hj : j = m := by have := HJ.out.2; omega
            have hdj : decide (j < (m : Int)) = false := decide_eq_false (by omega)
            have hoe : o2 = o ++ refsOf x := by
              rw [HOE2.out.1, hj, Int.toNat_natCast, List.take_of_length_le]
              unfold refsOf; rw [List.length_map, HM.out]; exact Nat.le_refl _
            have HE2 := Aside0.mk hoe
            have HE3 := Aside0.mk (show (o2.length : Int) ≤ 1024 * (i + 1) by have := HOE2.out.2; have := HXM.out; omega)
            clear hj hoe
            go_wp2_with fail
            go_roundg k1
            case measure => omega
            case rel =>
              refine ⟨i + 1, o2, by first | rfl | (simp; done) | go_num, ⟨by have := HP.out.1; omega, by have := HI.out.2; omega⟩, ⟨by rw [HST.out, HE2.out], HE3.out⟩, ⟨?_⟩, ⟨HS2.out.1⟩⟩
              exact Kd.R_mono HO2.out (fun _ _ => trivial)
          | succ k2 =>
            have hj0 : 0 ≤ j := HJ.out.1
            have hj1 : j < (m : Int) := by have := HJ.out.2; omega
            have hdj : decide (j < (m : Int)) = true := decide_eq_true hj1
            have hC1 : Kd.C k24 wr A1 m x.f1 := by rw [HM.out]; exact Kd.C_below HR1.out HS2.out.1
            obtain ⟨ad2, e4, y0, y1, y2⟩ := at_T24 hC1 j hj0 hj1
            subst e4
            obtain ⟨y, hy⟩ : ∃ y, y = rd_T24 x.f1 j := ⟨_, rfl⟩
            rw [← hy] at y0 y1 y2
            have q0 : (wr.alloc (.cells #[.int .i64 y.f0, .int .i64 y.f1, .int .i64 y.f2] 24)).cell? ⟨bx, 0, none⟩ = some (.int .i64 x.f0) := (blk_cell (blk_alloc HS2.out.2 _) 0).trans rfl
            have hwj : IntKind.i64.wrap (j + 1) = j + 1 := IntWalk.i64_in _ (by have := HXM.out; omega)
            obtain ⟨os, hos⟩ : ∃ os, os = o2 ++ [(⟨y.f1, y.f2, x.f0, y.f0⟩ : S88)] := ⟨_, rfl⟩
            have hst2 : os = o ++ (refsOf x).take (j + 1).toNat := by
              have h3 : (j + 1).toNat = j.toNat + 1 := by omega
              have h4 : j.toNat < x.f1.length := by rw [← HM.out]; omega
              have h4' : j.toNat < (refsOf x).length := by unfold refsOf; rw [List.length_map]; exact h4
              have h5 : y = x.f1[j.toNat] := by rw [hy]; unfold rd_T24; rw [List.getD_eq_getElem?_getD, List.getElem?_eq_getElem h4]; rfl
              have h6 : (refsOf x)[j.toNat] = (⟨y.f1, y.f2, x.f0, y.f0⟩ : S88) := by rw [h5]; exact List.getElem_map _
              rw [hos, HOE2.out.1, h3, List.take_succ_eq_append_getElem h4', h6, List.append_assoc]
            have HOS := Aside0.mk hos
            have HST2 := Aside0.mk hst2
            have HY := Aside0.mk hy
            have HP2 := Aside0.mk (And.intro hj0 hj1)
            have HLT := Aside0.mk (show bx < wr.heap.size from blk_lt HS2.out.2)
            have HOL := Aside0.mk (show (no2 : Int) ≤ 10240 by rw [HNO2.out]; have := HOE2.out.2; have := HI.out.2; have := HXM.out; have := HL9.out; omega)
            clear hos hst2 hy hC1
            go_wp2_with (first | ((with_reducible refine gate_builtin (b := .append) (xs := #[.tmp 28, .tmp 38]) rfl ?_); at_builtin; refine Kd.R_append k88 (w0 := w) w.heap.size rfl (.tmp 28) (.tmp 38) 80 88 (.agg #[(.int .i64 0), (.int .i64 0), (.int .i64 0), (.int .i64 0)]) 32 rfl Try.underlying80 info88 rfl (by decide) (by omega) (.slice Ao2 no2 co2) o2 (⟨y.f1, y.f2, x.f0, y.f0⟩ : S88) [.int .i64 y.f1, .int .i64 y.f2, .int .i64 x.f0, .int .i64 y.f0] (fun k => k ≠ bx) (fun _ => False) rfl (by first | (go_simp; done) | (go_simp; rfl)) ?aP (fun _ hk => hk.elim) ?aF ?aO ?aB ?aS ?aL ?_; (case aP => exact k88_mkM _ _ _ (⟨y.f1, y.f2, x.f0, y.f0⟩ : S88)); (case aF => exact (fun k hk => Nat.ne_of_gt (Nat.lt_of_lt_of_le HLT.out (by have h9 := hk; simp at h9; omega)))); (case aO => exact Kd.R_alloc HO2.out _); (case aB => exact HS2.out.1.alloc HS2.out.1.size _); (case aS => exact below_size (HS2.out.1.alloc HS2.out.1.size _)); (case aL => exact (by rw [← HNO2.out]; have := HOL.out; omega)); intro v1 w8 ho hb hg hat; rw [← HOS.out] at ho; obtain ⟨A8, c8, rfl⟩ := Kd.R_slice ho; have HO8 := Aside0.mk ho; have HB8 := Aside0.mk hb; have HG8 := Aside0.mk (hg.block bx); clear ho hb hg hat))
            go_roundg k2
            case measure => omega
            case rel =>
              refine ⟨j + 1, os, by first | rfl | (simp; done) | go_num, ⟨by have := HP2.out.1; omega, by have := HJ.out.2; omega⟩, ⟨HST2.out, ?_⟩, ⟨HO8.out⟩, ⟨HB8.out, ?_⟩⟩
              · rw [HOS.out, List.length_append, List.length_singleton]; have := HOE2.out.2; omega
              · exact (HG8.out (by simp; have := HLT.out; omega) (fun e => HO2.out.1 bx e.symm rfl)).trans (blk_alloc HS2.out.2 _)
  · rw [if_neg hc] at h
    obtain ⟨rfl, rfl⟩ := Prod.mk.inj h
    have hne : ec ≠ 0 := by rw [hec]; exact hc
    have h9 : ec = 9 := by
      rcases Flag.checkM_or (l0.map toM) with h1 | h1
      · exact absurd h1 hc
      · rw [hec]; exact h1
    subst h9
    clear h hc hec hne hnn
    go_enter Try.func65, Try.ntmps65
    go_wp2_with fail
    refine HCK.out.mono ?_
    rintro e w1 ⟨rfl, hb1⟩
    have HB1 := Aside0.mk hb1
    clear hb1
    go_wp2
    go_ret2
    exact ⟨_, rfl, Kd.R_nil _ _ _ _ _, HB1.out⟩
def sortSpan_ren : Go.Shelf.Ren := ⟨fun | 6 => 132 | 15 => 147 | 14 => 154 | 28 => 169 | 29 => 170 | 20 => 179 | 21 => 180 | 22 => 181 | 23 => 182 | 24 => 183 | 25 => 184 | 26 => 185 | 27 => 186 | 46 => 198 | 47 => 190 | 48 => 191 | 49 => 199 | 50 => 200 | 57 => 205 | n => n, fun | 22 => 54 | 24 => 40 | 25 => 156 | 3 => 3 | 39 => 183 | 0 => 0 | 53 => 213 | 55 => 215 | 4 => 4 | 46 => 207 | 45 => 206 | 50 => 147 | 5 => 5 | 9 => 9 | 66 => 226 | 70 => 230 | 76 => 238 | 77 => 50 | n => n, fun | n => n⟩
theorem sortSpan : Go.Proofs.SlLaysF0.n6 Try.prog sortSpan_ren := {
  mixed := by kernel_rfl,
  f6 := ⟨Try.f132.name, by decide, Try.func132.trans (congrArg some (by kernel_rfl))⟩,
  f14 := ⟨Try.f154.name, by decide, Try.func154.trans (congrArg some (by kernel_rfl))⟩,
  f15 := Try.func147.trans (congrArg some (by kernel_rfl)),
  f20 := ⟨Try.f179.name, by decide, Try.func179.trans (congrArg some (by kernel_rfl))⟩,
  f21 := ⟨Try.f180.name, by decide, Try.func180.trans (congrArg some (by kernel_rfl))⟩,
  f22 := ⟨Try.f181.name, by decide, Try.func181.trans (congrArg some (by kernel_rfl))⟩,
  f23 := ⟨Try.f182.name, by decide, Try.func182.trans (congrArg some (by kernel_rfl))⟩,
  f24 := ⟨Try.f183.name, by decide, Try.func183.trans (congrArg some (by kernel_rfl))⟩,
  f25 := ⟨Try.f184.name, by decide, Try.func184.trans (congrArg some (by kernel_rfl))⟩,
  f26 := ⟨Try.f185.name, by decide, Try.func185.trans (congrArg some (by kernel_rfl))⟩,
  f27 := ⟨Try.f186.name, by decide, Try.func186.trans (congrArg some (by kernel_rfl))⟩,
  f28 := Try.func169.trans (congrArg some (by kernel_rfl)),
  f29 := Try.func170.trans (congrArg some (by kernel_rfl)),
  f46 := ⟨Try.f198.name, by decide, Try.func198.trans (congrArg some (by kernel_rfl))⟩,
  f47 := Try.func190.trans (congrArg some (by kernel_rfl)),
  f48 := Try.func191.trans (congrArg some (by kernel_rfl)),
  f49 := ⟨Try.f199.name, by decide, Try.func199.trans (congrArg some (by kernel_rfl))⟩,
  f50 := ⟨Try.f200.name, by decide, Try.func200.trans (congrArg some (by kernel_rfl))⟩,
  f57 := ⟨Try.f205.name, by decide, Try.func205.trans (congrArg some (by kernel_rfl))⟩,
  t0 := Try.underlying0,
  a0 := Try.isAgg0,
  z0 := Try.sizeOf0,
  v0 := Try.zeroValue0,
  t3 := Try.underlying3,
  a3 := Try.isAgg3,
  z3 := Try.sizeOf3,
  v3 := Try.zeroValue3,
  t4 := Try.underlying4,
  a4 := Try.isAgg4,
  z4 := Try.sizeOf4,
  v4 := Try.zeroValue4,
  t5 := Try.underlying5,
  a5 := Try.isAgg5,
  z5 := Try.sizeOf5,
  v5 := Try.zeroValue5,
  t9 := Try.underlying9,
  a9 := Try.isAgg9,
  z9 := Try.sizeOf9,
  v9 := Try.zeroValue9,
  t22 := Try.underlying54,
  a22 := Try.isAgg54,
  z22 := Try.sizeOf54,
  v22 := Try.zeroValue54,
  t25 := Try.underlying156,
  a25 := Try.isAgg156,
  z25 := Try.sizeOf156,
  v25 := Try.zeroValue156,
  t39 := Try.underlying183,
  a39 := Try.isAgg183,
  z39 := Try.sizeOf183,
  v39 := Try.zeroValue183,
  t45 := Try.underlying206,
  a45 := Try.isAgg206,
  z45 := Try.sizeOf206,
  v45 := Try.zeroValue206,
  t46 := Try.underlying207,
  a46 := Try.isAgg207,
  z46 := Try.sizeOf207,
  v46 := Try.zeroValue207,
  t50 := Try.underlying147,
  a50 := Try.isAgg147,
  z50 := Try.sizeOf147,
  v50 := Try.zeroValue147,
  t53 := Try.underlying213,
  a53 := Try.isAgg213,
  z53 := Try.sizeOf213,
  v53 := Try.zeroValue213,
  t55 := Try.underlying215,
  a55 := Try.isAgg215,
  z55 := Try.sizeOf215,
  v55 := Try.zeroValue215,
  t66 := Try.underlying226,
  a66 := Try.isAgg226,
  z66 := Try.sizeOf226,
  v66 := Try.zeroValue226,
  t70 := Try.underlying230,
  a70 := Try.isAgg230,
  z70 := Try.sizeOf230,
  v70 := Try.zeroValue230,
  t76 := Try.underlying238,
  a76 := Try.isAgg238,
  z76 := Try.sizeOf238,
  v76 := Try.zeroValue238,
  t77 := Try.underlying50,
  a77 := Try.isAgg50,
  z77 := Try.sizeOf50,
  v77 := Try.zeroValue50 }
instance inhab40 : Inhabited S40 := ⟨z40⟩
def encSpan (x : S40) : List Value := [.int .i64 x.f0, .int .i64 x.f1]
theorem flatSpan : Flat k40 encSpan :=
  ⟨fun _ => rfl, by decide, fun x v hv => by
    simp only [encSpan, List.mem_cons, List.not_mem_nil, or_false] at hv
    rcases hv with rfl | rfl <;> rfl, fun h => k40_openM h, fun w base ok x => k40_mkM w base ok x⟩
def cmpAt (x y : S40) : Int := if x.f0 < y.f0 then -1 else if y.f0 < x.f0 then 1 else 0
open Go.Sort Go.Proofs in
theorem lt_cmpAt (x y : S40) : ltOf cmpAt x y = decide (x.f0 < y.f0) := by
  unfold ltOf cmpAt
  by_cases h1 : x.f0 < y.f0
  · simp [h1]
  · by_cases h2 : y.f0 < x.f0 <;> simp [h1, h2]
open Go.Sort Go.Proofs in
theorem swo_cmpAt : SWO (ltOf cmpAt) where
  irrefl x := by rw [lt_cmpAt]; simp
  trans x y z h1 h2 := by rw [lt_cmpAt] at *; simp at *; omega
  ntrans x y z h1 h2 := by rw [lt_cmpAt] at *; simp at *; omega
theorem cmp_f (a b : Int) : cmp_Compare_int.f a b = some (if a < b then -1 else if b < a then 1 else 0) := by
  unfold cmp_Compare_int.f cmp_isNaN_int.f
  simp only [bne_self_eq_false, Option.bind_some, Bool.false_eq_true, if_false]
  split
  · rfl
  · split
    · rfl
    · rfl
set_option maxHeartbeats 1000000 in
set_option maxRecDepth 100000 in
open Go.Proofs Go.Sort in
theorem join_cmp (x y : S40) (W : World) : Calls Try.prog 143 #[.agg #[.int .i64 x.f0, .int .i64 x.f1], .agg #[.int .i64 y.f0, .int .i64 y.f1]] W fun e w' => e = .returned (.int .i64 (cmpAt x y)) ∧ ∃ q os', w' = grow (W.drewN q) os' := by
  have hu40 := Try.underlying40
  have hf : cmp_Compare_int.f x.f0 y.f0 = some (cmpAt x y) := cmp_f x.f0 y.f0
  go_enter Try.func143, Try.ntmps143
  go_wp2_with fail
  refine (cmp_Compare_int.calls x.f0 y.f0 _ _ hf).mono ?_
  rintro e w1 ⟨rfl, ⟨q, rfl⟩⟩
  clear hf
  go_wp2
  go_ret
  exact ⟨rfl, q, _, by rw [alloc_eq_grow, alloc_eq_grow, grow_grow]; rfl⟩
open Go.Proofs Go.Sort in
theorem sort_span (cl : Nat) (eg : ∀ args w, (callFunc cl args).run Try.prog w = .ok (.enter cl args) w)
    (hcl : ∀ (x y : S40) (W : World), Calls Try.prog cl #[.agg #[.int .i64 x.f0, .int .i64 x.f1], .agg #[.int .i64 y.f0, .int .i64 y.f1]] W fun e w' => e = .returned (.int .i64 (cmpAt x y)) ∧ ∃ q os', w' = grow (W.drewN q) os')
    {w0 w : World} {base : Nat} {ok : Nat → Prop} {v : Value} {xs : List S40} (HO : Kd.R k40 40 w base ok v xs) (HB : Go.RowKit.Below base w0 w) (hbase : base ≤ w.heap.size) (hlen : xs.length < 4611686018427387904) :
    Calls Try.prog 132 #[v, .func (.func cl) #[] #[]] w fun e w' => e = .returned (.tuple #[]) ∧ ∃ ys : List S40, ys.Perm xs ∧ (ys.Pairwise fun a b => a.f0 ≤ b.f0) ∧ Kd.R k40 40 w' base ok v ys ∧ Go.RowKit.Below base w0 w' ∧ w.heap.size ≤ w'.heap.size ∧ (∀ i, i < w.heap.size → some i ≠ v.ownBlock → w'.heap[i]? = w.heap[i]?) := by
  rcases R_lies flatSpan HO with ⟨rfl, rfl⟩ | ⟨g, cap, rfl, hg, hok, hL⟩
  · refine (AnyF.slices_SortFunc_none sortSpan none 0 (.func (.func cl) #[] #[]) w).mono ?_
    rintro e w' ⟨rfl, rfl⟩
    exact ⟨rfl, [], List.Perm.nil, List.Pairwise.nil, HO, HB, Nat.le_refl _, fun _ _ _ => rfl⟩
  · have hk : ∀ x : S40, (encSpan x).length = 2 := fun _ => rfl
    have hcon := AnyQ.slices_SortFunc sortSpan 2 Try.isAgg40 Try.sizeOf40 encSpan hk flatSpan.one cmpAt swo_cmpAt cl #[] g 0 cap xs.toArray w eg (fun m os dk hd x y => hcl x y _) (hL.holds hk (by decide)) hL.block (by simpa using hlen)
    refine Calls.mono hcon ?_
    rintro e w' ⟨rfl, d', n, os, hp, hs, rfl⟩
    obtain ⟨h1, h2, h3⟩ := sort_list hp hs
    have h4 := hL.sorted (n := n) (os := os) hk (by decide) h1
    refine ⟨rfl, d'.toList, h2, h3.imp (fun {a b} h => ?_), ?_, sorted_below HB hg hbase, ?_, fun i hi hne => ?_⟩
    · rw [lt_cmpAt] at h
      have := of_decide_eq_false h
      omega
    · have h5 := R_of_lies (base := base) (ok := ok) flatSpan hg hok h4
      have e1 : d'.toList.length = xs.length := by simpa using h1
      rw [e1] at h5
      exact h5
    · exact size_sortWorldK_c encSpan 2 w g 0 n d' os
    · rw [sorted_heap 2 g n d' os i hi, if_neg (fun h => hne (by rw [h]; rfl))]
def api_Span_101.f (l0 : List (S40)) : Option (List (S40)) := if l0.length < 8796093022208 then some l0 else none
set_option maxHeartbeats 2000000 in
set_option maxRecDepth 100000 in
theorem api_Span_101.calls (A0 : Option Addr) (c0 : Nat) (l0 : List (S40)) (r : List (S40)) (w : World) (hr0 : Kd.C k40 w A0 l0.length l0) (hc0 : l0.length ≤ c0) (h : api_Span_101.f l0 = some r) :
    Calls Try.prog 101 #[.slice A0 l0.length c0] w fun e w' => ∃ v0_ : Value, e = .returned (v0_) ∧ Kd.R k40 40 w' w.heap.size (fun _ => True) v0_ r ∧ Below w.heap.size w w' := by
  unfold api_Span_101.f at h
  split at h
  · rename_i hl
    obtain rfl := Option.some.inj h
    have hq : ∀ (w : World) (a : Option Addr) (n c n' c' : Nat), (binOp .eql 54 (.slice a n c) (.slice none n' c')).run Try.prog w = .ok (.bool a.isNone) w := fun w a n c n' c' => Lib.run_eql_slice_nil w _ _ a n c n' c' Try.underlying54
    have HR0 := Aside0.mk hr0
    have HC0 := Aside0.mk hc0
    have HL := Aside0.mk hl
    cases A0 with
    | none =>
      have hn : l0 = [] := by
        cases l0 with
        | nil => rfl
        | cons x t =>
          obtain ⟨_, _, h3⟩ := hr0
          obtain ⟨ad, h4, _⟩ := h3 (by simp)
          cases h4
      subst hn
      clear hr0 hc0 hl h
      go_enter Try.func101, Try.ntmps101
      go_wp2
      go_ret
      exact ⟨_, rfl, Kd.R_nil _ _ _ _ _, Below.refl _ _⟩
    | some ad =>
      have HN := Aside0.mk (R_new_nil k40 40 w w.heap.size (fun _ => True) (Nat.le_refl _) trivial)
      have HB := Aside0.mk ((Below.refl w.heap.size w).alloc (Nat.le_refl _) (.cells #[] 40))
      clear hr0 hc0 hl h
      go_enter Try.func101, Try.ntmps101
      go_wp2_with (first | ((with_reducible refine gate_builtin (b := .append) (xs := #[.tmp 5, .tmp 6]) rfl ?_); at_builtin; refine Kd.R_append_rows k40 (w0 := w) w.heap.size rfl (.tmp 5) (.tmp 6) 54 40 (.agg #[(.int .i64 0), (.int .i64 0)]) 16 rfl Try.underlying54 info40 rfl (by decide) (by omega) (.slice (some ⟨w.heap.size, 0, none⟩) 0 0) ([] : List S40) l0 _ _ _ (fun _ => True) (fun _ => False) rfl rfl ?aO ?aR (fun _ _ h => h) (fun _ h => h.elim) ?aF ?aB ?aS ?aL ?_; (case aR => exact Kd.C_alloc HR0.out _); (case aB => exact HB.out); (case aF => exact (fun _ _ => trivial)); (case aO => exact HN.out); (case aS => simp); (case aL => have := HL.out; simp only [List.length_nil]; omega); intro v1 w3 ho hb hg hat; have HO := Aside0.mk ho; have HB3 := Aside0.mk hb; clear ho hb hg hat))
      go_ret
      exact ⟨_, rfl, HO.out, HB3.out⟩
  · cases h
def toP (x : S40) : Flag.Sp := ⟨x.f0, x.f1⟩
def ofP (x : Flag.Sp) : S40 := ⟨x.a, x.n⟩
theorem map_ofP (l : List S40) : (l.map toP).map ofP = l := by
  induction l with
  | nil => rfl
  | cons x t ih => rw [List.map_cons, List.map_cons, ih]; rfl
structure OkSp (x : S40) : Prop where
  a : 0 ≤ x.f0
  n : 0 < x.f1
  e : x.f0 + x.f1 ≤ 1099511627776
instance okSp_dec (x : S40) : Decidable (OkSp x) := decidable_of_iff (0 ≤ x.f0 ∧ 0 < x.f1 ∧ x.f0 + x.f1 ≤ 1099511627776) ⟨fun h => ⟨h.1, h.2.1, h.2.2⟩, fun h => ⟨h.a, h.n, h.e⟩⟩
def joinG (o : List S40) (x : S40) : List S40 :=
  if 0 < o.length ∧ x.f0 ≤ wrap64 ((rd_T40 o (o.length - 1)).f0 + (rd_T40 o (o.length - 1)).f1) then
    o.set ((o.length : Int) - 1).toNat ⟨(rd_T40 o (o.length - 1)).f0, mx (rd_T40 o (o.length - 1)).f1 (wrap64 (wrap64 (x.f0 + x.f1) - (rd_T40 o (o.length - 1)).f0))⟩
  else o ++ [x]
theorem joinG_length (o : List S40) (x : S40) : (joinG o x).length ≤ o.length + 1 := by
  unfold joinG
  split
  · rw [List.length_set]; omega
  · simp
theorem joinFold_length (l : List S40) : ∀ o : List S40, (l.foldl joinG o).length ≤ o.length + l.length := by
  induction l with
  | nil => intro o; simp
  | cons x t ih =>
    intro o
    have h1 := ih (joinG o x)
    have h2 := joinG_length o x
    simp only [List.foldl_cons, List.length_cons]
    omega
theorem joinG_toP {o : List S40} {x : S40} (ho : ∀ y ∈ o, OkSp y) (hx : OkSp x) : (joinG o x).map toP = Flag.joinStep (o.map toP) (toP x) ∧ ∀ y ∈ joinG o x, OkSp y := by
  obtain ⟨x1, x2, x3⟩ := hx
  unfold joinG
  rcases List.eq_nil_or_concat o with rfl | ⟨m, y, rfl⟩
  · rw [if_neg (by simp)]
    refine ⟨rfl, fun z hz => ?_⟩
    have : z = x := by simpa using hz
    rw [this]; exact ⟨x1, x2, x3⟩
  · rw [List.concat_eq_append] at ho ⊢
    have hr : rd_T40 (m ++ [y]) (((m ++ [y]).length : Int) - 1) = y := by simp [rd_T40]
    obtain ⟨y1, y2, y3⟩ := ho y (by simp)
    rw [hr, w64 (n := y.f0 + y.f1) (by omega), w64 (n := x.f0 + x.f1) (by omega), w64 (n := x.f0 + x.f1 - y.f0) (by omega), mx_max]
    have hl : (m ++ [y]).map toP = m.map toP ++ [toP y] := by simp
    have hj : Flag.joinStep (m.map toP ++ [toP y]) (toP x) = if x.f0 ≤ y.f0 + y.f1 then m.map toP ++ [⟨y.f0, max y.f1 (x.f0 + x.f1 - y.f0)⟩] else m.map toP ++ [toP y] ++ [toP x] := by
      unfold Flag.joinStep
      simp only [List.getLast?_append, List.getLast?_singleton, Option.some_or, List.dropLast_concat]
      rfl
    rw [hl, hj]
    by_cases hc : x.f0 ≤ y.f0 + y.f1
    · rw [if_pos ⟨by simp, hc⟩, if_pos hc]
      have e : (((m ++ [y]).length : Int) - 1).toNat = m.length := by simp
      rw [e]
      have e2 : (m ++ [y]).set m.length (⟨y.f0, max y.f1 (x.f0 + x.f1 - y.f0)⟩ : S40) = m ++ [⟨y.f0, max y.f1 (x.f0 + x.f1 - y.f0)⟩] := by simp
      rw [e2]
      refine ⟨by simp [toP], fun z hz => ?_⟩
      rcases List.mem_append.1 hz with hz | hz
      · exact ho z (List.mem_append_left _ hz)
      · have : z = ⟨y.f0, max y.f1 (x.f0 + x.f1 - y.f0)⟩ := by simpa using hz
        rw [this]
        exact ⟨y1, show 0 < max y.f1 (x.f0 + x.f1 - y.f0) by omega, show y.f0 + max y.f1 (x.f0 + x.f1 - y.f0) ≤ _ by omega⟩
    · rw [if_neg (fun h => hc h.2), if_neg hc]
      refine ⟨by simp, fun z hz => ?_⟩
      rcases List.mem_append.1 hz with hz | hz
      · exact ho z hz
      · have : z = x := by simpa using hz
        rw [this]; exact ⟨x1, x2, x3⟩
theorem joinFold_toP (l : List S40) : ∀ o : List S40, (∀ y ∈ o, OkSp y) → (∀ x ∈ l, OkSp x) → (l.foldl joinG o).map toP = (l.map toP).foldl Flag.joinStep (o.map toP) ∧ ∀ y ∈ l.foldl joinG o, OkSp y := by
  induction l with
  | nil => intro o ho _; exact ⟨rfl, ho⟩
  | cons x t ih =>
    intro o ho hl
    obtain ⟨h1, h2⟩ := joinG_toP ho (hl x List.mem_cons_self)
    obtain ⟨h3, h4⟩ := ih _ h2 (fun y hy => hl y (List.mem_cons_of_mem _ hy))
    refine ⟨?_, h4⟩
    rw [List.foldl_cons, h3, h1]
    rfl
def sortL (l : List S40) : List S40 := l.mergeSort fun a b => decide (a.f0 ≤ b.f0)
theorem sortL_perm (l : List S40) : (sortL l).Perm l := List.mergeSort_perm l _
theorem sortL_sorted (l : List S40) : (sortL l).Pairwise fun a b => a.f0 ≤ b.f0 := by
  have h := List.pairwise_mergeSort (le := fun a b : S40 => decide (a.f0 ≤ b.f0)) (fun a b c h1 h2 => by simp at *; omega) (fun a b => by simp; omega) l
  exact h.imp (fun {a b} h => by simpa using h)
def joinL (l : List S40) : List S40 := (sortL l).foldl joinG []
theorem joinL_toP {l : List S40} (h : ∀ x ∈ l, OkSp x) : (joinL l).map toP = Flag.joinS ((sortL l).map toP) :=
  (joinFold_toP (sortL l) [] (fun y hy => by cases hy) (fun x hx => h x ((sortL_perm l).mem_iff.1 hx))).1
theorem rising_toP {l : List S40} (h : l.Pairwise fun a b => a.f0 ≤ b.f0) : Flag.risingS (l.map toP) := List.pairwise_map.2 h
theorem joinL_of {l ys : List S40} (h : ∀ x ∈ l, OkSp x) (hp : ys.Perm l) (hs : ys.Pairwise fun a b => a.f0 ≤ b.f0) : ys.foldl joinG [] = joinL l := by
  have hy : ∀ x ∈ ys, OkSp x := fun x hx => h x (hp.mem_iff.1 hx)
  have h1 := (joinFold_toP ys [] (fun y hy => by cases hy) hy).1
  have h2 := joinL_toP h
  have h3 : Flag.joinS (ys.map toP) = Flag.joinS ((sortL l).map toP) :=
    Flag.joinS_perm ((hp.trans (sortL_perm l).symm).map toP) (rising_toP hs) (rising_toP (sortL_sorted l)) (fun x hx => by
      obtain ⟨z, hz, rfl⟩ := List.mem_map.1 hx
      exact (hy z hz).n)
  have h4 : (ys.foldl joinG []).map toP = (joinL l).map toP := by rw [h1, h2]; exact h3
  rw [← map_ofP (ys.foldl joinG []), h4, map_ofP]
def extent_Join.f (l0 : List (S40)) : Option (List (S40)) := if l0.length < 1099511627776 ∧ ∀ x ∈ l0, OkSp x then some (joinL l0) else none
set_option maxHeartbeats 4000000 in
set_option maxRecDepth 100000 in
theorem extent_Join.calls (A0 : Option Addr) (c0 : Nat) (l0 : List (S40)) (r : List (S40)) (w : World) (hr0 : Kd.C k40 w A0 l0.length l0) (hc0 : l0.length ≤ c0) (h : extent_Join.f l0 = some r) :
    Calls Try.prog 111 #[.slice A0 l0.length c0] w fun e w' => ∃ v0_ : Value, e = .returned (v0_) ∧ Kd.R k40 40 w' w.heap.size (fun _ => True) v0_ r ∧ Below w.heap.size w w' := by
  have hu40 := Try.underlying40
  unfold extent_Join.f at h
  split at h
  · rename_i hl
    obtain rfl := Option.some.inj h
    have hcl : api_Span_101.f l0 = some l0 := by unfold api_Span_101.f; rw [if_pos (by omega)]
    have HR0 := Aside0.mk hr0
    have HC0 := Aside0.mk hc0
    have HL := Aside0.mk hl
    clear hr0 hc0 hl h
    go_enter Try.func111, Try.ntmps111
    go_wp2_with fail
    refine (api_Span_101.calls A0 c0 l0 _ w HR0.out HC0.out hcl).mono ?_
    rintro e w1 ⟨v1, rfl, hR1, hb1⟩
    have HR1 := Aside0.mk hR1
    have HB1 := Aside0.mk hb1
    obtain ⟨A1, c1, rfl⟩ := Kd.R_slice hR1
    clear hR1 hb1 hcl
    go_wp2_with fail
    refine (sort_span 143 (enters_of Try.func143 (by kernel_rfl) rfl) join_cmp HR1.out HB1.out HB1.out.size (by have := HL.out.1; omega)).mono ?_
    rintro e w2 ⟨rfl, ys, hperm, hsort, hR2, hb2, hs2, hk2⟩
    have hlen : ys.length = l0.length := hperm.length_eq
    have hres : ys.foldl joinG [] = joinL l0 := joinL_of HL.out.2 hperm hsort
    have hysz : ys.length < 1099511627776 := by have := HL.out.1; omega
    rw [← hlen] at hR2
    have HR2 := Aside0.mk hR2
    have HB2 := Aside0.mk hb2
    have HRES := Aside0.mk hres
    rw [← hlen]
    clear hperm hsort hR2 hb2 hs2 hk2 hres HR1 hlen
    go_wp2_with fail
    go_loopg [3, 13] ys.length (fun gk v3 v13 W => ∃ i : Int, v13 = .int .i64 i ∧ Aside0 (0 ≤ i ∧ i + gk = ys.length) ∧ Aside0 (Kd.R k40 40 W w.heap.size (fun k => some k ≠ (Value.slice A1 ys.length c1).ownBlock) v3 ((ys.take i.toNat).foldl joinG [])) ∧ Aside0 (Below w.heap.size w W ∧ w2.heap.size ≤ W.heap.size ∧ ∀ k, (Value.slice A1 ys.length c1).ownBlock = some k → W.heap[k]? = w2.heap[k]?))
    case atStart => exact ⟨0, rfl, ⟨Int.le_refl _, by simp⟩, ⟨by simpa using Kd.R_nil _ _ _ _ _⟩, ⟨HB2.out, Nat.le_refl _, fun _ _ => rfl⟩⟩
    case round =>
      obtain ⟨i, rfl, HI, HO, HS⟩ := hrel
      obtain ⟨o, ho⟩ : ∃ o, o = (ys.take i.toNat).foldl joinG [] := ⟨_, rfl⟩
      have hol : o.length ≤ ys.length := by
        have h1 := joinFold_length (ys.take i.toNat) []
        rw [← ho] at h1
        have h2 : (ys.take i.toNat).length ≤ ys.length := by rw [List.length_take]; omega
        simp only [List.length_nil] at h1
        omega
      rw [← ho] at HO
      have HOL := Aside0.mk hol
      have HOO := Aside0.mk ho
      clear ho hol
      cases gk with
      | zero =>
        have hi : i = ys.length := by have := HI.out.2; omega
        have hd : decide (i < (ys.length : Int)) = false := decide_eq_false (by omega)
        have hor : o = joinL l0 := by rw [← HRES.out, HOO.out, hi, Int.toNat_natCast, List.take_length]
        have HOR := Aside0.mk hor
        clear hi hor
        go_wp2
        go_ret
        refine ⟨_, rfl, ?_, HS.out.1⟩
        rw [← HOR.out]
        exact Kd.R_mono HO.out (fun _ _ => trivial)
      | succ k1 =>
        have hp0 : 0 ≤ i := HI.out.1
        have hp1 : i < (ys.length : Int) := by have := HI.out.2; omega
        have hd : decide (i < (ys.length : Int)) = true := decide_eq_true hp1
        have hC : Kd.C k40 wr A1 ys.length ys := by
          rcases R_lies flatSpan HR2.out with ⟨h1, h2⟩ | ⟨g, cap, h1, h2, h3, h4⟩
          · rw [h2] at hp1; simp at hp1; omega
          · injection h1 with h5 _ h6
            subst h5 h6
            have h7 := R_of_lies (base := w.heap.size) (ok := fun _ => True) flatSpan h2 trivial (h4.far (HS.out.2.2 g rfl))
            exact (Kd.R_reads' h7).2.2
        obtain ⟨ad, e3, g0, g1⟩ := at_T40 hC i hp0 hp1
        cases e3
        obtain ⟨x, hx⟩ : ∃ x, x = rd_T40 ys i := ⟨_, rfl⟩
        rw [← hx] at g0 g1
        have hst : (ys.take (i + 1).toNat).foldl joinG [] = joinG o x := by
          have h3 : (i + 1).toNat = i.toNat + 1 := by omega
          have h4 : i.toNat < ys.length := by omega
          have h5 : x = ys[i.toNat] := by rw [hx]; unfold rd_T40; rw [List.getD_eq_getElem?_getD, List.getElem?_eq_getElem h4]; rfl
          rw [h3, List.take_succ_eq_append_getElem h4, List.foldl_append, ← h5, HOO.out]
          rfl
        have HST := Aside0.mk hst
        have HP := Aside0.mk (And.intro hp0 hp1)
        obtain ⟨A3, c3, rfl⟩ := Kd.R_slice HO.out
        obtain ⟨j, hj⟩ : ∃ j : Int, j = (o.length : Int) - 1 := ⟨_, rfl⟩
        have hwj : IntKind.i64.wrap ((o.length : Int) - 1) = j := by rw [hj]; exact IntWalk.i64_in _ (by have := HOL.out; omega)
        have hwj2 : wrap64 ((o.length : Int) - 1) = j := by rw [hj]; exact w64 (by have := HOL.out; omega)
        have HJ := Aside0.mk hj
        clear hx hC hst hj
        obtain ⟨W1, hW1⟩ : ∃ W, W = wr.alloc (.cells #[.int .i64 x.f0, .int .i64 x.f1] 40) := ⟨_, rfl⟩
        obtain ⟨bx, hbx⟩ : ∃ b, b = wr.heap.size := ⟨_, rfl⟩
        have hx1 : W1.heap[bx]? = some (.cells #[.int .i64 x.f0, .int .i64 x.f1] 40 (0, 0)) := by rw [hW1, hbx]; exact blk_new wr _
        have hwsz : w.heap.size ≤ wr.heap.size := HS.out.1.size
        have hb1 : Below w.heap.size w W1 := by rw [hW1]; exact HS.out.1.alloc hwsz _
        have hs1 : w2.heap.size ≤ W1.heap.size := by rw [hW1]; exact Nat.le_trans HS.out.2.1 (by simp)
        have ho1 : Kd.R k40 40 W1 w.heap.size (fun k => some k ≠ (Value.slice (some ad) ys.length c1).ownBlock) (.slice A3 o.length c3) o := by rw [hW1]; exact Kd.R_alloc HO.out _
        have hbxo : bx ≥ w.heap.size := by omega
        have hne : ∀ k, some k = (Value.slice (some ad) ys.length c1).ownBlock → k < wr.heap.size := by
          intro k hk
          have h1 := HS.out.2.2 k hk.symm
          have h2 : k < w2.heap.size := Kd.R_lt HR2.out k hk.symm
          have := HS.out.2.1
          omega
        have hk1 : ∀ k, (Value.slice (some ad) ys.length c1).ownBlock = some k → k < W1.heap.size ∧ W1.heap[k]? = w2.heap[k]? := by
          intro k hk
          have h1 := hne k hk.symm
          refine ⟨by rw [hW1]; simp; omega, ?_⟩
          rw [hW1, Below.heap_alloc _ _ _ h1]
          exact HS.out.2.2 k hk
        have HX1 := Aside0.mk hx1
        have HB1' := Aside0.mk hb1
        have HS1 := Aside0.mk hs1
        have HO1 := Aside0.mk ho1
        have HK1 := Aside0.mk hk1
        have HBX := Aside0.mk hbxo
        have q0 : W1.cell? ⟨bx, 0, none⟩ = some (.int .i64 x.f0) := (blk_cell hx1 0).trans rfl
        have q1 : W1.cell? ⟨bx, 1, none⟩ = some (.int .i64 x.f1) := (blk_cell hx1 1).trans rfl
        by_cases hn : 0 < o.length
        · have hdj : decide (0 ≤ j) = true := decide_eq_true (by have := HJ.out; omega)
          have hi0 : 0 ≤ j := by have := HJ.out; omega
          have hi1 : j < (o.length : Int) := by have := HJ.out; omega
          obtain ⟨g, cap, hv, hgb, hgl, cells, hgc⟩ := Kd.R_form ho1 hn
          injection hv with hv1 _ hv2
          subst hv1 hv2
          obtain ⟨ce, hcl, hM, hcc, hfz⟩ := Kd.R_elem ho1 z40 j hi0 hi1
          obtain rfl := k40_openM hM
          have e0 : W1.cell? ⟨g, j.toNat * 2, none⟩ = some (.int .i64 (o.getD j.toNat z40).f0) := hcc 0 _ rfl
          have e1 : W1.cell? ⟨g, j.toNat * 2 + 1, none⟩ = some (.int .i64 (o.getD j.toNat z40).f1) := hcc 1 _ rfl
          obtain ⟨y, hy⟩ : ∃ y, y = o.getD j.toNat z40 := ⟨_, rfl⟩
          rw [← hy] at e0 e1 hM hcc
          have HY := Aside0.mk hy
          have HCC := Aside0.mk hcc
          clear hM hcc hfz hcl hgc hgl hgb hx1 hb1 hs1 ho1 hk1 hne hwsz hbxo
          by_cases hc : x.f0 ≤ wrap64 (y.f0 + y.f1)
          · have hdc : decide (x.f0 ≤ wrap64 (y.f0 + y.f1)) = true := decide_eq_true hc
            have hag : joinG o x = o.set j.toNat ⟨y.f0, mx y.f1 (wrap64 (wrap64 (x.f0 + x.f1) - y.f0))⟩ := by
              have hy2 : y = rd_T40 o ((o.length : Int) - 1) := by rw [hy, HJ.out]; rfl
              unfold joinG
              rw [← hy2, if_pos ⟨hn, hc⟩, HJ.out]
            have HAG := Aside0.mk hag
            clear hag hc hy
            go_wp2_with fail
            rw [← hW1, ← hbx]
            have HW1 := Aside0.mk hW1
            have HBX1 := Aside0.mk hbx
            clear hW1 hbx
            go_quiet (fail)
            obtain ⟨W2, hW2⟩ : ∃ W, W = W1.drewN nq := ⟨_, rfl⟩
            rw [← hW2]
            have HO2 := Aside0.mk (show Kd.R k40 40 W2 w.heap.size (fun k => some k ≠ (Value.slice (some ad) ys.length c1).ownBlock) (.slice (some ⟨g, 0, none⟩) o.length c3) o by rw [hW2]; exact Kd.R_drewN HO1.out nq)
            have HB2' := Aside0.mk (show Below w.heap.size w W2 by rw [hW2]; exact pw_below_drewN HB1'.out nq)
            have HS2 := Aside0.mk (show w2.heap.size ≤ W2.heap.size by rw [hW2]; exact HS1.out)
            have HK2 := Aside0.mk (show ∀ k, (Value.slice (some ad) ys.length c1).ownBlock = some k → k < W2.heap.size ∧ W2.heap[k]? = w2.heap[k]? by rw [hW2]; exact HK1.out)
            have HX2 := Aside0.mk (show W2.heap[bx]? = some (.cells #[.int .i64 x.f0, .int .i64 x.f1] 40 (0, 0)) by rw [hW2]; exact HX1.out)
            have p0 : W2.cell? ⟨bx, 0, none⟩ = some (.int .i64 x.f0) := (blk_cell HX2.out 0).trans rfl
            have p1 : W2.cell? ⟨bx, 1, none⟩ = some (.int .i64 x.f1) := (blk_cell HX2.out 1).trans rfl
            have e0' : W2.cell? ⟨g, j.toNat * 2, none⟩ = some (.int .i64 y.f0) := by rw [hW2]; exact e0
            have e1' : W2.cell? ⟨g, j.toNat * 2 + 1, none⟩ = some (.int .i64 y.f1) := by rw [hW2]; exact e1
            have HCC2 := Aside0.mk (show ∀ (j_1 : Nat) (u : Value), [Value.int IntKind.i64 y.f0, Value.int IntKind.i64 y.f1][j_1]? = some u → W2.cell? ⟨g, j.toNat * 2 + j_1, none⟩ = some u by rw [hW2]; exact HCC.out)
            obtain ⟨s1, hs1⟩ : ∃ s : Int, s = wrap64 (x.f0 + x.f1) := ⟨_, rfl⟩
            have hs1w : IntKind.i64.wrap (x.f0 + x.f1) = s1 := by rw [hs1]; exact IntWalk.i64_left _
            have hs1w2 : wrap64 (x.f0 + x.f1) = s1 := hs1.symm
            obtain ⟨z, hz⟩ : ∃ s : Int, s = wrap64 (s1 - y.f0) := ⟨_, rfl⟩
            have hzw : IntKind.i64.wrap (s1 - y.f0) = z := by rw [hz]; exact IntWalk.i64_left _
            have hzw2 : wrap64 (s1 - y.f0) = z := hz.symm
            obtain ⟨m, hm⟩ : ∃ m : Int, m = mx y.f1 z := ⟨_, rfl⟩
            have hm' : (if y.f1 < z then z else y.f1) = m := hm.symm
            have HMM := Aside0.mk (show mx y.f1 (wrap64 (wrap64 (x.f0 + x.f1) - y.f0)) = m by rw [hs1w2, hzw2, hm])
            clear hW2 q0 q1 e0 e1 hs1 hz hm
            go_wp2_with fail
            go_still_tail 21, (by kernel_rfl)
            change wpList _ _ _ _ _ W2.drew
            refine Kd.R_store k40 (w0 := w) (W := W2.drew) w.heap.size rfl rfl 3 (.tmp 58) (.tmp 56) rfl 40 j 1 o (⟨y.f0, m⟩ : S40) (.int .i64 m) [.int .i64 m] [.int .i64 y.f0, .int .i64 y.f1] (fun k => some k ≠ (Value.slice (some ad) ys.length c1).ownBlock) (fun _ => False) rfl rfl rfl rfl (by kernel_rfl) (by simp [Value.oneCell']) (Kd.R_drew HO2.out) hi0 hi1 rfl (fun j u hu => HCC2.out j u hu) (Nat.le_refl 2) (k40_mkM _ _ _ (⟨y.f0, m⟩ : S40)) (fun _ hk => hk.elim) (below_drew HB2'.out) ?_
            intro w4 hO4 hB4 hG4
            have HO4 := Aside0.mk hO4
            have HB4 := Aside0.mk hB4
            have HG4 := Aside0.mk hG4
            clear hO4 hB4 hG4
            go_wp2
            go_roundg k1
            case measure => omega
            case rel =>
              refine ⟨i + 1, by first | rfl | (simp; done), ⟨by have := HP.out.1; omega, by have := HI.out.2; omega⟩, ⟨?_⟩, ⟨HB4.out, ?_, ?_⟩⟩
              · rw [HST.out, HAG.out, HMM.out]; exact HO4.out
              · exact Nat.le_trans HS2.out HG4.out.size
              · intro k hk
                have h1 := HK2.out k hk
                rw [HG4.out.block k h1.1 (fun e => HO2.out.1 k (by rw [e]; rfl) hk.symm)]
                exact h1.2
          · have hdc : decide (x.f0 ≤ wrap64 (y.f0 + y.f1)) = false := decide_eq_false hc
            have hag : joinG o x = o ++ [x] := by
              have hy2 : y = rd_T40 o ((o.length : Int) - 1) := by rw [hy, HJ.out]; rfl
              unfold joinG
              rw [← hy2, if_neg (fun h => hc h.2)]
            have HAG := Aside0.mk hag
            clear hag hc hy
            go_wp2_with fail
            rw [← hW1, ← hbx]
            have HW1 := Aside0.mk hW1
            have HBX1 := Aside0.mk hbx
            clear hW1 hbx
            go_quiet (fail)
            obtain ⟨W2, hW2⟩ : ∃ W, W = W1.drewN nq := ⟨_, rfl⟩
            rw [← hW2]
            have HO2 := Aside0.mk (show Kd.R k40 40 W2 w.heap.size (fun k => some k ≠ (Value.slice (some ad) ys.length c1).ownBlock) (.slice (some ⟨g, 0, none⟩) o.length c3) o by rw [hW2]; exact Kd.R_drewN HO1.out nq)
            have HB2' := Aside0.mk (show Below w.heap.size w W2 by rw [hW2]; exact pw_below_drewN HB1'.out nq)
            have HS2 := Aside0.mk (show w2.heap.size ≤ W2.heap.size by rw [hW2]; exact HS1.out)
            have HK2 := Aside0.mk (show ∀ k, (Value.slice (some ad) ys.length c1).ownBlock = some k → k < W2.heap.size ∧ W2.heap[k]? = w2.heap[k]? by rw [hW2]; exact HK1.out)
            have HX2 := Aside0.mk (show W2.heap[bx]? = some (.cells #[.int .i64 x.f0, .int .i64 x.f1] 40 (0, 0)) by rw [hW2]; exact HX1.out)
            have p0 : W2.cell? ⟨bx, 0, none⟩ = some (.int .i64 x.f0) := (blk_cell HX2.out 0).trans rfl
            have p1 : W2.cell? ⟨bx, 1, none⟩ = some (.int .i64 x.f1) := (blk_cell HX2.out 1).trans rfl
            clear hW2 q0 q1 e0 e1
            go_wp2_with (first | ((with_reducible refine gate_builtin (b := .append) (xs := #[.tmp 59, .tmp 61]) rfl ?_); at_builtin; refine Kd.R_append k40 (w0 := w) w.heap.size rfl (.tmp 59) (.tmp 61) 54 40 (.agg #[(.int .i64 0), (.int .i64 0)]) 16 rfl Try.underlying54 info40 rfl (by decide) (by omega) (.slice (some ⟨g, 0, none⟩) o.length c3) o x [.int .i64 x.f0, .int .i64 x.f1] (fun k => some k ≠ (Value.slice (some ad) ys.length c1).ownBlock) (fun _ => False) rfl (by first | (go_simp; done) | (go_simp; rfl)) ?aP (fun _ hk => hk.elim) ?aF ?aO ?aB ?aS ?aL ?_; (case aP => exact k40_mkM _ _ _ x); (case aF => intro k hk e; have h1 := (HK2.out k e.symm).1; omega); (case aO => exact HO2.out); (case aB => exact HB2'.out); (case aS => exact HB2'.out.size); (case aL => have := HOL.out; omega); intro v1 w4 ho hb hg hat; have HO4 := Aside0.mk ho; have HB4 := Aside0.mk hb; have HG4 := Aside0.mk hg; clear ho hb hg hat))
            go_roundg k1
            case measure => omega
            case rel =>
              refine ⟨i + 1, by first | rfl | (simp; done), ⟨by have := HP.out.1; omega, by have := HI.out.2; omega⟩, ⟨?_⟩, ⟨HB4.out, ?_, ?_⟩⟩
              · rw [HST.out, HAG.out]; exact HO4.out
              · exact Nat.le_trans HS2.out HG4.out.size
              · intro k hk
                have h1 := HK2.out k hk
                rw [HG4.out.block k h1.1 (fun e => HO2.out.1 k e.symm hk.symm)]
                exact h1.2
        · have hdj : decide (0 ≤ j) = false := decide_eq_false (by have := HJ.out; omega)
          have hag : joinG o x = o ++ [x] := by
            unfold joinG
            rw [if_neg (fun h => hn h.1)]
          have HAG := Aside0.mk hag
          clear hag hx1 hb1 hs1 ho1 hk1 hne hwsz hbxo hn
          go_wp2_with fail
          rw [← hW1, ← hbx]
          have HW1 := Aside0.mk hW1
          have HBX1 := Aside0.mk hbx
          clear hW1 hbx
          go_quiet (fail)
          obtain ⟨W2, hW2⟩ : ∃ W, W = W1.drewN nq := ⟨_, rfl⟩
          rw [← hW2]
          have HO2 := Aside0.mk (show Kd.R k40 40 W2 w.heap.size (fun k => some k ≠ (Value.slice (some ad) ys.length c1).ownBlock) (.slice A3 o.length c3) o by rw [hW2]; exact Kd.R_drewN HO1.out nq)
          have HB2' := Aside0.mk (show Below w.heap.size w W2 by rw [hW2]; exact pw_below_drewN HB1'.out nq)
          have HS2 := Aside0.mk (show w2.heap.size ≤ W2.heap.size by rw [hW2]; exact HS1.out)
          have HK2 := Aside0.mk (show ∀ k, (Value.slice (some ad) ys.length c1).ownBlock = some k → k < W2.heap.size ∧ W2.heap[k]? = w2.heap[k]? by rw [hW2]; exact HK1.out)
          have HX2 := Aside0.mk (show W2.heap[bx]? = some (.cells #[.int .i64 x.f0, .int .i64 x.f1] 40 (0, 0)) by rw [hW2]; exact HX1.out)
          have p0 : W2.cell? ⟨bx, 0, none⟩ = some (.int .i64 x.f0) := (blk_cell HX2.out 0).trans rfl
          have p1 : W2.cell? ⟨bx, 1, none⟩ = some (.int .i64 x.f1) := (blk_cell HX2.out 1).trans rfl
          clear hW2 q0 q1
          go_wp2_with (first | ((with_reducible refine gate_builtin (b := .append) (xs := #[.tmp 59, .tmp 61]) rfl ?_); at_builtin; refine Kd.R_append k40 (w0 := w) w.heap.size rfl (.tmp 59) (.tmp 61) 54 40 (.agg #[(.int .i64 0), (.int .i64 0)]) 16 rfl Try.underlying54 info40 rfl (by decide) (by omega) (.slice A3 o.length c3) o x [.int .i64 x.f0, .int .i64 x.f1] (fun k => some k ≠ (Value.slice (some ad) ys.length c1).ownBlock) (fun _ => False) rfl (by first | (go_simp; done) | (go_simp; rfl)) ?aP (fun _ hk => hk.elim) ?aF ?aO ?aB ?aS ?aL ?_; (case aP => exact k40_mkM _ _ _ x); (case aF => intro k hk e; have h1 := (HK2.out k e.symm).1; omega); (case aO => exact HO2.out); (case aB => exact HB2'.out); (case aS => exact HB2'.out.size); (case aL => have := HOL.out; omega); intro v1 w4 ho hb hg hat; have HO4 := Aside0.mk ho; have HB4 := Aside0.mk hb; have HG4 := Aside0.mk hg; clear ho hb hg hat))
          go_roundg k1
          case measure => omega
          case rel =>
            refine ⟨i + 1, by first | rfl | (simp; done), ⟨by have := HP.out.1; omega, by have := HI.out.2; omega⟩, ⟨?_⟩, ⟨HB4.out, ?_, ?_⟩⟩
            · rw [HST.out, HAG.out]; exact HO4.out
            · exact Nat.le_trans HS2.out HG4.out.size
            · intro k hk
              have h1 := HK2.out k hk
              rw [HG4.out.block k h1.1 (fun e => HO2.out.1 k e.symm hk.symm)]
              exact h1.2
  · cases h
def toC (c : S96) : Flag.Ex := ⟨c.f0, c.f2 + c.f0, c.f1⟩
def ofC (x : Flag.Ex) : S96 := ⟨x.v, x.n, x.p - x.v⟩
theorem ofC_toC (c : S96) : ofC (toC c) = c := by
  unfold ofC toC
  have : c.f2 + c.f0 - c.f0 = c.f2 := by omega
  rw [this]
theorem mapC_inj {l m : List S96} (h : l.map toC = m.map toC) : l = m := by
  have key : ∀ l : List S96, (l.map toC).map ofC = l := by
    intro l
    rw [List.map_map]
    induction l with
    | nil => rfl
    | cons x t ih => rw [List.map_cons, ih]; congr 1; exact ofC_toC x
  rw [← key l, h, key m]
def toEd (x : S40) : Flag.Ed := ⟨x.f0, x.f1⟩
def edgesR (r : S88) : List S40 := [⟨r.f0, 1⟩, ⟨wrap64 (r.f0 + r.f1), -1⟩]
def edgesS (l : List S88) : List S40 := l.flatMap edgesR
theorem edgesS_len (l : List S88) : (edgesS l).length = 2 * l.length := by
  unfold edgesS
  induction l with
  | nil => rfl
  | cons r t ih => rw [List.flatMap_cons, List.length_append, ih, List.length_cons]; unfold edgesR; simp; omega
def pushC (o : List S96) (at_ n x : Int) : List S96 :=
  if 0 < o.length ∧ (rd_T96 o (o.length - 1)).f2 = n ∧ wrap64 ((rd_T96 o (o.length - 1)).f0 + (rd_T96 o (o.length - 1)).f1) = at_ then
    o.set ((o.length : Int) - 1).toNat ⟨(rd_T96 o (o.length - 1)).f0, wrap64 ((rd_T96 o (o.length - 1)).f1 + wrap64 (x - at_)), (rd_T96 o (o.length - 1)).f2⟩
  else o ++ [⟨at_, wrap64 (x - at_), n⟩]
def stepS (s : List S96 × Int × Int) (x : S40) : List S96 × Int × Int :=
  (if 0 < s.2.1 ∧ s.2.2 < x.f0 then pushC s.1 s.2.2 s.2.1 x.f0 else s.1, wrap64 (s.2.1 + x.f1), x.f0)
theorem pushC_length (o : List S96) (a n x : Int) : (pushC o a n x).length ≤ o.length + 1 := by
  unfold pushC
  split
  · rw [List.length_set]; omega
  · simp
theorem stepS_length (s : List S96 × Int × Int) (x : S40) : (stepS s x).1.length ≤ s.1.length + 1 := by
  unfold stepS
  dsimp only
  split
  · exact pushC_length _ _ _ _
  · omega
theorem foldS_length (l : List S40) : ∀ s : List S96 × Int × Int, (l.foldl stepS s).1.length ≤ s.1.length + l.length := by
  induction l with
  | nil => intro s; simp
  | cons x t ih =>
    intro s
    have h1 := ih (stepS s x)
    have h2 := stepS_length s x
    simp only [List.foldl_cons, List.length_cons]
    omega
structure OkC (c : S96) : Prop where
  a : 0 ≤ c.f0
  n : 0 < c.f1
  e : c.f0 + c.f1 ≤ 65536
  p : 0 < c.f2
structure InvC (s : List S96 × Int × Int) (k : Nat) : Prop where
  ok : ∀ c ∈ s.1, OkC c
  a : 0 ≤ s.2.2
  e : s.2.2 ≤ 65536
  lo : -(k : Int) ≤ s.2.1
  hi : s.2.1 ≤ k
structure OkEd (x : S40) : Prop where
  a : 0 ≤ x.f0
  e : x.f0 ≤ 65536
  lo : -1 ≤ x.f1
  hi : x.f1 ≤ 1
theorem pushC_toC {o : List S96} {a n x : Int} (ho : ∀ c ∈ o, OkC c) (ha : 0 ≤ a) (hn : 0 < n) (hx : x ≤ 65536) (hax : a < x) :
    (pushC o a n x).map toC = Flag.addE (o.map toC) ⟨a, n + a, x - a⟩ ∧ ∀ c ∈ pushC o a n x, OkC c := by
  unfold pushC Flag.addE
  dsimp only
  rw [if_neg (show ¬ x - a ≤ 0 by omega), w64 (n := x - a) (by omega)]
  rcases List.eq_nil_or_concat o with rfl | ⟨m, y, rfl⟩
  · rw [if_neg (by simp)]
    refine ⟨rfl, fun z hz => ?_⟩
    have : z = ⟨a, x - a, n⟩ := by simpa using hz
    rw [this]; exact ⟨ha, show 0 < x - a by omega, show a + (x - a) ≤ 65536 by omega, hn⟩
  · rw [List.concat_eq_append] at ho ⊢
    have hr : rd_T96 (m ++ [y]) (((m ++ [y]).length : Int) - 1) = y := by simp [rd_T96]
    obtain ⟨y1, y2, y3, y4⟩ := ho y (by simp)
    have hl : (m ++ [y]).map toC = m.map toC ++ [toC y] := by simp
    rw [hr, w64 (n := y.f0 + y.f1) (by omega), w64 (n := y.f1 + (x - a)) (by omega), hl, List.getLast?_concat]
    dsimp only
    by_cases hc : y.f2 = n ∧ y.f0 + y.f1 = a
    · rw [if_pos ⟨by simp, hc⟩, if_pos (by
        refine ⟨hc.2, Or.inr ⟨?_, ?_⟩⟩
        · show 0 ≤ y.f2 + y.f0; omega
        · show n + a = y.f2 + y.f0 + y.f1; omega)]
      have e : (((m ++ [y]).length : Int) - 1).toNat = m.length := by simp
      rw [e]
      have e2 : (m ++ [y]).set m.length (⟨y.f0, y.f1 + (x - a), y.f2⟩ : S96) = m ++ [⟨y.f0, y.f1 + (x - a), y.f2⟩] := by simp
      rw [e2, List.dropLast_concat]
      refine ⟨by simp [toC], fun z hz => ?_⟩
      rcases List.mem_append.1 hz with hz | hz
      · exact ho z (List.mem_append_left _ hz)
      · have : z = ⟨y.f0, y.f1 + (x - a), y.f2⟩ := by simpa using hz
        rw [this]
        exact ⟨y1, show 0 < y.f1 + (x - a) by omega, show y.f0 + (y.f1 + (x - a)) ≤ 65536 by omega, y4⟩
    · rw [if_neg (fun h => hc h.2), if_neg (by
        rintro ⟨h1, h2⟩
        have h1 : y.f0 + y.f1 = a := h1
        rcases h2 with ⟨h3, _⟩ | ⟨_, h4⟩
        · have h3 : y.f2 + y.f0 < 0 := h3
          omega
        · have h4 : n + a = y.f2 + y.f0 + y.f1 := h4
          exact hc ⟨by omega, h1⟩)]
      refine ⟨by simp [toC], fun z hz => ?_⟩
      rcases List.mem_append.1 hz with hz | hz
      · exact ho z hz
      · have : z = ⟨a, x - a, n⟩ := by simpa using hz
        rw [this]; exact ⟨ha, show 0 < x - a by omega, show a + (x - a) ≤ 65536 by omega, hn⟩
theorem stepS_toC {s : List S96 × Int × Int} {x : S40} {k : Nat} (hs : InvC s k) (hk : k < 1000000) (hx : OkEd x) :
    ((stepS s x).1.map toC, (stepS s x).2.1, (stepS s x).2.2) = Flag.stepC (s.1.map toC, s.2.1, s.2.2) (toEd x) ∧ InvC (stepS s x) (k + 1) := by
  obtain ⟨h1, h2, h3, h4, h5⟩ := hs
  obtain ⟨x1, x2, x3, x4⟩ := hx
  unfold stepS Flag.stepC toEd
  dsimp only
  rw [w64 (n := s.2.1 + x.f1) (by omega)]
  by_cases hc : 0 < s.2.1 ∧ s.2.2 < x.f0
  · rw [if_pos hc, if_pos hc]
    obtain ⟨g1, g2⟩ := pushC_toC h1 h2 hc.1 x2 hc.2
    rw [g1]
    exact ⟨rfl, g2, x1, x2, by dsimp only; omega, by dsimp only; omega⟩
  · rw [if_neg hc, if_neg hc]
    exact ⟨rfl, h1, x1, x2, by dsimp only; omega, by dsimp only; omega⟩
theorem foldS_toC {l : List S40} : ∀ {s : List S96 × Int × Int} {k : Nat}, InvC s k → k + l.length < 1000000 → (∀ x ∈ l, OkEd x) →
    (l.foldl stepS s).1.map toC = ((l.map toEd).foldl Flag.stepC (s.1.map toC, s.2.1, s.2.2)).1 ∧ ∀ c ∈ (l.foldl stepS s).1, OkC c := by
  induction l with
  | nil => intro s k hs _ _; exact ⟨rfl, hs.ok⟩
  | cons x t ih =>
    intro s k hs hk hl
    rw [List.length_cons] at hk
    obtain ⟨h1, h2⟩ := stepS_toC hs (by omega) (hl x List.mem_cons_self)
    obtain ⟨h3, h4⟩ := ih h2 (by omega) fun y hy => hl y (List.mem_cons_of_mem _ hy)
    refine ⟨?_, h4⟩
    rw [List.foldl_cons, h3, h1, List.map_cons, List.foldl_cons]
def countsL (l : List S88) : List S96 := ((sortL (edgesS l)).foldl stepS ([], 0, 0)).1
theorem edges_toEd {l : List S88} (h : Flag.Ok9 (l.map toR)) : (edgesS l).map toEd = Flag.edges (l.map toR) ∧ ∀ x ∈ edgesS l, OkEd x := by
  have key : ∀ r ∈ l, 0 < r.f1 ∧ 0 ≤ r.f0 ∧ r.f0 + r.f1 ≤ 65536 := fun r hr => by
    have := h.each (toR r) (List.mem_map_of_mem hr)
    exact ⟨this.1, this.2.1, this.2.2.1⟩
  clear h
  unfold edgesS Flag.edges
  induction l with
  | nil => exact ⟨rfl, by intro x hx; cases hx⟩
  | cons r t ih =>
    obtain ⟨i1, i2⟩ := ih fun x hx => key x (List.mem_cons_of_mem _ hx)
    obtain ⟨k1, k2, k3⟩ := key r List.mem_cons_self
    rw [List.flatMap_cons, List.map_append, i1, List.map_cons, List.flatMap_cons]
    have hw : edgesR r = [⟨r.f0, 1⟩, ⟨r.f0 + r.f1, -1⟩] := by unfold edgesR; rw [w64 (n := r.f0 + r.f1) (by omega)]
    refine ⟨by rw [hw]; rfl, fun x hx => ?_⟩
    rcases List.mem_append.1 hx with hx | hx
    · rw [hw] at hx
      simp at hx
      rcases hx with rfl | rfl
      · exact ⟨by dsimp only; omega, by dsimp only; omega, by dsimp only; omega, by dsimp only; omega⟩
      · exact ⟨by dsimp only; omega, by dsimp only; omega, by dsimp only; omega, by dsimp only; omega⟩
    · exact i2 x hx
theorem inv_start : InvC (([], 0, 0) : List S96 × Int × Int) 0 := InvC.mk (fun c hc => nomatch hc) (Int.le_refl 0) (show (0 : Int) ≤ 65536 by omega) (Int.le_refl 0) (Int.le_refl 0)
theorem counts_any {l : List S88} {ys : List S40} (h : Flag.Ok9 (l.map toR)) (hl : l.length ≤ 9216) (hp : ys.Perm (edgesS l)) (hs : ys.Pairwise fun a b => a.f0 ≤ b.f0) :
    Flag.CountsOf (l.map toR) ((ys.foldl stepS ([], 0, 0)).1.map toC) ∧ ∀ c ∈ (ys.foldl stepS ([], 0, 0)).1, OkC c := by
  obtain ⟨e1, e2⟩ := edges_toEd h
  have hn := hp.length_eq
  rw [edgesS_len] at hn
  obtain ⟨f1, f2⟩ := foldS_toC (l := ys) inv_start (by omega) fun x hx => e2 x (hp.mem_iff.1 hx)
  refine ⟨?_, f2⟩
  rw [f1]
  refine Flag.counts_prog (l := l.map toR) (es := ys.map toEd) (fun r hr => ?_) ?_ ?_
  · have := h.each r hr
    exact ⟨this.1, this.2.1⟩
  · rw [← e1]; exact hp.map toEd
  · exact List.pairwise_map.2 hs
theorem counts_one {l : List S88} {ys : List S40} (h : Flag.Ok9 (l.map toR)) (hl : l.length ≤ 9216) (hp : ys.Perm (edgesS l)) (hs : ys.Pairwise fun a b => a.f0 ≤ b.f0) : (ys.foldl stepS ([], 0, 0)).1 = countsL l :=
  mapC_inj ((counts_any h hl hp hs).1.one (counts_any h hl (sortL_perm _) (sortL_sorted _)).1)
theorem countsL_spec {l : List S88} (h : Flag.Ok9 (l.map toR)) (hl : l.length ≤ 9216) : Flag.CountsOf (l.map toR) ((countsL l).map toC) ∧ ∀ c ∈ countsL l, OkC c := counts_any h hl (sortL_perm _) (sortL_sorted _)
def sortEdge_ren : Go.Shelf.Ren := ⟨fun | 6 => 117 | 15 => 147 | 14 => 146 | 28 => 169 | 29 => 170 | 20 => 161 | 21 => 162 | 22 => 163 | 23 => 164 | 24 => 165 | 25 => 166 | 26 => 167 | 27 => 168 | 46 => 189 | 47 => 190 | 48 => 191 | 49 => 192 | 50 => 193 | 57 => 203 | n => n, fun | 22 => 165 | 24 => 167 | 25 => 169 | 3 => 3 | 39 => 183 | 0 => 0 | 53 => 213 | 55 => 215 | 4 => 4 | 46 => 207 | 45 => 206 | 50 => 147 | 5 => 5 | 9 => 9 | 66 => 226 | 70 => 230 | 76 => 238 | 77 => 50 | n => n, fun | n => n⟩
theorem sortEdge : Go.Proofs.SlLaysF0.n6 Try.prog sortEdge_ren := {
  mixed := by kernel_rfl,
  f6 := ⟨Try.f117.name, by decide, Try.func117.trans (congrArg some (by kernel_rfl))⟩,
  f14 := ⟨Try.f146.name, by decide, Try.func146.trans (congrArg some (by kernel_rfl))⟩,
  f15 := Try.func147.trans (congrArg some (by kernel_rfl)),
  f20 := ⟨Try.f161.name, by decide, Try.func161.trans (congrArg some (by kernel_rfl))⟩,
  f21 := ⟨Try.f162.name, by decide, Try.func162.trans (congrArg some (by kernel_rfl))⟩,
  f22 := ⟨Try.f163.name, by decide, Try.func163.trans (congrArg some (by kernel_rfl))⟩,
  f23 := ⟨Try.f164.name, by decide, Try.func164.trans (congrArg some (by kernel_rfl))⟩,
  f24 := ⟨Try.f165.name, by decide, Try.func165.trans (congrArg some (by kernel_rfl))⟩,
  f25 := ⟨Try.f166.name, by decide, Try.func166.trans (congrArg some (by kernel_rfl))⟩,
  f26 := ⟨Try.f167.name, by decide, Try.func167.trans (congrArg some (by kernel_rfl))⟩,
  f27 := ⟨Try.f168.name, by decide, Try.func168.trans (congrArg some (by kernel_rfl))⟩,
  f28 := Try.func169.trans (congrArg some (by kernel_rfl)),
  f29 := Try.func170.trans (congrArg some (by kernel_rfl)),
  f46 := ⟨Try.f189.name, by decide, Try.func189.trans (congrArg some (by kernel_rfl))⟩,
  f47 := Try.func190.trans (congrArg some (by kernel_rfl)),
  f48 := Try.func191.trans (congrArg some (by kernel_rfl)),
  f49 := ⟨Try.f192.name, by decide, Try.func192.trans (congrArg some (by kernel_rfl))⟩,
  f50 := ⟨Try.f193.name, by decide, Try.func193.trans (congrArg some (by kernel_rfl))⟩,
  f57 := ⟨Try.f203.name, by decide, Try.func203.trans (congrArg some (by kernel_rfl))⟩,
  t0 := Try.underlying0,
  a0 := Try.isAgg0,
  z0 := Try.sizeOf0,
  v0 := Try.zeroValue0,
  t3 := Try.underlying3,
  a3 := Try.isAgg3,
  z3 := Try.sizeOf3,
  v3 := Try.zeroValue3,
  t4 := Try.underlying4,
  a4 := Try.isAgg4,
  z4 := Try.sizeOf4,
  v4 := Try.zeroValue4,
  t5 := Try.underlying5,
  a5 := Try.isAgg5,
  z5 := Try.sizeOf5,
  v5 := Try.zeroValue5,
  t9 := Try.underlying9,
  a9 := Try.isAgg9,
  z9 := Try.sizeOf9,
  v9 := Try.zeroValue9,
  t22 := Try.underlying165,
  a22 := Try.isAgg165,
  z22 := Try.sizeOf165,
  v22 := Try.zeroValue165,
  t25 := Try.underlying169,
  a25 := Try.isAgg169,
  z25 := Try.sizeOf169,
  v25 := Try.zeroValue169,
  t39 := Try.underlying183,
  a39 := Try.isAgg183,
  z39 := Try.sizeOf183,
  v39 := Try.zeroValue183,
  t45 := Try.underlying206,
  a45 := Try.isAgg206,
  z45 := Try.sizeOf206,
  v45 := Try.zeroValue206,
  t46 := Try.underlying207,
  a46 := Try.isAgg207,
  z46 := Try.sizeOf207,
  v46 := Try.zeroValue207,
  t50 := Try.underlying147,
  a50 := Try.isAgg147,
  z50 := Try.sizeOf147,
  v50 := Try.zeroValue147,
  t53 := Try.underlying213,
  a53 := Try.isAgg213,
  z53 := Try.sizeOf213,
  v53 := Try.zeroValue213,
  t55 := Try.underlying215,
  a55 := Try.isAgg215,
  z55 := Try.sizeOf215,
  v55 := Try.zeroValue215,
  t66 := Try.underlying226,
  a66 := Try.isAgg226,
  z66 := Try.sizeOf226,
  v66 := Try.zeroValue226,
  t70 := Try.underlying230,
  a70 := Try.isAgg230,
  z70 := Try.sizeOf230,
  v70 := Try.zeroValue230,
  t76 := Try.underlying238,
  a76 := Try.isAgg238,
  z76 := Try.sizeOf238,
  v76 := Try.zeroValue238,
  t77 := Try.underlying50,
  a77 := Try.isAgg50,
  z77 := Try.sizeOf50,
  v77 := Try.zeroValue50 }
set_option maxHeartbeats 1000000 in
set_option maxRecDepth 100000 in
open Go.Proofs Go.Sort in
theorem edge_cmp (x y : S40) (W : World) : Calls Try.prog 118 #[.agg #[.int .i64 x.f0, .int .i64 x.f1], .agg #[.int .i64 y.f0, .int .i64 y.f1]] W fun e w' => e = .returned (.int .i64 (cmpAt x y)) ∧ ∃ q os', w' = grow (W.drewN q) os' := by
  have hu167 := Try.underlying167
  have hf : cmp_Compare_int.f x.f0 y.f0 = some (cmpAt x y) := cmp_f x.f0 y.f0
  go_enter Try.func118, Try.ntmps118
  go_wp2_with fail
  refine (cmp_Compare_int.calls x.f0 y.f0 _ _ hf).mono ?_
  rintro e w1 ⟨rfl, ⟨q, rfl⟩⟩
  clear hf
  go_wp2
  go_ret
  exact ⟨rfl, q, _, by rw [alloc_eq_grow, alloc_eq_grow, grow_grow]; rfl⟩
open Go.Proofs Go.Sort in
theorem sort_edge (cl : Nat) (eg : ∀ args w, (callFunc cl args).run Try.prog w = .ok (.enter cl args) w)
    (hcl : ∀ (x y : S40) (W : World), Calls Try.prog cl #[.agg #[.int .i64 x.f0, .int .i64 x.f1], .agg #[.int .i64 y.f0, .int .i64 y.f1]] W fun e w' => e = .returned (.int .i64 (cmpAt x y)) ∧ ∃ q os', w' = grow (W.drewN q) os')
    {w0 w : World} {base : Nat} {ok : Nat → Prop} {v : Value} {xs : List S40} (HO : Kd.R k40 167 w base ok v xs) (HB : Go.RowKit.Below base w0 w) (hbase : base ≤ w.heap.size) (hlen : xs.length < 4611686018427387904) :
    Calls Try.prog 117 #[v, .func (.func cl) #[] #[]] w fun e w' => e = .returned (.tuple #[]) ∧ ∃ ys : List S40, ys.Perm xs ∧ (ys.Pairwise fun a b => a.f0 ≤ b.f0) ∧ Kd.R k40 167 w' base ok v ys ∧ Go.RowKit.Below base w0 w' ∧ w.heap.size ≤ w'.heap.size ∧ (∀ i, i < w.heap.size → some i ≠ v.ownBlock → w'.heap[i]? = w.heap[i]?) := by
  rcases R_lies flatSpan HO with ⟨rfl, rfl⟩ | ⟨g, cap, rfl, hg, hok, hL⟩
  · refine (AnyF.slices_SortFunc_none sortEdge none 0 (.func (.func cl) #[] #[]) w).mono ?_
    rintro e w' ⟨rfl, rfl⟩
    exact ⟨rfl, [], List.Perm.nil, List.Pairwise.nil, HO, HB, Nat.le_refl _, fun _ _ _ => rfl⟩
  · have hk : ∀ x : S40, (encSpan x).length = 2 := fun _ => rfl
    have hcon := AnyQ.slices_SortFunc sortEdge 2 Try.isAgg167 Try.sizeOf167 encSpan hk flatSpan.one cmpAt swo_cmpAt cl #[] g 0 cap xs.toArray w eg (fun m os dk hd x y => hcl x y _) (hL.holds hk (by decide)) hL.block (by simpa using hlen)
    refine Calls.mono hcon ?_
    rintro e w' ⟨rfl, d', n, os, hp, hs, rfl⟩
    obtain ⟨h1, h2, h3⟩ := sort_list hp hs
    have h4 := hL.sorted (n := n) (os := os) hk (by decide) h1
    refine ⟨rfl, d'.toList, h2, h3.imp (fun {a b} h => ?_), ?_, sorted_below HB hg hbase, ?_, fun i hi hne => ?_⟩
    · rw [lt_cmpAt] at h
      have := of_decide_eq_false h
      omega
    · have h5 := R_of_lies (base := base) (ok := ok) flatSpan hg hok h4
      have e1 : d'.toList.length = xs.length := by simpa using h1
      rw [e1] at h5
      exact h5
    · exact size_sortWorldK_c encSpan 2 w g 0 n d' os
    · rw [sorted_heap 2 g n d' os i hi, if_neg (fun h => hne (by rw [h]; rfl))]
theorem infoEdge : (Try.prog.info? 167).map (fun i => (i.zero, i.size, i.bytes)) = some (some (.agg #[(.int .i64 0), (.int .i64 0)]), 2, 16) := by kernel_rfl
theorem reads_two (W : World) (x y : S40) : ReadsRow (fun (x : S40) cs => cs = [.int .i64 x.f0, .int .i64 x.f1]) 2 (W.alloc (.cells #[.int .i64 x.f0, .int .i64 x.f1, .int .i64 y.f0, .int .i64 y.f1] 167)) (some ⟨W.heap.size, 0, none⟩) 2 [x, y] := by
  refine ⟨rfl, by decide, fun _ => ⟨_, rfl, fun j p hp => ?_⟩⟩
  have hb := blk_new W (.cells #[.int .i64 x.f0, .int .i64 x.f1, .int .i64 y.f0, .int .i64 y.f1] 167)
  match j, hp with
  | 0, hp =>
    cases hp
    refine ⟨_, rfl, rfl, fun i u hu => ?_⟩
    match i, hu with
    | 0, hu => cases hu; exact (blk_cell hb 0).trans rfl
    | 1, hu => cases hu; exact (blk_cell hb 1).trans rfl
    | n + 2, hu => cases hu
  | 1, hp =>
    cases hp
    refine ⟨_, rfl, rfl, fun i u hu => ?_⟩
    match i, hu with
    | 0, hu => cases hu; exact (blk_cell hb 2).trans rfl
    | 1, hu => cases hu; exact (blk_cell hb 3).trans rfl
    | n + 2, hu => cases hu
  | n + 2, hp => cases hp
def refs_Counts.f (l0 : List (S94)) : Option ((List (S96)) × Int) := some (if Flag.checkM (l0.map toM) = 0 then (countsL (sortRefL (refsG l0)), 0) else ([], 9))
set_option maxHeartbeats 8000000 in
set_option maxRecDepth 100000 in
theorem refs_Counts.calls (A0 : Option Addr) (c0 : Nat) (l0 : List (S94)) (r1 : List (S96)) (r2 : Int) (w : World) (hr0 : Kd.C k94 w A0 l0.length l0) (hc0 : l0.length ≤ c0) (h : refs_Counts.f l0 = some (r1, r2)) :
    Calls Try.prog 62 #[.slice A0 l0.length c0] w fun e w' => ∃ v0_ : Value, e = .returned (.tuple #[v0_, .int .i64 r2]) ∧ Kd.R k96 96 w' w.heap.size (fun _ => True) v0_ r1 ∧ Below w.heap.size w w' := by
  have hu94 := Try.underlying94
  have hu88 := Try.underlying88
  have hu167 := Try.underlying167
  have hu96 := Try.underlying96
  unfold refs_Counts.f at h
  have h := Option.some.inj h
  by_cases hc : Flag.checkM (l0.map toM) = 0
  · rw [if_pos hc] at h
    obtain ⟨rfl, rfl⟩ := Prod.mk.inj h
    have h9 := Flag.checkM_ok.1 hc
    have hln := refsG_len h9
    obtain ⟨r, hr⟩ : ∃ r, r = sortRefL (refsG l0) := ⟨_, rfl⟩
    have hok : Flag.Ok9 (r.map toR) := by
      rw [hr, sortRefL_toR, refsG_toR]
      exact (Flag.refsM_ok h9).perm (Flag.sortR_perm _)
    obtain ⟨n, hn⟩ : ∃ n, n = r.length := ⟨_, rfl⟩
    have hn9 : n ≤ 9216 := by
      have e1 : (r.map toR).length = (refsG l0).length := by rw [hr, sortRefL_toR, (Flag.sortR_perm _).length_eq, List.length_map]
      rw [List.length_map] at e1
      omega
    have hcr := refs_Refs.calls A0 c0 l0 r 0 w hr0 hc0 (by unfold refs_Refs.f; rw [if_pos hc, hr])
    have HCR := Aside0.mk hcr
    have HOK := Aside0.mk hok
    have HN := Aside0.mk hn
    have HN9 := Aside0.mk hn9
    rw [← hr]
    clear hcr hok hn hn9 hln h9 h hr hc hr0
    go_enter Try.func62, Try.ntmps62
    go_wp2_with fail
    refine HCR.out.mono ?_
    rintro e w1 ⟨v1, rfl, hR1, hb1⟩
    obtain ⟨A1, c1, rfl⟩ := Kd.R_slice hR1
    rw [← HN.out] at hR1 ⊢
    have HR1 := Aside0.mk hR1
    have HB1 := Aside0.mk hb1
    clear hR1 hb1
    go_wp2_with fail
    go_loopg [6, 25] n (fun gk v6 v25 W => ∃ (i : Int) (o : List S40), v25 = .int .i64 i ∧ Aside0 (0 ≤ i ∧ i + gk = n) ∧ Aside0 (o = edgesS (r.take i.toNat) ∧ (o.length : Int) = 2 * i) ∧ Aside0 (Kd.R k40 167 W w.heap.size (fun k => some k ≠ (Value.slice A1 n c1).ownBlock) v6 o) ∧ Aside0 (Below w.heap.size w W ∧ w1.heap.size ≤ W.heap.size ∧ ∀ k, (Value.slice A1 n c1).ownBlock = some k → W.heap[k]? = w1.heap[k]?))
    case atStart => exact ⟨0, [], rfl, ⟨Int.le_refl _, by simp⟩, ⟨rfl, rfl⟩, ⟨Kd.R_nil _ _ _ _ _⟩, ⟨HB1.out, Nat.le_refl _, fun _ _ => rfl⟩⟩
    case round =>
      obtain ⟨i, o, rfl, HI, HOE, HO, HS⟩ := hrel
      obtain ⟨Ao, co, rfl⟩ := Kd.R_slice HO.out
      obtain ⟨no, hno⟩ : ∃ m, m = o.length := ⟨_, rfl⟩
      rw [← hno] at HO ⊢
      have HNO := Aside0.mk hno
      clear hno
      cases gk with
      | zero =>
        have hi : i = n := by have := HI.out.2; omega
        have hd : decide (i < (n : Int)) = false := decide_eq_false (by omega)
        have hoe : o = edgesS r := by rw [HOE.out.1, hi, Int.toNat_natCast, HN.out, List.take_length]
        have hol : o.length ≤ 18432 := by rw [hoe, edgesS_len]; have := HN.out; have := HN9.out; omega
        have hso := sort_edge 118 (fun args w => enters_ Try.func118 (by kernel_rfl) rfl args w) (fun x y W => edge_cmp x y W) HO.out HS.out.1 HS.out.1.size (by omega)
        have HSO := Aside0.mk hso
        have HE := Aside0.mk hoe
        have HOL := Aside0.mk hol
        clear hi hoe hol hso
        go_wp2_with fail
        refine HSO.out.mono ?_
        rintro e w2 ⟨rfl, ys, hperm, hsort, hR2, hb2, hs2, hk2⟩
        have hlen : ys.length = no := by rw [HNO.out]; exact hperm.length_eq
        have hres : (ys.foldl stepS ([], 0, 0)).1 = countsL r := counts_one HOK.out (by rw [← HN.out]; exact HN9.out) (by rw [← HE.out]; exact hperm) hsort
        have HYL := Aside0.mk hlen
        have HR2 := Aside0.mk hR2
        have HB2 := Aside0.mk hb2
        have HRES := Aside0.mk hres
        clear hperm hsort hR2 hb2 hs2 hk2 hres hlen HSO HS HO
        go_wp2_with fail
        go_loopg [9, 10, 11, 46] no (fun gk v9 v10 v11 v46 W => ∃ (i2 : Int) (c : List S96) (m a : Int), v10 = .int .i64 m ∧ v11 = .int .i64 a ∧ v46 = .int .i64 i2 ∧ Aside0 (0 ≤ i2 ∧ i2 + gk = no) ∧ Aside0 ((ys.take i2.toNat).foldl stepS ([], 0, 0) = (c, m, a)) ∧ Aside0 (Kd.R k96 96 W w.heap.size (fun k => some k ≠ (Value.slice Ao no co).ownBlock) v9 c) ∧ Aside0 (Below w.heap.size w W ∧ w2.heap.size ≤ W.heap.size ∧ ∀ k, (Value.slice Ao no co).ownBlock = some k → W.heap[k]? = w2.heap[k]?))
        case atStart => exact ⟨0, [], 0, 0, rfl, rfl, rfl, ⟨Int.le_refl _, by simp⟩, ⟨by simp⟩, ⟨Kd.R_nil _ _ _ _ _⟩, ⟨HB2.out, Nat.le_refl _, fun _ _ => rfl⟩⟩
        case round =>
          obtain ⟨i2, c, m, a, rfl, rfl, rfl, HI2, HF, HO, HS⟩ := hrel
          have hcl : c.length ≤ no := by
            have h1 := foldS_length (ys.take i2.toNat) ([], 0, 0)
            rw [HF.out] at h1
            have h2 : (ys.take i2.toNat).length ≤ ys.length := by rw [List.length_take]; omega
            have h3 := HYL.out
            simp only [List.length_nil] at h1
            omega
          have HCL := Aside0.mk hcl
          clear hcl
          cases gk with
          | zero =>
            have hi : i2 = no := by have := HI2.out.2; omega
            have hd : decide (i2 < (no : Int)) = false := decide_eq_false (by omega)
            have hor : c = countsL r := by rw [← HRES.out, ← List.take_length (l := ys), HYL.out, ← Int.toNat_natCast no, ← hi, HF.out]
            have HOR := Aside0.mk hor
            clear hi hor
            go_wp2
            go_ret2
            refine ⟨_, rfl, ?_, HS.out.1⟩
            rw [← HOR.out]
            exact Kd.R_mono HO.out (fun _ _ => trivial)
          | succ k2 =>
            have hp0 : 0 ≤ i2 := HI2.out.1
            have hp1 : i2 < (no : Int) := by have := HI2.out.2; omega
            have hd : decide (i2 < (no : Int)) = true := decide_eq_true hp1
            have hC : Kd.C k40 wr Ao no ys := by
              rcases R_lies flatSpan HR2.out with ⟨h1, h2⟩ | ⟨g, cap, h1, h2, h3, h4⟩
              · exfalso; have := HYL.out; rw [h2] at this; simp at this; omega
              · rw [← HYL.out] at h1 HS ⊢
                injection h1 with h5 _ h6
                subst h5 h6
                have h7 := R_of_lies (base := w.heap.size) (ok := fun _ => True) flatSpan h2 trivial (h4.far (HS.out.2.2 g rfl))
                exact (Kd.R_reads' h7).2.2
            obtain ⟨ad, e3, g0, g1⟩ := at_T40 hC i2 hp0 hp1
            cases e3
            obtain ⟨x, hx⟩ : ∃ x, x = rd_T40 ys i2 := ⟨_, rfl⟩
            rw [← hx] at g0 g1
            have hst : (ys.take (i2 + 1).toNat).foldl stepS ([], 0, 0) = stepS (c, m, a) x := by
              have h3 : (i2 + 1).toNat = i2.toNat + 1 := by omega
              have h4 : i2.toNat < ys.length := by have := HYL.out; omega
              have h5 : x = ys[i2.toNat] := by rw [hx]; unfold rd_T40; rw [List.getD_eq_getElem?_getD, List.getElem?_eq_getElem h4]; rfl
              rw [h3, List.take_succ_eq_append_getElem h4, List.foldl_append, ← h5, HF.out]
              rfl
            unfold stepS at hst
            dsimp only at hst
            have HP2 := Aside0.mk (And.intro hp0 hp1)
            obtain ⟨A3, c3, rfl⟩ := Kd.R_slice HO.out
            obtain ⟨j, hj⟩ : ∃ j : Int, j = (c.length : Int) - 1 := ⟨_, rfl⟩
            have hwj : IntKind.i64.wrap ((c.length : Int) - 1) = j := by rw [hj]; exact IntWalk.i64_in _ (by have := HCL.out; have := HOL.out; have := HNO.out; omega)
            have hwj2 : wrap64 ((c.length : Int) - 1) = j := by rw [hj]; exact w64 (by have := HCL.out; have := HOL.out; have := HNO.out; omega)
            have HJ := Aside0.mk hj
            have HLT := Aside0.mk (show ∀ k, some k = (Value.slice A3 c.length c3).ownBlock → k ≠ wr.heap.size from fun k hk => Nat.ne_of_lt (Kd.R_lt HO.out k hk.symm))
            clear hx hC hj
            obtain ⟨W1, hW1⟩ : ∃ W, W = wr.alloc (.cells #[.int .i64 x.f0, .int .i64 x.f1] 167) := ⟨_, rfl⟩
            obtain ⟨bx, hbx⟩ : ∃ b, b = wr.heap.size := ⟨_, rfl⟩
            have hx1 : W1.heap[bx]? = some (.cells #[.int .i64 x.f0, .int .i64 x.f1] 167 (0, 0)) := by rw [hW1, hbx]; exact blk_new wr _
            have hb1 : Below w.heap.size w W1 := by rw [hW1]; exact HS.out.1.alloc HS.out.1.size _
            have hs1 : w2.heap.size ≤ W1.heap.size := by rw [hW1]; exact Nat.le_trans HS.out.2.1 (by simp)
            have ho1 : Kd.R k96 96 W1 w.heap.size (fun k => some k ≠ (Value.slice (some ad) no co).ownBlock) (.slice A3 c.length c3) c := by rw [hW1]; exact Kd.R_alloc HO.out _
            have hk1 : ∀ k, (Value.slice (some ad) no co).ownBlock = some k → k < W1.heap.size ∧ W1.heap[k]? = w2.heap[k]? := by
              intro k hk
              have h2 : k < w2.heap.size := Kd.R_lt HR2.out k hk
              have h1 : k < wr.heap.size := Nat.lt_of_lt_of_le h2 HS.out.2.1
              refine ⟨by rw [hW1]; simp; omega, ?_⟩
              rw [hW1, Below.heap_alloc _ _ _ h1]
              exact HS.out.2.2 k hk
            rw [← hbx] at HLT
            have HX1 := Aside0.mk hx1
            have HB1' := Aside0.mk hb1
            have HS1 := Aside0.mk hs1
            have HO1 := Aside0.mk ho1
            have HK1 := Aside0.mk hk1
            have q0 : W1.cell? ⟨bx, 0, none⟩ = some (.int .i64 x.f0) := (blk_cell hx1 0).trans rfl
            have q1 : W1.cell? ⟨bx, 1, none⟩ = some (.int .i64 x.f1) := (blk_cell hx1 1).trans rfl
            rw [hW1, hbx] at q0 q1
            have hwd : IntKind.i64.wrap (x.f0 - a) = wrap64 (x.f0 - a) := IntWalk.i64_left _
            by_cases hm0 : 0 < m
            · have hdm : decide (0 < m) = true := decide_eq_true hm0
              by_cases hax : a < x.f0
              · have hda : decide (a < x.f0) = true := decide_eq_true hax
                rw [if_pos ⟨hm0, hax⟩] at hst
                by_cases hn : 0 < c.length
                · have hdj : decide (0 ≤ j) = true := decide_eq_true (by have := HJ.out; omega)
                  have hi0 : 0 ≤ j := by have := HJ.out; omega
                  have hi1 : j < (c.length : Int) := by have := HJ.out; omega
                  obtain ⟨g, cap, hv, hgb, hgl, cells, hgc⟩ := Kd.R_form ho1 hn
                  injection hv with hv1 _ hv2
                  subst hv1 hv2
                  obtain ⟨ce, hcl, hM, hcc, hfz⟩ := Kd.R_elem ho1 z96 j hi0 hi1
                  obtain rfl := k96_openM hM
                  have e0 : W1.cell? ⟨g, j.toNat * 3, none⟩ = some (.int .i64 (c.getD j.toNat z96).f0) := hcc 0 _ rfl
                  have e1 : W1.cell? ⟨g, j.toNat * 3 + 1, none⟩ = some (.int .i64 (c.getD j.toNat z96).f1) := hcc 1 _ rfl
                  have e2 : W1.cell? ⟨g, j.toNat * 3 + 2, none⟩ = some (.int .i64 (c.getD j.toNat z96).f2) := hcc 2 _ rfl
                  obtain ⟨y, hy⟩ : ∃ y, y = c.getD j.toNat z96 := ⟨_, rfl⟩
                  rw [← hy] at e0 e1 e2 hM hcc
                  have hy2 : y = rd_T96 c ((c.length : Int) - 1) := by rw [hy, HJ.out]; rfl
                  have HCC := Aside0.mk hcc
                  have hws : IntKind.i64.wrap (y.f0 + y.f1) = wrap64 (y.f0 + y.f1) := IntWalk.i64_left _
                  clear hM hcc hfz hcl hgc hgl hgb hx1 hb1 hs1 ho1 hk1
                  by_cases hc2 : y.f2 = m
                  · have hde : (y.f2 == m) = true := beq_iff_eq.mpr hc2
                    by_cases hc3 : wrap64 (y.f0 + y.f1) = a
                    · have hdf : (wrap64 (y.f0 + y.f1) == a) = true := beq_iff_eq.mpr hc3
                      have hag : pushC c a m x.f0 = c.set j.toNat ⟨y.f0, wrap64 (y.f1 + wrap64 (x.f0 - a)), y.f2⟩ := by
                        unfold pushC
                        rw [← hy2, if_pos ⟨hn, hc2, hc3⟩, HJ.out]
                      rw [hag] at hst
                      have HST2 := Aside0.mk hst
                      have HC2 := Aside0.mk (And.intro hc2 hc3)
                      obtain ⟨cs, hcs⟩ : ∃ cs, cs = c.set j.toNat ⟨y.f0, wrap64 (y.f1 + wrap64 (x.f0 - a)), y.f2⟩ := ⟨_, rfl⟩
                      rw [← hcs] at HST2
                      have HCS := Aside0.mk hcs
                      clear hag hst hy hy2 hc2 hc3 hcs
                      go_wp2_with fail
                      rw [← hW1, ← hbx]
                      have HW1 := Aside0.mk hW1
                      have HBX1 := Aside0.mk hbx
                      clear hW1 hbx
                      go_quiet (fail)
                      obtain ⟨W2, hW2⟩ : ∃ W, W = W1.drewN nq := ⟨_, rfl⟩
                      rw [← hW2]
                      have HO2 := Aside0.mk (show Kd.R k96 96 W2 w.heap.size (fun k => some k ≠ (Value.slice (some ad) no co).ownBlock) _ c by rw [hW2]; exact Kd.R_drewN HO1.out nq)
                      have HB2' := Aside0.mk (show Below w.heap.size w W2 by rw [hW2]; exact pw_below_drewN HB1'.out nq)
                      have HS2 := Aside0.mk (show w2.heap.size ≤ W2.heap.size by rw [hW2]; exact HS1.out)
                      have HK2 := Aside0.mk (show ∀ k, (Value.slice (some ad) no co).ownBlock = some k → k < W2.heap.size ∧ W2.heap[k]? = w2.heap[k]? by rw [hW2]; exact HK1.out)
                      have HX2 := Aside0.mk (show W2.heap[bx]? = some (.cells #[.int .i64 x.f0, .int .i64 x.f1] 167 (0, 0)) by rw [hW2]; exact HX1.out)
                      have p0 : W2.cell? ⟨bx, 0, none⟩ = some (.int .i64 x.f0) := (blk_cell HX2.out 0).trans rfl
                      have p1 : W2.cell? ⟨bx, 1, none⟩ = some (.int .i64 x.f1) := (blk_cell HX2.out 1).trans rfl
                      have e0' : W2.cell? ⟨g, j.toNat * 3, none⟩ = some (.int .i64 y.f0) := by rw [hW2]; exact e0
                      have e1' : W2.cell? ⟨g, j.toNat * 3 + 1, none⟩ = some (.int .i64 y.f1) := by rw [hW2]; exact e1
                      have HCC2 := Aside0.mk (show ∀ (j_1 : Nat) (u : Value), [Value.int IntKind.i64 y.f0, Value.int IntKind.i64 y.f1, Value.int IntKind.i64 y.f2][j_1]? = some u → W2.cell? ⟨g, j.toNat * 3 + j_1, none⟩ = some u by rw [hW2]; exact HCC.out)
                      clear e0 e1 e2
                      clear hW2 q0 q1
                      obtain ⟨L, hL⟩ : ∃ s : Int, s = wrap64 (y.f1 + wrap64 (x.f0 - a)) := ⟨_, rfl⟩
                      have hLw : IntKind.i64.wrap (y.f1 + wrap64 (x.f0 - a)) = L := by rw [hL]; exact IntWalk.i64_left _
                      rw [← hL] at HCS
                      clear hL
                      go_wp2_with fail
                      go_still_tail 12, (by kernel_rfl)
                      change wpList _ _ _ _ _ W2.drew
                      refine Kd.R_store k96 (w0 := w) (W := W2.drew) w.heap.size rfl rfl 3 (.tmp 98) (.tmp 96) rfl 96 j 1 c (⟨y.f0, L, y.f2⟩ : S96) (.int .i64 L) [.int .i64 L] [.int .i64 y.f0, .int .i64 y.f1, .int .i64 y.f2] (fun k => some k ≠ (Value.slice (some ad) no co).ownBlock) (fun _ => False) rfl rfl rfl rfl (by kernel_rfl) (by simp [Value.oneCell']) (Kd.R_drew HO2.out) hi0 hi1 rfl (fun j u hu => HCC2.out j u hu) (show 2 ≤ 3 by omega) (k96_mkM _ _ _ (⟨y.f0, L, y.f2⟩ : S96)) (fun _ hk => hk.elim) (below_drew HB2'.out) ?_
                      intro w4 hO4 hB4 hG4
                      rw [← HCS.out] at hO4
                      have HO4 := Aside0.mk hO4
                      have HB4 := Aside0.mk hB4
                      have HG4 := Aside0.mk hG4
                      clear hO4 hB4 hG4 e0' e1'
                      have HS4 := Aside0.mk (show w2.heap.size ≤ w4.heap.size from Nat.le_trans HS2.out HG4.out.size)
                      have HK4 := Aside0.mk (show ∀ k, (Value.slice (some ad) no co).ownBlock = some k → k < w4.heap.size ∧ w4.heap[k]? = w2.heap[k]? by
                        intro k hk
                        have h1 := HK2.out k hk
                        refine ⟨Nat.lt_of_lt_of_le h1.1 HG4.out.size, ?_⟩
                        rw [HG4.out.block k h1.1 (fun e => HO2.out.1 k e.symm hk.symm)]
                        exact h1.2)
                      have HX4 := Aside0.mk (show w4.heap[bx]? = some (.cells #[.int .i64 x.f0, .int .i64 x.f1] 167 (0, 0)) by
                        rw [HG4.out.block bx (blk_lt HX2.out) (fun e => HLT.out bx e rfl)]
                        exact HX2.out)
                      clear p0 p1
                      go_wp2_with fail
                      have p0 : w4.cell? ⟨bx, 0, none⟩ = some (.int .i64 x.f0) := (blk_cell HX4.out 0).trans rfl
                      have p1 : w4.cell? ⟨bx, 1, none⟩ = some (.int .i64 x.f1) := (blk_cell HX4.out 1).trans rfl
                      have hwm : IntKind.i64.wrap (m + x.f1) = wrap64 (m + x.f1) := IntWalk.i64_left _
                      have hwi : IntKind.i64.wrap (i2 + 1) = i2 + 1 := IntWalk.i64_in _ (by have := HP2.out.2; have := HOL.out; have := HNO.out; omega)
                      go_quiet (fail)
                      obtain ⟨W6, hW6⟩ : ∃ W, W = w4.drewN nq := ⟨_, rfl⟩
                      rw [← hW6]
                      have HO6 := Aside0.mk (show Kd.R k96 96 W6 w.heap.size (fun k => some k ≠ (Value.slice (some ad) no co).ownBlock) _ cs by rw [hW6]; exact Kd.R_drewN HO4.out nq)
                      have HB6 := Aside0.mk (show Below w.heap.size w W6 by rw [hW6]; exact pw_below_drewN HB4.out nq)
                      have HS6 := Aside0.mk (show w2.heap.size ≤ W6.heap.size by rw [hW6]; exact HS4.out)
                      have HK6 := Aside0.mk (show ∀ k, (Value.slice (some ad) no co).ownBlock = some k → k < W6.heap.size ∧ W6.heap[k]? = w2.heap[k]? by rw [hW6]; exact HK4.out)
                      clear hW6 p0 p1
                      go_wp2
                      go_roundg k2
                      case measure => omega
                      case rel =>
                        refine ⟨i2 + 1, cs, wrap64 (m + x.f1), x.f0, by first | rfl | (simp; done) | go_num, by first | rfl | (simp; done) | go_num, by first | rfl | (simp; done) | go_num, ⟨by have := HP2.out.1; omega, by have := HI2.out.2; omega⟩, ⟨HST2.out⟩, ⟨HO6.out⟩, ⟨HB6.out, HS6.out, fun k hk => (HK6.out k hk).2⟩⟩
                    · have hdf : (wrap64 (y.f0 + y.f1) == a) = false := beq_eq_false_iff_ne.mpr hc3
                      have hag : pushC c a m x.f0 = c ++ [⟨a, wrap64 (x.f0 - a), m⟩] := by
                        unfold pushC
                        rw [← hy2, if_neg (fun h => hc3 h.2.2)]
                      rw [hag] at hst
                      have HST2 := Aside0.mk hst
                      obtain ⟨cs, hcs⟩ : ∃ cs, cs = c ++ [(⟨a, wrap64 (x.f0 - a), m⟩ : S96)] := ⟨_, rfl⟩
                      rw [← hcs] at HST2
                      have HAG := Aside0.mk hcs
                      clear hag hst hy hy2 hc3 hcs
                      go_wp2_with fail
                      rw [← hW1, ← hbx]
                      have HW1 := Aside0.mk hW1
                      have HBX1 := Aside0.mk hbx
                      clear hW1 hbx
                      go_quiet (fail)
                      obtain ⟨W2, hW2⟩ : ∃ W, W = W1.drewN nq := ⟨_, rfl⟩
                      rw [← hW2]
                      have HO2 := Aside0.mk (show Kd.R k96 96 W2 w.heap.size (fun k => some k ≠ (Value.slice (some ad) no co).ownBlock) _ c by rw [hW2]; exact Kd.R_drewN HO1.out nq)
                      have HB2' := Aside0.mk (show Below w.heap.size w W2 by rw [hW2]; exact pw_below_drewN HB1'.out nq)
                      have HS2 := Aside0.mk (show w2.heap.size ≤ W2.heap.size by rw [hW2]; exact HS1.out)
                      have HK2 := Aside0.mk (show ∀ k, (Value.slice (some ad) no co).ownBlock = some k → k < W2.heap.size ∧ W2.heap[k]? = w2.heap[k]? by rw [hW2]; exact HK1.out)
                      have HX2 := Aside0.mk (show W2.heap[bx]? = some (.cells #[.int .i64 x.f0, .int .i64 x.f1] 167 (0, 0)) by rw [hW2]; exact HX1.out)
                      have p0 : W2.cell? ⟨bx, 0, none⟩ = some (.int .i64 x.f0) := (blk_cell HX2.out 0).trans rfl
                      have p1 : W2.cell? ⟨bx, 1, none⟩ = some (.int .i64 x.f1) := (blk_cell HX2.out 1).trans rfl
                      have e0' : W2.cell? ⟨g, j.toNat * 3, none⟩ = some (.int .i64 y.f0) := by rw [hW2]; exact e0
                      have e1' : W2.cell? ⟨g, j.toNat * 3 + 1, none⟩ = some (.int .i64 y.f1) := by rw [hW2]; exact e1
                      have HCC2 := Aside0.mk (show ∀ (j_1 : Nat) (u : Value), [Value.int IntKind.i64 y.f0, Value.int IntKind.i64 y.f1, Value.int IntKind.i64 y.f2][j_1]? = some u → W2.cell? ⟨g, j.toNat * 3 + j_1, none⟩ = some u by rw [hW2]; exact HCC.out)
                      clear e0 e1 e2
                      clear hW2 q0 q1
                      clear e0' e1'
                      go_wp2_with (first | ((with_reducible refine gate_builtin (b := .append) (xs := #[.tmp 99, .tmp 107]) rfl ?_); at_builtin; refine Kd.R_append k96 (w0 := w) w.heap.size rfl (.tmp 99) (.tmp 107) 91 96 (.agg #[(.int .i64 0), (.int .i64 0), (.int .i64 0)]) 24 rfl Try.underlying91 info96 rfl (by decide) (by omega) (.slice (some ⟨g, 0, none⟩) c.length c3) c (⟨a, wrap64 (x.f0 - a), m⟩ : S96) [.int .i64 a, .int .i64 (wrap64 (x.f0 - a)), .int .i64 m] (fun k => some k ≠ (Value.slice (some ad) no co).ownBlock) (fun _ => False) rfl (by first | (go_simp; done) | (go_simp; rfl)) ?aP (fun _ hk => hk.elim) ?aF ?aO ?aB ?aS ?aL ?_; (case aP => exact k96_mkM _ _ _ (⟨a, wrap64 (x.f0 - a), m⟩ : S96)); (case aF => intro k hk e; have h1 := (HK2.out k e.symm).1; omega); (case aO => exact HO2.out); (case aB => exact HB2'.out); (case aS => exact HB2'.out.size); (case aL => have := HCL.out; have := HOL.out; have := HNO.out; omega); intro v1 w4 ho hb hg hat; rw [← HAG.out] at ho; have HO4 := Aside0.mk ho; have HB4 := Aside0.mk hb; have HG4 := Aside0.mk hg; clear ho hb hg hat))
                      have HS4 := Aside0.mk (show w2.heap.size ≤ w4.heap.size from Nat.le_trans HS2.out HG4.out.size)
                      have HK4 := Aside0.mk (show ∀ k, (Value.slice (some ad) no co).ownBlock = some k → k < w4.heap.size ∧ w4.heap[k]? = w2.heap[k]? by
                        intro k hk
                        have h1 := HK2.out k hk
                        refine ⟨Nat.lt_of_lt_of_le h1.1 HG4.out.size, ?_⟩
                        rw [HG4.out.block k h1.1 (fun e => HO2.out.1 k e.symm hk.symm)]
                        exact h1.2)
                      have HX4 := Aside0.mk (show w4.heap[bx]? = some (.cells #[.int .i64 x.f0, .int .i64 x.f1] 167 (0, 0)) by
                        rw [HG4.out.block bx (blk_lt HX2.out) (fun e => HLT.out bx e rfl)]
                        exact HX2.out)
                      clear p0 p1
                      have p0 : w4.cell? ⟨bx, 0, none⟩ = some (.int .i64 x.f0) := (blk_cell HX4.out 0).trans rfl
                      have p1 : w4.cell? ⟨bx, 1, none⟩ = some (.int .i64 x.f1) := (blk_cell HX4.out 1).trans rfl
                      have hwm : IntKind.i64.wrap (m + x.f1) = wrap64 (m + x.f1) := IntWalk.i64_left _
                      have hwi : IntKind.i64.wrap (i2 + 1) = i2 + 1 := IntWalk.i64_in _ (by have := HP2.out.2; have := HOL.out; have := HNO.out; omega)
                      go_quiet (fail)
                      obtain ⟨W6, hW6⟩ : ∃ W, W = w4.drewN nq := ⟨_, rfl⟩
                      rw [← hW6]
                      have HO6 := Aside0.mk (show Kd.R k96 96 W6 w.heap.size (fun k => some k ≠ (Value.slice (some ad) no co).ownBlock) _ cs by rw [hW6]; exact Kd.R_drewN HO4.out nq)
                      have HB6 := Aside0.mk (show Below w.heap.size w W6 by rw [hW6]; exact pw_below_drewN HB4.out nq)
                      have HS6 := Aside0.mk (show w2.heap.size ≤ W6.heap.size by rw [hW6]; exact HS4.out)
                      have HK6 := Aside0.mk (show ∀ k, (Value.slice (some ad) no co).ownBlock = some k → k < W6.heap.size ∧ W6.heap[k]? = w2.heap[k]? by rw [hW6]; exact HK4.out)
                      clear hW6 p0 p1
                      go_wp2
                      go_roundg k2
                      case measure => omega
                      case rel =>
                        refine ⟨i2 + 1, cs, wrap64 (m + x.f1), x.f0, by first | rfl | (simp; done) | go_num, by first | rfl | (simp; done) | go_num, by first | rfl | (simp; done) | go_num, ⟨by have := HP2.out.1; omega, by have := HI2.out.2; omega⟩, ⟨HST2.out⟩, ⟨HO6.out⟩, ⟨HB6.out, HS6.out, fun k hk => (HK6.out k hk).2⟩⟩
                  · have hde : (y.f2 == m) = false := beq_eq_false_iff_ne.mpr hc2
                    have hag : pushC c a m x.f0 = c ++ [⟨a, wrap64 (x.f0 - a), m⟩] := by
                      unfold pushC
                      rw [← hy2, if_neg (fun h => hc2 h.2.1)]
                    rw [hag] at hst
                    have HST2 := Aside0.mk hst
                    obtain ⟨cs, hcs⟩ : ∃ cs, cs = c ++ [(⟨a, wrap64 (x.f0 - a), m⟩ : S96)] := ⟨_, rfl⟩
                    rw [← hcs] at HST2
                    have HAG := Aside0.mk hcs
                    clear hag hst hy hy2 hc2 hcs
                    go_wp2_with fail
                    rw [← hW1, ← hbx]
                    have HW1 := Aside0.mk hW1
                    have HBX1 := Aside0.mk hbx
                    clear hW1 hbx
                    go_quiet (fail)
                    obtain ⟨W2, hW2⟩ : ∃ W, W = W1.drewN nq := ⟨_, rfl⟩
                    rw [← hW2]
                    have HO2 := Aside0.mk (show Kd.R k96 96 W2 w.heap.size (fun k => some k ≠ (Value.slice (some ad) no co).ownBlock) _ c by rw [hW2]; exact Kd.R_drewN HO1.out nq)
                    have HB2' := Aside0.mk (show Below w.heap.size w W2 by rw [hW2]; exact pw_below_drewN HB1'.out nq)
                    have HS2 := Aside0.mk (show w2.heap.size ≤ W2.heap.size by rw [hW2]; exact HS1.out)
                    have HK2 := Aside0.mk (show ∀ k, (Value.slice (some ad) no co).ownBlock = some k → k < W2.heap.size ∧ W2.heap[k]? = w2.heap[k]? by rw [hW2]; exact HK1.out)
                    have HX2 := Aside0.mk (show W2.heap[bx]? = some (.cells #[.int .i64 x.f0, .int .i64 x.f1] 167 (0, 0)) by rw [hW2]; exact HX1.out)
                    have p0 : W2.cell? ⟨bx, 0, none⟩ = some (.int .i64 x.f0) := (blk_cell HX2.out 0).trans rfl
                    have p1 : W2.cell? ⟨bx, 1, none⟩ = some (.int .i64 x.f1) := (blk_cell HX2.out 1).trans rfl
                    have e0' : W2.cell? ⟨g, j.toNat * 3, none⟩ = some (.int .i64 y.f0) := by rw [hW2]; exact e0
                    have e1' : W2.cell? ⟨g, j.toNat * 3 + 1, none⟩ = some (.int .i64 y.f1) := by rw [hW2]; exact e1
                    have HCC2 := Aside0.mk (show ∀ (j_1 : Nat) (u : Value), [Value.int IntKind.i64 y.f0, Value.int IntKind.i64 y.f1, Value.int IntKind.i64 y.f2][j_1]? = some u → W2.cell? ⟨g, j.toNat * 3 + j_1, none⟩ = some u by rw [hW2]; exact HCC.out)
                    clear e0 e1 e2
                    clear hW2 q0 q1
                    clear e0' e1'
                    go_wp2_with (first | ((with_reducible refine gate_builtin (b := .append) (xs := #[.tmp 99, .tmp 107]) rfl ?_); at_builtin; refine Kd.R_append k96 (w0 := w) w.heap.size rfl (.tmp 99) (.tmp 107) 91 96 (.agg #[(.int .i64 0), (.int .i64 0), (.int .i64 0)]) 24 rfl Try.underlying91 info96 rfl (by decide) (by omega) (.slice (some ⟨g, 0, none⟩) c.length c3) c (⟨a, wrap64 (x.f0 - a), m⟩ : S96) [.int .i64 a, .int .i64 (wrap64 (x.f0 - a)), .int .i64 m] (fun k => some k ≠ (Value.slice (some ad) no co).ownBlock) (fun _ => False) rfl (by first | (go_simp; done) | (go_simp; rfl)) ?aP (fun _ hk => hk.elim) ?aF ?aO ?aB ?aS ?aL ?_; (case aP => exact k96_mkM _ _ _ (⟨a, wrap64 (x.f0 - a), m⟩ : S96)); (case aF => intro k hk e; have h1 := (HK2.out k e.symm).1; omega); (case aO => exact HO2.out); (case aB => exact HB2'.out); (case aS => exact HB2'.out.size); (case aL => have := HCL.out; have := HOL.out; have := HNO.out; omega); intro v1 w4 ho hb hg hat; rw [← HAG.out] at ho; have HO4 := Aside0.mk ho; have HB4 := Aside0.mk hb; have HG4 := Aside0.mk hg; clear ho hb hg hat))
                    have HS4 := Aside0.mk (show w2.heap.size ≤ w4.heap.size from Nat.le_trans HS2.out HG4.out.size)
                    have HK4 := Aside0.mk (show ∀ k, (Value.slice (some ad) no co).ownBlock = some k → k < w4.heap.size ∧ w4.heap[k]? = w2.heap[k]? by
                      intro k hk
                      have h1 := HK2.out k hk
                      refine ⟨Nat.lt_of_lt_of_le h1.1 HG4.out.size, ?_⟩
                      rw [HG4.out.block k h1.1 (fun e => HO2.out.1 k e.symm hk.symm)]
                      exact h1.2)
                    have HX4 := Aside0.mk (show w4.heap[bx]? = some (.cells #[.int .i64 x.f0, .int .i64 x.f1] 167 (0, 0)) by
                      rw [HG4.out.block bx (blk_lt HX2.out) (fun e => HLT.out bx e rfl)]
                      exact HX2.out)
                    clear p0 p1
                    have p0 : w4.cell? ⟨bx, 0, none⟩ = some (.int .i64 x.f0) := (blk_cell HX4.out 0).trans rfl
                    have p1 : w4.cell? ⟨bx, 1, none⟩ = some (.int .i64 x.f1) := (blk_cell HX4.out 1).trans rfl
                    have hwm : IntKind.i64.wrap (m + x.f1) = wrap64 (m + x.f1) := IntWalk.i64_left _
                    have hwi : IntKind.i64.wrap (i2 + 1) = i2 + 1 := IntWalk.i64_in _ (by have := HP2.out.2; have := HOL.out; have := HNO.out; omega)
                    go_quiet (fail)
                    obtain ⟨W6, hW6⟩ : ∃ W, W = w4.drewN nq := ⟨_, rfl⟩
                    rw [← hW6]
                    have HO6 := Aside0.mk (show Kd.R k96 96 W6 w.heap.size (fun k => some k ≠ (Value.slice (some ad) no co).ownBlock) _ cs by rw [hW6]; exact Kd.R_drewN HO4.out nq)
                    have HB6 := Aside0.mk (show Below w.heap.size w W6 by rw [hW6]; exact pw_below_drewN HB4.out nq)
                    have HS6 := Aside0.mk (show w2.heap.size ≤ W6.heap.size by rw [hW6]; exact HS4.out)
                    have HK6 := Aside0.mk (show ∀ k, (Value.slice (some ad) no co).ownBlock = some k → k < W6.heap.size ∧ W6.heap[k]? = w2.heap[k]? by rw [hW6]; exact HK4.out)
                    clear hW6 p0 p1
                    go_wp2
                    go_roundg k2
                    case measure => omega
                    case rel =>
                      refine ⟨i2 + 1, cs, wrap64 (m + x.f1), x.f0, by first | rfl | (simp; done) | go_num, by first | rfl | (simp; done) | go_num, by first | rfl | (simp; done) | go_num, ⟨by have := HP2.out.1; omega, by have := HI2.out.2; omega⟩, ⟨HST2.out⟩, ⟨HO6.out⟩, ⟨HB6.out, HS6.out, fun k hk => (HK6.out k hk).2⟩⟩
                · have hdj : decide (0 ≤ j) = false := decide_eq_false (by have := HJ.out; omega)
                  clear hx1 hb1 hs1 ho1 hk1
                  have hag : pushC c a m x.f0 = c ++ [⟨a, wrap64 (x.f0 - a), m⟩] := by
                    unfold pushC
                    rw [if_neg (fun h => hn h.1)]
                  rw [hag] at hst
                  have HST2 := Aside0.mk hst
                  obtain ⟨cs, hcs⟩ : ∃ cs, cs = c ++ [(⟨a, wrap64 (x.f0 - a), m⟩ : S96)] := ⟨_, rfl⟩
                  rw [← hcs] at HST2
                  have HAG := Aside0.mk hcs
                  clear hag hst  hcs
                  go_wp2_with fail
                  rw [← hW1, ← hbx]
                  have HW1 := Aside0.mk hW1
                  have HBX1 := Aside0.mk hbx
                  clear hW1 hbx
                  go_quiet (fail)
                  obtain ⟨W2, hW2⟩ : ∃ W, W = W1.drewN nq := ⟨_, rfl⟩
                  rw [← hW2]
                  have HO2 := Aside0.mk (show Kd.R k96 96 W2 w.heap.size (fun k => some k ≠ (Value.slice (some ad) no co).ownBlock) _ c by rw [hW2]; exact Kd.R_drewN HO1.out nq)
                  have HB2' := Aside0.mk (show Below w.heap.size w W2 by rw [hW2]; exact pw_below_drewN HB1'.out nq)
                  have HS2 := Aside0.mk (show w2.heap.size ≤ W2.heap.size by rw [hW2]; exact HS1.out)
                  have HK2 := Aside0.mk (show ∀ k, (Value.slice (some ad) no co).ownBlock = some k → k < W2.heap.size ∧ W2.heap[k]? = w2.heap[k]? by rw [hW2]; exact HK1.out)
                  have HX2 := Aside0.mk (show W2.heap[bx]? = some (.cells #[.int .i64 x.f0, .int .i64 x.f1] 167 (0, 0)) by rw [hW2]; exact HX1.out)
                  have p0 : W2.cell? ⟨bx, 0, none⟩ = some (.int .i64 x.f0) := (blk_cell HX2.out 0).trans rfl
                  have p1 : W2.cell? ⟨bx, 1, none⟩ = some (.int .i64 x.f1) := (blk_cell HX2.out 1).trans rfl
                  clear hW2 q0 q1
                  go_wp2_with (first | ((with_reducible refine gate_builtin (b := .append) (xs := #[.tmp 99, .tmp 107]) rfl ?_); at_builtin; refine Kd.R_append k96 (w0 := w) w.heap.size rfl (.tmp 99) (.tmp 107) 91 96 (.agg #[(.int .i64 0), (.int .i64 0), (.int .i64 0)]) 24 rfl Try.underlying91 info96 rfl (by decide) (by omega) (.slice A3 c.length c3) c (⟨a, wrap64 (x.f0 - a), m⟩ : S96) [.int .i64 a, .int .i64 (wrap64 (x.f0 - a)), .int .i64 m] (fun k => some k ≠ (Value.slice (some ad) no co).ownBlock) (fun _ => False) rfl (by first | (go_simp; done) | (go_simp; rfl)) ?aP (fun _ hk => hk.elim) ?aF ?aO ?aB ?aS ?aL ?_; (case aP => exact k96_mkM _ _ _ (⟨a, wrap64 (x.f0 - a), m⟩ : S96)); (case aF => intro k hk e; have h1 := (HK2.out k e.symm).1; omega); (case aO => exact HO2.out); (case aB => exact HB2'.out); (case aS => exact HB2'.out.size); (case aL => have := HCL.out; have := HOL.out; have := HNO.out; omega); intro v1 w4 ho hb hg hat; rw [← HAG.out] at ho; have HO4 := Aside0.mk ho; have HB4 := Aside0.mk hb; have HG4 := Aside0.mk hg; clear ho hb hg hat))
                  have HS4 := Aside0.mk (show w2.heap.size ≤ w4.heap.size from Nat.le_trans HS2.out HG4.out.size)
                  have HK4 := Aside0.mk (show ∀ k, (Value.slice (some ad) no co).ownBlock = some k → k < w4.heap.size ∧ w4.heap[k]? = w2.heap[k]? by
                    intro k hk
                    have h1 := HK2.out k hk
                    refine ⟨Nat.lt_of_lt_of_le h1.1 HG4.out.size, ?_⟩
                    rw [HG4.out.block k h1.1 (fun e => HO2.out.1 k e.symm hk.symm)]
                    exact h1.2)
                  have HX4 := Aside0.mk (show w4.heap[bx]? = some (.cells #[.int .i64 x.f0, .int .i64 x.f1] 167 (0, 0)) by
                    rw [HG4.out.block bx (blk_lt HX2.out) (fun e => HLT.out bx e rfl)]
                    exact HX2.out)
                  clear p0 p1
                  have p0 : w4.cell? ⟨bx, 0, none⟩ = some (.int .i64 x.f0) := (blk_cell HX4.out 0).trans rfl
                  have p1 : w4.cell? ⟨bx, 1, none⟩ = some (.int .i64 x.f1) := (blk_cell HX4.out 1).trans rfl
                  have hwm : IntKind.i64.wrap (m + x.f1) = wrap64 (m + x.f1) := IntWalk.i64_left _
                  have hwi : IntKind.i64.wrap (i2 + 1) = i2 + 1 := IntWalk.i64_in _ (by have := HP2.out.2; have := HOL.out; have := HNO.out; omega)
                  go_quiet (fail)
                  obtain ⟨W6, hW6⟩ : ∃ W, W = w4.drewN nq := ⟨_, rfl⟩
                  rw [← hW6]
                  have HO6 := Aside0.mk (show Kd.R k96 96 W6 w.heap.size (fun k => some k ≠ (Value.slice (some ad) no co).ownBlock) _ cs by rw [hW6]; exact Kd.R_drewN HO4.out nq)
                  have HB6 := Aside0.mk (show Below w.heap.size w W6 by rw [hW6]; exact pw_below_drewN HB4.out nq)
                  have HS6 := Aside0.mk (show w2.heap.size ≤ W6.heap.size by rw [hW6]; exact HS4.out)
                  have HK6 := Aside0.mk (show ∀ k, (Value.slice (some ad) no co).ownBlock = some k → k < W6.heap.size ∧ W6.heap[k]? = w2.heap[k]? by rw [hW6]; exact HK4.out)
                  clear hW6 p0 p1
                  go_wp2
                  go_roundg k2
                  case measure => omega
                  case rel =>
                    refine ⟨i2 + 1, cs, wrap64 (m + x.f1), x.f0, by first | rfl | (simp; done) | go_num, by first | rfl | (simp; done) | go_num, by first | rfl | (simp; done) | go_num, ⟨by have := HP2.out.1; omega, by have := HI2.out.2; omega⟩, ⟨HST2.out⟩, ⟨HO6.out⟩, ⟨HB6.out, HS6.out, fun k hk => (HK6.out k hk).2⟩⟩
              · have hda : decide (a < x.f0) = false := decide_eq_false hax
                rw [if_neg (fun h => hax h.2)] at hst
                have HST2 := Aside0.mk hst
                clear hst hx1 hb1 hs1 ho1 hk1
                go_wp2_with fail
                rw [← hW1, ← hbx]
                have HW1 := Aside0.mk hW1
                have HBX1 := Aside0.mk hbx
                clear hW1 hbx
                have p0 : W1.cell? ⟨bx, 0, none⟩ = some (.int .i64 x.f0) := (blk_cell HX1.out 0).trans rfl
                have p1 : W1.cell? ⟨bx, 1, none⟩ = some (.int .i64 x.f1) := (blk_cell HX1.out 1).trans rfl
                have hwm : IntKind.i64.wrap (m + x.f1) = wrap64 (m + x.f1) := IntWalk.i64_left _
                have hwi : IntKind.i64.wrap (i2 + 1) = i2 + 1 := IntWalk.i64_in _ (by have := HP2.out.2; have := HOL.out; have := HNO.out; omega)
                go_quiet (fail)
                obtain ⟨W6, hW6⟩ : ∃ W, W = W1.drewN nq := ⟨_, rfl⟩
                rw [← hW6]
                have HO6 := Aside0.mk (show Kd.R k96 96 W6 w.heap.size (fun k => some k ≠ (Value.slice (some ad) no co).ownBlock) _ c by rw [hW6]; exact Kd.R_drewN HO1.out nq)
                have HB6 := Aside0.mk (show Below w.heap.size w W6 by rw [hW6]; exact pw_below_drewN HB1'.out nq)
                have HS6 := Aside0.mk (show w2.heap.size ≤ W6.heap.size by rw [hW6]; exact HS1.out)
                have HK6 := Aside0.mk (show ∀ k, (Value.slice (some ad) no co).ownBlock = some k → k < W6.heap.size ∧ W6.heap[k]? = w2.heap[k]? by rw [hW6]; exact HK1.out)
                clear hW6 p0 p1
                go_wp2
                go_roundg k2
                case measure => omega
                case rel =>
                  refine ⟨i2 + 1, c, wrap64 (m + x.f1), x.f0, by first | rfl | (simp; done) | go_num, by first | rfl | (simp; done) | go_num, by first | rfl | (simp; done) | go_num, ⟨by have := HP2.out.1; omega, by have := HI2.out.2; omega⟩, ⟨HST2.out⟩, ⟨HO6.out⟩, ⟨HB6.out, HS6.out, fun k hk => (HK6.out k hk).2⟩⟩
            · have hdm : decide (0 < m) = false := decide_eq_false hm0
              rw [if_neg (fun h => hm0 h.1)] at hst
              have HST2 := Aside0.mk hst
              clear hst hx1 hb1 hs1 ho1 hk1
              go_wp2_with fail
              rw [← hW1, ← hbx]
              have HW1 := Aside0.mk hW1
              have HBX1 := Aside0.mk hbx
              clear hW1 hbx
              have p0 : W1.cell? ⟨bx, 0, none⟩ = some (.int .i64 x.f0) := (blk_cell HX1.out 0).trans rfl
              have p1 : W1.cell? ⟨bx, 1, none⟩ = some (.int .i64 x.f1) := (blk_cell HX1.out 1).trans rfl
              have hwm : IntKind.i64.wrap (m + x.f1) = wrap64 (m + x.f1) := IntWalk.i64_left _
              have hwi : IntKind.i64.wrap (i2 + 1) = i2 + 1 := IntWalk.i64_in _ (by have := HP2.out.2; have := HOL.out; have := HNO.out; omega)
              go_quiet (fail)
              obtain ⟨W6, hW6⟩ : ∃ W, W = W1.drewN nq := ⟨_, rfl⟩
              rw [← hW6]
              have HO6 := Aside0.mk (show Kd.R k96 96 W6 w.heap.size (fun k => some k ≠ (Value.slice (some ad) no co).ownBlock) _ c by rw [hW6]; exact Kd.R_drewN HO1.out nq)
              have HB6 := Aside0.mk (show Below w.heap.size w W6 by rw [hW6]; exact pw_below_drewN HB1'.out nq)
              have HS6 := Aside0.mk (show w2.heap.size ≤ W6.heap.size by rw [hW6]; exact HS1.out)
              have HK6 := Aside0.mk (show ∀ k, (Value.slice (some ad) no co).ownBlock = some k → k < W6.heap.size ∧ W6.heap[k]? = w2.heap[k]? by rw [hW6]; exact HK1.out)
              clear hW6 p0 p1
              go_wp2
              go_roundg k2
              case measure => omega
              case rel =>
                refine ⟨i2 + 1, c, wrap64 (m + x.f1), x.f0, by first | rfl | (simp; done) | go_num, by first | rfl | (simp; done) | go_num, by first | rfl | (simp; done) | go_num, ⟨by have := HP2.out.1; omega, by have := HI2.out.2; omega⟩, ⟨HST2.out⟩, ⟨HO6.out⟩, ⟨HB6.out, HS6.out, fun k hk => (HK6.out k hk).2⟩⟩
      | succ k1 =>
        have hp0 : 0 ≤ i := HI.out.1
        have hp1 : i < (n : Int) := by have := HI.out.2; omega
        have hd : decide (i < (n : Int)) = true := decide_eq_true hp1
        have hC : Kd.C k88 wr A1 n r := by
          rw [HN.out]
          rcases R_lies flatRef HR1.out with ⟨h1, h2⟩ | ⟨g, cap, h1, h2, h3, h4⟩
          · exfalso; have := HN.out; rw [h2] at this; simp at this; omega
          · rw [HN.out] at h1 HS
            injection h1 with h5 _ h6
            subst h5 h6
            have h7 := R_of_lies (base := w.heap.size) (ok := fun _ => True) flatRef h2 trivial (h4.far (HS.out.2.2 g rfl))
            exact (Kd.R_reads' h7).2.2
        obtain ⟨ad, e3, g0, g1, g2, g3⟩ := at_T88 hC i hp0 hp1
        cases e3
        obtain ⟨x, hx⟩ : ∃ x, x = rd_T88 r i := ⟨_, rfl⟩
        rw [← hx] at g0 g1 g2 g3
        obtain ⟨os, hos⟩ : ∃ os, os = o ++ [(⟨x.f0, 1⟩ : S40), ⟨wrap64 (x.f0 + x.f1), -1⟩] := ⟨_, rfl⟩
        have hst : os = edgesS (r.take (i + 1).toNat) := by
          have h3 : (i + 1).toNat = i.toNat + 1 := by omega
          have h4 : i.toNat < r.length := by rw [← HN.out]; omega
          have h5 : x = r[i.toNat] := by rw [hx]; unfold rd_T88; rw [List.getD_eq_getElem?_getD, List.getElem?_eq_getElem h4]; rfl
          unfold edgesS
          rw [hos, h3, List.take_succ_eq_append_getElem h4, List.flatMap_append, ← h5, HOE.out.1]
          simp [edgesS, edgesR]
        have HST := Aside0.mk hst
        have HOS := Aside0.mk hos
        have HP := Aside0.mk (And.intro hp0 hp1)
        have hwi : IntKind.i64.wrap (i + 1) = i + 1 := IntWalk.i64_in _ (by have := HN9.out; omega)
        have hws : IntKind.i64.wrap (x.f0 + x.f1) = wrap64 (x.f0 + x.f1) := IntWalk.i64_left _
        clear hx hC hst hos
        obtain ⟨W1, hW1⟩ : ∃ W, W = wr.alloc (.cells #[.int .i64 x.f0, .int .i64 x.f1, .int .i64 x.f2, .int .i64 x.f3] 88) := ⟨_, rfl⟩
        obtain ⟨bx, hbx⟩ : ∃ b, b = wr.heap.size := ⟨_, rfl⟩
        have hx1 : W1.heap[bx]? = some (.cells #[.int .i64 x.f0, .int .i64 x.f1, .int .i64 x.f2, .int .i64 x.f3] 88 (0, 0)) := by rw [hW1, hbx]; exact blk_new wr _
        have hb1 : Below w.heap.size w W1 := by rw [hW1]; exact HS.out.1.alloc HS.out.1.size _
        have ho1 : Kd.R k40 167 W1 w.heap.size (fun k => some k ≠ (Value.slice (some ad) n c1).ownBlock) (.slice Ao no co) o := by rw [hW1]; exact Kd.R_alloc HO.out _
        have hk1 : ∀ k, (Value.slice (some ad) n c1).ownBlock = some k → k < w1.heap.size := by
          intro k hk
          exact Kd.R_lt HR1.out k hk
        have hs1 : w1.heap.size ≤ W1.heap.size ∧ ∀ k, (Value.slice (some ad) n c1).ownBlock = some k → W1.heap[k]? = w1.heap[k]? := by
          refine ⟨by rw [hW1]; exact Nat.le_trans HS.out.2.1 (by simp), fun k hk => ?_⟩
          rw [hW1, Below.heap_alloc _ _ _ (Nat.lt_of_lt_of_le (hk1 k hk) HS.out.2.1)]
          exact HS.out.2.2 k hk
        have q0 : W1.cell? ⟨bx, 0, none⟩ = some (.int .i64 x.f0) := (blk_cell hx1 0).trans rfl
        have q1 : W1.cell? ⟨bx, 1, none⟩ = some (.int .i64 x.f1) := (blk_cell hx1 1).trans rfl
        have HX1 := Aside0.mk hx1
        have HB1' := Aside0.mk hb1
        have HO1 := Aside0.mk ho1
        have HK1 := Aside0.mk hk1
        have HS1 := Aside0.mk hs1
        clear hx1 hb1 ho1 hk1 hs1
        have hbz : W1.heap.size = wr.heap.size + 1 := by rw [hW1]; simp
        have HBZ := Aside0.mk hbz
        clear hbz
        subst hW1 hbx
        go_wp2_with (first | ((with_reducible refine gate_builtin (b := .append) (xs := #[.tmp 29, .tmp 39]) rfl ?_); at_builtin; refine Kd.R_append_rows k40 (Rr := fun (x : S40) cs => cs = [.int .i64 x.f0, .int .i64 x.f1]) (w0 := w) w.heap.size rfl (.tmp 29) (.tmp 39) 165 167 (.agg #[(.int .i64 0), (.int .i64 0)]) 16 rfl Try.underlying165 infoEdge rfl (by decide) (by omega) (.slice Ao no co) o [(⟨x.f0, 1⟩ : S40), ⟨wrap64 (x.f0 + x.f1), -1⟩] (some ⟨wr.heap.size + 1, 0, none⟩) 2 2 (fun k => some k ≠ (Value.slice (some ad) n c1).ownBlock) (fun _ => False) rfl (by first | (go_simp; done) | (go_simp; rfl)) ?aO ?aR (fun y cs h => by subst h; exact k40_mkM _ _ _ y) (fun _ h => h.elim) ?aF ?aB ?aS ?aL ?_; (case aR => rw [← HBZ.out]; exact reads_two _ _ _); (case aB => exact HB1'.out.alloc HB1'.out.size _); (case aF => intro k hk e; have h1 := HK1.out k e.symm; have h2 := HS1.out.1; have h3 := HBZ.out; have h4 := hk; simp at h4; omega); (case aO => exact Kd.R_alloc HO1.out _); (case aS => exact below_size (HB1'.out.alloc HB1'.out.size _)); (case aL => have := HOE.out.2; have := HI.out.2; have := HN9.out; omega); intro v1 w8 ho hb hg hat; rw [← HOS.out] at ho; have HO8 := Aside0.mk ho; have HB8 := Aside0.mk hb; have HG8 := Aside0.mk hg; clear ho hb hg hat))
        go_roundg k1
        case measure => omega
        case rel =>
          refine ⟨i + 1, os, by first | rfl | (simp; done) | go_num, ⟨by have := HP.out.1; omega, by have := HI.out.2; omega⟩, ⟨HST.out, ?_⟩, ⟨HO8.out⟩, ⟨HB8.out, ?_, ?_⟩⟩
          · rw [HOS.out, List.length_append]; have := HOE.out.2; simp; omega
          · have h1 := HG8.out.size; have h2 := HS1.out.1; rw [HBZ.out] at h2; simp at h1; omega
          · intro k hk
            have h1 := HK1.out k hk
            have h2 := HS1.out.1
            rw [HBZ.out] at h2
            rw [HG8.out.block k (by simp; omega) (fun e => HO1.out.1 k e.symm hk.symm), Below.heap_alloc _ _ _ (by rw [HBZ.out]; omega)]
            exact HS1.out.2 k hk
  · rw [if_neg hc] at h
    obtain ⟨rfl, rfl⟩ := Prod.mk.inj h
    have hcr := refs_Refs.calls A0 c0 l0 [] 9 w hr0 hc0 (by unfold refs_Refs.f; rw [if_neg hc])
    have HCR := Aside0.mk hcr
    clear hcr h hc hr0
    go_enter Try.func62, Try.ntmps62
    go_wp2_with fail
    refine HCR.out.mono ?_
    rintro e w1 ⟨v1, rfl, hR1, hb1⟩
    have HB1 := Aside0.mk hb1
    clear hb1 hR1
    go_wp2
    go_ret2
    exact ⟨_, rfl, Kd.R_nil _ _ _ _ _, HB1.out⟩
end Go.Proofs.Ytkkfkdncddbaeaa.Fn
namespace Go.Proofs.Ytkkfkdncddbaeaa.Fn
open Go.RowKit Go.Proofs.YtkkfkdncddbaeaaW.PrintWords Go.Proofs.YtkkfkdncddbaeaaW.PrintLast Go.Proofs.YtkkfkdncddbaeaaW.PrintMore
attribute [local go_sem] max2_int min2_int max_two min_two max_three min_three max_four min_four
set_option linter.unusedVariables false
set_option linter.unusedSimpArgs false
attribute [local go_sem high] eqA96
def flagstonelaw09_alive.f  : Option (Bool) := (refs_Counts.f (([(⟨0, (([(⟨0, 3, 4⟩ : S24)] : List (S24)))⟩ : S94), (⟨1, (([(⟨9, 3, 4⟩ : S24)] : List (S24)))⟩ : S94)] : List (S94)))).bind fun bt110 => ((flagstonelaw09_num.f bt110.2).bind fun t114 => (if t114 = 0 then (if (bt110.1.length : Int) = 1 then (if 0 < (bt110.1.length : Int) then (some (((rd_T96 bt110.1 0).f0) == 3 && (((rd_T96 bt110.1 0).f1) == 4 && (((rd_T96 bt110.1 0).f2) == 2)))) else (none)) else (some false)) else (some false)))
set_option maxHeartbeats 8000000 in
set_option maxRecDepth 100000 in
theorem flagstonelaw09_alive.calls  (r : Bool) (w : World) (h : flagstonelaw09_alive.f  = some r) :
 Calls Try.prog 57 #[] w fun e w' => e = .returned (.bool r) ∧ Below w.heap.size w w' := by
 have hu24 := Try.underlying24
 have hu94 := Try.underlying94
 have hu96 := Try.underlying96
 have HB := Aside0.mk (Below.refl w.heap.size w)
 have H : ((refs_Counts.f (([(⟨0, (([(⟨0, 3, 4⟩ : S24)] : List (S24)))⟩ : S94), (⟨1, (([(⟨9, 3, 4⟩ : S24)] : List (S24)))⟩ : S94)] : List (S94)))).bind fun bt110 => ((flagstonelaw09_num.f bt110.2).bind fun t114 => (if t114 = 0 then (if (bt110.1.length : Int) = 1 then (if 0 < (bt110.1.length : Int) then (some (((rd_T96 bt110.1 0).f0) == 3 && (((rd_T96 bt110.1 0).f1) == 4 && (((rd_T96 bt110.1 0).f2) == 2)))) else (none)) else (some false)) else (some false)))) = some r := h
 clear h
 obtain ⟨y101, hy101⟩ : ∃ y_ : List (S24), y_ = (([(⟨0, 3, 4⟩ : S24)] : List (S24))) := ⟨_, rfl⟩
 replace H : ((refs_Counts.f (([(⟨0, y101⟩ : S94), (⟨1, (([(⟨9, 3, 4⟩ : S24)] : List (S24)))⟩ : S94)] : List (S94)))).bind fun bt110 => ((flagstonelaw09_num.f bt110.2).bind fun t114 => (if t114 = 0 then (if (bt110.1.length : Int) = 1 then (if 0 < (bt110.1.length : Int) then (some (((rd_T96 bt110.1 0).f0) == 3 && (((rd_T96 bt110.1 0).f1) == 4 && (((rd_T96 bt110.1 0).f2) == 2)))) else (none)) else (some false)) else (some false)))) = some r := by first | (rw [hy101]; with_reducible exact H) | (have H2_ := (Option.bind_some _ _).symm.trans H; rw [hy101]; with_reducible exact H2_) | (have H2_ := (Option.bind_some _ _).symm.trans H; with_reducible exact H2_) | with_reducible exact H | (rw [hy101]; exact H) | exact H
 have Ny101 := Aside0.mk hy101
 clear hy101
 obtain ⟨y104, hy104⟩ : ∃ y_ : List (S24), y_ = (([(⟨9, 3, 4⟩ : S24)] : List (S24))) := ⟨_, rfl⟩
 replace H : ((refs_Counts.f (([(⟨0, y101⟩ : S94), (⟨1, y104⟩ : S94)] : List (S94)))).bind fun bt110 => ((flagstonelaw09_num.f bt110.2).bind fun t114 => (if t114 = 0 then (if (bt110.1.length : Int) = 1 then (if 0 < (bt110.1.length : Int) then (some (((rd_T96 bt110.1 0).f0) == 3 && (((rd_T96 bt110.1 0).f1) == 4 && (((rd_T96 bt110.1 0).f2) == 2)))) else (none)) else (some false)) else (some false)))) = some r := by first | (rw [hy104]; with_reducible exact H) | (have H2_ := (Option.bind_some _ _).symm.trans H; rw [hy104]; with_reducible exact H2_) | (have H2_ := (Option.bind_some _ _).symm.trans H; with_reducible exact H2_) | with_reducible exact H | (rw [hy104]; exact H) | exact H
 have Ny104 := Aside0.mk hy104
 clear hy104
 obtain ⟨y107, hy107⟩ : ∃ y_ : List (S94), y_ = (([(⟨0, y101⟩ : S94), (⟨1, y104⟩ : S94)] : List (S94))) := ⟨_, rfl⟩
 replace H : ((refs_Counts.f y107).bind fun bt110 => ((flagstonelaw09_num.f bt110.2).bind fun t114 => (if t114 = 0 then (if (bt110.1.length : Int) = 1 then (if 0 < (bt110.1.length : Int) then (some (((rd_T96 bt110.1 0).f0) == 3 && (((rd_T96 bt110.1 0).f1) == 4 && (((rd_T96 bt110.1 0).f2) == 2)))) else (none)) else (some false)) else (some false)))) = some r := by first | (rw [hy107]; with_reducible exact H) | (have H2_ := (Option.bind_some _ _).symm.trans H; rw [hy107]; with_reducible exact H2_) | (have H2_ := (Option.bind_some _ _).symm.trans H; with_reducible exact H2_) | with_reducible exact H | (rw [hy107]; exact H) | exact H
 have Ny107 := Aside0.mk hy107
 clear hy107
 replace H := Option.bind_eq_some_iff.mp H
 obtain ⟨⟨t110, t111⟩, A10, H⟩ := H
 try dsimp only at H
 have A1 := Aside0.mk A10
 clear A10
 replace H := Option.bind_eq_some_iff.mp H
 obtain ⟨t114, A20, H⟩ := H
 try dsimp only at H
 have A2 := Aside0.mk A20
 clear A20
 by_cases c3 : t114 = 0
 ·rw [if_pos c3] at H
  have c3b0 : (t114 == 0) = true := beq_iff_eq.mpr c3
  have c3b1 : (t114 != 0) = false := bne_eq_false_iff_eq.mpr c3
  clear c3
  by_cases c4 : (t110.length : Int) = 1
  ·rw [if_pos c4] at H
   have c4b0 : ((t110.length : Int) == 1) = true := beq_iff_eq.mpr c4
   have c4b1 : ((t110.length : Int) != 1) = false := bne_eq_false_iff_eq.mpr c4
   clear c4
   by_cases c5 : 0 < (t110.length : Int)
   ·rw [if_pos c5] at H
    have c5b0 : decide (0 < (t110.length : Int)) = true := decide_eq_true c5
    have c5b1 : decide (0 < t110.length) = true := decide_eq_true (by omega)
    clear c5
    obtain rfl := Option.some.inj H
    go_enter Try.func57, Try.ntmps57
    go_wp2_with (first | ((with_reducible refine gate_dst (N := 5) rfl ?_); (try (refine gate_guard (by rfl) ?_; dsimp only)); refine Kd.R_lit k24 _ 24 ?hg (N := 5) ?hd (xs := ([(⟨0, 3, 4⟩ : S24)] : List (S24))) (inner := [.int .i64 0, .int .i64 3, .int .i64 4]) (ok := fun _ => True) (okp := fun _ => True) ?hr ?hp (fun _ hk => hk) trivial (Below.refl _ _) (Nat.le_refl _) (by simp) ?_; (case hd => rfl); (case hg => rfl); (case hr => first | (go_simp; done) | (go_simp; rfl)); (case hp => exact (Reps.c3 (show Kd.M k24 _ _ _ (⟨0, 3, 4⟩ : S24) [.int .i64 0, .int .i64 3, .int .i64 4] from (k24_mkM _ _ _ (⟨0, 3, 4⟩ : S24) )) (Reps.none _ _))); intro v102 w6 ho7 hb hg_ hnew_; clear hg_ hnew_; (first | rw [← Ny101.out] at ho7 | (simp only [Int.reduceToNat] at ho7; rw [← Ny101.out] at ho7)); have n0_ := Aside0.mk (Kd.R_lower ho7 (below_size (by repeat (first | (with_reducible first | exact HB.out | apply below_alloc | apply pw_below_drewN | apply below_drew1) | exact HB.out)))); have n1_ := Aside0.mk (below_step (by repeat (first | (with_reducible first | exact HB.out | apply below_alloc | apply pw_below_drewN | apply below_drew1) | exact HB.out)) hb); clear HB; have HO103 := n0_; have HB := n1_; clear n0_ n1_; clear hb ho7; obtain ⟨Ao8, co8, eo8⟩ := Kd.R_slice HO103.out; subst eo8) | ((with_reducible refine gate_dst (N := 8) rfl ?_); (try (refine gate_guard (by rfl) ?_; dsimp only)); refine Kd.R_lit k24 _ 24 ?hg (N := 8) ?hd (xs := ([(⟨9, 3, 4⟩ : S24)] : List (S24))) (inner := [.int .i64 9, .int .i64 3, .int .i64 4]) (ok := fun _ => True) (okp := fun _ => True) ?hr ?hp (fun _ hk => hk) trivial (Below.refl _ _) (Nat.le_refl _) (by simp) ?_; (case hd => rfl); (case hg => rfl); (case hr => first | (go_simp; done) | (go_simp; rfl)); (case hp => exact (Reps.c3 (show Kd.M k24 _ _ _ (⟨9, 3, 4⟩ : S24) [.int .i64 9, .int .i64 3, .int .i64 4] from (k24_mkM _ _ _ (⟨9, 3, 4⟩ : S24) )) (Reps.none _ _))); intro v105 w9 ho10 hb hg_ hnew_; clear hg_ hnew_; (first | rw [← Ny104.out] at ho10 | (simp only [Int.reduceToNat] at ho10; rw [← Ny104.out] at ho10)); have n0_ := Aside0.mk (Kd.R_elder' (by (with_reducible repeat (first | apply Kd.R_alloc | apply Kd.R_drewN | apply Kd.R_drew)); exact HO103.out) (Kd.R_base ho10) hb); have n1_ := Aside0.mk (Kd.R_lower (Kd.R_new' ho10 (Kd.R_lt (by (with_reducible repeat (first | apply Kd.R_alloc | apply Kd.R_drewN | apply Kd.R_drew)); exact HO103.out))) (below_size (by repeat (first | (with_reducible first | exact HB.out | apply below_alloc | apply pw_below_drewN | apply below_drew1) | exact HB.out)))); have n2_ := Aside0.mk (below_step (by repeat (first | (with_reducible first | exact HB.out | apply below_alloc | apply pw_below_drewN | apply below_drew1) | exact HB.out)) hb); clear HO103; clear HB; have HO103 := n0_; have HO106 := n1_; have HB := n2_; clear n0_ n1_ n2_; clear hb ho10; obtain ⟨Ao11, co11, eo11⟩ := Kd.R_slice HO106.out; subst eo11) | ((with_reducible refine gate_dst (N := 10) rfl ?_); (try (refine gate_guard (by rfl) ?_; dsimp only)); refine Kd.N_lit k94 _ 94 ?hg (N' := 10) ?hd (xs := ([(⟨0, y101⟩ : S94), (⟨1, y104⟩ : S94)] : List (S94))) (inner := [.int .i64 0, .slice Ao8 y101.length co8, .int .i64 1, .slice Ao11 y104.length co11]) (ok := (fun _ => True)) (okp := (fun _ => True)) ?hr ?hp (fun _ hk => hk) ((show ∀ k_, w9.heap.size ≤ k_ → (fun _ => True) k_ from fun k_ hk => trivial) _ (Nat.le_refl _)) (Below.refl _ _) (Nat.le_refl _) (by simp) ?_; (case hd => rfl); (case hg => rfl); (case hr => first | (go_simp; done) | (go_simp; rfl)); (case hp => exact (Reps.c2 (show Kd.FK k94 _ _ (⟨0, y101⟩ : S94) [.int .i64 0, .slice Ao8 y101.length co8] from (k94_mkF _ _ (⟨0, y101⟩ : S94) (Kd.R_reads' (Kd.R_mono (ok' := (fun _ => True)) (HO103.out) (fun k_ hk => trivial))).2.1 (Kd.R_F (Kd.R_mono (ok' := (fun _ => True)) (HO103.out) (fun k_ hk => trivial))))) (Reps.c2 (show Kd.FK k94 _ _ (⟨1, y104⟩ : S94) [.int .i64 1, .slice Ao11 y104.length co11] from (k94_mkF _ _ (⟨1, y104⟩ : S94) (Kd.R_reads' (Kd.R_mono (ok' := (fun _ => True)) (HO106.out) (fun k_ hk => trivial))).2.1 (Kd.R_F (Kd.R_mono (ok' := (fun _ => True)) (HO106.out) (fun k_ hk => trivial))))) (Reps.none _ _)))); intro v108 w12 ho13 hb hg_ hnew_; clear hg_ hnew_; (first | rw [← Ny107.out] at ho13 | (simp only [Int.reduceToNat] at ho13; rw [← Ny107.out] at ho13)); have n0_ := Aside0.mk (Kd.N_lower ho13 (below_size (by repeat (first | (with_reducible first | exact HB.out | apply below_alloc | apply pw_below_drewN | apply below_drew1) | exact HB.out)))); have n1_ := Aside0.mk (below_step (by repeat (first | (with_reducible first | exact HB.out | apply below_alloc | apply pw_below_drewN | apply below_drew1) | exact HB.out)) hb); clear HB; clear HO103; clear HO106; have HO109 := n0_; have HB := n1_; clear n0_ n1_; clear hb ho13; obtain ⟨Ao14, co14, eo14⟩ := Kd.N_slice HO109.out; subst eo14) | ((with_reducible refine gate_callee (f := 62) rfl ?_); refine goesL_ (some 13) rfl rfl Try.func62 (by kernel_rfl) rfl #[.slice Ao14 y107.length co14] rfl (by (try simp only [List.map_toArray, List.map_cons, List.map_nil]); first | done | rfl | (simp only [List.length_drop, List.length_take]; rfl)) ?_; (with_reducible refine (refs_Counts.calls _ _ y107 t110 t111 _ ?side1 ?side2 A1.out).mono ?_); (case side1 => repeat (first | exact (Kd.N_reads' HO109.out).2.2 | (with_reducible refine Kd.C_alloc ?_ _) | (with_reducible refine Kd.C_drewN ?_ _) | (with_reducible refine Kd.C_drew ?_))); (case side2 => exact (Kd.N_reads' HO109.out).2.1); rintro e w15 ⟨v112, rfl, ho0, hb⟩; refine ⟨_, rfl, ?_⟩; have n0_ := Aside0.mk (Kd.N_elder' (by (with_reducible repeat (first | apply Kd.N_alloc | apply Kd.N_drewN | apply Kd.N_drew)); exact HO109.out) (Kd.R_base ho0) hb); have n1_ := Aside0.mk (Kd.R_lower ho0 (below_size (by repeat (first | (with_reducible first | exact HB.out | apply below_alloc | apply pw_below_drewN | apply below_drew1) | exact HB.out)))); have n2_ := Aside0.mk (below_step (by repeat (first | (with_reducible first | exact HB.out | apply below_alloc | apply pw_below_drewN | apply below_drew1) | exact HB.out)) hb); clear HO109; clear HB; have HO109 := n0_; have HO113 := n1_; have HB := n2_; clear n0_ n1_ n2_; (try clear hb); (try clear hb2); (try clear hk); (try clear hi); (try clear ho0)) | ((with_reducible refine gate_callee (f := 60) rfl ?_); refine goesL_ (some 17) rfl rfl Try.func60 (by kernel_rfl) rfl #[.int .i64 t111] rfl (by (try simp only [List.map_toArray, List.map_cons, List.map_nil]); first | done | rfl | (simp only [List.length_drop, List.length_take]; rfl)) ?_; (with_reducible refine (flagstonelaw09_num.calls t111 t114 _ A2.out).mono ?_); rintro e w' ⟨rfl, ⟨nd, rfl⟩⟩; refine ⟨_, rfl, ?_⟩; obtain ⟨Ao16, co16, eo16⟩ := Kd.R_slice HO113.out; subst eo16; have p115 : 0 ≤ (0 : Int) := (by omega); have q115 : 0 < (t110.length : Int) := of_decide_eq_true (by first | (with_reducible assumption) | assumption); obtain ⟨ad115, e115, hx115_0, hx115_1, hx115_2⟩ := at_T96 (Kd.R_reads' HO113.out).2.2 0 p115 q115; cases e115; have qi115 : (0 < t110.length) = True := eq_true (by omega); (try rw [show ((0 : Int)).toNat = 0 from rfl] at hx115_0); (try rw [show 0 * 3 = 0 from rfl] at hx115_0); (try rw [Addr.add_zero'] at hx115_0); (try rw [show ((0 : Int)).toNat = 0 from rfl] at hx115_1); (try rw [show 0 * 3 = 0 from rfl] at hx115_1); (try rw [Addr.add_zero'] at hx115_1); (try rw [show ((0 : Int)).toNat = 0 from rfl] at hx115_2); (try rw [show 0 * 3 = 0 from rfl] at hx115_2); (try rw [Addr.add_zero'] at hx115_2); replace p115 := eq_true p115; replace q115 := eq_true q115))
    go_ret
    exact ⟨by first | rfl | (simp [errW_none, errW_some] <;> rfl) | (simp [*, errW_none, errW_some] <;> rfl), by repeat (first | (with_reducible first | exact HB.out | apply below_alloc | apply pw_below_drewN | apply below_drew1) | exact HB.out)⟩
   ·rw [if_neg c5] at H
    exact absurd H (by simp)
  ·rw [if_neg c4] at H
   have c4b0 : ((t110.length : Int) == 1) = false := beq_eq_false_iff_ne.mpr c4
   have c4b1 : ((t110.length : Int) != 1) = true := bne_iff_ne.mpr c4
   obtain rfl := Option.some.inj H
   go_enter Try.func57, Try.ntmps57
   go_wp2_with (first | ((with_reducible refine gate_dst (N := 5) rfl ?_); (try (refine gate_guard (by rfl) ?_; dsimp only)); refine Kd.R_lit k24 _ 24 ?hg (N := 5) ?hd (xs := ([(⟨0, 3, 4⟩ : S24)] : List (S24))) (inner := [.int .i64 0, .int .i64 3, .int .i64 4]) (ok := fun _ => True) (okp := fun _ => True) ?hr ?hp (fun _ hk => hk) trivial (Below.refl _ _) (Nat.le_refl _) (by simp) ?_; (case hd => rfl); (case hg => rfl); (case hr => first | (go_simp; done) | (go_simp; rfl)); (case hp => exact (Reps.c3 (show Kd.M k24 _ _ _ (⟨0, 3, 4⟩ : S24) [.int .i64 0, .int .i64 3, .int .i64 4] from (k24_mkM _ _ _ (⟨0, 3, 4⟩ : S24) )) (Reps.none _ _))); intro v102 w17 ho18 hb hg_ hnew_; clear hg_ hnew_; (first | rw [← Ny101.out] at ho18 | (simp only [Int.reduceToNat] at ho18; rw [← Ny101.out] at ho18)); have n0_ := Aside0.mk (Kd.R_lower ho18 (below_size (by repeat (first | (with_reducible first | exact HB.out | apply below_alloc | apply pw_below_drewN | apply below_drew1) | exact HB.out)))); have n1_ := Aside0.mk (below_step (by repeat (first | (with_reducible first | exact HB.out | apply below_alloc | apply pw_below_drewN | apply below_drew1) | exact HB.out)) hb); clear HB; have HO103 := n0_; have HB := n1_; clear n0_ n1_; clear hb ho18; obtain ⟨Ao19, co19, eo19⟩ := Kd.R_slice HO103.out; subst eo19) | ((with_reducible refine gate_dst (N := 8) rfl ?_); (try (refine gate_guard (by rfl) ?_; dsimp only)); refine Kd.R_lit k24 _ 24 ?hg (N := 8) ?hd (xs := ([(⟨9, 3, 4⟩ : S24)] : List (S24))) (inner := [.int .i64 9, .int .i64 3, .int .i64 4]) (ok := fun _ => True) (okp := fun _ => True) ?hr ?hp (fun _ hk => hk) trivial (Below.refl _ _) (Nat.le_refl _) (by simp) ?_; (case hd => rfl); (case hg => rfl); (case hr => first | (go_simp; done) | (go_simp; rfl)); (case hp => exact (Reps.c3 (show Kd.M k24 _ _ _ (⟨9, 3, 4⟩ : S24) [.int .i64 9, .int .i64 3, .int .i64 4] from (k24_mkM _ _ _ (⟨9, 3, 4⟩ : S24) )) (Reps.none _ _))); intro v105 w20 ho21 hb hg_ hnew_; clear hg_ hnew_; (first | rw [← Ny104.out] at ho21 | (simp only [Int.reduceToNat] at ho21; rw [← Ny104.out] at ho21)); have n0_ := Aside0.mk (Kd.R_elder' (by (with_reducible repeat (first | apply Kd.R_alloc | apply Kd.R_drewN | apply Kd.R_drew)); exact HO103.out) (Kd.R_base ho21) hb); have n1_ := Aside0.mk (Kd.R_lower (Kd.R_new' ho21 (Kd.R_lt (by (with_reducible repeat (first | apply Kd.R_alloc | apply Kd.R_drewN | apply Kd.R_drew)); exact HO103.out))) (below_size (by repeat (first | (with_reducible first | exact HB.out | apply below_alloc | apply pw_below_drewN | apply below_drew1) | exact HB.out)))); have n2_ := Aside0.mk (below_step (by repeat (first | (with_reducible first | exact HB.out | apply below_alloc | apply pw_below_drewN | apply below_drew1) | exact HB.out)) hb); clear HO103; clear HB; have HO103 := n0_; have HO106 := n1_; have HB := n2_; clear n0_ n1_ n2_; clear hb ho21; obtain ⟨Ao22, co22, eo22⟩ := Kd.R_slice HO106.out; subst eo22) | ((with_reducible refine gate_dst (N := 10) rfl ?_); (try (refine gate_guard (by rfl) ?_; dsimp only)); refine Kd.N_lit k94 _ 94 ?hg (N' := 10) ?hd (xs := ([(⟨0, y101⟩ : S94), (⟨1, y104⟩ : S94)] : List (S94))) (inner := [.int .i64 0, .slice Ao19 y101.length co19, .int .i64 1, .slice Ao22 y104.length co22]) (ok := (fun _ => True)) (okp := (fun _ => True)) ?hr ?hp (fun _ hk => hk) ((show ∀ k_, w20.heap.size ≤ k_ → (fun _ => True) k_ from fun k_ hk => trivial) _ (Nat.le_refl _)) (Below.refl _ _) (Nat.le_refl _) (by simp) ?_; (case hd => rfl); (case hg => rfl); (case hr => first | (go_simp; done) | (go_simp; rfl)); (case hp => exact (Reps.c2 (show Kd.FK k94 _ _ (⟨0, y101⟩ : S94) [.int .i64 0, .slice Ao19 y101.length co19] from (k94_mkF _ _ (⟨0, y101⟩ : S94) (Kd.R_reads' (Kd.R_mono (ok' := (fun _ => True)) (HO103.out) (fun k_ hk => trivial))).2.1 (Kd.R_F (Kd.R_mono (ok' := (fun _ => True)) (HO103.out) (fun k_ hk => trivial))))) (Reps.c2 (show Kd.FK k94 _ _ (⟨1, y104⟩ : S94) [.int .i64 1, .slice Ao22 y104.length co22] from (k94_mkF _ _ (⟨1, y104⟩ : S94) (Kd.R_reads' (Kd.R_mono (ok' := (fun _ => True)) (HO106.out) (fun k_ hk => trivial))).2.1 (Kd.R_F (Kd.R_mono (ok' := (fun _ => True)) (HO106.out) (fun k_ hk => trivial))))) (Reps.none _ _)))); intro v108 w23 ho24 hb hg_ hnew_; clear hg_ hnew_; (first | rw [← Ny107.out] at ho24 | (simp only [Int.reduceToNat] at ho24; rw [← Ny107.out] at ho24)); have n0_ := Aside0.mk (Kd.N_lower ho24 (below_size (by repeat (first | (with_reducible first | exact HB.out | apply below_alloc | apply pw_below_drewN | apply below_drew1) | exact HB.out)))); have n1_ := Aside0.mk (below_step (by repeat (first | (with_reducible first | exact HB.out | apply below_alloc | apply pw_below_drewN | apply below_drew1) | exact HB.out)) hb); clear HB; clear HO103; clear HO106; have HO109 := n0_; have HB := n1_; clear n0_ n1_; clear hb ho24; obtain ⟨Ao25, co25, eo25⟩ := Kd.N_slice HO109.out; subst eo25) | ((with_reducible refine gate_callee (f := 62) rfl ?_); refine goesL_ (some 13) rfl rfl Try.func62 (by kernel_rfl) rfl #[.slice Ao25 y107.length co25] rfl (by (try simp only [List.map_toArray, List.map_cons, List.map_nil]); first | done | rfl | (simp only [List.length_drop, List.length_take]; rfl)) ?_; (with_reducible refine (refs_Counts.calls _ _ y107 t110 t111 _ ?side1 ?side2 A1.out).mono ?_); (case side1 => repeat (first | exact (Kd.N_reads' HO109.out).2.2 | (with_reducible refine Kd.C_alloc ?_ _) | (with_reducible refine Kd.C_drewN ?_ _) | (with_reducible refine Kd.C_drew ?_))); (case side2 => exact (Kd.N_reads' HO109.out).2.1); rintro e w26 ⟨v112, rfl, ho0, hb⟩; refine ⟨_, rfl, ?_⟩; have n0_ := Aside0.mk (Kd.N_elder' (by (with_reducible repeat (first | apply Kd.N_alloc | apply Kd.N_drewN | apply Kd.N_drew)); exact HO109.out) (Kd.R_base ho0) hb); have n1_ := Aside0.mk (Kd.R_lower ho0 (below_size (by repeat (first | (with_reducible first | exact HB.out | apply below_alloc | apply pw_below_drewN | apply below_drew1) | exact HB.out)))); have n2_ := Aside0.mk (below_step (by repeat (first | (with_reducible first | exact HB.out | apply below_alloc | apply pw_below_drewN | apply below_drew1) | exact HB.out)) hb); clear HO109; clear HB; have HO109 := n0_; have HO113 := n1_; have HB := n2_; clear n0_ n1_ n2_; (try clear hb); (try clear hb2); (try clear hk); (try clear hi); (try clear ho0)) | ((with_reducible refine gate_callee (f := 60) rfl ?_); refine goesL_ (some 17) rfl rfl Try.func60 (by kernel_rfl) rfl #[.int .i64 t111] rfl (by (try simp only [List.map_toArray, List.map_cons, List.map_nil]); first | done | rfl | (simp only [List.length_drop, List.length_take]; rfl)) ?_; (with_reducible refine (flagstonelaw09_num.calls t111 t114 _ A2.out).mono ?_); rintro e w' ⟨rfl, ⟨nd, rfl⟩⟩; refine ⟨_, rfl, ?_⟩; obtain ⟨Ao27, co27, eo27⟩ := Kd.R_slice HO113.out; subst eo27))
   go_ret
   exact ⟨by first | rfl | (simp [errW_none, errW_some] <;> rfl) | (simp [*, errW_none, errW_some] <;> rfl), by repeat (first | (with_reducible first | exact HB.out | apply below_alloc | apply pw_below_drewN | apply below_drew1) | exact HB.out)⟩
 ·rw [if_neg c3] at H
  have c3b0 : (t114 == 0) = false := beq_eq_false_iff_ne.mpr c3
  have c3b1 : (t114 != 0) = true := bne_iff_ne.mpr c3
  obtain rfl := Option.some.inj H
  go_enter Try.func57, Try.ntmps57
  go_wp2_with (first | ((with_reducible refine gate_dst (N := 5) rfl ?_); (try (refine gate_guard (by rfl) ?_; dsimp only)); refine Kd.R_lit k24 _ 24 ?hg (N := 5) ?hd (xs := ([(⟨0, 3, 4⟩ : S24)] : List (S24))) (inner := [.int .i64 0, .int .i64 3, .int .i64 4]) (ok := fun _ => True) (okp := fun _ => True) ?hr ?hp (fun _ hk => hk) trivial (Below.refl _ _) (Nat.le_refl _) (by simp) ?_; (case hd => rfl); (case hg => rfl); (case hr => first | (go_simp; done) | (go_simp; rfl)); (case hp => exact (Reps.c3 (show Kd.M k24 _ _ _ (⟨0, 3, 4⟩ : S24) [.int .i64 0, .int .i64 3, .int .i64 4] from (k24_mkM _ _ _ (⟨0, 3, 4⟩ : S24) )) (Reps.none _ _))); intro v102 w28 ho29 hb hg_ hnew_; clear hg_ hnew_; (first | rw [← Ny101.out] at ho29 | (simp only [Int.reduceToNat] at ho29; rw [← Ny101.out] at ho29)); have n0_ := Aside0.mk (Kd.R_lower ho29 (below_size (by repeat (first | (with_reducible first | exact HB.out | apply below_alloc | apply pw_below_drewN | apply below_drew1) | exact HB.out)))); have n1_ := Aside0.mk (below_step (by repeat (first | (with_reducible first | exact HB.out | apply below_alloc | apply pw_below_drewN | apply below_drew1) | exact HB.out)) hb); clear HB; have HO103 := n0_; have HB := n1_; clear n0_ n1_; clear hb ho29; obtain ⟨Ao30, co30, eo30⟩ := Kd.R_slice HO103.out; subst eo30) | ((with_reducible refine gate_dst (N := 8) rfl ?_); (try (refine gate_guard (by rfl) ?_; dsimp only)); refine Kd.R_lit k24 _ 24 ?hg (N := 8) ?hd (xs := ([(⟨9, 3, 4⟩ : S24)] : List (S24))) (inner := [.int .i64 9, .int .i64 3, .int .i64 4]) (ok := fun _ => True) (okp := fun _ => True) ?hr ?hp (fun _ hk => hk) trivial (Below.refl _ _) (Nat.le_refl _) (by simp) ?_; (case hd => rfl); (case hg => rfl); (case hr => first | (go_simp; done) | (go_simp; rfl)); (case hp => exact (Reps.c3 (show Kd.M k24 _ _ _ (⟨9, 3, 4⟩ : S24) [.int .i64 9, .int .i64 3, .int .i64 4] from (k24_mkM _ _ _ (⟨9, 3, 4⟩ : S24) )) (Reps.none _ _))); intro v105 w31 ho32 hb hg_ hnew_; clear hg_ hnew_; (first | rw [← Ny104.out] at ho32 | (simp only [Int.reduceToNat] at ho32; rw [← Ny104.out] at ho32)); have n0_ := Aside0.mk (Kd.R_elder' (by (with_reducible repeat (first | apply Kd.R_alloc | apply Kd.R_drewN | apply Kd.R_drew)); exact HO103.out) (Kd.R_base ho32) hb); have n1_ := Aside0.mk (Kd.R_lower (Kd.R_new' ho32 (Kd.R_lt (by (with_reducible repeat (first | apply Kd.R_alloc | apply Kd.R_drewN | apply Kd.R_drew)); exact HO103.out))) (below_size (by repeat (first | (with_reducible first | exact HB.out | apply below_alloc | apply pw_below_drewN | apply below_drew1) | exact HB.out)))); have n2_ := Aside0.mk (below_step (by repeat (first | (with_reducible first | exact HB.out | apply below_alloc | apply pw_below_drewN | apply below_drew1) | exact HB.out)) hb); clear HO103; clear HB; have HO103 := n0_; have HO106 := n1_; have HB := n2_; clear n0_ n1_ n2_; clear hb ho32; obtain ⟨Ao33, co33, eo33⟩ := Kd.R_slice HO106.out; subst eo33) | ((with_reducible refine gate_dst (N := 10) rfl ?_); (try (refine gate_guard (by rfl) ?_; dsimp only)); refine Kd.N_lit k94 _ 94 ?hg (N' := 10) ?hd (xs := ([(⟨0, y101⟩ : S94), (⟨1, y104⟩ : S94)] : List (S94))) (inner := [.int .i64 0, .slice Ao30 y101.length co30, .int .i64 1, .slice Ao33 y104.length co33]) (ok := (fun _ => True)) (okp := (fun _ => True)) ?hr ?hp (fun _ hk => hk) ((show ∀ k_, w31.heap.size ≤ k_ → (fun _ => True) k_ from fun k_ hk => trivial) _ (Nat.le_refl _)) (Below.refl _ _) (Nat.le_refl _) (by simp) ?_; (case hd => rfl); (case hg => rfl); (case hr => first | (go_simp; done) | (go_simp; rfl)); (case hp => exact (Reps.c2 (show Kd.FK k94 _ _ (⟨0, y101⟩ : S94) [.int .i64 0, .slice Ao30 y101.length co30] from (k94_mkF _ _ (⟨0, y101⟩ : S94) (Kd.R_reads' (Kd.R_mono (ok' := (fun _ => True)) (HO103.out) (fun k_ hk => trivial))).2.1 (Kd.R_F (Kd.R_mono (ok' := (fun _ => True)) (HO103.out) (fun k_ hk => trivial))))) (Reps.c2 (show Kd.FK k94 _ _ (⟨1, y104⟩ : S94) [.int .i64 1, .slice Ao33 y104.length co33] from (k94_mkF _ _ (⟨1, y104⟩ : S94) (Kd.R_reads' (Kd.R_mono (ok' := (fun _ => True)) (HO106.out) (fun k_ hk => trivial))).2.1 (Kd.R_F (Kd.R_mono (ok' := (fun _ => True)) (HO106.out) (fun k_ hk => trivial))))) (Reps.none _ _)))); intro v108 w34 ho35 hb hg_ hnew_; clear hg_ hnew_; (first | rw [← Ny107.out] at ho35 | (simp only [Int.reduceToNat] at ho35; rw [← Ny107.out] at ho35)); have n0_ := Aside0.mk (Kd.N_lower ho35 (below_size (by repeat (first | (with_reducible first | exact HB.out | apply below_alloc | apply pw_below_drewN | apply below_drew1) | exact HB.out)))); have n1_ := Aside0.mk (below_step (by repeat (first | (with_reducible first | exact HB.out | apply below_alloc | apply pw_below_drewN | apply below_drew1) | exact HB.out)) hb); clear HB; clear HO103; clear HO106; have HO109 := n0_; have HB := n1_; clear n0_ n1_; clear hb ho35; obtain ⟨Ao36, co36, eo36⟩ := Kd.N_slice HO109.out; subst eo36) | ((with_reducible refine gate_callee (f := 62) rfl ?_); refine goesL_ (some 13) rfl rfl Try.func62 (by kernel_rfl) rfl #[.slice Ao36 y107.length co36] rfl (by (try simp only [List.map_toArray, List.map_cons, List.map_nil]); first | done | rfl | (simp only [List.length_drop, List.length_take]; rfl)) ?_; (with_reducible refine (refs_Counts.calls _ _ y107 t110 t111 _ ?side1 ?side2 A1.out).mono ?_); (case side1 => repeat (first | exact (Kd.N_reads' HO109.out).2.2 | (with_reducible refine Kd.C_alloc ?_ _) | (with_reducible refine Kd.C_drewN ?_ _) | (with_reducible refine Kd.C_drew ?_))); (case side2 => exact (Kd.N_reads' HO109.out).2.1); rintro e w37 ⟨v112, rfl, ho0, hb⟩; refine ⟨_, rfl, ?_⟩; have n0_ := Aside0.mk (Kd.N_elder' (by (with_reducible repeat (first | apply Kd.N_alloc | apply Kd.N_drewN | apply Kd.N_drew)); exact HO109.out) (Kd.R_base ho0) hb); have n1_ := Aside0.mk (Kd.R_lower ho0 (below_size (by repeat (first | (with_reducible first | exact HB.out | apply below_alloc | apply pw_below_drewN | apply below_drew1) | exact HB.out)))); have n2_ := Aside0.mk (below_step (by repeat (first | (with_reducible first | exact HB.out | apply below_alloc | apply pw_below_drewN | apply below_drew1) | exact HB.out)) hb); clear HO109; clear HB; have HO109 := n0_; have HO113 := n1_; have HB := n2_; clear n0_ n1_ n2_; (try clear hb); (try clear hb2); (try clear hk); (try clear hi); (try clear ho0)) | ((with_reducible refine gate_callee (f := 60) rfl ?_); refine goesL_ (some 17) rfl rfl Try.func60 (by kernel_rfl) rfl #[.int .i64 t111] rfl (by (try simp only [List.map_toArray, List.map_cons, List.map_nil]); first | done | rfl | (simp only [List.length_drop, List.length_take]; rfl)) ?_; (with_reducible refine (flagstonelaw09_num.calls t111 t114 _ A2.out).mono ?_); rintro e w' ⟨rfl, ⟨nd, rfl⟩⟩; refine ⟨_, rfl, ?_⟩))
  go_ret
  exact ⟨by first | rfl | (simp [errW_none, errW_some] <;> rfl) | (simp [*, errW_none, errW_some] <;> rfl), by repeat (first | (with_reducible first | exact HB.out | apply below_alloc | apply pw_below_drewN | apply below_drew1) | exact HB.out)⟩
end Go.Proofs.Ytkkfkdncddbaeaa.Fn
namespace Go.Proofs.Ytkkfkdncddbaeaa.Fn
open Go.RowKit Go.Proofs.YtkkfkdncddbaeaaW.PrintWords Go.Proofs.YtkkfkdncddbaeaaW.PrintLast Go.Proofs.YtkkfkdncddbaeaaW.PrintMore
attribute [local go_sem] max2_int min2_int max_two min_two max_three min_three max_four min_four
set_option linter.unusedVariables false
set_option linter.unusedSimpArgs false
def askRef.f (l0 : List S94) (x0 x1 : Int) : Option (List S88 × Int) := some (if Flag.checkM (l0.map toM) = 0 then (if x0 < 0 ∨ x1 < 1 then ([], 4) else (sortRefL (refsG l0), 0)) else ([], 9))
set_option maxHeartbeats 8000000 in
set_option maxRecDepth 100000 in
theorem askRef.calls (A0 : Option Addr) (c0 : Nat) (l0 : List (S94)) (x0 x1 : Int) (r1 : List (S88)) (r2 : Int) (w : World) (hr0 : Kd.C k94 w A0 l0.length l0) (hc0 : l0.length ≤ c0) (h : askRef.f l0 x0 x1 = some (r1, r2)) :
    Calls Try.prog 113 #[.slice A0 l0.length c0, .agg #[.int .i64 x0, .int .i64 x1], .func (.func 65) #[] #[]] w fun e w' => ∃ v0_ : Value, e = .returned (.tuple #[v0_, .int .i64 r2]) ∧ Kd.R k88 88 w' w.heap.size (fun _ => True) v0_ r1 ∧ Below w.heap.size w w' := by
  have hu40 := Try.underlying40
  unfold askRef.f at h
  have h := Option.some.inj h
  obtain ⟨W1, hW1⟩ : ∃ W, W = w.alloc (.cells #[.int .i64 x0, .int .i64 x1] 40) := ⟨_, rfl⟩
  have hwz : w.heap.size ≤ W1.heap.size := by rw [hW1]; simp
  have hb1 : Below w.heap.size w W1 := by rw [hW1]; exact (Below.refl _ _).alloc (Nat.le_refl _) _
  have hx1 : W1.heap[w.heap.size]? = some (.cells #[.int .i64 x0, .int .i64 x1] 40 (0, 0)) := by rw [hW1]; exact blk_new w _
  have hlt := blk_lt hx1
  have hr1 : Kd.C k94 W1 A0 l0.length l0 := by rw [hW1]; exact Kd.C_alloc hr0 _
  have HX1 := Aside0.mk hx1
  have HB1 := Aside0.mk hb1
  have HLT := Aside0.mk hlt
  have HWZ := Aside0.mk hwz
  clear hx1 hb1 hr0 hlt hwz
  by_cases hc : Flag.checkM (l0.map toM) = 0
  · rw [if_pos hc] at h
    have hcall := refs_Refs.calls A0 c0 l0 (sortRefL (refsG l0)) 0 W1 hr1 hc0 (by unfold refs_Refs.f; rw [if_pos hc])
    have HCALL := Aside0.mk hcall
    obtain ⟨ls, hls⟩ : ∃ ls, ls = sortRefL (refsG l0) := ⟨_, rfl⟩
    rw [← hls] at h HCALL
    clear hcall hr1 hc hls
    go_enter Try.func113, Try.ntmps113
    go_wp2_with fail
    rw [← hW1]
    clear hW1
    refine HCALL.out.mono ?_
    rintro e w1 ⟨v1, rfl, hR1, hb2⟩
    have hb3 : Below w.heap.size w w1 := HB1.out.trans (hb2.mono HWZ.out)
    have hx2 : w1.heap[w.heap.size]? = some (.cells #[.int .i64 x0, .int .i64 x1] 40 (0, 0)) := by rw [hb2.block _ HLT.out]; exact HX1.out
    have HR1 := Aside0.mk (Kd.R_lower hR1 HWZ.out)
    have HB3 := Aside0.mk hb3
    have p0 : w1.cell? ⟨w.heap.size, 0, none⟩ = some (.int .i64 x0) := (blk_cell hx2 0).trans rfl
    have p1 : w1.cell? ⟨w.heap.size, 1, none⟩ = some (.int .i64 x1) := (blk_cell hx2 1).trans rfl
    clear hR1 hb2 hb3 hx2
    by_cases hx0 : x0 < 0
    · have hd0 : decide (x0 < 0) = true := decide_eq_true hx0
      rw [if_pos (Or.inl hx0)] at h
      obtain ⟨rfl, rfl⟩ := Prod.mk.inj h
      clear h
      go_wp2
      go_ret2
      exact ⟨_, rfl, Kd.R_nil _ _ _ _ _, HB3.out⟩
    · have hd0 : decide (x0 < 0) = false := decide_eq_false hx0
      by_cases hx1 : x1 < 1
      · have hd1 : decide (x1 < 1) = true := decide_eq_true hx1
        rw [if_pos (Or.inr hx1)] at h
        obtain ⟨rfl, rfl⟩ := Prod.mk.inj h
        clear h
        go_wp2
        go_ret2
        exact ⟨_, rfl, Kd.R_nil _ _ _ _ _, HB3.out⟩
      · have hd1 : decide (x1 < 1) = false := decide_eq_false hx1
        rw [if_neg (fun h => h.elim hx0 hx1)] at h
        obtain ⟨rfl, rfl⟩ := Prod.mk.inj h
        clear h
        go_wp2
        go_ret2
        exact ⟨_, rfl, HR1.out, HB3.out⟩
  · rw [if_neg hc] at h
    obtain ⟨rfl, rfl⟩ := Prod.mk.inj h
    have hcall := refs_Refs.calls A0 c0 l0 [] 9 W1 hr1 hc0 (by unfold refs_Refs.f; rw [if_neg hc])
    have HCALL := Aside0.mk hcall
    clear hcall hr1 hc h
    go_enter Try.func113, Try.ntmps113
    go_wp2_with fail
    rw [← hW1]
    clear hW1
    refine HCALL.out.mono ?_
    rintro e w1 ⟨v1, rfl, hR1, hb2⟩
    have HB3 := Aside0.mk (HB1.out.trans (hb2.mono HWZ.out))
    clear hR1 hb2
    go_wp2
    go_ret2
    exact ⟨_, rfl, Kd.R_nil _ _ _ _ _, HB3.out⟩
namespace Sym
open Go.Sort
variable {α : Type} [Inhabited α]
def swI (a b n x : Nat) : Nat := if a ≤ x ∧ x < a + n then b + (x - a) else if b ≤ x ∧ x < b + n then a + (x - b) else x
def roI (a m b x : Nat) : Nat := if a ≤ x ∧ x < a + (b - m) then m + (x - a) else if a + (b - m) ≤ x ∧ x < b then x - (b - m) else x
def By (f : Nat → Nat) (d d' : Array α) : Prop := d'.size = d.size ∧ ∀ x, x < d.size → d'[x]! = d[f x]!
theorem By.refl (d : Array α) : By id d d := ⟨rfl, fun _ _ => rfl⟩
theorem By.swp {f g : Nat → Nat} {d d' : Array α} (h : By f d d') (i j : Nat) (hi : i < d.size) (hj : j < d.size) (hg : ∀ x, x < d.size → g x = if x = i then f j else if x = j then f i else f x) : By g d (Go.Sort.swp d' i j) := by
  have hs := h.1
  refine ⟨by rw [size_swp, hs], fun x hx => ?_⟩
  rw [hg x hx]
  by_cases e1 : x = i
  · subst e1
    rw [if_pos rfl, ← h.2 j hj]
    by_cases e2 : x = j
    · subst e2
      rw [swp_right _ _ _ (by omega)]
    · rw [swp_left _ _ _ (by omega) e2]
  · rw [if_neg e1]
    by_cases e2 : x = j
    · subst e2
      rw [if_pos rfl, ← h.2 i hi, swp_right _ _ _ (by omega)]
    · rw [if_neg e2, swp_other _ _ _ _ e1 e2, h.2 x hx]
theorem By.trans {f g : Nat → Nat} {d d1 d2 : Array α} (h : By f d d1) (k : By g d1 d2) (hg : ∀ x, x < d.size → g x < d.size) : By (fun x => f (g x)) d d2 :=
  ⟨k.1.trans h.1, fun x hx => by rw [k.2 x (by rw [h.1]; exact hx), h.2 _ (hg x hx)]⟩
theorem By.congr {f g : Nat → Nat} {d d' : Array α} (h : By f d d') (e : ∀ x, x < d.size → g x = f x) : By g d d' := ⟨h.1, fun x hx => by rw [e x hx]; exact h.2 x hx⟩
theorem swI_lt {a b n x s : Nat} (ha : a + n ≤ s) (hb : b + n ≤ s) (hx : x < s) : swI a b n x < s := by unfold swI; split <;> (try split) <;> omega
theorem sw_step {a b n i : Nat} (h : a + n ≤ b ∨ b + n ≤ a) (hi : i < n) (x : Nat) : swI a b (i + 1) x = if x = a + i then swI a b i (b + i) else if x = b + i then swI a b i (a + i) else swI a b i x := by
  unfold swI
  repeat' split
  all_goals omega
theorem ro_left {m i j x : Nat} (hj : j < i) (hm : i ≤ m) : swI (m - i) m j (roI (m - (i - j)) m (m + j) x) = roI (m - i) m (m + j) x := by
  unfold swI roI
  repeat' split
  all_goals omega
theorem ro_right {m i j x : Nat} (hj : i < j) (hm : i ≤ m) : swI (m - i) (m + j - i) i (roI (m - i) m (m + (j - i)) x) = roI (m - i) m (m + j) x := by
  unfold swI roI
  repeat' split
  all_goals omega
theorem ro_same {m i x : Nat} (hm : i ≤ m) : swI (m - i) m i x = roI (m - i) m (m + i) x := by
  unfold swI roI
  repeat' split
  all_goals omega
variable {lt : α → α → Bool}
def Low (lt : α → α → Bool) (a mid b : Nat) (d : Array α) : Prop := ∀ x y, a ≤ x → x < mid → mid ≤ y → y < b → lt d[y]! d[x]! = false
theorem glue {a mid b : Nat} {d : Array α} (h1 : SortedIn lt a mid d) (h2 : SortedIn lt mid b d) (h3 : Low lt a mid b d) : SortedIn lt a b d := by
  intro i j ha hij hj
  by_cases c1 : j < mid
  · exact h1 i j ha hij c1
  · by_cases c2 : mid ≤ i
    · exact h2 i j c2 hij hj
    · exact h3 i j ha (by omega) (by omega) hj
theorem Low.permL {a mid b : Nat} {d d' : Array α} (h : Low lt a mid b d) (hm : mid ≤ d.size) (hp : PermIn a mid d d') : Low lt a mid b d' := by
  intro x y hx1 hx2 hy1 hy2
  rw [hp.2.1 y (.inr hy1)]
  exact permIn_all d d' a mid (fun z => lt d[y]! z = false) hm hp (fun i h1 h2 => h i y h1 h2 hy1 hy2) x hx1 hx2
theorem Low.permR {a mid b : Nat} {d d' : Array α} (h : Low lt a mid b d) (hm : b ≤ d.size) (hp : PermIn mid b d d') : Low lt a mid b d' := by
  intro x y hx1 hx2 hy1 hy2
  rw [hp.2.1 x (.inl hx2)]
  exact permIn_all d d' mid b (fun z => lt z d[x]! = false) hm hp (fun i h1 h2 => h x i hx1 hx2 h1 h2) y hy1 hy2
theorem sorted_off {a b x y : Nat} {d d' : Array α} (h : SortedIn lt a b d) (hp : PermIn x y d d') (hd : b ≤ x ∨ y ≤ a) : SortedIn lt a b d' := by
  intro i j ha hij hj
  rw [hp.2.1 i (by omega), hp.2.1 j (by omega)]
  exact h i j ha hij hj
theorem SortedIn.le {a b i j : Nat} {d : Array α} (hS : SWO lt) (h : SortedIn lt a b d) (ha : a ≤ i) (hij : i ≤ j) (hj : j < b) : lt d[j]! d[i]! = false := by
  by_cases e : i = j
  · subst e; exact hS.irrefl _
  · exact h i j ha (by omega) hj
structure Cut (lt : α → α → Bool) (d : Array α) (a m b s e : Nat) : Prop where
  ka : a ≤ s
  sm : s ≤ m
  me : m ≤ e
  eb : e ≤ b
  up : ∀ x y, a ≤ x → x < s → e ≤ y → y < b → lt d[y]! d[x]! = false
  dn : ∀ x y, s ≤ x → x < m → m ≤ y → y < e → lt d[x]! d[y]! = false
theorem cut_sorted {d d' : Array α} {a m b s e : Nat} (hS : SWO lt) (hb : b ≤ d.size) (h1 : SortedIn lt a m d) (h2 : SortedIn lt m b d) (C : Cut lt d a m b s e) (hB : By (roI s m e) d d') :
    SortedIn lt a s d' ∧ SortedIn lt s (s + (e - m)) d' ∧ SortedIn lt (s + (e - m)) e d' ∧ SortedIn lt e b d' ∧ Low lt a (s + (e - m)) b d' := by
  have q1 := C.ka; have q2 := C.sm; have q3 := C.me; have q4 := C.eb
  have g1 : ∀ x, a ≤ x → x < s → d'[x]! = d[x]! := fun x h3 h4 => by rw [hB.2 x (by omega)]; unfold roI; rw [if_neg (by omega), if_neg (by omega)]
  have g2 : ∀ x, s ≤ x → x < s + (e - m) → d'[x]! = d[m + (x - s)]! := fun x h3 h4 => by rw [hB.2 x (by omega)]; unfold roI; rw [if_pos (by omega)]
  have g3 : ∀ x, s + (e - m) ≤ x → x < e → d'[x]! = d[x - (e - m)]! := fun x h3 h4 => by rw [hB.2 x (by omega)]; unfold roI; rw [if_neg (by omega), if_pos (by omega)]
  have g4 : ∀ x, e ≤ x → x < b → d'[x]! = d[x]! := fun x h3 h4 => by rw [hB.2 x (by omega)]; unfold roI; rw [if_neg (by omega), if_neg (by omega)]
  refine ⟨?_, ?_, ?_, ?_, ?_⟩
  · intro i j ha hij hj
    rw [g1 i ha (by omega), g1 j (by omega) hj]
    exact h1 i j ha hij (by omega)
  · intro i j ha hij hj
    rw [g2 i ha (by omega), g2 j (by omega) hj]
    exact h2 _ _ (by omega) (by omega) (by omega)
  · intro i j ha hij hj
    rw [g3 i ha (by omega), g3 j (by omega) hj]
    exact h1 _ _ (by omega) (by omega) (by omega)
  · intro i j ha hij hj
    rw [g4 i ha (by omega), g4 j (by omega) hj]
    exact h2 i j (by omega) hij hj
  · intro x y hx1 hx2 hy1 hy2
    by_cases c1 : x < s
    · rw [g1 x hx1 c1]
      by_cases c2 : y < e
      · rw [g3 y hy1 c2]
        exact SortedIn.le hS h1 hx1 (by omega) (by omega)
      · rw [g4 y (by omega) hy2]
        exact C.up x y hx1 c1 (by omega) hy2
    · rw [g2 x (by omega) hx2]
      by_cases c2 : y < e
      · rw [g3 y hy1 c2]
        exact C.dn _ _ (by omega) (by omega) (by omega) (by omega)
      · rw [g4 y (by omega) hy2]
        exact SortedIn.le hS h2 (by omega) (by omega) hy2
theorem cut_first {d : Array α} {a b i : Nat} (hS : SWO lt) (h2 : SortedIn lt (a + 1) b d) (h3 : a + 1 ≤ i) (hi : i ≤ b) (hl : a + 1 < i → lt d[i - 1]! d[a]! = true) (hr : i < b → lt d[i]! d[a]! = false) : Cut lt d a (a + 1) b a i where
  ka := Nat.le_refl _
  sm := by omega
  me := h3
  eb := hi
  up x y _ hx _ _ := by omega
  dn x y hx1 hx2 hy1 hy2 := by
    obtain rfl : x = a := by omega
    have h4 := hl (by omega)
    have h5 := SortedIn.le hS h2 hy1 (show y ≤ i - 1 by omega) (by omega)
    cases hc : lt d[x]! d[y]! with
    | false => rfl
    | true => have := hS.trans _ _ _ h4 hc; rw [this] at h5; cases h5
theorem cut_first_up {d d' : Array α} {a b i : Nat} (hS : SWO lt) (hb : b ≤ d.size) (h2 : SortedIn lt (a + 1) b d) (h3 : a + 1 ≤ i) (hi : i ≤ b) (hl : a + 1 < i → lt d[i - 1]! d[a]! = true) (hr : i < b → lt d[i]! d[a]! = false) (hB : By (roI a (a + 1) i) d d') : SortedIn lt a b d' := by
  obtain ⟨_, s2, s3, s4, s5⟩ := cut_sorted hS hb (fun i j h1 h2 h3 => by omega) h2 (cut_first hS h2 h3 hi hl hr) hB
  have e : a + (i - (a + 1)) = i - 1 := by omega
  rw [e] at s2 s3 s5
  refine glue s2 (mid := i - 1) ?_ s5
  intro x y hx hxy hy
  by_cases c : i ≤ x
  · exact s4 x y c hxy hy
  · obtain rfl : x = i - 1 := by omega
    have g1 : d'[i - 1]! = d[a]! := by rw [hB.2 _ (by omega)]; unfold roI; rw [if_neg (by omega), if_pos (by omega)]; congr 1; omega
    have g2 : d'[y]! = d[y]! := by rw [hB.2 _ (by omega)]; unfold roI; rw [if_neg (by omega), if_neg (by omega)]
    rw [g1, g2]
    have h4 := hr (by omega)
    exact hS.ntrans _ _ _ (SortedIn.le hS h2 (show a + 1 ≤ i by omega) (show i ≤ y by omega) hy) h4
theorem cut_last_up {d d' : Array α} {a m i : Nat} (hS : SWO lt) (hb : m + 1 ≤ d.size) (h1 : SortedIn lt a m d) (h3 : a ≤ i) (hi : i ≤ m) (hl : a < i → lt d[m]! d[i - 1]! = false) (hr : i < m → lt d[m]! d[i]! = true) (hB : By (roI i m (m + 1)) d d') : SortedIn lt a (m + 1) d' := by
  have C : Cut lt d a m (m + 1) i (m + 1) :=
    { ka := h3, sm := hi, me := by omega, eb := Nat.le_refl _, up := fun x y _ _ h4 h5 => by omega,
      dn := fun x y hx1 hx2 hy1 hy2 => by
        obtain rfl : y = m := by omega
        have h4 := hr (by omega)
        have h5 := SortedIn.le hS h1 (show a ≤ i by omega) hx1 hx2
        cases hc : lt d[x]! d[y]! with
        | false => rfl
        | true => have := hS.trans _ _ _ hc h4; rw [this] at h5; cases h5 }
  obtain ⟨s1, s2, s3, s4, s5⟩ := cut_sorted hS hb h1 (fun i j h1 h2 h3 => by omega) C hB
  have e : i + (m + 1 - m) = i + 1 := by omega
  rw [e] at s2 s3 s5
  refine glue (mid := i + 1) ?_ s3 s5
  intro x y hx hxy hy
  by_cases c : y < i
  · exact s1 x y hx hxy c
  · obtain rfl : y = i := by omega
    have g1 : d'[y]! = d[m]! := by rw [hB.2 _ (by omega)]; unfold roI; rw [if_pos (by omega)]; congr 1; omega
    have g2 : d'[x]! = d[x]! := by rw [hB.2 _ (by omega)]; unfold roI; rw [if_neg (by omega), if_neg (by omega)]
    rw [g1, g2]
    exact hS.ntrans _ _ _ (hl (by omega)) (SortedIn.le hS h1 hx (show x ≤ y - 1 by omega) (by omega))
theorem cut_mid {d : Array α} {a m b lo hi s n : Nat} (hS : SWO lt) (h1 : SortedIn lt a m d) (h2 : SortedIn lt m b d) (hmb : m ≤ b) (hlo : lo = if (a + b) / 2 < m then (a + b) / 2 + m - b else a) (hhi : hi = if (a + b) / 2 < m then (a + b) / 2 else m) (hn : n = (a + b) / 2 + m)
    (hs1 : lo ≤ s) (hs2 : s ≤ hi) (hl : lo < s → lt d[n - 1 - (s - 1)]! d[s - 1]! = false) (hr : s < hi → lt d[n - 1 - s]! d[s]! = true) : Cut lt d a m b s (n - s) ∧ s + (n - s - m) = (a + b) / 2 := by
  have hlo' : (a + b) / 2 < m ∧ lo = (a + b) / 2 + m - b ∨ ¬ (a + b) / 2 < m ∧ lo = a := by
    by_cases c : (a + b) / 2 < m
    · rw [if_pos c] at hlo; exact .inl ⟨c, hlo⟩
    · rw [if_neg c] at hlo; exact .inr ⟨c, hlo⟩
  have hhi' : (a + b) / 2 < m ∧ hi = (a + b) / 2 ∨ ¬ (a + b) / 2 < m ∧ hi = m := by
    by_cases c : (a + b) / 2 < m
    · rw [if_pos c] at hhi; exact .inl ⟨c, hhi⟩
    · rw [if_neg c] at hhi; exact .inr ⟨c, hhi⟩
  clear hlo hhi
  refine ⟨⟨by omega, by omega, by omega, by omega, ?_, ?_⟩, by omega⟩
  · intro x y hx1 hx2 hy1 hy2
    have h3 := hl (by omega)
    have e : n - 1 - (s - 1) = n - s := by omega
    rw [e] at h3
    exact hS.ntrans _ _ _ (SortedIn.le hS h2 (by omega) hy1 hy2) (hS.ntrans _ _ _ h3 (SortedIn.le hS h1 hx1 (show x ≤ s - 1 by omega) (by omega)))
  · intro x y hx1 hx2 hy1 hy2
    have h3 := hr (by omega)
    have h4 := SortedIn.le hS h1 (show a ≤ s by omega) hx1 hx2
    have h5 := SortedIn.le hS h2 hy1 (show y ≤ n - 1 - s by omega) (by omega)
    cases hc : lt d[x]! d[y]! with
    | false => rfl
    | true =>
      have h6 : lt d[s]! d[y]! = true := by
        cases h7 : lt d[s]! d[y]! with
        | true => rfl
        | false => have := hS.ntrans _ _ _ h4 h7; rw [this] at hc; cases hc
      have h8 := hS.trans _ _ _ h3 h6
      rw [h8] at h5; cases h5
end Sym
end Go.Proofs.Ytkkfkdncddbaeaa.Fn
namespace Go.Proofs.Ytkkfkdncddbaeaa.Fn
open Go.RowKit Go.Proofs.YtkkfkdncddbaeaaW.PrintWords Go.Proofs.YtkkfkdncddbaeaaW.PrintLast Go.Proofs.YtkkfkdncddbaeaaW.PrintMore
attribute [local go_sem] max2_int min2_int max_two min_two max_three min_three max_four min_four
set_option linter.unusedVariables false
set_option linter.unusedSimpArgs false
open Go.Sort Go.Proofs
structure SymL (P : Program) (k : Nat) : Prop where
  mixed : P.follows Departure.mixedOrders = true
  fs : P.funcs[144]? = some Try.f144
  fm : P.funcs[160]? = some Try.f160
  fr : P.funcs[188]? = some Try.f188
  fw : P.funcs[202]? = some Try.f202
  t0 : P.underlying 0 = some (TypeDesc.tuple #[])
  a0 : ∀ w, (isAgg 0).run P w = .ok false w
  z0 : ∀ w, (Go.sizeOf 0).run P w = .ok 1 w
  v0 : ∀ w, (zeroValue 0).run P w = .ok (Value.tuple #[]) w
  t1 : P.underlying 3 = some (TypeDesc.int IntKind.i64)
  a1 : ∀ w, (isAgg 3).run P w = .ok false w
  z1 : ∀ w, (Go.sizeOf 3).run P w = .ok 1 w
  v1 : ∀ w, (zeroValue 3).run P w = .ok (Value.int IntKind.i64 0) w
  t2 : P.underlying 4 = some (TypeDesc.bool)
  a2 : ∀ w, (isAgg 4).run P w = .ok false w
  z2 : ∀ w, (Go.sizeOf 4).run P w = .ok 1 w
  v2 : ∀ w, (zeroValue 4).run P w = .ok (Value.bool false) w
  t3 : P.underlying 80 = some (TypeDesc.slice 88)
  a3 : ∀ w, (isAgg 80).run P w = .ok false w
  z3 : ∀ w, (Go.sizeOf 80).run P w = .ok 1 w
  v3 : ∀ w, (zeroValue 80).run P w = .ok (Value.slice none 0 0) w
  t4 : P.underlying 164 = some (TypeDesc.func #[88, 88] #[3] false)
  a4 : ∀ w, (isAgg 164).run P w = .ok false w
  z4 : ∀ w, (Go.sizeOf 164).run P w = .ok 1 w
  v4 : ∀ w, (zeroValue 164).run P w = .ok (Value.nilFunc) w
  t5 : P.underlying 183 = some (TypeDesc.int IntKind.u64)
  a5 : ∀ w, (isAgg 183).run P w = .ok false w
  z5 : ∀ w, (Go.sizeOf 183).run P w = .ok 1 w
  v5 : ∀ w, (zeroValue 183).run P w = .ok (Value.int IntKind.u64 0) w
  aE : ∀ w, (isAgg 88).run P w = .ok true w
  zE : ∀ w, (Go.sizeOf 88).run P w = .ok k w
theorem symL : SymL Try.prog 4 := { mixed := by kernel_rfl, fs := Try.func144, fm := Try.func160, fr := Try.func188, fw := Try.func202, t0 := Try.underlying0, a0 := Try.isAgg0, z0 := Try.sizeOf0, v0 := Try.zeroValue0, t1 := Try.underlying3, a1 := Try.isAgg3, z1 := Try.sizeOf3, v1 := Try.zeroValue3, t2 := Try.underlying4, a2 := Try.isAgg4, z2 := Try.sizeOf4, v2 := Try.zeroValue4, t3 := Try.underlying80, a3 := Try.isAgg80, z3 := Try.sizeOf80, v3 := Try.zeroValue80, t4 := Try.underlying164, a4 := Try.isAgg164, z4 := Try.sizeOf164, v4 := Try.zeroValue164, t5 := Try.underlying183, a5 := Try.isAgg183, z5 := Try.sizeOf183, v5 := Try.zeroValue183, aE := Try.isAgg88, zE := Try.sizeOf88 }
variable {P : Program} {k : Nat}
set_option maxHeartbeats 4000000 in
set_option maxRecDepth 1000000 in
theorem swap_range {α : Type} [Inhabited α] (L : SymL P k) (enc : α → List Value) (g : Nat) (cb : Array Value) (blk off cap a b n : Nat) (d0 d : Array α) (w0 w : World)
    (R : RowK enc k w0 blk off d0) (hs : d0.size = d.size) (S : SWK enc k w0 blk off d w) (ha : a + n ≤ d.size) (hb : b + n ≤ d.size) (hd : a + n ≤ b ∨ b + n ≤ a) (hsz : d.size < 4611686018427387904) :
    Calls P 202 #[.slice (some ⟨blk, off, none⟩) d.size cap, .int .i64 a, .int .i64 b, .int .i64 n, .func (.func g) #[] cb] w fun e w' =>
      e = .returned (.tuple #[]) ∧ ∃ d', Sym.By (Sym.swI a b n) d d' ∧ (∀ lo hi, lo ≤ a → lo ≤ b → a + n ≤ hi → b + n ≤ hi → hi ≤ d.size → PermIn lo hi d d') ∧ SWK enc k w0 blk off d' w' := by
  have mixed := L.mixed; have t0 := L.t0; have a0 := L.a0; have z0 := L.z0; have v0 := L.v0; have t1 := L.t1; have a1 := L.a1; have z1 := L.z1; have v1 := L.v1; have t2 := L.t2; have a2 := L.a2; have z2 := L.z2; have v2 := L.v2; have t3 := L.t3; have a3 := L.a3; have z3 := L.z3; have v3 := L.v3; have t4 := L.t4; have a4 := L.a4; have z4 := L.z4; have v4 := L.v4; have t5 := L.t5; have a5 := L.a5; have z5 := L.z5; have v5 := L.v5; have aE := L.aE; have zE := L.zE; have FG := L.fw
  clear L
  have S0 : Aside (SWK enc k w0 blk off d w) := S
  clear S
  go_enter FG, Try.ntmps202
  go_wp2
  go_loopg [10] n (fun kx s10 wr => ∃ (i : Nat) (dk : Array α), s10 = .int .i64 i ∧ i ≤ n ∧ n - i ≤ kx ∧ dk.size = d.size ∧ Aside (SWK enc k w0 blk off dk wr) ∧ Aside (Sym.By (Sym.swI a b i) d dk) ∧ Aside (∀ lo hi, lo ≤ a → lo ≤ b → a + n ≤ hi → b + n ≤ hi → hi ≤ d.size → PermIn lo hi d dk))
  case atStart => exact ⟨0, d, rfl, Nat.zero_le _, by omega, rfl, S0, (Sym.By.refl d).congr (fun x _ => by unfold Sym.swI; rw [if_neg (by omega), if_neg (by omega)]; rfl), fun lo hi _ _ _ _ _ => permIn_refl d lo hi⟩
  case round =>
    clear S0
    obtain ⟨i, dk, rfl, h1, hkx, hds, S1, B1, P1⟩ := hrel
    by_cases hlt : i < n
    · have hltz : (i : Int) < (n : Int) := by omega
      go_wp2_with fail
      obtain ⟨p, hp⟩ : ∃ p, p = a + i := ⟨_, rfl⟩
      obtain ⟨q, hq⟩ : ∃ q, q = b + i := ⟨_, rfl⟩
      have ra44 : IntKind.i64.wrap ((a : Int) + (i : Int)) = (p : Int) := by rw [IntKind.wrap_i64]; omega
      have ea44 : ((p : Int)).toNat = p := by omega
      have pa44 : (0 : Int) ≤ (p : Int) := by omega
      have ba44 : (p : Int) < (d.size : Int) := by omega
      have rc44 : IntKind.i64.wrap ((b : Int) + (i : Int)) = (q : Int) := by rw [IntKind.wrap_i64]; omega
      have ec44 : ((q : Int)).toNat = q := by omega
      have pc44 : (0 : Int) ≤ (q : Int) := by omega
      have bc44 : (q : Int) < (d.size : Int) := by omega
      have S2 : Aside (SWK enc k w0 blk off (swp dk p q) ((wr.drew.setCells blk (off + p * k) (enc dk[q]!)).setCells blk (off + q * k) (enc dk[p]!))) := S1.out.swapped R p q (by omega) (by omega)
      have l44a := S1.out.ld1 R (by omega) P p (by omega)
      have l44b := S1.out.ld1 R (by omega) P q (by omega)
      have s44a := S1.out.st1 R (by omega) P p (by omega) dk[q]!
      have s44b := S1.out.st2 R (by omega) P p q (by omega) (by omega) dk[q]! dk[p]!
      have n44a : (enc dk[p]!).length = k := R.hk _
      have n44b : (enc dk[q]!).length = k := R.hk _
      have hw1 : IntKind.i64.wrap ((i : Int) + 1) = (i : Int) + 1 := by rw [IntKind.wrap_i64]; omega
      have HP : Aside (p = a + i ∧ q = b + i) := ⟨hp, hq⟩
      clear hp hq
      generalize enc dk[p]! = cI44 at S2 l44a s44b n44a
      generalize enc dk[q]! = cJ44 at S2 l44b s44a s44b n44b
      clear S1
      go_wp2_with fail
      go_big_region_o
      clear l44a l44b s44a s44b
      generalize (wr.drew.setCells blk (off + p * k) cJ44).setCells blk (off + q * k) cI44 = w2 at S2 ⊢
      go_wp2
      obtain ⟨hp, hq⟩ := HP.out
      go_roundg (n - (i + 1))
      case measure => omega
      case rel =>
        exact ⟨i + 1, swp dk p q, by simp, by omega, by omega, by rw [size_swp]; exact hds, S2, B1.out.swp p q (by omega) (by omega) (fun x _ => by rw [hp, hq]; exact Sym.sw_step hd hlt x), fun lo hi h1 h2 h3 h4 h5 => permIn_trans _ _ _ _ _ (P1.out lo hi h1 h2 h3 h4 h5) (swp_permIn dk lo hi p q (by omega) (by omega) (by omega) (by omega) (by omega))⟩
    · have hin : i = n := by omega
      have hdz : ¬ (i : Int) < (n : Int) := by omega
      go_wp2
      go_end0
      subst hin
      exact ⟨rfl, dk, B1.out, P1.out, S1.out⟩
set_option maxHeartbeats 4000000 in
set_option maxRecDepth 1000000 in
theorem rotate_any {α : Type} [Inhabited α] (L : SymL P k) (enc : α → List Value) (g : Nat) (cb : Array Value) (blk off cap a m b : Nat) (d0 d : Array α) (w0 w : World)
    (R : RowK enc k w0 blk off d0) (hs : d0.size = d.size) (S : SWK enc k w0 blk off d w) (ham : a < m) (hmb : m < b) (hb : b ≤ d.size) (hsz : d.size < 4611686018427387904) :
    Calls P 188 #[.slice (some ⟨blk, off, none⟩) d.size cap, .int .i64 a, .int .i64 m, .int .i64 b, .func (.func g) #[] cb] w fun e w' =>
      e = .returned (.tuple #[]) ∧ ∃ d', Sym.By (Sym.roI a m b) d d' ∧ (∀ lo hi, lo ≤ a → b ≤ hi → hi ≤ d.size → PermIn lo hi d d') ∧ SWK enc k w0 blk off d' w' := by
  have hsw : ∀ (a' b' n' : Nat) (d' : Array α) (w' : World), d'.size = d.size → SWK enc k w0 blk off d' w' → a' + n' ≤ d'.size → b' + n' ≤ d'.size → (a' + n' ≤ b' ∨ b' + n' ≤ a') → _ := fun a' b' n' d' w' e S' h1 h2 h3 => swap_range L enc g cb blk off cap a' b' n' d0 d' w0 w' R (by omega) S' h1 h2 h3 (by omega)
  have HSW : Aside _ := hsw
  clear hsw
  have mixed := L.mixed; have t0 := L.t0; have a0 := L.a0; have z0 := L.z0; have v0 := L.v0; have t1 := L.t1; have a1 := L.a1; have z1 := L.z1; have v1 := L.v1; have t2 := L.t2; have a2 := L.a2; have z2 := L.z2; have v2 := L.v2; have t3 := L.t3; have a3 := L.a3; have z3 := L.z3; have v3 := L.v3; have t4 := L.t4; have a4 := L.a4; have z4 := L.z4; have v4 := L.v4; have aE := L.aE; have zE := L.zE; have FG := L.fr
  have eg : ∀ args w, (callFunc 202 args).run P w = .ok (.enter 202 args) w := enters_of L.fw (by kernel_rfl) rfl
  clear L
  have S0 : Aside (SWK enc k w0 blk off d w) := S
  clear S
  obtain ⟨i0, hi0⟩ : ∃ i, i = m - a := ⟨_, rfl⟩
  obtain ⟨j0, hj0⟩ : ∃ j, j = b - m := ⟨_, rfl⟩
  have e0 : (m : Int) - (a : Int) = (i0 : Int) := by omega
  have e1 : (b : Int) - (m : Int) = (j0 : Int) := by omega
  have HIJ : Aside (i0 = m - a ∧ j0 = b - m) := ⟨hi0, hj0⟩
  clear hi0 hj0
  go_enter FG, Try.ntmps188
  go_wp2
  clear e0 e1
  go_loopg [10, 11] (m + b) (fun kx s10 s11 wr => ∃ (i j : Nat) (dk : Array α) (f : Nat → Nat), s10 = .int .i64 i ∧ s11 = .int .i64 j ∧ 1 ≤ i ∧ i ≤ m ∧ 1 ≤ j ∧ m + j ≤ b ∧ a ≤ m - i ∧ i + j ≤ kx ∧ dk.size = d.size ∧ Aside (SWK enc k w0 blk off dk wr) ∧ Aside (Sym.By f d dk) ∧ Aside (∀ x, x < d.size → f x < d.size ∧ f (Sym.roI (m - i) m (m + j) x) = Sym.roI a m b x) ∧ Aside (∀ lo hi, lo ≤ a → b ≤ hi → hi ≤ d.size → PermIn lo hi d dk))
  case atStart =>
    obtain ⟨h1, h2⟩ := HIJ.out
    exact ⟨i0, j0, d, id, rfl, rfl, by omega, by omega, by omega, by omega, by omega, by omega, rfl, S0, Sym.By.refl d, fun x hx => ⟨hx, by rw [h1, h2, show m - (m - a) = a by omega, show m + (b - m) = b by omega]; rfl⟩, fun lo hi _ _ _ => permIn_refl d lo hi⟩
  case round =>
    clear S0 HIJ
    obtain ⟨i, j, dk, f, rfl, rfl, h1, h2, h3, h4, h5, hkx, hds, S1, B1, F1, P1⟩ := hrel
    obtain ⟨p, hp⟩ : ∃ p, p = m - i := ⟨_, rfl⟩
    have e1 : (m : Int) - (i : Int) = (p : Int) := by omega
    by_cases hij : i = j
    · subst hij
      have hd : ((i : Int) != (i : Int)) = false := by simp
      have hc := HSW.out p m i dk wr hds S1.out (by omega) (by omega) (by omega)
      rw [hds] at hc
      have HP : Aside (p = m - i) := hp
      clear hp S1
      go_wp2_with (go_at_call 202; refine hc.mono ?_; rintro e w1 ⟨rfl, d1, hB1, hP1, hS1⟩)
      go_end0
      have hp := HP.out
      refine ⟨rfl, d1, (B1.out.trans hB1 fun x hx => ?_).congr fun x hx => ?_, fun lo hi h1 h2 h3 => permIn_trans _ _ _ _ _ (P1.out lo hi h1 h2 h3) (hP1 lo hi (by omega) (by omega) (by omega) (by omega) (by omega)), hS1⟩
      · exact Sym.swI_lt (by omega) (by omega) hx
      · have e := (F1.out x hx).2
        rw [hp, Sym.ro_same h2, e]
    · have hd : ((i : Int) != (j : Int)) = true := by simp; omega
      by_cases hlt : j < i
      · obtain ⟨i2, hi2⟩ : ∃ i2, i2 = i - j := ⟨_, rfl⟩
        have e2 : (i : Int) - (j : Int) = (i2 : Int) := by omega
        have hltz : (j : Int) < (i : Int) := by omega
        have hc := HSW.out p m j dk wr hds S1.out (by omega) (by omega) (by omega)
        rw [hds] at hc
        have HP : Aside (p = m - i ∧ i2 = i - j) := ⟨hp, hi2⟩
        clear hp hi2 S1
        go_wp2_with (go_at_call 202; refine hc.mono ?_; rintro e w1 ⟨rfl, d1, hB1, hP1, hS1⟩)
        obtain ⟨hp, hi2⟩ := HP.out
        go_roundg (gk - 1)
        case measure => omega
        case rel =>
          refine ⟨i2, j, d1, fun x => f (Sym.swI p m j x), rfl, rfl, by omega, by omega, by omega, by omega, by omega, by omega, by rw [hB1.1, hds], hS1, B1.out.trans hB1 fun x hx => Sym.swI_lt (by omega) (by omega) (by omega), fun x hx => ⟨(F1.out _ (Sym.swI_lt (by omega) (by omega) hx)).1, ?_⟩, fun lo hi h1 h2 h3 => permIn_trans _ _ _ _ _ (P1.out lo hi h1 h2 h3) (hP1 lo hi (by omega) (by omega) (by omega) (by omega) (by omega))⟩
          show f (Sym.swI p m j (Sym.roI (m - i2) m (m + j) x)) = _
          rw [hp, hi2, Sym.ro_left hlt h2]
          exact (F1.out x hx).2
      · obtain ⟨j2, hj2⟩ : ∃ j2, j2 = j - i := ⟨_, rfl⟩
        have e2 : (j : Int) - (i : Int) = (j2 : Int) := by omega
        have hltz : ¬ (j : Int) < (i : Int) := by omega
        obtain ⟨mj, hmj⟩ : ∃ mj, mj = m + j := ⟨_, rfl⟩
        have e3 : (m : Int) + (j : Int) = (mj : Int) := by omega
        obtain ⟨q, hq⟩ : ∃ q, q = m + j - i := ⟨_, rfl⟩
        have e4 : (mj : Int) - (i : Int) = (q : Int) := by omega
        have hc := HSW.out p q i dk wr hds S1.out (by omega) (by omega) (by omega)
        rw [hds] at hc
        have HP : Aside (p = m - i ∧ j2 = j - i ∧ q = m + j - i) := ⟨hp, hj2, hq⟩
        have hmjb : mj ≤ d.size := by omega
        clear hp hj2 hq hmj S1
        go_wp2_with (go_at_call 202; refine hc.mono ?_; rintro e w1 ⟨rfl, d1, hB1, hP1, hS1⟩)
        obtain ⟨hp, hj2, hq⟩ := HP.out
        go_roundg (gk - 1)
        case measure => omega
        case rel =>
          refine ⟨i, j2, d1, fun x => f (Sym.swI p q i x), rfl, rfl, by omega, by omega, by omega, by omega, by omega, by omega, by rw [hB1.1, hds], hS1, B1.out.trans hB1 fun x hx => Sym.swI_lt (by omega) (by omega) (by omega), fun x hx => ⟨(F1.out _ (Sym.swI_lt (by omega) (by omega) hx)).1, ?_⟩, fun lo hi h1 h2 h3 => permIn_trans _ _ _ _ _ (P1.out lo hi h1 h2 h3) (hP1 lo hi (by omega) (by omega) (by omega) (by omega) (by omega))⟩
          show f (Sym.swI p q i (Sym.roI (m - i) m (m + j2) x)) = _
          rw [hp, hj2, hq, Sym.ro_right (show i < j by omega) h2]
          exact (F1.out x hx).2
end Go.Proofs.Ytkkfkdncddbaeaa.Fn
namespace Go.Proofs.Ytkkfkdncddbaeaa.Fn
open Go.RowKit Go.Proofs.YtkkfkdncddbaeaaW.PrintWords Go.Proofs.YtkkfkdncddbaeaaW.PrintLast Go.Proofs.YtkkfkdncddbaeaaW.PrintMore
attribute [local go_sem] max2_int min2_int max_two min_two max_three min_three max_four min_four
set_option linter.unusedVariables false
set_option linter.unusedSimpArgs false
open Go.Sort Go.Proofs
variable {P : Program} {k : Nat}
set_option maxHeartbeats 16000000 in
set_option maxRecDepth 1000000 in
theorem sym_first {α : Type} [Inhabited α] (L : SymL P k) (enc : α → List Value) (cf : α → α → Int) (hS : SWO (ltOf cf)) (g : Nat) (cb : Array Value) (blk off cap : Nat) (d0 : Array α) (w0 : World)
    (eg : ∀ args w, (callFunc g args).run P w = .ok (.enter g args) w) (hcmp : CmpLays P g cb enc k cf blk off d0.size w0) (R : RowK enc k w0 blk off d0) (hsz : d0.size < 4611686018427387904) (a m b : Nat) (d : Array α) (w : World) (hs : d0.size = d.size) (S : SWK enc k w0 blk off d w) (ham : a < m) (hmb : m < b) (hb : b ≤ d.size) (h1 : SortedIn (ltOf cf) a m d) (h2 : SortedIn (ltOf cf) m b d) (c1 : m - a = 1) :
    Calls P 160 #[.slice (some ⟨blk, off, none⟩) d.size cap, .int .i64 a, .int .i64 m, .int .i64 b, .func (.func g) #[] cb] w fun e w' =>
      e = .returned (.tuple #[]) ∧ ∃ d', PermIn a b d d' ∧ SortedIn (ltOf cf) a b d' ∧ SWK enc k w0 blk off d' w' := by
  have HC : Aside _ := hcmp
  have HS : Aside _ := hS
  clear hcmp hS
  have mixed := L.mixed; have t0 := L.t0; have a0 := L.a0; have z0 := L.z0; have v0 := L.v0; have t1 := L.t1; have a1 := L.a1; have z1 := L.z1; have v1 := L.v1; have t2 := L.t2; have a2 := L.a2; have z2 := L.z2; have v2 := L.v2; have t3 := L.t3; have a3 := L.a3; have z3 := L.z3; have v3 := L.v3; have t4 := L.t4; have a4 := L.a4; have z4 := L.z4; have v4 := L.v4; have t5 := L.t5; have a5 := L.a5; have z5 := L.z5; have v5 := L.v5; have aE := L.aE; have zE := L.zE; have FG := L.fm
  clear L
  have S0 : Aside (SWK enc k w0 blk off d w) := S
  have H1 : Aside (SortedIn (ltOf cf) a m d) := h1
  have H2 : Aside (SortedIn (ltOf cf) m b d) := h2
  clear S h1 h2
  have e1 : (m : Int) - (a : Int) = 1 := by omega
  go_enter FG, Try.ntmps160
  go_wp2
  go_loopg [10, 11] b (fun kx s10 s11 wr => ∃ (i j : Nat), s10 = .int .i64 i ∧ s11 = .int .i64 j ∧ m ≤ i ∧ i ≤ j ∧ j ≤ b ∧ j - i ≤ kx ∧ Aside (SWK enc k w0 blk off d wr) ∧ Aside ((m < i → ltOf cf d[i - 1]! d[a]! = true) ∧ (j < b → ltOf cf d[j]! d[a]! = false)))
  case atStart => exact ⟨m, b, rfl, rfl, by omega, by omega, by omega, by omega, S0, fun h => by omega, fun h => by omega⟩
  case round =>
    clear S0
    obtain ⟨i, j, rfl, rfl, q1, q2, q3, hkx, S1, Q1⟩ := hrel
    by_cases hlt : i < j
    · have hltz : (i : Int) < (j : Int) := by omega
      obtain ⟨h, hh⟩ : ∃ h, h = (i + j) / 2 := ⟨_, rfl⟩
      have eh : ((i : Int) + (j : Int)) / 2 = (h : Int) := by omega
      have ea : ((h : Int)).toNat = h := by omega
      have pa : (0 : Int) ≤ (h : Int) := by omega
      have ba : (h : Int) < (d.size : Int) := by omega
      have ec : ((a : Int)).toNat = a := by omega
      have pc : (0 : Int) ≤ (a : Int) := by omega
      have bc : (a : Int) < (d.size : Int) := by omega
      have hw1 : IntKind.i64.wrap ((h : Int) + 1) = (h : Int) + 1 := by rw [IntKind.wrap_i64]; omega
      obtain ⟨x24, hx24⟩ : ∃ x, x = d[h]! := ⟨_, rfl⟩
      obtain ⟨y24, hy24⟩ : ∃ x, x = d[a]! := ⟨_, rfl⟩
      have l24a := S1.out.ld R (by omega) P h (by omega)
      have l24b := S1.out.ld R (by omega) P a (by omega)
      rw [← hx24] at l24a
      rw [← hy24] at l24b
      have hc24 := S1.out.cmp HC.out (by omega) x24 y24
      have HH : Aside (h = (i + j) / 2 ∧ x24 = d[h]! ∧ y24 = d[a]!) := ⟨hh, hx24, hy24⟩
      clear hh hx24 hy24
      by_cases hL : cf x24 y24 < 0
      · have hd24 : decide (cf x24 y24 < 0) = true := decide_eq_true hL
        go_wp2_with fail
        go_quiet_grown (first | (go_at_fn g; refine Calls.grown_of (hc24 _ _)))
        have S2 : Aside (SWK enc k w0 blk off d (grow (wr.drewN nq) osq)) := S1.out.grown nq osq
        clear l24a l24b hc24 S1
        generalize grow (wr.drewN nq) osq = w2 at S2 ⊢
        clear nq osq
        go_wp2_with fail
        obtain ⟨hh, hx24, hy24⟩ := HH.out
        go_roundg (gk - 1)
        case measure => omega
        case rel => exact ⟨h + 1, j, by simp, rfl, by omega, by omega, by omega, by omega, S2, fun _ => by rw [Nat.add_sub_cancel, ← hx24, ← hy24]; exact decide_eq_true hL, Q1.out.2⟩
      · have hd24 : decide (cf x24 y24 < 0) = false := decide_eq_false hL
        have hL2 : 0 ≤ cf x24 y24 := by omega
        go_wp2_with fail
        go_quiet_grown (first | (go_at_fn g; refine Calls.grown_of (hc24 _ _)))
        have S2 : Aside (SWK enc k w0 blk off d (grow (wr.drewN nq) osq)) := S1.out.grown nq osq
        clear l24a l24b hc24 S1
        generalize grow (wr.drewN nq) osq = w2 at S2 ⊢
        clear nq osq
        go_wp2_with fail
        obtain ⟨hh, hx24, hy24⟩ := HH.out
        go_roundg (gk - 1)
        case measure => omega
        case rel => exact ⟨i, h, rfl, rfl, by omega, by omega, by omega, by omega, S2, Q1.out.1, fun _ => by rw [← hx24, ← hy24]; exact decide_eq_false (by omega)⟩
    · obtain rfl : i = j := by omega
      have hltz : ¬ (i : Int) < (i : Int) := by omega
      obtain ⟨i1, hi1⟩ : ∃ i1, i1 = i - 1 := ⟨_, rfl⟩
      have ei1 : (i : Int) - 1 = (i1 : Int) := by omega
      have HI : Aside (i1 = i - 1) := hi1
      clear hi1
      go_wp2
      go_loopg [13] i (fun kx s13 wr => ∃ (x : Nat) (dk : Array α), s13 = .int .i64 x ∧ a ≤ x ∧ x + 1 ≤ i ∧ i - x ≤ kx ∧ dk.size = d.size ∧ Aside (SWK enc k w0 blk off dk wr) ∧ Aside (Sym.By (Sym.roI a (a + 1) (x + 1)) d dk) ∧ Aside (PermIn a b d dk))
      case atStart => exact ⟨a, d, rfl, by omega, by omega, by omega, rfl, S1, (Sym.By.refl d).congr (fun x _ => by unfold Sym.roI; rw [if_neg (by omega)]; split <;> first | (show x - _ = x; omega) | rfl), permIn_refl d a b⟩
      case round =>
        clear S1
        obtain ⟨x, dk, rfl, r1, r2, hkx, hds, S1, B1, P1⟩ := hrel
        by_cases hlt : x < i1
        · have hltz : (x : Int) < (i1 : Int) := by omega
          have hi1 := HI.out
          obtain ⟨y, hy⟩ : ∃ y, y = x + 1 := ⟨_, rfl⟩
          have ra44 : IntKind.i64.wrap ((x : Int) + 1) = (y : Int) := by rw [IntKind.wrap_i64]; omega
          have ea44 : ((x : Int)).toNat = x := by omega
          have pa44 : (0 : Int) ≤ (x : Int) := by omega
          have ba44 : (x : Int) < (d.size : Int) := by omega
          have ec44 : ((y : Int)).toNat = y := by omega
          have pc44 : (0 : Int) ≤ (y : Int) := by omega
          have bc44 : (y : Int) < (d.size : Int) := by omega
          have S2 : Aside (SWK enc k w0 blk off (swp dk x y) ((wr.drew.setCells blk (off + x * k) (enc dk[y]!)).setCells blk (off + y * k) (enc dk[x]!))) := S1.out.swapped R x y (by omega) (by omega)
          have l44a := S1.out.ld1 R (by omega) P x (by omega)
          have l44b := S1.out.ld1 R (by omega) P y (by omega)
          have s44a := S1.out.st1 R (by omega) P x (by omega) dk[y]!
          have s44b := S1.out.st2 R (by omega) P x y (by omega) (by omega) dk[y]! dk[x]!
          have n44a : (enc dk[x]!).length = k := R.hk _
          have n44b : (enc dk[y]!).length = k := R.hk _
          have HP : Aside (y = x + 1) := hy
          clear hy hi1
          generalize enc dk[x]! = cI44 at S2 l44a s44b n44a
          generalize enc dk[y]! = cJ44 at S2 l44b s44a s44b n44b
          clear S1
          go_wp2_with fail
          go_big_region_o
          clear l44a l44b s44a s44b
          generalize (wr.drew.setCells blk (off + x * k) cJ44).setCells blk (off + y * k) cI44 = w2 at S2 ⊢
          go_wp2
          have hy := HP.out
          have hi1 := HI.out
          go_roundg (gk - 1)
          case measure => omega
          case rel =>
            exact ⟨y, swp dk x y, by first | rfl | (rw [hy]; simp), by omega, by omega, by omega, by rw [size_swp]; exact hds, S2, B1.out.swp x y (by omega) (by omega) (fun z _ => by
              rw [hy]; unfold Sym.roI
              repeat' split
              all_goals omega), permIn_trans _ _ _ _ _ P1.out (swp_permIn dk a b x y (by omega) (by omega) (by omega) (by omega) (by omega))⟩
        · have hdz : ¬ (x : Int) < (i1 : Int) := by omega
          have hi1 := HI.out
          have hxi : x + 1 = i := by omega
          clear hi1
          go_wp2
          have B2 := B1.out
          rw [hxi] at B2
          have hm : m = a + 1 := by omega
          have H2' := H2.out
          rw [hm] at H2' q1 Q1
          exact bodyPost_ret (results_none rfl _ _ _) rfl ⟨rfl, dk, P1.out, Sym.cut_first_up HS.out hb H2' q1 q3 Q1.out.1 Q1.out.2 B2, S1.out⟩
set_option maxHeartbeats 16000000 in
set_option maxRecDepth 1000000 in
theorem sym_last {α : Type} [Inhabited α] (L : SymL P k) (enc : α → List Value) (cf : α → α → Int) (hS : SWO (ltOf cf)) (g : Nat) (cb : Array Value) (blk off cap : Nat) (d0 : Array α) (w0 : World)
    (eg : ∀ args w, (callFunc g args).run P w = .ok (.enter g args) w) (hcmp : CmpLays P g cb enc k cf blk off d0.size w0) (R : RowK enc k w0 blk off d0) (hsz : d0.size < 4611686018427387904) (a m b : Nat) (d : Array α) (w : World) (hs : d0.size = d.size) (S : SWK enc k w0 blk off d w) (ham : a < m) (hmb : m < b) (hb : b ≤ d.size) (h1 : SortedIn (ltOf cf) a m d) (h2 : SortedIn (ltOf cf) m b d) (c1 : ¬ m - a = 1) (c2 : b - m = 1) :
    Calls P 160 #[.slice (some ⟨blk, off, none⟩) d.size cap, .int .i64 a, .int .i64 m, .int .i64 b, .func (.func g) #[] cb] w fun e w' =>
      e = .returned (.tuple #[]) ∧ ∃ d', PermIn a b d d' ∧ SortedIn (ltOf cf) a b d' ∧ SWK enc k w0 blk off d' w' := by
  have HC : Aside _ := hcmp
  have HS : Aside _ := hS
  clear hcmp hS
  have mixed := L.mixed; have t0 := L.t0; have a0 := L.a0; have z0 := L.z0; have v0 := L.v0; have t1 := L.t1; have a1 := L.a1; have z1 := L.z1; have v1 := L.v1; have t2 := L.t2; have a2 := L.a2; have z2 := L.z2; have v2 := L.v2; have t3 := L.t3; have a3 := L.a3; have z3 := L.z3; have v3 := L.v3; have t4 := L.t4; have a4 := L.a4; have z4 := L.z4; have v4 := L.v4; have t5 := L.t5; have a5 := L.a5; have z5 := L.z5; have v5 := L.v5; have aE := L.aE; have zE := L.zE; have FG := L.fm
  clear L
  have S0 : Aside (SWK enc k w0 blk off d w) := S
  have H1 : Aside (SortedIn (ltOf cf) a m d) := h1
  have H2 : Aside (SortedIn (ltOf cf) m b d) := h2
  clear S h1 h2
  have e1 : ((m : Int) - (a : Int) == 1) = false := by simp; omega
  have e2 : (b : Int) - (m : Int) = 1 := by omega
  go_enter FG, Try.ntmps160
  go_wp2
  go_loopg [14, 15] m (fun kx s10 s11 wr => ∃ (i j : Nat), s10 = .int .i64 i ∧ s11 = .int .i64 j ∧ a ≤ i ∧ i ≤ j ∧ j ≤ m ∧ j - i ≤ kx ∧ Aside (SWK enc k w0 blk off d wr) ∧ Aside ((a < i → ltOf cf d[m]! d[i - 1]! = false) ∧ (j < m → ltOf cf d[m]! d[j]! = true)))
  case atStart => exact ⟨a, m, rfl, rfl, by omega, by omega, by omega, by omega, S0, fun h => by omega, fun h => by omega⟩
  case round =>
    clear S0
    obtain ⟨i, j, rfl, rfl, q1, q2, q3, hkx, S1, Q1⟩ := hrel
    by_cases hlt : i < j
    · have hltz : (i : Int) < (j : Int) := by omega
      obtain ⟨h, hh⟩ : ∃ h, h = (i + j) / 2 := ⟨_, rfl⟩
      have eh : ((i : Int) + (j : Int)) / 2 = (h : Int) := by omega
      have ea : ((h : Int)).toNat = h := by omega
      have pa : (0 : Int) ≤ (h : Int) := by omega
      have ba : (h : Int) < (d.size : Int) := by omega
      have ec : ((m : Int)).toNat = m := by omega
      have pc : (0 : Int) ≤ (m : Int) := by omega
      have bc : (m : Int) < (d.size : Int) := by omega
      have hw1 : IntKind.i64.wrap ((h : Int) + 1) = (h : Int) + 1 := by rw [IntKind.wrap_i64]; omega
      obtain ⟨x24, hx24⟩ : ∃ x, x = d[m]! := ⟨_, rfl⟩
      obtain ⟨y24, hy24⟩ : ∃ x, x = d[h]! := ⟨_, rfl⟩
      have l24a := S1.out.ld R (by omega) P m (by omega)
      have l24b := S1.out.ld R (by omega) P h (by omega)
      rw [← hx24] at l24a
      rw [← hy24] at l24b
      have hc24 := S1.out.cmp HC.out (by omega) x24 y24
      have HH : Aside (h = (i + j) / 2 ∧ x24 = d[m]! ∧ y24 = d[h]!) := ⟨hh, hx24, hy24⟩
      clear hh hx24 hy24
      by_cases hL : cf x24 y24 < 0
      · have hd24 : decide (cf x24 y24 < 0) = true := decide_eq_true hL
        go_wp2_with fail
        go_quiet_grown (first | (go_at_fn g; refine Calls.grown_of (hc24 _ _)))
        have S2 : Aside (SWK enc k w0 blk off d (grow (wr.drewN nq) osq)) := S1.out.grown nq osq
        clear l24a l24b hc24 S1
        generalize grow (wr.drewN nq) osq = w2 at S2 ⊢
        clear nq osq
        go_wp2_with fail
        obtain ⟨hh, hx24, hy24⟩ := HH.out
        go_roundg (gk - 1)
        case measure => omega
        case rel => exact ⟨i, h, rfl, rfl, by omega, by omega, by omega, by omega, S2, Q1.out.1, fun _ => by rw [← hx24, ← hy24]; exact decide_eq_true hL⟩
      · have hd24 : decide (cf x24 y24 < 0) = false := decide_eq_false hL
        have hL2 : 0 ≤ cf x24 y24 := by omega
        go_wp2_with fail
        go_quiet_grown (first | (go_at_fn g; refine Calls.grown_of (hc24 _ _)))
        have S2 : Aside (SWK enc k w0 blk off d (grow (wr.drewN nq) osq)) := S1.out.grown nq osq
        clear l24a l24b hc24 S1
        generalize grow (wr.drewN nq) osq = w2 at S2 ⊢
        clear nq osq
        go_wp2_with fail
        obtain ⟨hh, hx24, hy24⟩ := HH.out
        go_roundg (gk - 1)
        case measure => omega
        case rel => exact ⟨h + 1, j, by simp, rfl, by omega, by omega, by omega, by omega, S2, fun _ => by rw [Nat.add_sub_cancel, ← hx24, ← hy24]; exact decide_eq_false (by omega), Q1.out.2⟩
    · obtain rfl : i = j := by omega
      have hltz : ¬ (i : Int) < (i : Int) := by omega
      go_wp2
      go_loopg [17] (m - i) (fun kx s17 wr => ∃ (x : Nat) (dk : Array α), s17 = .int .i64 x ∧ i ≤ x ∧ x ≤ m ∧ x - i ≤ kx ∧ dk.size = d.size ∧ Aside (SWK enc k w0 blk off dk wr) ∧ Aside (Sym.By (Sym.roI x m (m + 1)) d dk) ∧ Aside (PermIn a b d dk))
      case atStart => exact ⟨m, d, rfl, by omega, by omega, by omega, rfl, S1, (Sym.By.refl d).congr (fun x _ => by
          unfold Sym.roI
          repeat' split
          all_goals first | rfl | (show _ = x; omega)), permIn_refl d a b⟩
      case round =>
        clear S1
        obtain ⟨x, dk, rfl, r1, r2, hkx, hds, S1, B1, P1⟩ := hrel
        by_cases hlt : i < x
        · have hltz : (i : Int) < (x : Int) := by omega
          obtain ⟨y, hy⟩ : ∃ y, y = x - 1 := ⟨_, rfl⟩
          have ry44 : (x : Int) - 1 = (y : Int) := by omega
          have ra44 : IntKind.i64.wrap ((x : Int) - 1) = (y : Int) := by rw [IntKind.wrap_i64]; omega
          have rb44 : IntKind.i64.wrap (y : Int) = (y : Int) := by rw [IntKind.wrap_i64]; omega
          have ea44 : ((x : Int)).toNat = x := by omega
          have pa44 : (0 : Int) ≤ (x : Int) := by omega
          have ba44 : (x : Int) < (d.size : Int) := by omega
          have ec44 : ((y : Int)).toNat = y := by omega
          have pc44 : (0 : Int) ≤ (y : Int) := by omega
          have bc44 : (y : Int) < (d.size : Int) := by omega
          have S2 : Aside (SWK enc k w0 blk off (swp dk x y) ((wr.drew.setCells blk (off + x * k) (enc dk[y]!)).setCells blk (off + y * k) (enc dk[x]!))) := S1.out.swapped R x y (by omega) (by omega)
          have l44a := S1.out.ld1 R (by omega) P x (by omega)
          have l44b := S1.out.ld1 R (by omega) P y (by omega)
          have s44a := S1.out.st1 R (by omega) P x (by omega) dk[y]!
          have s44b := S1.out.st2 R (by omega) P x y (by omega) (by omega) dk[y]! dk[x]!
          have n44a : (enc dk[x]!).length = k := R.hk _
          have n44b : (enc dk[y]!).length = k := R.hk _
          have HP : Aside (y = x - 1) := hy
          clear hy
          generalize enc dk[x]! = cI44 at S2 l44a s44b n44a
          generalize enc dk[y]! = cJ44 at S2 l44b s44a s44b n44b
          clear S1
          go_wp2_with fail
          go_big_region_o
          clear l44a l44b s44a s44b
          generalize (wr.drew.setCells blk (off + x * k) cJ44).setCells blk (off + y * k) cI44 = w2 at S2 ⊢
          go_wp2
          have hy := HP.out
          go_roundg (gk - 1)
          case measure => omega
          case rel =>
            exact ⟨y, swp dk x y, by first | rfl | (rw [hy]; simp), by omega, by omega, by omega, by rw [size_swp]; exact hds, S2, B1.out.swp x y (by omega) (by omega) (fun z _ => by
              rw [hy]; unfold Sym.roI
              repeat' split
              all_goals omega), permIn_trans _ _ _ _ _ P1.out (swp_permIn dk a b x y (by omega) (by omega) (by omega) (by omega) (by omega))⟩
        · have hdz : ¬ (i : Int) < (x : Int) := by omega
          obtain rfl : x = i := by omega
          go_wp2
          have hbm : b = m + 1 := by omega
          have hb' := hb
          rw [hbm] at hb'
          have P2 := P1.out
          rw [hbm] at P2 ⊢
          exact bodyPost_ret (results_none rfl _ _ _) rfl ⟨rfl, dk, P2, Sym.cut_last_up HS.out hb' H1.out q1 q3 Q1.out.1 Q1.out.2 B1.out, S1.out⟩
end Go.Proofs.Ytkkfkdncddbaeaa.Fn
namespace Go.Proofs.Ytkkfkdncddbaeaa.Fn
open Go.RowKit Go.Proofs.YtkkfkdncddbaeaaW.PrintWords Go.Proofs.YtkkfkdncddbaeaaW.PrintLast Go.Proofs.YtkkfkdncddbaeaaW.PrintMore
attribute [local go_sem] max2_int min2_int max_two min_two max_three min_three max_four min_four
set_option linter.unusedVariables false
set_option linter.unusedSimpArgs false
open Go.Sort Go.Proofs
variable {P : Program} {k : Nat}
set_option maxHeartbeats 16000000 in
set_option maxRecDepth 1000000 in
theorem sym_mid {α : Type} [Inhabited α] (L : SymL P k) (enc : α → List Value) (cf : α → α → Int) (hS : SWO (ltOf cf)) (g : Nat) (cb : Array Value) (blk off cap : Nat) (d0 : Array α) (w0 : World)
    (eg : ∀ args w, (callFunc g args).run P w = .ok (.enter g args) w) (hcmp : CmpLays P g cb enc k cf blk off d0.size w0) (R : RowK enc k w0 blk off d0) (hsz : d0.size < 4611686018427387904) (a m b : Nat) (d : Array α) (w : World) (hs : d0.size = d.size) (S : SWK enc k w0 blk off d w) (ham : a < m) (hmb : m < b) (hb : b ≤ d.size) (h1 : SortedIn (ltOf cf) a m d) (h2 : SortedIn (ltOf cf) m b d) (c1 : ¬ m - a = 1) (c2 : ¬ b - m = 1) (N : Nat) (hN : b - a ≤ N + 1) (IH : Aside (∀ (a m b : Nat) (d : Array α) (w : World), b - a ≤ N → d0.size = d.size → SWK enc k w0 blk off d w → a < m → m < b → b ≤ d.size → SortedIn (ltOf cf) a m d → SortedIn (ltOf cf) m b d →
    Calls P 160 #[.slice (some ⟨blk, off, none⟩) d.size cap, .int .i64 a, .int .i64 m, .int .i64 b, .func (.func g) #[] cb] w fun e w' =>
      e = .returned (.tuple #[]) ∧ ∃ d', PermIn a b d d' ∧ SortedIn (ltOf cf) a b d' ∧ SWK enc k w0 blk off d' w')) :
    Calls P 160 #[.slice (some ⟨blk, off, none⟩) d.size cap, .int .i64 a, .int .i64 m, .int .i64 b, .func (.func g) #[] cb] w fun e w' =>
      e = .returned (.tuple #[]) ∧ ∃ d', PermIn a b d d' ∧ SortedIn (ltOf cf) a b d' ∧ SWK enc k w0 blk off d' w' := by
  have hrot : ∀ (a' m' b' : Nat) (d' : Array α) (w' : World), d0.size = d'.size → SWK enc k w0 blk off d' w' → a' < m' → m' < b' → b' ≤ d'.size → _ := fun a' m' b' d' w' e S' h1 h2 h3 => rotate_any L enc g cb blk off cap a' m' b' d0 d' w0 w' R e S' h1 h2 h3 (by omega)
  have HROT : Aside _ := hrot
  clear hrot
  have HC : Aside _ := hcmp
  have HS : Aside _ := hS
  clear hcmp hS
  have mixed := L.mixed; have t0 := L.t0; have a0 := L.a0; have z0 := L.z0; have v0 := L.v0; have t1 := L.t1; have a1 := L.a1; have z1 := L.z1; have v1 := L.v1; have t2 := L.t2; have a2 := L.a2; have z2 := L.z2; have v2 := L.v2; have t3 := L.t3; have a3 := L.a3; have z3 := L.z3; have v3 := L.v3; have t4 := L.t4; have a4 := L.a4; have z4 := L.z4; have v4 := L.v4; have t5 := L.t5; have a5 := L.a5; have z5 := L.z5; have v5 := L.v5; have aE := L.aE; have zE := L.zE; have FG := L.fm
  have egr : ∀ args w, (callFunc 188 args).run P w = .ok (.enter 188 args) w := enters_of L.fr (by kernel_rfl) rfl
  have egm : ∀ args w, (callFunc 160 args).run P w = .ok (.enter 160 args) w := enters_of L.fm (by kernel_rfl) rfl
  clear L
  have S0 : Aside (SWK enc k w0 blk off d w) := S
  have H1 : Aside (SortedIn (ltOf cf) a m d) := h1
  have H2 : Aside (SortedIn (ltOf cf) m b d) := h2
  clear S h1 h2
  have e1 : ((m : Int) - (a : Int) == 1) = false := by simp; omega
  have e2 : ((b : Int) - (m : Int) == 1) = false := by simp; omega
  obtain ⟨mid, hmid⟩ : ∃ x, x = (a + b) / 2 := ⟨_, rfl⟩
  have e3 : ((a : Int) + (b : Int)) / 2 = (mid : Int) := by omega
  obtain ⟨n, hn⟩ : ∃ x, x = mid + m := ⟨_, rfl⟩
  have e4 : (mid : Int) + (m : Int) = (n : Int) := by omega
  obtain ⟨p, hp⟩ : ∃ x, x = n - 1 := ⟨_, rfl⟩
  have e5 : (n : Int) - 1 = (p : Int) := by omega
  obtain ⟨lo, hlo⟩ : ∃ x, x = if mid < m then mid + m - b else a := ⟨_, rfl⟩
  obtain ⟨hi, hhi⟩ : ∃ x, x = if mid < m then mid else m := ⟨_, rfl⟩
  have hlh : (mid < m ∧ lo + b = mid + m ∧ hi = mid) ∨ (¬ mid < m ∧ lo = a ∧ hi = m) := by
    by_cases c : mid < m
    · rw [if_pos c] at hlo hhi; omega
    · rw [if_neg c] at hlo hhi; omega
  have e6 : mid < m → (n : Int) - (b : Int) = (lo : Int) := fun c => by omega
  have HN : Aside (mid = (a + b) / 2 ∧ n = mid + m ∧ p = n - 1) := ⟨hmid, hn, hp⟩
  have HLH : Aside ((mid < m ∧ lo + b = mid + m ∧ hi = mid) ∨ (¬ mid < m ∧ lo = a ∧ hi = m)) := hlh
  have HLO : Aside ((lo = if mid < m then mid + m - b else a) ∧ (hi = if mid < m then mid else m)) := ⟨hlo, hhi⟩
  have b1 : (n : Int) ≤ 9223372036854775806 := by omega
  have b2 : (mid : Int) ≤ 4611686018427387904 := by omega
  clear hmid hn hp hlo hhi hlh
  go_enter FG, Try.ntmps160
  by_cases c3 : mid < m
  all_goals
    first
      | (have c3z : (mid : Int) < (m : Int) := by omega
         have e6' := e6 c3
         clear e6)
      | (have c3z : ¬ (mid : Int) < (m : Int) := by omega
         clear e6)
    go_wp2
    (try clear e6')
    go_loopg [20, 21] m (fun kx s10 s11 wr => ∃ (s r : Nat), s10 = .int .i64 s ∧ s11 = .int .i64 r ∧ Aside (lo ≤ s) ∧ s ≤ r ∧ Aside (r ≤ hi) ∧ Aside (r - s ≤ kx) ∧ Aside (SWK enc k w0 blk off d wr) ∧ Aside ((lo < s → ltOf cf d[n - 1 - (s - 1)]! d[s - 1]! = false) ∧ (r < hi → ltOf cf d[n - 1 - r]! d[r]! = true)))
    case atStart =>
      have h := HLH.out
      obtain ⟨g1, g2, g3⟩ := HN.out
      first
        | exact ⟨lo, mid, rfl, rfl, Nat.le_refl _, by omega, (by show mid ≤ hi; omega), (by show mid - lo ≤ m; omega), S0, fun h => absurd h (Nat.lt_irrefl _), fun h => by omega⟩
        | exact ⟨a, m, rfl, rfl, (by show lo ≤ a; omega), by omega, (by show m ≤ hi; omega), (by show m - a ≤ m; omega), S0, fun h => by omega, fun h => by omega⟩
    case round =>
      clear S0
      obtain ⟨s, r, rfl, rfl, HLS, q2, HRH, HK, S1, Q1⟩ := hrel
      by_cases hlt : s < r
      · have hltz : (s : Int) < (r : Int) := by omega
        have hls : lo ≤ s := HLS.out
        have hrh : r ≤ hi := HRH.out
        have hlh := HLH.out
        obtain ⟨g1, g2, g3⟩ := HN.out
        obtain ⟨h, hh⟩ : ∃ h, h = (s + r) / 2 := ⟨_, rfl⟩
        have eh : ((s : Int) + (r : Int)) / 2 = (h : Int) := by omega
        obtain ⟨q, hq⟩ : ∃ q, q = p - h := ⟨_, rfl⟩
        have eq : (p : Int) - (h : Int) = (q : Int) := by omega
        have eqw : IntKind.i64.wrap ((p : Int) - (h : Int)) = (q : Int) := by rw [IntKind.wrap_i64]; omega
        have eqw2 : IntKind.i64.wrap (q : Int) = (q : Int) := by rw [IntKind.wrap_i64]; omega
        have ea : ((q : Int)).toNat = q := by omega
        have pa : (0 : Int) ≤ (q : Int) := by omega
        have ba : (q : Int) < (d.size : Int) := by omega
        have ec : ((h : Int)).toNat = h := by omega
        have pc : (0 : Int) ≤ (h : Int) := by omega
        have bc : (h : Int) < (d.size : Int) := by omega
        have hw1 : IntKind.i64.wrap ((h : Int) + 1) = (h : Int) + 1 := by rw [IntKind.wrap_i64]; omega
        obtain ⟨x24, hx24⟩ : ∃ x, x = d[q]! := ⟨_, rfl⟩
        obtain ⟨y24, hy24⟩ : ∃ x, x = d[h]! := ⟨_, rfl⟩
        have l24a := S1.out.ld R (by omega) P q (by omega)
        have l24b := S1.out.ld R (by omega) P h (by omega)
        rw [← hx24] at l24a
        rw [← hy24] at l24b
        have hc24 := S1.out.cmp HC.out (by omega) x24 y24
        have HH : Aside (h = (s + r) / 2 ∧ x24 = d[q]! ∧ y24 = d[h]! ∧ q = n - 1 - h) := ⟨hh, hx24, hy24, by omega⟩
        clear hh hx24 hy24 hq g1 g2 g3 hls hrh hlh
        by_cases hL : cf x24 y24 < 0
        · have hd24 : decide (cf x24 y24 < 0) = true := decide_eq_true hL
          go_wp2_with fail
          go_quiet_grown (first | (go_at_fn g; refine Calls.grown_of (hc24 _ _)))
          have S2 : Aside (SWK enc k w0 blk off d (grow (wr.drewN nq) osq)) := S1.out.grown nq osq
          clear l24a l24b hc24 S1
          generalize grow (wr.drewN nq) osq = w2 at S2 ⊢
          clear nq osq
          go_wp2_with fail
          obtain ⟨hh, hx24, hy24, hq⟩ := HH.out
          have hrh : r ≤ hi := HRH.out
          have hkx : r - s ≤ gk := HK.out
          have hls : lo ≤ s := HLS.out
          go_roundg (gk - 1)
          case measure => omega
          case rel => exact ⟨s, h, rfl, rfl, hls, by omega, (by show h ≤ hi; omega), (by show h - s ≤ gk - 1; omega), S2, Q1.out.1, fun _ => by rw [← hq, ← hx24, ← hy24]; exact decide_eq_true hL⟩
        · have hd24 : decide (cf x24 y24 < 0) = false := decide_eq_false hL
          have hL2 : 0 ≤ cf x24 y24 := by omega
          go_wp2_with fail
          go_quiet_grown (first | (go_at_fn g; refine Calls.grown_of (hc24 _ _)))
          have S2 : Aside (SWK enc k w0 blk off d (grow (wr.drewN nq) osq)) := S1.out.grown nq osq
          clear l24a l24b hc24 S1
          generalize grow (wr.drewN nq) osq = w2 at S2 ⊢
          clear nq osq
          go_wp2_with fail
          obtain ⟨hh, hx24, hy24, hq⟩ := HH.out
          have hrh : r ≤ hi := HRH.out
          have hkx : r - s ≤ gk := HK.out
          have hls : lo ≤ s := HLS.out
          go_roundg (gk - 1)
          case measure => omega
          case rel => exact ⟨h + 1, r, by simp, rfl, (by show lo ≤ h + 1; omega), by omega, (by show r ≤ hi; omega), (by show r - (h + 1) ≤ gk - 1; omega), S2, fun _ => by rw [Nat.add_sub_cancel, ← hq, ← hx24, ← hy24]; exact decide_eq_false (by omega), Q1.out.2⟩
      · obtain rfl : s = r := by omega
        have hltz : ¬ (s : Int) < (s : Int) := by omega
        obtain ⟨g1, g2, g3⟩ := HN.out
        obtain ⟨hlo, hhi⟩ := HLO.out
        have hls : lo ≤ s := HLS.out
        have hrh : s ≤ hi := HRH.out
        have hcut := Sym.cut_mid (s := s) (n := n) HS.out H1.out H2.out (by omega) (by rw [← g1]; exact hlo) (by rw [← g1]; exact hhi) (by rw [← g1]; exact g2) hls hrh Q1.out.1 Q1.out.2
        rw [← g1] at hcut
        obtain ⟨C, hsm⟩ := hcut
        obtain ⟨e, he⟩ : ∃ e, e = n - s := ⟨_, rfl⟩
        rw [← he] at C hsm
        have k1 := C.ka; have k2 := C.sm; have k3 := C.me; have k4 := C.eb
        have ee : (n : Int) - (s : Int) = (e : Int) := by omega
        have HCC : Aside (Sym.Cut (ltOf cf) d a m b s e ∧ s + (e - m) = mid) := ⟨C, hsm⟩
        have HL : (a : Int) < (b : Int) := by omega
        have hme : (mid : Int) ≤ 4611686018427387904 := b2
        have hc4 : (s < m ∧ m < e) ∨ s = m ∨ (s < m ∧ e = m) := by omega
        have hsm2 : s ≤ mid := by omega
        have hme2 : mid ≤ e := by omega
        have ham2 : a ≤ mid := by omega
        have hmb2 : mid < b := by omega
        clear hlo hhi g1 g2 g3 he hsm
        rcases hc4 with c4 | c4 | c4
        all_goals
          have C4 : Aside _ := c4
          first
            | (exfalso; have q0 := HCC.out.2; omega)
            | (have z1 : (s : Int) < (m : Int) := by omega
               have z2 : (m : Int) < (e : Int) := by omega
               have hr := HROT.out s m e d wr hs S1.out (by omega) (by omega) (by omega)
               clear S1
               go_wp2_with fail
               refine hr.mono ?_
               rintro e' w1 ⟨rfl, d1, hB1, hP1, hS1⟩
               have D1 : Aside (Sym.By (Sym.roI s m e) d d1 ∧ PermIn a b d d1 ∧ SWK enc k w0 blk off d1 w1) := ⟨hB1, hP1 a b (by omega) (by omega) hb, hS1⟩
               clear hB1 hP1 hS1 hr z1 z2 c4)
            | (obtain ⟨w1, rfl⟩ : ∃ x, x = wr := ⟨_, rfl⟩
               have D0 : ∃ d1, Aside (Sym.By (Sym.roI s m e) d d1 ∧ PermIn a b d d1 ∧ SWK enc k w0 blk off d1 w1) := ⟨d, (Sym.By.refl d).congr (fun x _ => by
                 unfold Sym.roI
                 repeat' split
                 all_goals first | rfl | (show _ = x; omega)), permIn_refl d a b, S1.out⟩
               obtain ⟨d1, D1⟩ := D0
               clear S1
               first
                 | (have z1 : ¬ (s : Int) < (m : Int) := by omega
                    clear c4)
                 | (have z1 : (s : Int) < (m : Int) := by omega
                    have z2 : ¬ (m : Int) < (e : Int) := by omega
                    clear c4))
        all_goals
          have hs1 : d1.size = d.size := D1.out.1.1
          obtain ⟨t1, t2, t3, t4, t5⟩ := Sym.cut_sorted HS.out hb H1.out H2.out HCC.out.1 D1.out.1
          rw [HCC.out.2] at t2 t3 t5
          have T1 : Aside (SortedIn (ltOf cf) a s d1 ∧ SortedIn (ltOf cf) s mid d1 ∧ SortedIn (ltOf cf) mid e d1 ∧ SortedIn (ltOf cf) e b d1 ∧ Sym.Low (ltOf cf) a mid b d1) := ⟨t1, t2, t3, t4, t5⟩
          clear t1 t2 t3 t4 t5
          have hc5 : (a < s ∧ s < mid) ∨ s = a ∨ (a < s ∧ s = mid) := by omega
          rcases hc5 with c5 | c5 | c5
          all_goals
            have C5 : Aside _ := c5
            first
              | (exfalso; have q0 := HCC.out.2; have q4 := C4.out; omega)
              | (have y1 : (a : Int) < (s : Int) := by omega
                 have y2 : (s : Int) < (mid : Int) := by omega
                 have hr := IH.out a s mid d1 w1 (by omega) (by omega) D1.out.2.2 (by omega) (by omega) (by omega) T1.out.1 T1.out.2.1
                 rw [hs1] at hr
                 have HS1 : Aside (d1.size = d.size) := hs1
                 clear hs1
                 go_wp2_with fail
                 refine hr.mono ?_
                 rintro e' w2 ⟨rfl, d2, hP2, hS2, hW2⟩
                 have hs1 := HS1.out
                 have D2 : Aside (PermIn a mid d1 d2 ∧ SortedIn (ltOf cf) a mid d2 ∧ SWK enc k w0 blk off d2 w2) := ⟨hP2, hS2, hW2⟩
                 clear hP2 hS2 hW2 hr y1 y2 HS1 c5)
              | (obtain ⟨w2, rfl⟩ : ∃ x, x = w1 := ⟨_, rfl⟩
                 have D0 : ∃ d2, Aside (PermIn a mid d1 d2 ∧ SortedIn (ltOf cf) a mid d2 ∧ SWK enc k w0 blk off d2 w2) := ⟨d1, permIn_refl d1 a mid, (by first | (have h := T1.out.2.1; rw [c5] at h; exact h) | (have h := T1.out.1; rw [c5.2] at h; exact h)), D1.out.2.2⟩
                 obtain ⟨d2, D2⟩ := D0
                 first
                   | (have y1 : ¬ (a : Int) < (s : Int) := by omega
                      clear c5)
                   | (have y1 : (a : Int) < (s : Int) := by omega
                      have y2 : ¬ (s : Int) < (mid : Int) := by omega
                      clear c5))
          all_goals
            have hs2 : d2.size = d.size := by rw [D2.out.1.1, hs1]
            have T2 : Aside (SortedIn (ltOf cf) mid e d2 ∧ SortedIn (ltOf cf) e b d2 ∧ Sym.Low (ltOf cf) a mid b d2 ∧ PermIn a b d d2) := ⟨Sym.sorted_off T1.out.2.2.1 D2.out.1 (.inr (Nat.le_refl _)), Sym.sorted_off T1.out.2.2.2.1 D2.out.1 (.inr (by omega)), Sym.Low.permL T1.out.2.2.2.2 (by omega) D2.out.1, permIn_trans _ _ _ _ _ D1.out.2.1 (permIn_mono _ _ _ _ _ _ (Nat.le_refl _) (by omega) (by omega) D2.out.1)⟩
            have HSS : Aside (d1.size = d.size ∧ d2.size = d.size) := ⟨hs1, hs2⟩
            clear hs1
            have hc6 : (mid < e ∧ e < b) ∨ e = mid ∨ (mid < e ∧ e = b) := by omega
            rcases hc6 with c6 | c6 | c6
            all_goals
              first
                | (exfalso; have q0 := HCC.out.2; have q4 := C4.out; have q5 := C5.out; omega)
                | (have x1 : (mid : Int) < (e : Int) := by omega
                   have x2 : (e : Int) < (b : Int) := by omega
                   have hr := IH.out mid e b d2 w2 (by omega) (by omega) D2.out.2.2 (by omega) (by omega) (by omega) T2.out.1 T2.out.2.1
                   rw [hs2] at hr
                   clear hs2
                   go_wp2_with fail
                   refine hr.mono ?_
                   rintro e' w3 ⟨rfl, d3, hP3, hS3, hW3⟩
                   have D3 : Aside (PermIn mid b d2 d3 ∧ SortedIn (ltOf cf) mid b d3 ∧ SWK enc k w0 blk off d3 w3) := ⟨hP3, hS3, hW3⟩
                   clear hP3 hS3 hW3 hr x1 x2 c6)
                | (obtain ⟨w3, rfl⟩ : ∃ x, x = w2 := ⟨_, rfl⟩
                   have D0 : ∃ d3, Aside (PermIn mid b d2 d3 ∧ SortedIn (ltOf cf) mid b d3 ∧ SWK enc k w0 blk off d3 w3) := ⟨d2, permIn_refl d2 mid b, (by first | (have h := T2.out.2.1; rw [c6] at h; exact h) | (have h := T2.out.1; rw [c6.2] at h; exact h)), D2.out.2.2⟩
                   obtain ⟨d3, D3⟩ := D0
                   clear hs2
                   first
                     | (have x1 : ¬ (mid : Int) < (e : Int) := by omega
                        clear c6)
                     | (have x1 : (mid : Int) < (e : Int) := by omega
                        have x2 : ¬ (e : Int) < (b : Int) := by omega
                        clear c6))
            all_goals
              go_wp2
              go_end0
              obtain ⟨hs1, hs2⟩ := HSS.out
              exact ⟨rfl, d3, permIn_trans _ _ _ _ _ T2.out.2.2.2 (permIn_mono _ _ _ _ _ _ (by omega) (Nat.le_refl _) (by omega) D3.out.1), Sym.glue (Sym.sorted_off D2.out.2.1 D3.out.1 (.inl (Nat.le_refl _))) D3.out.2.1 (Sym.Low.permR T2.out.2.2.1 (by omega) D3.out.1), D3.out.2.2⟩
set_option maxHeartbeats 16000000 in
set_option maxRecDepth 1000000 in
theorem sym_merge {α : Type} [Inhabited α] (L : SymL P k) (enc : α → List Value) (cf : α → α → Int) (hS : SWO (ltOf cf)) (g : Nat) (cb : Array Value) (blk off cap : Nat) (d0 : Array α) (w0 : World)
    (eg : ∀ args w, (callFunc g args).run P w = .ok (.enter g args) w) (hcmp : CmpLays P g cb enc k cf blk off d0.size w0) (R : RowK enc k w0 blk off d0) (hsz : d0.size < 4611686018427387904) :
    ∀ (N a m b : Nat) (d : Array α) (w : World), b - a ≤ N → d0.size = d.size → SWK enc k w0 blk off d w → a < m → m < b → b ≤ d.size → SortedIn (ltOf cf) a m d → SortedIn (ltOf cf) m b d →
    Calls P 160 #[.slice (some ⟨blk, off, none⟩) d.size cap, .int .i64 a, .int .i64 m, .int .i64 b, .func (.func g) #[] cb] w fun e w' =>
      e = .returned (.tuple #[]) ∧ ∃ d', PermIn a b d d' ∧ SortedIn (ltOf cf) a b d' ∧ SWK enc k w0 blk off d' w' := by
  intro N
  induction N with
  | zero => intro a m b d w hN hs S ham hmb; omega
  | succ N ih =>
    intro a m b d w hN hs S ham hmb hb h1 h2
    by_cases c1 : m - a = 1
    · exact sym_first L enc cf hS g cb blk off cap d0 w0 eg hcmp R hsz a m b d w hs S ham hmb hb h1 h2 c1
    · by_cases c2 : b - m = 1
      · exact sym_last L enc cf hS g cb blk off cap d0 w0 eg hcmp R hsz a m b d w hs S ham hmb hb h1 h2 c1 c2
      · exact sym_mid L enc cf hS g cb blk off cap d0 w0 eg hcmp R hsz a m b d w hs S ham hmb hb h1 h2 c1 c2 N hN ih
end Go.Proofs.Ytkkfkdncddbaeaa.Fn
namespace Go.Proofs.Ytkkfkdncddbaeaa.Fn
open Go.RowKit Go.Proofs.YtkkfkdncddbaeaaW.PrintWords Go.Proofs.YtkkfkdncddbaeaaW.PrintLast Go.Proofs.YtkkfkdncddbaeaaW.PrintMore
attribute [local go_sem] max2_int min2_int max_two min_two max_three min_three max_four min_four
set_option linter.unusedVariables false
set_option linter.unusedSimpArgs false
open Go.Sort Go.Proofs
namespace Sym
variable {α : Type} [Inhabited α] {lt : α → α → Bool}
theorem div_lt {i t S : Nat} (h : i < t * S) : i / S < t := Nat.div_lt_of_lt_mul (by rw [Nat.mul_comm]; exact h)
theorem div_eq {i t S : Nat} (h1 : t * S ≤ i) (h2 : i < t * S + S) : i / S = t := by
  have h3 : i / S < t + 1 := div_lt (by rw [Nat.add_mul, Nat.one_mul]; exact h2)
  have hS : 0 < S := by omega
  have h4 : t ≤ i / S := (Nat.le_div_iff_mul_le hS).2 h1
  omega
theorem ge_of_div {i t S : Nat} (h : i / S = t) : t * S ≤ i := by rw [← h]; exact Nat.div_mul_le_self i S
def Mix (lt : α → α → Bool) (S s a n : Nat) (d : Array α) : Prop := (∀ i j, i < j → j < a → i / S = j / S → lt d[j]! d[i]! = false) ∧ ∀ i j, a ≤ i → i < j → j < n → i / s = j / s → lt d[j]! d[i]! = false
def Blk (lt : α → α → Bool) (s n : Nat) (d : Array α) : Prop := ∀ i j, i < j → j < n → i / s = j / s → lt d[j]! d[i]! = false
theorem mix_step {S s t n b : Nat} {d d' : Array α} (h : Mix lt S s (t * S) n d) (hb1 : t * S < b) (hb2 : b ≤ t * S + S) (hp : PermIn (t * S) b d d') (hs : SortedIn lt (t * S) b d') : Mix lt S s b n d' := by
  refine ⟨fun i j hij hj he => ?_, fun i j hi hij hj he => ?_⟩
  · by_cases c : j < t * S
    · rw [hp.2.1 i (.inl (by omega)), hp.2.1 j (.inl c)]
      exact h.1 i j hij c he
    · have e1 : j / S = t := div_eq (by omega) (by omega)
      have e2 := ge_of_div (he.trans e1)
      exact hs i j e2 hij hj
  · rw [hp.2.1 i (.inr hi), hp.2.1 j (.inr (by omega))]
    exact h.2 i j (by omega) hij hj he
theorem mix_run {S s a n u lo hi : Nat} {d : Array α} (h : Mix lt S s a n d) (h1 : a ≤ lo) (h2 : u * s ≤ lo) (h3 : hi ≤ u * s + s) (h4 : hi ≤ n) : SortedIn lt lo hi d := fun i j hi' hij hj =>
  h.2 i j (by omega) hij (by omega) (by rw [div_eq (t := u) (show u * s ≤ i by omega) (by omega), div_eq (t := u) (show u * s ≤ j by omega) (by omega)])
theorem mix_start {s S n : Nat} {d : Array α} (h : Blk lt s n d) : Mix lt S s 0 n d := ⟨fun i j _ hj _ => by omega, fun i j _ hij hj he => h i j hij hj he⟩
theorem mix_end {S s t n : Nat} {d : Array α} (h : Mix lt S s (t * S) n d) (h1 : t * S ≤ n) (h2 : n < t * S + S) (hr : SortedIn lt (t * S) n d) : Blk lt S n d := by
  intro i j hij hj he
  by_cases c : j < t * S
  · exact h.1 i j hij c he
  · have e1 : j / S = t := div_eq (by omega) (by omega)
    exact hr i j (ge_of_div (he.trans e1)) hij hj
theorem blk_one {s n : Nat} {d : Array α} (h : Blk lt s n d) (hn : n ≤ s) : SortedIn lt 0 n d := fun i j _ hij hj => h i j hij hj (by rw [Nat.div_eq_of_lt (by omega), Nat.div_eq_of_lt (by omega)])
end Sym
def Stab {α : Type} [Inhabited α] (enc : α → List Value) (k : Nat) (cf : α → α → Int) (w0 : World) (blk off : Nat) (d : Array α) (lo hi : Nat) (w' : World) : Prop := ∃ d', PermIn lo hi d d' ∧ SortedIn (ltOf cf) lo hi d' ∧ SWK enc k w0 blk off d' w'
set_option maxHeartbeats 8000000 in
set_option maxRecDepth 1000000 in
theorem stable_any {α : Type} [Inhabited α] (enc : α → List Value) (k : Nat) (cf : α → α → Int) (g : Nat) (cb : Array Value) (blk off cap : Nat) (d : Array α) (w0 w : World)
    (hins : ∀ (a b : Nat) (d1 : Array α) (w1 : World), d1.size = d.size → SWK enc k w0 blk off d1 w1 → a ≤ b → b ≤ d.size → Calls Try.prog 159 #[.slice (some ⟨blk, off, none⟩) d.size cap, .int .i64 a, .int .i64 b, .func (.func g) #[] cb] w1 fun e w' => e = .returned (.tuple #[]) ∧ Stab enc k cf w0 blk off d1 a b w')
    (hsym : ∀ (a m b : Nat) (d1 : Array α) (w1 : World), d1.size = d.size → SWK enc k w0 blk off d1 w1 → a < m → m < b → b ≤ d.size → SortedIn (ltOf cf) a m d1 → SortedIn (ltOf cf) m b d1 → Calls Try.prog 160 #[.slice (some ⟨blk, off, none⟩) d.size cap, .int .i64 a, .int .i64 m, .int .i64 b, .func (.func g) #[] cb] w1 fun e w' => e = .returned (.tuple #[]) ∧ Stab enc k cf w0 blk off d1 a b w')
    (S : SWK enc k w0 blk off d w) (hsz : d.size < 1099511627776) :
    Calls Try.prog 144 #[.slice (some ⟨blk, off, none⟩) d.size cap, .int .i64 d.size, .func (.func g) #[] cb] w fun e w' => e = .returned (.tuple #[]) ∧ Stab enc k cf w0 blk off d 0 d.size w' := by
  have HI : Aside _ := hins
  have HM : Aside _ := hsym
  obtain ⟨n, hn⟩ : ∃ n, n = d.size := ⟨_, rfl⟩
  have S0 : Aside (SWK enc k w0 blk off d w) := S
  clear hins hsym S
  rw [← hn] at HI HM hsz ⊢
  have HN : Aside (n = d.size) := hn
  clear hn
  go_enter Try.func144, Try.ntmps144
  go_wp2
  go_loopg [7, 8] (n + 1) (fun kx s7 s8 wr => ∃ (t a b : Nat) (d1 : Array α), s7 = .int .i64 a ∧ s8 = .int .i64 b ∧ Aside (a = t * 20) ∧ Aside (b = a + 20) ∧ a ≤ n ∧ n - a ≤ kx ∧ Aside (d1.size = n ∧ SWK enc k w0 blk off d1 wr ∧ PermIn 0 n d d1 ∧ Sym.Mix (ltOf cf) 20 1 a n d1))
  case atStart => exact ⟨0, 0, 20, d, rfl, rfl, rfl, rfl, by omega, by omega, HN.out.symm, S0, permIn_refl d 0 n, ⟨fun i j _ hj _ => by omega, fun i j _ hij hj he => by rw [Nat.div_one, Nat.div_one] at he; omega⟩⟩
  case round =>
    clear S0
    obtain ⟨t, a, b, d1, rfl, rfl, HA, HB, q1, hkx, HD⟩ := hrel
    by_cases hb : b ≤ n
    · have hbz : (b : Int) ≤ (n : Int) := by omega
      have hab : a ≤ b := by have h := HB.out; omega
      have hr := HI.out a b d1 wr HD.out.1 HD.out.2.1 hab hb
      have hb2 : (b : Int) ≤ 1099511627776 := by omega
      obtain ⟨b', hb'⟩ : ∃ x, x = b + 20 := ⟨_, rfl⟩
      have eb : (b : Int) + 20 = (b' : Int) := by omega
      have HB' : Aside (b' = b + 20) := hb'
      clear hb' hab
      go_wp2_with fail
      refine hr.mono ?_
      rintro e w1 ⟨rfl, d2, hP, hS, hW⟩
      have D2 : Aside (PermIn a b d1 d2 ∧ SortedIn (ltOf cf) a b d2 ∧ SWK enc k w0 blk off d2 w1) := ⟨hP, hS, hW⟩
      clear hP hS hW hr
      go_wp2
      go_roundg (gk - 1)
      case measure => have h := HB.out; omega
      case rel =>
        have h1 := HA.out
        have h2 := HB.out
        obtain ⟨g1, g2, g3, g4⟩ := HD.out
        refine ⟨t + 1, b, b', d2, rfl, rfl, (by show b = (t + 1) * 20; omega), HB'.out, hb, by omega, D2.out.1.1.trans g1, D2.out.2.2, permIn_trans _ _ _ _ _ g3 (permIn_mono _ _ _ _ _ _ (Nat.zero_le _) hb (by omega) D2.out.1), ?_⟩
        rw [h1] at g4
        have D1 := D2.out.1
        have DS := D2.out.2.1
        rw [h1] at D1 DS
        exact Sym.mix_step g4 (by omega) (by omega) D1 DS
    · have hbz : ¬ (b : Int) ≤ (n : Int) := by omega
      have hr := HI.out a n d1 wr HD.out.1 HD.out.2.1 q1 (Nat.le_refl _)
      go_wp2_with fail
      refine hr.mono ?_
      rintro e w1 ⟨rfl, d2, hP, hS, hW⟩
      have DD : Aside (d2.size = n ∧ SWK enc k w0 blk off d2 w1 ∧ PermIn 0 n d d2 ∧ Sym.Blk (ltOf cf) 20 n d2) := by
        have h1 := HA.out
        have h2 := HB.out
        obtain ⟨g1, g2, g3, g4⟩ := HD.out
        refine ⟨hP.1.trans g1, hW, permIn_trans _ _ _ _ _ g3 (permIn_mono _ _ _ _ _ _ (Nat.zero_le _) (Nat.le_refl _) (by omega) hP), ?_⟩
        rw [h1] at g4 hP hS
        have h5 : Sym.Mix (ltOf cf) 20 1 (t * 20) n d2 := ⟨fun i j hij hj he => by rw [hP.2.1 i (.inl (by omega)), hP.2.1 j (.inl hj)]; exact g4.1 i j hij hj he, fun i j _ hij hj he => by rw [Nat.div_one, Nat.div_one] at he; omega⟩
        exact Sym.mix_end h5 (by omega) (by omega) hS
      clear hP hS hW hr hbz hb HA HB HD
      go_wp2
      go_loopg [6] n (fun kx s6 wr => ∃ (s : Nat) (d1 : Array α), s6 = .int .i64 s ∧ 20 ≤ s ∧ n - s ≤ kx ∧ s ≤ 2 * n + 20 ∧ Aside (d1.size = n ∧ SWK enc k w0 blk off d1 wr ∧ PermIn 0 n d d1 ∧ Sym.Blk (ltOf cf) s n d1))
      case atStart => exact ⟨20, d2, rfl, by omega, by omega, by omega, DD⟩
      case round =>
        clear DD
        obtain ⟨s, d3, rfl, s1, hkx2, s2, HD⟩ := hrel
        by_cases hs : s < n
        · have hsz1 : (s : Int) < (n : Int) := by omega
          obtain ⟨S2, hS2⟩ : ∃ x, x = 2 * s := ⟨_, rfl⟩
          have eS : 2 * (s : Int) = (S2 : Int) := by omega
          have eS' : (s : Int) * 2 = (S2 : Int) := by omega
          have HS2 : Aside (S2 = 2 * s) := hS2
          have bS : (S2 : Int) ≤ 2199023255552 := by omega
          clear hS2
          go_wp2
          go_loopg [7, 8] n (fun kx s7 s8 wr => ∃ (t a b : Nat) (d1 : Array α), s7 = .int .i64 a ∧ s8 = .int .i64 b ∧ Aside (a = t * S2) ∧ Aside (b = a + S2) ∧ a ≤ n ∧ n - a ≤ kx ∧ Aside (d1.size = n ∧ SWK enc k w0 blk off d1 wr ∧ PermIn 0 n d d1 ∧ Sym.Mix (ltOf cf) S2 s a n d1))
          case atStart =>
            obtain ⟨g1, g2, g3, g4⟩ := HD.out
            exact ⟨0, 0, S2, d3, rfl, rfl, (by show 0 = 0 * S2; omega), (by show S2 = 0 + S2; omega), by omega, by omega, g1, g2, g3, Sym.mix_start g4⟩
          case round =>
            clear HD
            obtain ⟨t, a, b, d4, rfl, rfl, HA, HB, q1, hkx3, HD⟩ := hrel
            obtain ⟨m, hm⟩ : ∃ x, x = a + s := ⟨_, rfl⟩
            have em : (a : Int) + (s : Int) = (m : Int) := by omega
            have HMM : Aside (m = a + s) := hm
            by_cases hb : b ≤ n
            · have hbz : (b : Int) ≤ (n : Int) := by omega
              have h2 := HB.out
              have h3 := HS2.out
              have hr := HM.out a m b d4 wr HD.out.1 HD.out.2.1 (by omega) (by omega) hb (Sym.mix_run (u := 2 * t) HD.out.2.2.2 (Nat.le_refl _) (by have h1 := HA.out; rw [h1, h3, Nat.mul_comm 2 t, Nat.mul_assoc]; exact Nat.le_refl _) (by have h1 := HA.out; rw [hm, h1, h3, Nat.mul_comm 2 t, Nat.mul_assoc]; exact Nat.le_refl _) (by omega)) (Sym.mix_run (u := 2 * t + 1) HD.out.2.2.2 (by omega) (by have h1 := HA.out; rw [hm, h1, h3, Nat.add_mul, Nat.mul_comm 2 t, Nat.mul_assoc]; omega) (by have h1 := HA.out; rw [h2, h1, h3, Nat.add_mul, Nat.mul_comm 2 t, Nat.mul_assoc]; omega) hb)
              clear hm h2 h3
              have hb2 : (b : Int) ≤ 1099511627776 := by omega
              obtain ⟨b', hb'⟩ : ∃ x, x = b + S2 := ⟨_, rfl⟩
              have eb : (b : Int) + (S2 : Int) = (b' : Int) := by omega
              have HB' : Aside (b' = b + S2) := hb'
              clear hb'
              go_wp2_with fail
              refine hr.mono ?_
              rintro e w2 ⟨rfl, d5, hP, hS, hW⟩
              have D2 : Aside (PermIn a b d4 d5 ∧ SortedIn (ltOf cf) a b d5 ∧ SWK enc k w0 blk off d5 w2) := ⟨hP, hS, hW⟩
              clear hP hS hW hr
              go_wp2
              go_roundg (gk - 1)
              case measure => have h := HB.out; have h3 := HS2.out; omega
              case rel =>
                have h1 := HA.out
                have h2 := HB.out
                have h3 := HS2.out
                obtain ⟨g1, g2, g3, g4⟩ := HD.out
                refine ⟨t + 1, b, b', d5, rfl, rfl, (by show b = (t + 1) * S2; rw [Nat.add_mul, Nat.one_mul, ← h1]; exact h2), HB'.out, hb, by omega, D2.out.1.1.trans g1, D2.out.2.2, permIn_trans _ _ _ _ _ g3 (permIn_mono _ _ _ _ _ _ (Nat.zero_le _) hb (by omega) D2.out.1), ?_⟩
                have D1 := D2.out.1
                have DS := D2.out.2.1
                rw [h1] at g4 D1 DS
                exact Sym.mix_step g4 (by omega) (by omega) D1 DS
            · have hbz : ¬ (b : Int) ≤ (n : Int) := by omega
              by_cases hmn : m < n
              · have hmz : (m : Int) < (n : Int) := by omega
                have h2 := HB.out
                have h3 := HS2.out
                have hr := HM.out a m n d4 wr HD.out.1 HD.out.2.1 (by omega) hmn (Nat.le_refl _) (Sym.mix_run (u := 2 * t) HD.out.2.2.2 (Nat.le_refl _) (by have h1 := HA.out; rw [h1, h3, Nat.mul_comm 2 t, Nat.mul_assoc]; exact Nat.le_refl _) (by have h1 := HA.out; rw [hm, h1, h3, Nat.mul_comm 2 t, Nat.mul_assoc]; exact Nat.le_refl _) (by omega)) (Sym.mix_run (u := 2 * t + 1) HD.out.2.2.2 (by omega) (by have h1 := HA.out; rw [hm, h1, h3, Nat.add_mul, Nat.mul_comm 2 t, Nat.mul_assoc]; omega) (by have h1 := HA.out; rw [Nat.add_mul, Nat.mul_comm 2 t, Nat.mul_assoc, ← h3, ← h1]; omega) (Nat.le_refl _))
                clear hm h2 h3
                go_wp2_with fail
                refine hr.mono ?_
                rintro e w2 ⟨rfl, d5, hP, hS, hW⟩
                have D2 : Aside (PermIn a n d4 d5 ∧ SortedIn (ltOf cf) a n d5 ∧ SWK enc k w0 blk off d5 w2) := ⟨hP, hS, hW⟩
                clear hP hS hW hr
                go_wp2
                go_roundg (n - S2)
                case measure => have h3 := HS2.out; omega
                case rel =>
                  have h1 := HA.out
                  have h2 := HB.out
                  have h3 := HS2.out
                  obtain ⟨g1, g2, g3, g4⟩ := HD.out
                  have D1 := D2.out.1
                  have DS := D2.out.2.1
                  refine ⟨S2, d5, rfl, by omega, by omega, by omega, D1.1.trans g1, D2.out.2.2, permIn_trans _ _ _ _ _ g3 (permIn_mono _ _ _ _ _ _ (Nat.zero_le _) (Nat.le_refl _) (by omega) D1), ?_⟩
                  rw [h1] at g4 D1 DS
                  have h6 : Sym.Mix (ltOf cf) S2 s n n d5 := Sym.mix_step g4 (by omega) (by omega) D1 DS
                  exact fun i j hij hj he => h6.1 i j hij hj he
              · have hmz : ¬ (m : Int) < (n : Int) := by omega
                clear hm
                go_wp2
                go_roundg (n - S2)
                case measure => have h3 := HS2.out; omega
                case rel =>
                  have h1 := HA.out
                  have h2 := HB.out
                  have h3 := HS2.out
                  have hm := HMM.out
                  obtain ⟨g1, g2, g3, g4⟩ := HD.out
                  have hrun : SortedIn (ltOf cf) a n d4 := Sym.mix_run (u := 2 * t) g4 (Nat.le_refl _) (by rw [h1, h3, Nat.mul_comm 2 t, Nat.mul_assoc]; exact Nat.le_refl _) (by rw [Nat.mul_comm 2 t, Nat.mul_assoc, ← h3, ← h1]; omega) (Nat.le_refl _)
                  refine ⟨S2, d4, rfl, by omega, by omega, by omega, g1, g2, g3, ?_⟩
                  rw [h1] at g4 hrun
                  exact Sym.mix_end g4 (by omega) (by omega) hrun
        · have hsz1 : ¬ (s : Int) < (n : Int) := by omega
          go_wp2
          go_end0
          obtain ⟨g1, g2, g3, g4⟩ := HD.out
          exact ⟨rfl, d3, g3, Sym.blk_one g4 (by omega), g2⟩
end Go.Proofs.Ytkkfkdncddbaeaa.Fn
namespace Go.Proofs.Ytkkfkdncddbaeaa.Fn
open Go.RowKit Go.Proofs.YtkkfkdncddbaeaaW.PrintWords Go.Proofs.YtkkfkdncddbaeaaW.PrintLast Go.Proofs.YtkkfkdncddbaeaaW.PrintMore
attribute [local go_sem] max2_int min2_int max_two min_two max_three min_three max_four min_four
set_option linter.unusedVariables false
set_option linter.unusedSimpArgs false
open Go.Proofs Go.Sort
set_option maxHeartbeats 2000000 in
set_option maxRecDepth 100000 in
theorem stable_none (fv : Value) (w : World) : Calls Try.prog 144 #[.slice none 0 0, .int .i64 0, fv] w fun e w' => e = .returned (.tuple #[]) ∧ w' = w := by
  have hi : Calls Try.prog 159 #[.slice none 0 0, .int .i64 0, .int .i64 0, fv] w fun e w' => e = .returned (.tuple #[]) ∧ w' = w := AnyF.insertionSortCmpFunc_none ({ sortRef with } : SlLaysF0.n20 Try.prog sortRef_ren) none 0 fv w
  go_enter Try.func144, Try.ntmps144
  go_wp2
  refine wp_loop_rounds 1 ?_
  rw [rounds_succ]
  go_wp2_with fail
  refine hi.mono ?_
  rintro e w1 ⟨rfl, rfl⟩
  go_wp2_with fail
  refine wp_loop_rounds 1 ?_
  rw [rounds_succ]
  go_wp2
  go_end0
  exact ⟨rfl, rfl⟩
set_option maxHeartbeats 2000000 in
set_option maxRecDepth 100000 in
theorem stable_ref (cl : Nat) (eg : ∀ args w, (callFunc cl args).run Try.prog w = .ok (.enter cl args) w)
    (hcl : ∀ (x y : S88) (W : World), Calls Try.prog cl #[.agg #[.int .i64 x.f0, .int .i64 x.f1, .int .i64 x.f2, .int .i64 x.f3], .agg #[.int .i64 y.f0, .int .i64 y.f1, .int .i64 y.f2, .int .i64 y.f3]] W fun e w' => e = .returned (.int .i64 (cmpRef x y)) ∧ ∃ q os', w' = grow (W.drewN q) os')
    {w0 w : World} {base : Nat} {ok : Nat → Prop} {v : Value} {xs : List S88} (HO : Kd.R k88 88 w base ok v xs) (HB : Go.RowKit.Below base w0 w) (hbase : base ≤ w.heap.size) (hlen : xs.length < 1099511627776) :
    Calls Try.prog 115 #[v, .func (.func cl) #[] #[]] w fun e w' => e = .returned (.tuple #[]) ∧ ∃ ys : List S88, ys.Perm xs ∧ (ys.Pairwise fun a b => Flag.leR (toR a) (toR b)) ∧ Kd.R k88 88 w' base ok v ys ∧ Go.RowKit.Below base w0 w' ∧ w.heap.size ≤ w'.heap.size ∧ (∀ i, i < w.heap.size → some i ≠ v.ownBlock → w'.heap[i]? = w.heap[i]?) := by
  have hsl : ∃ A c, v = .slice A xs.length c := Kd.R_slice HO
  rcases R_lies flatRef HO with ⟨rfl, rfl⟩ | ⟨g, cap, rfl, hg, hok, hL⟩
  · have hc := stable_none (.func (.func cl) #[] #[]) w
    go_enter Try.func115, Try.ntmps115
    go_wp2_with fail
    refine hc.mono ?_
    rintro e w1 ⟨rfl, rfl⟩
    go_wp2
    go_end0
    exact ⟨rfl, [], List.Perm.nil, List.Pairwise.nil, HO, HB, Nat.le_refl _, fun _ _ _ => rfl⟩
  · have hk : ∀ x : S88, (encRef x).length = 4 := fun _ => rfl
    have hH := hL.holds hk (by decide)
    have hsz : xs.toArray.size = xs.length := by simp
    have R : RowK encRef 4 w g 0 xs.toArray := ⟨hk, flatRef.one, hH, hL.block⟩
    have hcmp : CmpLays Try.prog cl #[] encRef 4 cmpRef g 0 xs.toArray.size w := fun m os dk hd x y => hcl x y _
    have hins : ∀ (a b : Nat) (d1 : Array S88) (w1 : World), d1.size = xs.toArray.size → SWK encRef 4 w g 0 d1 w1 → a ≤ b → b ≤ xs.toArray.size → Calls Try.prog 159 #[.slice (some ⟨g, 0, none⟩) xs.toArray.size cap, .int .i64 a, .int .i64 b, .func (.func cl) #[] #[]] w1 fun e w' => e = .returned (.tuple #[]) ∧ Stab encRef 4 cmpRef w g 0 d1 a b w' := by
      intro a b d1 w1 hs S h1 h2
      have h := AnyQ.insertionSortCmpFunc_w ({ sortRef with } : SlLaysF0.n20 Try.prog sortRef_ren) 4 Try.isAgg88 Try.sizeOf88 encRef cmpRef cl #[] g 0 cap a b xs.toArray d1 w w1 eg hcmp R hs.symm S swo_cmpRef h1 (by omega) (by omega)
      rw [hs] at h
      refine Calls.mono h ?_
      rintro e w' ⟨rfl, hS⟩
      have h3 := insertionSort_holds swo_cmpRef d1 a b h1 (by omega)
      exact ⟨rfl, _, h3.1, h3.2, hS⟩
    have hsym : ∀ (a m b : Nat) (d1 : Array S88) (w1 : World), d1.size = xs.toArray.size → SWK encRef 4 w g 0 d1 w1 → a < m → m < b → b ≤ xs.toArray.size → SortedIn (ltOf cmpRef) a m d1 → SortedIn (ltOf cmpRef) m b d1 → Calls Try.prog 160 #[.slice (some ⟨g, 0, none⟩) xs.toArray.size cap, .int .i64 a, .int .i64 m, .int .i64 b, .func (.func cl) #[] #[]] w1 fun e w' => e = .returned (.tuple #[]) ∧ Stab encRef 4 cmpRef w g 0 d1 a b w' := by
      intro a m b d1 w1 hs S h1 h2 h3 h4 h5
      have h := sym_merge symL encRef cmpRef swo_cmpRef cl #[] g 0 cap xs.toArray w eg hcmp R (by omega) b a m b d1 w1 (by omega) hs.symm S h1 h2 (by omega) h4 h5
      rw [hs] at h
      refine Calls.mono h ?_
      rintro e w' ⟨rfl, d', q1, q2, q3⟩
      exact ⟨rfl, d', q1, q2, q3⟩
    have hst := stable_any encRef 4 cmpRef cl #[] g 0 cap xs.toArray w w hins hsym (SWK.start hH) (by omega)
    rw [hsz] at hst
    clear hins hsym hcmp R
    have HST := Aside0.mk hst
    have HOa := Aside0.mk HO
    have HBa := Aside0.mk HB
    have HLa := Aside0.mk hL
    clear hst HO HB hL hsl hH hcl
    obtain ⟨n, hn⟩ : ∃ n, n = xs.length := ⟨_, rfl⟩
    rw [← hn] at HST ⊢
    have HN := Aside0.mk hn
    clear hn hsz
    go_enter Try.func115, Try.ntmps115
    go_wp2_with fail
    refine HST.out.mono ?_
    rintro e w1 ⟨rfl, hS⟩
    go_wp2
    go_end0
    obtain ⟨d', hp, hs, n2, os, rfl⟩ := hS
    have hnl := HN.out
    rw [hnl] at hp hs ⊢
    have hp' : PermIn 0 xs.toArray.size xs.toArray d' := by simpa using hp
    have hs' : SortedIn (ltOf cmpRef) 0 xs.toArray.size d' := by simpa using hs
    obtain ⟨h1, h2, h3⟩ := sort_list hp' hs'
    have h4 := HLa.out.sorted (n := n2) (os := os) hk (by decide) h1
    refine ⟨rfl, d'.toList, h2, h3.imp (fun {a b} h => ?_), ?_, sorted_below HBa.out hg hbase, ?_, fun i hi hne => ?_⟩
    · rw [lt_cmpRef] at h
      have h9 : ¬ Flag.ltR (toR b) (toR a) := of_decide_eq_false h
      exact h9
    · have h5 := R_of_lies (base := base) (ok := ok) flatRef hg hok h4
      have e1 : d'.toList.length = xs.length := by simpa using h1
      rw [e1] at h5
      exact h5
    · exact size_sortWorldK_c encRef 4 w g 0 n2 d' os
    · rw [sorted_heap 4 g n2 d' os i hi, if_neg (fun h => hne (by rw [h]; rfl))]
end Go.Proofs.Ytkkfkdncddbaeaa.Fn
namespace Go.Proofs.Ytkkfkdncddbaeaa.Fn
open Go.RowKit Go.Proofs.YtkkfkdncddbaeaaW.PrintWords Go.Proofs.YtkkfkdncddbaeaaW.PrintLast Go.Proofs.YtkkfkdncddbaeaaW.PrintMore
attribute [local go_sem] max2_int min2_int max_two min_two max_three min_three max_four min_four
set_option linter.unusedVariables false
set_option linter.unusedSimpArgs false
def comLow (r : S88) (x0 : Int) : Int := mx r.f0 x0
def comLen (r : S88) (x0 x1 : Int) : Int := mn (wrap64 (wrap64 (r.f0 + r.f1) - mx r.f0 x0)) (wrap64 (x1 - wrap64 (mx r.f0 x0 - x0)))
def whoRG (x0 x1 : Int) (r : S88) : List S88 := if 0 < comLen r x0 x1 then [⟨comLow r x0, comLen r x0 x1, r.f2, wrap64 (wrap64 (r.f3 + comLow r x0) - r.f0)⟩] else []
def whoG (l : List S88) (x0 x1 : Int) : List S88 := l.flatMap (whoRG x0 x1)
theorem whoRG_len (x0 x1 : Int) (r : S88) : (whoRG x0 x1 r).length ≤ 1 := by unfold whoRG; split <;> simp
theorem whoG_len (l : List S88) (x0 x1 : Int) : (whoG l x0 x1).length ≤ l.length := by
  unfold whoG
  induction l with
  | nil => exact Nat.le_refl _
  | cons r t ih => rw [List.flatMap_cons, List.length_append, List.length_cons]; have := whoRG_len x0 x1 r; omega
theorem com_eq {r : S88} {x0 x1 : Int} (h : 0 < r.f1 ∧ 0 ≤ r.f0 ∧ r.f0 + r.f1 ≤ 65536) (h0 : 0 ≤ x0 ∧ x0 < 9223372036854775808) (h1 : 0 < x1 ∧ x1 < 9223372036854775808) :
    comLow r x0 = Flag.lowC r.f0 ⟨x0, x1⟩ ∧ comLen r x0 x1 = Flag.lenC r.f0 r.f1 ⟨x0, x1⟩ := by
  unfold comLow comLen Flag.lenC Flag.lowC
  rw [mx_max, mn_min]
  dsimp only
  refine ⟨rfl, ?_⟩
  rw [w64 (n := r.f0 + r.f1) (by omega), w64 (n := max r.f0 x0 - x0) (by omega), w64 (n := r.f0 + r.f1 - max r.f0 x0) (by omega), w64 (n := x1 - (max r.f0 x0 - x0)) (by omega)]
theorem whoG_toR {l : List S88} {x0 x1 : Int} (h : Flag.Ok9 (l.map toR)) (h0 : 0 ≤ x0 ∧ x0 < 9223372036854775808) (h1 : 0 < x1 ∧ x1 < 9223372036854775808) : (whoG l x0 x1).map toR = Flag.whoL (l.map toR) ⟨x0, x1⟩ := by
  have key : ∀ r ∈ l, 0 < r.f1 ∧ 0 ≤ r.f0 ∧ r.f0 + r.f1 ≤ 65536 ∧ 0 ≤ r.f3 ∧ r.f3 ≤ 65536 := fun r hr => by
    have h := h.each (toR r) (List.mem_map_of_mem hr)
    unfold toR at h
    dsimp only at h
    omega
  clear h
  unfold whoG Flag.whoL
  induction l with
  | nil => rfl
  | cons r t ih =>
    obtain ⟨k1, k2, k3, k4, k5⟩ := key r List.mem_cons_self
    rw [List.flatMap_cons, List.map_append, ih fun x hx => key x (List.mem_cons_of_mem _ hx), List.map_cons, List.flatMap_cons]
    congr 1
    obtain ⟨e1, e2⟩ := com_eq (x0 := x0) (x1 := x1) ⟨k1, k2, k3⟩ h0 h1
    unfold whoRG Flag.whoR
    rw [e2, e1]
    show List.map toR (if 0 < Flag.lenC r.f0 r.f1 ⟨x0, x1⟩ then _ else []) = if 0 < Flag.lenC r.f0 r.f1 ⟨x0, x1⟩ then _ else []
    by_cases hp : 0 < Flag.lenC r.f0 r.f1 ⟨x0, x1⟩
    · have hl : 0 ≤ Flag.lowC r.f0 ⟨x0, x1⟩ ∧ Flag.lowC r.f0 ⟨x0, x1⟩ ≤ 65536 := by unfold Flag.lenC Flag.lowC at *; omega
      rw [if_pos hp, if_pos hp, w64 (n := r.f3 + Flag.lowC r.f0 ⟨x0, x1⟩) (by omega), w64 (n := r.f3 + Flag.lowC r.f0 ⟨x0, x1⟩ - r.f0) (by omega)]
      rfl
    · rw [if_neg hp, if_neg hp]; rfl
def whoS (l : List S88) (x0 x1 : Int) : List S88 := (Flag.sortR (Flag.whoL (l.map toR) ⟨x0, x1⟩)).map ofR
theorem whoS_toR (l : List S88) (x0 x1 : Int) : (whoS l x0 x1).map toR = Flag.sortR (Flag.whoL (l.map toR) ⟨x0, x1⟩) := by
  unfold whoS
  rw [List.map_map]
  exact List.map_id' _
theorem whoS_one {l out : List S88} {x0 x1 : Int} (h : Flag.Ok9 (l.map toR)) (h0 : 0 ≤ x0 ∧ x0 < 9223372036854775808) (h1 : 0 < x1 ∧ x1 < 9223372036854775808) (hp : out.Perm (whoG l x0 x1)) (hs : out.Pairwise fun a b => Flag.leR (toR a) (toR b)) : out = whoS l x0 x1 := by
  apply mapR_inj
  rw [whoS_toR]
  refine Flag.who_one h ?_ (List.pairwise_map.2 hs)
  rw [← whoG_toR h h0 h1]
  exact hp.map toR
def refs_Who.f (l0 : List (S94)) (a1_0 : Int) (a1_1 : Int) : Option ((List (S88)) × Int) := if a1_0 < 9223372036854775808 ∧ a1_1 < 9223372036854775808 then some (if Flag.checkM (l0.map toM) = 0 then (if a1_0 < 0 ∨ a1_1 < 1 then ([], 4) else (whoS (sortRefL (refsG l0)) a1_0 a1_1, 0)) else ([], 9)) else none
set_option maxHeartbeats 8000000 in
set_option maxRecDepth 100000 in
theorem refs_Who.calls (A0 : Option Addr) (c0 : Nat) (l0 : List (S94)) (x0 x1 : Int) (r1 : List (S88)) (r2 : Int) (w : World) (hr0 : Kd.C k94 w A0 l0.length l0) (hc0 : l0.length ≤ c0) (h : refs_Who.f l0 x0 x1 = some (r1, r2)) :
    Calls Try.prog 58 #[.slice A0 l0.length c0, .agg #[.int .i64 x0, .int .i64 x1]] w fun e w' => ∃ v0_ : Value, e = .returned (.tuple #[v0_, .int .i64 r2]) ∧ Kd.R k88 88 w' w.heap.size (fun _ => True) v0_ r1 ∧ Below w.heap.size w w' := by
  have hu40 := Try.underlying40
  have hu88 := Try.underlying88
  unfold refs_Who.f at h
  split at h
  case isFalse => cases h
  rename_i hxr
  have h := Option.some.inj h
  obtain ⟨W1, hW1⟩ : ∃ W, W = w.alloc (.cells #[.int .i64 x0, .int .i64 x1] 40) := ⟨_, rfl⟩
  have hwz : w.heap.size ≤ W1.heap.size := by rw [hW1]; simp
  have hb1 : Below w.heap.size w W1 := by rw [hW1]; exact (Below.refl _ _).alloc (Nat.le_refl _) _
  have hx1 : W1.heap[w.heap.size]? = some (.cells #[.int .i64 x0, .int .i64 x1] 40 (0, 0)) := by rw [hW1]; exact blk_new w _
  have hlt := blk_lt hx1
  have hr1 : Kd.C k94 W1 A0 l0.length l0 := by rw [hW1]; exact Kd.C_alloc hr0 _
  have q0 : W1.cell? ⟨w.heap.size, 0, none⟩ = some (.int .i64 x0) := (blk_cell hx1 0).trans rfl
  have q1 : W1.cell? ⟨w.heap.size, 1, none⟩ = some (.int .i64 x1) := (blk_cell hx1 1).trans rfl
  have HX1 := Aside0.mk hx1
  have HB1 := Aside0.mk hb1
  have HLT := Aside0.mk hlt
  have HWZ := Aside0.mk hwz
  have HXR := Aside0.mk hxr
  clear hx1 hb1 hr0 hlt hwz hxr
  by_cases hg : Flag.checkM (l0.map toM) = 0 ∧ ¬ (x0 < 0 ∨ x1 < 1)
  · rw [if_pos hg.1, if_neg hg.2] at h
    obtain ⟨rfl, rfl⟩ := Prod.mk.inj h
    have hcall := askRef.calls A0 c0 l0 x0 x1 (sortRefL (refsG l0)) 0 W1 hr1 hc0 (by unfold askRef.f; rw [if_pos hg.1, if_neg hg.2])
    have h9 := Flag.checkM_ok.1 hg.1
    have hln := refsG_len h9
    obtain ⟨r, hr⟩ : ∃ r, r = sortRefL (refsG l0) := ⟨_, rfl⟩
    have hok : Flag.Ok9 (r.map toR) := by
      rw [hr, sortRefL_toR, refsG_toR]
      exact (Flag.refsM_ok h9).perm (Flag.sortR_perm _)
    obtain ⟨n, hn⟩ : ∃ n, n = r.length := ⟨_, rfl⟩
    have hn9 : n ≤ 9216 := by
      have e1 : (r.map toR).length = (refsG l0).length := by rw [hr, sortRefL_toR, (Flag.sortR_perm _).length_eq, List.length_map]
      rw [List.length_map] at e1
      omega
    have hxb : (0 ≤ x0 ∧ x0 < 9223372036854775808) ∧ (0 < x1 ∧ x1 < 9223372036854775808) := by have := HXR.out; have := hg.2; omega
    rw [← hr] at hcall ⊢
    have HCALL := Aside0.mk hcall
    have HOK := Aside0.mk hok
    have HN := Aside0.mk hn
    have HN9 := Aside0.mk hn9
    have HXB := Aside0.mk hxb
    clear hcall hok hn hn9 hln h9 h hr hg hr1 hxb
    go_enter Try.func58, Try.ntmps58
    rw [hW1] at q0 q1
    go_wp2_with fail
    rw [← hW1]
    clear hW1 q0 q1
    refine HCALL.out.mono ?_
    rintro e w1 ⟨v1, rfl, hR1, hb2⟩
    obtain ⟨A1, c1, rfl⟩ := Kd.R_slice hR1
    have hRC : Kd.C k88 w1 A1 r.length r := (Kd.R_reads' hR1).2.2
    rw [← HN.out] at hRC ⊢
    have HB3 := Aside0.mk (HB1.out.trans (hb2.mono HWZ.out))
    have HX3 := Aside0.mk (show w1.heap[w.heap.size]? = some (.cells #[.int .i64 x0, .int .i64 x1] 40 (0, 0)) by rw [hb2.block _ HLT.out]; exact HX1.out)
    have HRC := Aside0.mk hRC
    clear hR1 hb2 hRC HB1 HX1 HCALL
    go_wp2_with fail
    go_loopg [8, 24] n (fun gk v8 v24 W => ∃ (i : Int) (o : List S88), v24 = .int .i64 i ∧ Aside0 (0 ≤ i ∧ i + gk = n) ∧ Aside0 (o = whoG (r.take i.toNat) x0 x1 ∧ (o.length : Int) ≤ i) ∧ Aside0 (Kd.R k88 88 W w1.heap.size (fun _ => True) v8 o) ∧ Aside0 (Below w1.heap.size w1 W))
    case atStart => exact ⟨0, [], rfl, ⟨Int.le_refl _, by simp⟩, ⟨rfl, Int.le_refl _⟩, ⟨Kd.R_nil _ _ _ _ _⟩, ⟨Below.refl _ _⟩⟩
    case round =>
      obtain ⟨i, o, rfl, HI, HOE, HO, HS⟩ := hrel
      obtain ⟨Ao, co, rfl⟩ := Kd.R_slice HO.out
      obtain ⟨no, hno⟩ : ∃ m, m = o.length := ⟨_, rfl⟩
      rw [← hno] at HO ⊢
      have HNO := Aside0.mk hno
      clear hno
      cases gk with
      | zero =>
        have hi : i = n := by have := HI.out.2; omega
        have hd : decide (i < (n : Int)) = false := decide_eq_false (by omega)
        have hoe : o = whoG r x0 x1 := by rw [HOE.out.1, hi, Int.toNat_natCast, HN.out, List.take_length]
        have hol : o.length < 1099511627776 := by have := HOE.out.2; have := HN9.out; omega
        have hso := stable_ref 116 (fun args w => enters_ Try.func116 (by kernel_rfl) rfl args w) (fun x y W => ref_cmp x y W) HO.out HS.out HS.out.size hol
        have HSO := Aside0.mk hso
        have HE := Aside0.mk hoe
        clear hi hoe hol hso
        go_wp2_with fail
        refine HSO.out.mono ?_
        rintro e w3 ⟨rfl, ys, hp, hs, hR, hB, _, _⟩
        have hy : ys = whoS r x0 x1 := whoS_one HOK.out HXB.out.1 HXB.out.2 (by rw [← HE.out]; exact hp) hs
        rw [hy] at hR
        have HR3 := Aside0.mk hR
        have HB4 := Aside0.mk hB
        clear hp hs hR hB hy
        go_wp2
        go_ret2
        exact ⟨_, rfl, Kd.R_lower HR3.out HB3.out.size, HB3.out.trans (HB4.out.mono HB3.out.size)⟩
      | succ k1 =>
        have hp0 : 0 ≤ i := HI.out.1
        have hp1 : i < (n : Int) := by have := HI.out.2; omega
        have hd : decide (i < (n : Int)) = true := decide_eq_true hp1
        obtain ⟨ad, e3, g0, g1, g2, g3⟩ := at_T88 (Kd.C_below HRC.out HS.out) i hp0 hp1
        cases e3
        obtain ⟨x, hx⟩ : ∃ x, x = rd_T88 r i := ⟨_, rfl⟩
        rw [← hx] at g0 g1 g2 g3
        have hst : whoG (r.take (i + 1).toNat) x0 x1 = o ++ whoRG x0 x1 x := by
          have h3 : (i + 1).toNat = i.toNat + 1 := by omega
          have h4 : i.toNat < r.length := by rw [← HN.out]; omega
          have h5 : x = r[i.toNat] := by rw [hx]; unfold rd_T88; rw [List.getD_eq_getElem?_getD, List.getElem?_eq_getElem h4]; rfl
          unfold whoG
          rw [h3, List.take_succ_eq_append_getElem h4, List.flatMap_append, ← h5, HOE.out.1]
          simp [whoG]
        have HP := Aside0.mk (And.intro hp0 hp1)
        have hwi : IntKind.i64.wrap (i + 1) = i + 1 := IntWalk.i64_in _ (by have := HN9.out; omega)
        obtain ⟨bx, hbx⟩ : ∃ b, b = wr.heap.size := ⟨_, rfl⟩
        obtain ⟨W1, hW1⟩ : ∃ W, W = wr.alloc (.cells #[.int .i64 x.f0, .int .i64 x.f1, .int .i64 x.f2, .int .i64 x.f3] 88) := ⟨_, rfl⟩
        have hx1 : W1.heap[bx]? = some (.cells #[.int .i64 x.f0, .int .i64 x.f1, .int .i64 x.f2, .int .i64 x.f3] 88 (0, 0)) := by rw [hW1, hbx]; exact blk_new wr _
        have hb1 : Below w1.heap.size w1 W1 := by rw [hW1]; exact HS.out.alloc HS.out.size _
        have hxx : W1.heap[w.heap.size]? = some (.cells #[.int .i64 x0, .int .i64 x1] 40 (0, 0)) := by rw [hb1.block _ (blk_lt HX3.out)]; exact HX3.out
        have ho1 : Kd.R k88 88 W1 w1.heap.size (fun _ => True) (.slice Ao no co) o := by rw [hW1]; exact Kd.R_alloc HO.out _
        have q0 : W1.cell? ⟨bx, 0, none⟩ = some (.int .i64 x.f0) := (blk_cell hx1 0).trans rfl
        have q1 : W1.cell? ⟨bx, 1, none⟩ = some (.int .i64 x.f1) := (blk_cell hx1 1).trans rfl
        have u0 : W1.cell? ⟨w.heap.size, 0, none⟩ = some (.int .i64 x0) := (blk_cell hxx 0).trans rfl
        have u1 : W1.cell? ⟨w.heap.size, 1, none⟩ = some (.int .i64 x1) := (blk_cell hxx 1).trans rfl
        rw [hW1, hbx] at q0 q1
        rw [hW1] at u0 u1
        have HX1 := Aside0.mk hx1
        have HB1' := Aside0.mk hb1
        have HO1 := Aside0.mk ho1
        have HLB := Aside0.mk (show some bx ≠ (Value.slice Ao no co).ownBlock from fun e => by have := Kd.R_lt HO.out bx e.symm; omega)
        have hcm := refs_common.calls x.f0 x.f1 x0 x1 (comLow x x0) (comLen x x0 x1) W1 rfl
        have HCM := Aside0.mk hcm
        clear hx hx1 hb1 hxx ho1 hcm
        go_wp2_with fail
        rw [← hW1, ← hbx]
        clear hW1 hbx q0 q1 u0 u1 g0 g1 g2 g3
        refine HCM.out.mono ?_
        rintro e w2 ⟨rfl, hb2⟩
        have hx2 : w2.heap[bx]? = some (.cells #[.int .i64 x.f0, .int .i64 x.f1, .int .i64 x.f2, .int .i64 x.f3] 88 (0, 0)) := by rw [hb2.block _ (blk_lt HX1.out)]; exact HX1.out
        have HX2 := Aside0.mk hx2
        have HB2 := Aside0.mk (HB1'.out.trans (hb2.mono HB1'.out.size))
        have HO2 := Aside0.mk (Kd.R_below HO1.out hb2)
        obtain ⟨lo, hlo⟩ : ∃ v, v = comLow x x0 := ⟨_, rfl⟩
        obtain ⟨le, hle⟩ : ∃ v, v = comLen x x0 x1 := ⟨_, rfl⟩
        rw [← hlo, ← hle]
        have p0 : w2.cell? ⟨bx, 0, none⟩ = some (.int .i64 x.f0) := (blk_cell hx2 0).trans rfl
        have p2 : w2.cell? ⟨bx, 2, none⟩ = some (.int .i64 x.f2) := (blk_cell hx2 2).trans rfl
        have p3 : w2.cell? ⟨bx, 3, none⟩ = some (.int .i64 x.f3) := (blk_cell hx2 3).trans rfl
        clear hx2 hb2
        by_cases hpos : 0 < le
        · have hdp : decide (0 < le) = true := decide_eq_true hpos
          have hw1 : IntKind.i64.wrap (x.f3 + lo) = wrap64 (x.f3 + lo) := IntWalk.i64_left _
          have hw2 : IntKind.i64.wrap (wrap64 (x.f3 + lo) - x.f0) = wrap64 (wrap64 (x.f3 + lo) - x.f0) := IntWalk.i64_left _
          obtain ⟨os, hos⟩ : ∃ os, os = o ++ [(⟨lo, le, x.f2, wrap64 (wrap64 (x.f3 + lo) - x.f0)⟩ : S88)] := ⟨_, rfl⟩
          have hst2 : whoG (r.take (i + 1).toNat) x0 x1 = os := by
            rw [hst, hos]; unfold whoRG; rw [if_pos (by rw [← hle]; exact hpos), ← hlo, ← hle]
          have HST := Aside0.mk hst2
          have HOS := Aside0.mk hos
          clear hst hst2 hos hpos hlo hle
          go_wp2_with (first | ((with_reducible refine gate_builtin (b := .append) (xs := #[.tmp 39, .tmp 52]) rfl ?_); at_builtin; refine Kd.R_append k88 (w0 := w1) w1.heap.size rfl (.tmp 39) (.tmp 52) 80 88 (.agg #[(.int .i64 0), (.int .i64 0), (.int .i64 0), (.int .i64 0)]) 32 rfl Try.underlying80 info88 rfl (by decide) (by omega) (.slice Ao no co) o (⟨lo, le, x.f2, wrap64 (wrap64 (x.f3 + lo) - x.f0)⟩ : S88) [.int .i64 lo, .int .i64 le, .int .i64 x.f2, .int .i64 (wrap64 (wrap64 (x.f3 + lo) - x.f0))] (fun _ => True) (fun _ => False) rfl (by first | (go_simp; done) | (go_simp; rfl)) ?aP (fun _ hk => hk.elim) ?aF ?aO ?aB ?aS ?aL ?_; (case aP => exact k88_mkM _ _ _ (⟨lo, le, x.f2, wrap64 (wrap64 (x.f3 + lo) - x.f0)⟩ : S88)); (case aF => exact fun _ _ => trivial); (case aO => exact HO2.out); (case aB => exact HB2.out); (case aS => exact HB2.out.size); (case aL => have := HOE.out.2; have := HI.out.2; have := HN9.out; omega); intro v1 w8 ho hb hg hat; rw [← HOS.out] at ho; have HO8 := Aside0.mk ho; have HB8 := Aside0.mk hb; clear ho hb hg hat))
          go_roundg k1
          case measure => omega
          case rel =>
            refine ⟨i + 1, os, by first | rfl | (simp; done) | go_num, ⟨by have := HP.out.1; omega, by have := HI.out.2; omega⟩, ⟨HST.out.symm, ?_⟩, ⟨HO8.out⟩, ⟨HB8.out⟩⟩
            rw [HOS.out, List.length_append, List.length_singleton]; have := HOE.out.2; omega
        · have hdp : decide (0 < le) = false := decide_eq_false hpos
          have hst2 : whoG (r.take (i + 1).toNat) x0 x1 = o := by
            rw [hst]; unfold whoRG; rw [if_neg (by rw [← hle]; exact hpos), List.append_nil]
          have HST := Aside0.mk hst2
          clear hst hst2 hpos hlo hle
          go_wp2_with fail
          go_roundg k1
          case measure => omega
          case rel =>
            refine ⟨i + 1, o, by first | rfl | (simp; done) | go_num, ⟨by have := HP.out.1; omega, by have := HI.out.2; omega⟩, ⟨HST.out.symm, by have := HOE.out.2; omega⟩, ⟨HO2.out⟩, ⟨HB2.out⟩⟩
  · obtain ⟨ec, hec, hne, hr1', hr2'⟩ : ∃ ec : Int, askRef.f l0 x0 x1 = some ([], ec) ∧ ec ≠ 0 ∧ r1 = [] ∧ r2 = ec := by
      unfold askRef.f
      by_cases hc : Flag.checkM (l0.map toM) = 0
      · have hb : x0 < 0 ∨ x1 < 1 := Classical.byContradiction fun hb => hg ⟨hc, hb⟩
        rw [if_pos hc, if_pos hb] at h
        obtain ⟨rfl, rfl⟩ := Prod.mk.inj h
        exact ⟨4, by rw [if_pos hc, if_pos hb], by decide, rfl, rfl⟩
      · rw [if_neg hc] at h
        obtain ⟨rfl, rfl⟩ := Prod.mk.inj h
        exact ⟨9, by rw [if_neg hc], by decide, rfl, rfl⟩
    subst hr1' hr2'
    have hcall := askRef.calls A0 c0 l0 x0 x1 [] r2 W1 hr1 hc0 hec
    have HCALL := Aside0.mk hcall
    have hbn : (r2 != 0) = true := bne_iff_ne.mpr hne
    clear hcall hec h hg hr1 hne
    go_enter Try.func58, Try.ntmps58
    rw [hW1] at q0 q1
    go_wp2_with fail
    rw [← hW1]
    clear hW1 q0 q1
    refine HCALL.out.mono ?_
    rintro e w1 ⟨v1, rfl, hR1, hb2⟩
    have HB3 := Aside0.mk (HB1.out.trans (hb2.mono HWZ.out))
    clear hR1 hb2
    go_wp2
    go_ret2
    exact ⟨_, rfl, Kd.R_nil _ _ _ _ _, HB3.out⟩
def idxF {α : Type} (p : α → Bool) (l : List α) : Int := match l.findIdx? p with
  | some i => (i : Int)
  | none => -1
theorem idxF_hit {α : Type} {p : α → Bool} {l : List α} {k : Nat} (hk : k < l.length) (h : p l[k] = true) (ha : ∀ j (hj : j < k), p (l[j]'(by omega)) = false) : idxF p l = (k : Int) := by
  have : l.findIdx? p = some k := List.findIdx?_eq_some_iff_getElem.2 ⟨hk, h, fun j hj => by simpa using ha j hj⟩
  unfold idxF; rw [this]
theorem idxF_miss {α : Type} {p : α → Bool} {l : List α} (ha : ∀ x ∈ l, p x = false) : idxF p l = -1 := by
  have : l.findIdx? p = none := List.findIdx?_eq_none_iff.2 ha
  unfold idxF; rw [this]
set_option maxHeartbeats 2000000 in
set_option maxRecDepth 100000 in
theorem idx_cnt (cl : Nat) (lb : Array Value) (p : S96 → Bool) (eg : ∀ args w, (callFunc cl args).run Try.prog w = .ok (.enter cl args) w)
    (A0 : Option Addr) (c0 : Nat) (l0 : List S96) (w : World) (hr0 : Kd.C k96 w A0 l0.length l0)
    (hp : ∀ (W : World) (x : S96), Below w.heap.size w W → Calls Try.prog cl (#[.agg #[.int .i64 x.f0, .int .i64 x.f1, .int .i64 x.f2]] ++ lb) W fun e w' => e = .returned (.bool (p x)) ∧ Below w.heap.size w w') :
    Calls Try.prog 148 #[.slice A0 l0.length c0, .func (.func cl) #[] lb] w fun e w' => e = .returned (.int .i64 (idxF p l0)) ∧ Below w.heap.size w w' := by
  have hu96 := Try.underlying96
  have HR0 := Aside0.mk hr0
  have HP := Aside0.mk hp
  clear hr0 hp
  go_enter Try.func148, Try.ntmps148
  go_wp2
  go_loopg [5, 8] l0.length (fun gk _ v8 W => ∃ i : Int, v8 = .int .i64 i ∧ Aside0 (0 ≤ i ∧ i + gk = l0.length) ∧ Aside0 (Below w.heap.size w W) ∧ Aside0 (∀ j (hj : j < l0.length), (j : Int) < i → p l0[j] = false))
  case atStart => exact ⟨0, rfl, ⟨Int.le_refl _, by simp⟩, ⟨Below.refl _ w⟩, ⟨fun j hj h => by omega⟩⟩
  case round =>
    obtain ⟨i, rfl, HI, HB, HA⟩ := hrel
    cases gk with
    | zero =>
      have hi : i = l0.length := by have := HI.out.2; omega
      have hd : decide (i < (l0.length : Int)) = false := decide_eq_false (by omega)
      have hr : idxF p l0 = -1 := idxF_miss (fun x hx => by
        obtain ⟨j, hj, rfl⟩ := List.mem_iff_getElem.1 hx
        exact HA.out j hj (by omega))
      have HRES := Aside0.mk hr
      clear hi hr
      go_wp2
      go_ret
      exact ⟨by rw [HRES.out]; rfl, HB.out⟩
    | succ k1 =>
      have hp0 : 0 ≤ i := HI.out.1
      have hp1 : i < (l0.length : Int) := by have := HI.out.2; omega
      have hd : decide (i < (l0.length : Int)) = true := decide_eq_true hp1
      have hC : Kd.C k96 wr A0 l0.length l0 := Kd.C_below HR0.out HB.out
      have hlen64 : (l0.length : Int) ≤ 9223372036854775807 := by have := HR0.out.2.1; omega
      obtain ⟨ad, e3, g0, g1, g2⟩ := at_T96 hC i hp0 hp1
      cases e3
      obtain ⟨x, hx⟩ : ∃ x, x = rd_T96 l0 i := ⟨_, rfl⟩
      rw [← hx] at g0 g1 g2
      have hxi : x = l0[i.toNat]'(by omega) := by rw [hx]; unfold rd_T96; rw [List.getD_eq_getElem?_getD, List.getElem?_eq_getElem (by omega)]; rfl
      have hcall := HP.out wr x HB.out
      have HX := Aside0.mk hxi
      have HPI := Aside0.mk (And.intro hp0 hp1)
      clear hx hC hxi
      cases hq : p x with
      | true =>
        rw [hq] at hcall
        have hres : idxF p l0 = i := by
          have h1 := idxF_hit (p := p) (l := l0) (k := i.toNat) (by omega) (by rw [← HX.out]; exact hq) (fun j hj => HA.out j (by omega) (by omega))
          rw [h1]; omega
        have HRES := Aside0.mk hres
        clear hres
        go_wp2_with (go_at_fn cl; refine hcall.mono ?_; rintro e w' ⟨rfl, hb'⟩)
        go_ret
        exact ⟨by rw [HRES.out]; rfl, hb'⟩
      | false =>
        rw [hq] at hcall
        have HQ := Aside0.mk hq
        go_wp2_with (go_at_fn cl; refine hcall.mono ?_; rintro e w' ⟨rfl, hb'⟩)
        go_roundg k1
        case measure => omega
        case rel =>
          refine ⟨i + 1, by first | rfl | (simp; done) | go_num, ⟨by have := HPI.out.1; omega, by have := HI.out.2; omega⟩, ⟨hb'⟩, ⟨fun j hj h => ?_⟩⟩
          by_cases e : (j : Int) = i
          · have e2 : j = i.toNat := by omega
            subst e2
            rw [← HX.out]; exact HQ.out
          · exact HA.out j hj (by omega)
set_option maxHeartbeats 1000000 in
set_option maxRecDepth 100000 in
theorem has_cnt (cl : Nat) (lb : Array Value) (p : S96 → Bool) (eg : ∀ args w, (callFunc cl args).run Try.prog w = .ok (.enter cl args) w)
    (A0 : Option Addr) (c0 : Nat) (l0 : List S96) (w : World) (hr0 : Kd.C k96 w A0 l0.length l0)
    (hp : ∀ (W : World) (x : S96), Below w.heap.size w W → Calls Try.prog cl (#[.agg #[.int .i64 x.f0, .int .i64 x.f1, .int .i64 x.f2]] ++ lb) W fun e w' => e = .returned (.bool (p x)) ∧ Below w.heap.size w w') :
    Calls Try.prog 120 #[.slice A0 l0.length c0, .func (.func cl) #[] lb] w fun e w' => e = .returned (.bool (l0.any p)) ∧ Below w.heap.size w w' := by
  have hidx := idx_cnt cl lb p eg A0 c0 l0 w hr0 hp
  have hres : decide (0 ≤ idxF p l0) = l0.any p := by
    unfold idxF
    cases h : l0.findIdx? p with
    | some i =>
      have := List.findIdx?_eq_some_iff_getElem.1 h
      obtain ⟨h1, h2, _⟩ := this
      rw [List.any_eq_true.2 ⟨_, List.getElem_mem h1, h2⟩]
      exact decide_eq_true (by show (0 : Int) ≤ (i : Int); omega)
    | none =>
      have := List.findIdx?_eq_none_iff.1 h
      rw [List.any_eq_false.2 (fun x hx => by rw [this x hx]; decide)]
      rfl
  have HI := Aside0.mk hidx
  have HRES := Aside0.mk hres
  clear hidx hres hp hr0
  go_enter Try.func120, Try.ntmps120
  go_wp2_with fail
  refine HI.out.mono ?_
  rintro e w1 ⟨rfl, hb⟩
  have HB := Aside0.mk hb
  clear hb
  go_wp2
  go_ret
  exact ⟨by rw [← HRES.out]; rfl, HB.out⟩
def askCnt.f (l0 : List S94) (x0 x1 : Int) : Option (List S96 × Int) := some (if Flag.checkM (l0.map toM) = 0 then (if x0 < 0 ∨ x1 < 1 then ([], 4) else (countsL (sortRefL (refsG l0)), 0)) else ([], 9))
set_option maxHeartbeats 8000000 in
set_option maxRecDepth 100000 in
theorem askCnt.calls (A0 : Option Addr) (c0 : Nat) (l0 : List (S94)) (x0 x1 : Int) (r1 : List (S96)) (r2 : Int) (w : World) (hr0 : Kd.C k94 w A0 l0.length l0) (hc0 : l0.length ≤ c0) (h : askCnt.f l0 x0 x1 = some (r1, r2)) :
    Calls Try.prog 119 #[.slice A0 l0.length c0, .agg #[.int .i64 x0, .int .i64 x1], .func (.func 62) #[] #[]] w fun e w' => ∃ v0_ : Value, e = .returned (.tuple #[v0_, .int .i64 r2]) ∧ Kd.R k96 96 w' w.heap.size (fun _ => True) v0_ r1 ∧ Below w.heap.size w w' := by
  have hu40 := Try.underlying40
  unfold askCnt.f at h
  have h := Option.some.inj h
  obtain ⟨W1, hW1⟩ : ∃ W, W = w.alloc (.cells #[.int .i64 x0, .int .i64 x1] 40) := ⟨_, rfl⟩
  have hwz : w.heap.size ≤ W1.heap.size := by rw [hW1]; simp
  have hb1 : Below w.heap.size w W1 := by rw [hW1]; exact (Below.refl _ _).alloc (Nat.le_refl _) _
  have hx1 : W1.heap[w.heap.size]? = some (.cells #[.int .i64 x0, .int .i64 x1] 40 (0, 0)) := by rw [hW1]; exact blk_new w _
  have hlt := blk_lt hx1
  have hr1 : Kd.C k94 W1 A0 l0.length l0 := by rw [hW1]; exact Kd.C_alloc hr0 _
  have HX1 := Aside0.mk hx1
  have HB1 := Aside0.mk hb1
  have HLT := Aside0.mk hlt
  have HWZ := Aside0.mk hwz
  clear hx1 hb1 hr0 hlt hwz
  by_cases hc : Flag.checkM (l0.map toM) = 0
  · rw [if_pos hc] at h
    have hcall := refs_Counts.calls A0 c0 l0 (countsL (sortRefL (refsG l0))) 0 W1 hr1 hc0 (by unfold refs_Counts.f; rw [if_pos hc])
    have HCALL := Aside0.mk hcall
    obtain ⟨ls, hls⟩ : ∃ ls, ls = countsL (sortRefL (refsG l0)) := ⟨_, rfl⟩
    rw [← hls] at h HCALL
    clear hcall hr1 hc hls
    go_enter Try.func119, Try.ntmps119
    go_wp2_with fail
    rw [← hW1]
    clear hW1
    refine HCALL.out.mono ?_
    rintro e w1 ⟨v1, rfl, hR1, hb2⟩
    have hb3 : Below w.heap.size w w1 := HB1.out.trans (hb2.mono HWZ.out)
    have hx2 : w1.heap[w.heap.size]? = some (.cells #[.int .i64 x0, .int .i64 x1] 40 (0, 0)) := by rw [hb2.block _ HLT.out]; exact HX1.out
    have HR1 := Aside0.mk (Kd.R_lower hR1 HWZ.out)
    have HB3 := Aside0.mk hb3
    have p0 : w1.cell? ⟨w.heap.size, 0, none⟩ = some (.int .i64 x0) := (blk_cell hx2 0).trans rfl
    have p1 : w1.cell? ⟨w.heap.size, 1, none⟩ = some (.int .i64 x1) := (blk_cell hx2 1).trans rfl
    clear hR1 hb2 hb3 hx2
    by_cases hx0 : x0 < 0
    · have hd0 : decide (x0 < 0) = true := decide_eq_true hx0
      rw [if_pos (Or.inl hx0)] at h
      obtain ⟨rfl, rfl⟩ := Prod.mk.inj h
      clear h
      go_wp2
      go_ret2
      exact ⟨_, rfl, Kd.R_nil _ _ _ _ _, HB3.out⟩
    · have hd0 : decide (x0 < 0) = false := decide_eq_false hx0
      by_cases hx1 : x1 < 1
      · have hd1 : decide (x1 < 1) = true := decide_eq_true hx1
        rw [if_pos (Or.inr hx1)] at h
        obtain ⟨rfl, rfl⟩ := Prod.mk.inj h
        clear h
        go_wp2
        go_ret2
        exact ⟨_, rfl, Kd.R_nil _ _ _ _ _, HB3.out⟩
      · have hd1 : decide (x1 < 1) = false := decide_eq_false hx1
        rw [if_neg (fun h => h.elim hx0 hx1)] at h
        obtain ⟨rfl, rfl⟩ := Prod.mk.inj h
        clear h
        go_wp2
        go_ret2
        exact ⟨_, rfl, HR1.out, HB3.out⟩
  · rw [if_neg hc] at h
    obtain ⟨rfl, rfl⟩ := Prod.mk.inj h
    have hcall := refs_Counts.calls A0 c0 l0 [] 9 W1 hr1 hc0 (by unfold refs_Counts.f; rw [if_neg hc])
    have HCALL := Aside0.mk hcall
    clear hcall hr1 hc h
    go_enter Try.func119, Try.ntmps119
    go_wp2_with fail
    rw [← hW1]
    clear hW1
    refine HCALL.out.mono ?_
    rintro e w1 ⟨v1, rfl, hR1, hb2⟩
    have HB3 := Aside0.mk (HB1.out.trans (hb2.mono HWZ.out))
    clear hR1 hb2
    go_wp2
    go_ret2
    exact ⟨_, rfl, Kd.R_nil _ _ _ _ _, HB3.out⟩
end Go.Proofs.Ytkkfkdncddbaeaa.Fn
