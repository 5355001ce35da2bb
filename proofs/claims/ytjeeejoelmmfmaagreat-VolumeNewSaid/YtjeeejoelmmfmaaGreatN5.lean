/- Part 5 of the walk: printed by programs of this session (by way of the kit's print) or told by hand. -/
import Derived.Test.YtjeeejoelmmfmaaGreatN4
import Derived.Shelf.SlSortCmp.WholeK
import Derived.Shelf.SlSortCmp.NoneTotal
import Derived.Laws.CopyRow
import Derived.Lib.AppendZerosOnto
import Derived.Laws.Externs
import Derived.Lib.Overlaps
import Derived.Shelf.Spec.SlicesInsert
import Derived.Shelf.SlicesQ.IndexFunc
namespace Go.Proofs.YtjeeejoelmmfmaaGreat.Fn
open Go.RowKit Go.Proofs.YtjeeejoelmmfmaaGreatW.PrintWords Go.Proofs.YtjeeejoelmmfmaaGreatW.PrintLast Go.Proofs.YtjeeejoelmmfmaaGreatW.PrintMore
attribute [local go_sem] fw eu fU fZ dY dX fu fe
set_option linter.unusedVariables false
set_option linter.unusedSimpArgs false
structure Flat {α : Type} (d : Kd α) (enc : α → List Value) : Prop where
  len : ∀ x, (enc x).length = d.sz
  pos : 0 < d.sz
  one : ∀ x, ∀ v ∈ enc x, v.oneCell' = true
  openM : ∀ {w : World} {base : Nat} {ok : Nat → Prop} {x : α} {cs : List Value}, d.M w base ok x cs → cs = enc x
  mkM : ∀ (w : World) (base : Nat) (ok : Nat → Prop) (x : α), d.M w base ok x (enc x)
def Lies {α : Type} (enc : α → List Value) (k e : Nat) (w : World) (g cap : Nat) (xs : List α) : Prop :=
  ∃ cur : Array Value, w.heap[g]? = some (.cells cur e (0, 0)) ∧ cur.size = cap * k ∧ xs.length ≤ cap ∧ cap ≤ maxLen ∧
    ∀ j x, xs[j]? = some x → ∀ i v, (enc x)[i]? = some v → cur[j * k + i]? = some v
section
variable {α : Type} {d : Kd α} {enc : α → List Value} {e : Nat} {w : World} {base : Nat} {ok : Nat → Prop} {v : Value} {xs : List α}
theorem iZ (F : Flat d enc) (h : d.R e w base ok v xs) : (v = .slice none 0 0 ∧ xs = []) ∨ ∃ g cap, v = .slice (some ⟨g, 0, none⟩) xs.length cap ∧ base ≤ g ∧ ok g ∧ Lies enc d.sz e w g cap xs := by
  obtain ⟨hok, inner, ⟨hlen, hown⟩, hr⟩ := h
  rcases hown with ⟨h1, h2⟩ | ⟨g, cap, cur, h1, hb, hh, h2, h3, h4, h5⟩
  · exact .inl ⟨h1, List.eq_nil_of_length_eq_zero h2⟩
  · subst h1
    refine .inr ⟨g, cap, rfl, hb, hok g rfl, cur, hh, h4, h2, h3, fun j x hj i u hu => ?_⟩
    have h6 := F.openM (hr.2 j x hj)
    have hi : i < d.sz := by
      have := (List.getElem?_eq_some_iff.1 hu).1
      rw [F.len] at this
      exact this
    rw [← h6, List.getElem?_take_of_lt hi, List.getElem?_drop, ← h5] at hu
    have h7 := (List.getElem?_eq_some_iff.1 hu).1
    rw [List.length_take] at h7
    rw [List.getElem?_take_of_lt (by omega), Array.getElem?_toList] at hu
    exact hu
theorem gF (F : Flat d enc) {g cap : Nat} (hb : base ≤ g) (hg : ok g) (h : Lies enc d.sz e w g cap xs) : d.R e w base ok (.slice (some ⟨g, 0, none⟩) xs.length cap) xs := by
  obtain ⟨cur, hh, h1, h2, h3, h4⟩ := h
  have hle : xs.length * d.sz ≤ cur.size := by rw [h1]; exact Nat.mul_le_mul_right _ h2
  refine ⟨fun k hk => ?_, cur.toList.take (xs.length * d.sz), ⟨?_, .inr ⟨g, cap, cur, rfl, hb, hh, h2, h3, h1, rfl⟩⟩, ?_, fun j p hj => ?_⟩
  · have : g = k := by simpa [Value.ownBlock] using hk
    rw [← this]; exact hg
  · rw [List.length_take, Array.length_toList]; exact Nat.min_eq_left hle
  · rw [List.length_take, Array.length_toList]; exact Nat.min_eq_left hle
  · have hjl : j < xs.length := (List.getElem?_eq_some_iff.1 hj).1
    have he : ((cur.toList.take (xs.length * d.sz)).drop (j * d.sz)).take d.sz = enc p := by
      apply List.ext_getElem?
      intro i
      by_cases hi : i < d.sz
      · have hm : j * d.sz + i < xs.length * d.sz := by
          have : (j + 1) * d.sz ≤ xs.length * d.sz := Nat.mul_le_mul_right _ hjl
          rw [Nat.add_mul, Nat.one_mul] at this
          omega
        rw [List.getElem?_take_of_lt hi, List.getElem?_drop, List.getElem?_take_of_lt hm, Array.getElem?_toList]
        have hl : i < (enc p).length := by rw [F.len]; exact hi
        rw [List.getElem?_eq_getElem hl]
        exact h4 j p hj i _ (List.getElem?_eq_getElem hl)
      · rw [List.getElem?_eq_none (by rw [List.length_take]; omega), List.getElem?_eq_none (by rw [F.len]; omega)]
    rw [he]
    exact F.mkM _ _ _ _
theorem je (d : Kd α) (e : Nat) (w : World) (base : Nat) (ok : Nat → Prop) (hb : base ≤ w.heap.size) (hok : ok w.heap.size) : d.R e (w.alloc (.cells #[] e)) base ok (.slice (some ⟨w.heap.size, 0, none⟩) 0 0) [] := by
  refine ⟨fun k hk => ?_, [], ⟨by simp, .inr ⟨w.heap.size, 0, #[], rfl, hb, bg w _, Nat.le_refl _, by unfold maxLen; omega, by simp, by simp⟩⟩, Reps.none _ _⟩
  have : w.heap.size = k := by simpa [Value.ownBlock] using hk
  rw [← this]; exact hok
theorem Lies.block {k g cap : Nat} (h : Lies enc k e w g cap xs) : g < w.heap.size := by
  obtain ⟨cur, hh, _⟩ := h
  exact aA hh
theorem Lies.far {k g cap : Nat} {w1 : World} (h : Lies enc k e w g cap xs) (hk : w1.heap[g]? = w.heap[g]?) : Lies enc k e w1 g cap xs := by
  obtain ⟨cur, hh, h2⟩ := h
  exact ⟨cur, hk.trans hh, h2⟩
open Go.Sort Go.Proofs in
theorem Lies.holds [Inhabited α] {k g cap : Nat} (hk : ∀ x, (enc x).length = k) (h0 : 0 < k) (h : Lies enc k e w g cap xs) : HoldsK enc k w g 0 xs.toArray := by
  obtain ⟨cur, hh, h1, h2, h3, h4⟩ := h
  intro j hj
  rw [size_flatK] at hj
  have hjk : j / k < xs.length := by
    rw [Nat.div_lt_iff_lt_mul h0]
    simpa using hj
  have hm : j % k < k := Nat.mod_lt _ h0
  have e1 : xs[j / k]? = some xs[j / k] := List.getElem?_eq_getElem hjk
  have hl : j % k < (enc xs[j / k]).length := by rw [hk]; exact hm
  have h5 := h4 (j / k) _ e1 (j % k) _ (List.getElem?_eq_getElem hl)
  have e2 : j / k * k + j % k = j := Nat.div_add_mod' j k
  rw [e2] at h5
  refine ⟨?_, ?_⟩
  · rw [Nat.zero_add, ae hh, h5, get_flatK enc k _ j hj]
    have e3 : xs.toArray[j / k]! = xs[j / k] := by rw [getElem!_pos xs.toArray (j / k) (by simpa using hjk)]; simp
    rw [e3, getElem!_pos (enc xs[j / k]) (j % k) hl]
    rfl
  · exact ai hh _
open Go.Sort Go.Proofs in
theorem iU [Inhabited α] (k g n : Nat) (d' : Array α) (os : Array Obj) (i : Nat) (hi : i < w.heap.size) : (sortWorldK enc k w g 0 n d' os).heap[i]? = if g = i then (w.heap[i]?).map (onCells (putCells id 0 (flatK enc k d'))) else w.heap[i]? := by
  unfold sortWorldK grow putRowK putRow mapBlock Sort.ahead
  dsimp only
  rw [Array.getElem?_append_left (by rw [Array.size_modify]; exact hi), Array.getElem?_modify]
open Go.Sort Go.Proofs in
theorem Lies.sorted [Inhabited α] {k g cap n : Nat} {d' : Array α} {os : Array Obj} (hk : ∀ x, (enc x).length = k) (h0 : 0 < k) (h : Lies enc k e w g cap xs) (hd : d'.size = xs.length) : Lies enc k e (sortWorldK enc k w g 0 n d' os) g cap d'.toList := by
  have hg := h.block
  obtain ⟨cur, hh, h1, h2, h3, h4⟩ := h
  refine ⟨putCells id 0 (flatK enc k d') cur, ?_, ?_, by simpa [hd] using h2, h3, fun j x hj i u hu => ?_⟩
  · rw [iU k g n d' os g hg, if_pos rfl, hh]
    rfl
  · unfold putCells
    rw [Array.size_mapIdx, h1]
  · have hjl : j < d'.size := by
      have := (List.getElem?_eq_some_iff.1 hj).1
      simpa using this
    have hi : i < k := by
      have := (List.getElem?_eq_some_iff.1 hu).1
      rw [hk] at this
      exact this
    have hlt : j * k + i < d'.size * k := by
      have : (j + 1) * k ≤ d'.size * k := Nat.mul_le_mul_right _ hjl
      rw [Nat.add_mul, Nat.one_mul] at this
      omega
    have hc : j * k + i < cur.size := by
      rw [h1]
      have : d'.size * k ≤ cap * k := Nat.mul_le_mul_right _ (by omega)
      omega
    have e1 : (j * k + i) / k = j := by rw [Nat.mul_comm, Nat.mul_add_div h0, Nat.div_eq_of_lt hi, Nat.add_zero]
    have e2 : (j * k + i) % k = i := by rw [Nat.mul_comm, Nat.mul_add_mod, Nat.mod_eq_of_lt hi]
    unfold putCells
    rw [Array.getElem?_mapIdx, Array.getElem?_eq_getElem hc, Option.map_some, if_pos ⟨Nat.zero_le _, by rw [size_flatK]; omega⟩, Nat.sub_zero, get_flatK enc k d' _ hlt, e1, e2]
    have e3 : d'[j]! = x := by
      rw [getElem!_pos d' j hjl]
      rw [Array.getElem?_toList, Array.getElem?_eq_getElem hjl] at hj
      exact Option.some.inj hj
    have hil : i < (enc x).length := by rw [hk]; exact hi
    rw [e3, getElem!_pos (enc x) i hil]
    rw [List.getElem?_eq_getElem hil] at hu
    exact hu
open Go.Sort Go.Proofs in
theorem kN [Inhabited α] {k g n : Nat} {d' : Array α} {os : Array Obj} {w0 : World} (h : Go.RowKit.Below base w0 w) (hg : base ≤ g) (hb : base ≤ w.heap.size) : Go.RowKit.Below base w0 (sortWorldK enc k w g 0 n d' os) := by
  refine ⟨h.os, h.tape, h.output, Nat.le_trans h.size ?_, fun i hi => ?_⟩
  · exact size_sortWorldK_c enc k w g 0 n d' os
  · rw [iU k g n d' os i (by omega), if_neg (by omega)]
    exact h.block i hi
open Go.Sort Go.Proofs in
theorem pM [Inhabited α] {lt : α → α → Bool} {xs : List α} {d' : Array α} (hp : PermIn 0 xs.toArray.size xs.toArray d') (hs : SortedIn lt 0 xs.toArray.size d') : d'.size = xs.length ∧ d'.toList.Perm xs ∧ d'.toList.Pairwise fun a b => lt b a = false := by
  obtain ⟨h1, _, h2⟩ := hp
  have hsz : d'.size = xs.length := by simpa using h1
  have e1 : d'.extract 0 xs.toArray.size = d' := by rw [← h1]; exact Array.extract_size
  have e2 : xs.toArray.extract 0 xs.toArray.size = xs.toArray := Array.extract_size
  rw [e1, e2] at h2
  refine ⟨hsz, by simpa using h2, ?_⟩
  rw [List.pairwise_iff_getElem]
  intro i j hi hj hij
  have := hs i j (Nat.zero_le _) hij (by rw [← h1]; simpa using hj)
  rw [getElem!_pos d' j (by simpa using hj), getElem!_pos d' i (by simpa using hi)] at this
  simpa using this
end
def qj : Go.Shelf.Ren := ⟨fun | 6 => 152 | 15 => 157 | 14 => 169 | 28 => 179 | 29 => 180 | 20 => 191 | 21 => 192 | 22 => 193 | 23 => 194 | 24 => 195 | 25 => 196 | 26 => 197 | 27 => 198 | 46 => 205 | 47 => 200 | 48 => 201 | 49 => 206 | 50 => 207 | 57 => 210 | n => n, fun | 22 => 196 | 24 => 199 | 25 => 221 | 3 => 3 | 39 => 225 | 0 => 0 | 53 => 247 | 55 => 249 | 4 => 4 | 46 => 241 | 45 => 240 | 50 => 229 | 5 => 5 | 9 => 9 | 66 => 262 | 70 => 266 | 76 => 271 | 77 => 272 | n => n, fun | n => n⟩
theorem uS : Go.Proofs.SlLaysF0.n6 Tryz.prog qj := {
  mixed := by kernel_rfl,
  f6 := ⟨Tryz.f152.name, by decide, Tryz.func152.trans (congrArg some (by kernel_rfl))⟩,
  f14 := ⟨Tryz.f169.name, by decide, Tryz.func169.trans (congrArg some (by kernel_rfl))⟩,
  f15 := Tryz.func157.trans (congrArg some (by kernel_rfl)),
  f20 := ⟨Tryz.f191.name, by decide, Tryz.func191.trans (congrArg some (by kernel_rfl))⟩,
  f21 := ⟨Tryz.f192.name, by decide, Tryz.func192.trans (congrArg some (by kernel_rfl))⟩,
  f22 := ⟨Tryz.f193.name, by decide, Tryz.func193.trans (congrArg some (by kernel_rfl))⟩,
  f23 := ⟨Tryz.f194.name, by decide, Tryz.func194.trans (congrArg some (by kernel_rfl))⟩,
  f24 := ⟨Tryz.f195.name, by decide, Tryz.func195.trans (congrArg some (by kernel_rfl))⟩,
  f25 := ⟨Tryz.f196.name, by decide, Tryz.func196.trans (congrArg some (by kernel_rfl))⟩,
  f26 := ⟨Tryz.f197.name, by decide, Tryz.func197.trans (congrArg some (by kernel_rfl))⟩,
  f27 := ⟨Tryz.f198.name, by decide, Tryz.func198.trans (congrArg some (by kernel_rfl))⟩,
  f28 := Tryz.func179.trans (congrArg some (by kernel_rfl)),
  f29 := Tryz.func180.trans (congrArg some (by kernel_rfl)),
  f46 := ⟨Tryz.f205.name, by decide, Tryz.func205.trans (congrArg some (by kernel_rfl))⟩,
  f47 := Tryz.func200.trans (congrArg some (by kernel_rfl)),
  f48 := Tryz.func201.trans (congrArg some (by kernel_rfl)),
  f49 := ⟨Tryz.f206.name, by decide, Tryz.func206.trans (congrArg some (by kernel_rfl))⟩,
  f50 := ⟨Tryz.f207.name, by decide, Tryz.func207.trans (congrArg some (by kernel_rfl))⟩,
  f57 := ⟨Tryz.f210.name, by decide, Tryz.func210.trans (congrArg some (by kernel_rfl))⟩,
  t0 := Tryz.underlying0,
  a0 := Tryz.isAgg0,
  z0 := Tryz.sizeOf0,
  v0 := Tryz.zeroValue0,
  t3 := Tryz.underlying3,
  a3 := Tryz.isAgg3,
  z3 := Tryz.sizeOf3,
  v3 := Tryz.zeroValue3,
  t4 := Tryz.underlying4,
  a4 := Tryz.isAgg4,
  z4 := Tryz.sizeOf4,
  v4 := Tryz.zeroValue4,
  t5 := Tryz.underlying5,
  a5 := Tryz.isAgg5,
  z5 := Tryz.sizeOf5,
  v5 := Tryz.zeroValue5,
  t9 := Tryz.underlying9,
  a9 := Tryz.isAgg9,
  z9 := Tryz.sizeOf9,
  v9 := Tryz.zeroValue9,
  t22 := Tryz.underlying196,
  a22 := Tryz.isAgg196,
  z22 := Tryz.sizeOf196,
  v22 := Tryz.zeroValue196,
  t25 := Tryz.underlying221,
  a25 := Tryz.isAgg221,
  z25 := Tryz.sizeOf221,
  v25 := Tryz.zeroValue221,
  t39 := Tryz.underlying225,
  a39 := Tryz.isAgg225,
  z39 := Tryz.sizeOf225,
  v39 := Tryz.zeroValue225,
  t45 := Tryz.underlying240,
  a45 := Tryz.isAgg240,
  z45 := Tryz.sizeOf240,
  v45 := Tryz.zeroValue240,
  t46 := Tryz.underlying241,
  a46 := Tryz.isAgg241,
  z46 := Tryz.sizeOf241,
  v46 := Tryz.zeroValue241,
  t50 := Tryz.underlying229,
  a50 := Tryz.isAgg229,
  z50 := Tryz.sizeOf229,
  v50 := Tryz.zeroValue229,
  t53 := Tryz.underlying247,
  a53 := Tryz.isAgg247,
  z53 := Tryz.sizeOf247,
  v53 := Tryz.zeroValue247,
  t55 := Tryz.underlying249,
  a55 := Tryz.isAgg249,
  z55 := Tryz.sizeOf249,
  v55 := Tryz.zeroValue249,
  t66 := Tryz.underlying262,
  a66 := Tryz.isAgg262,
  z66 := Tryz.sizeOf262,
  v66 := Tryz.zeroValue262,
  t70 := Tryz.underlying266,
  a70 := Tryz.isAgg266,
  z70 := Tryz.sizeOf266,
  v70 := Tryz.zeroValue266,
  t76 := Tryz.underlying271,
  a76 := Tryz.isAgg271,
  z76 := Tryz.sizeOf271,
  v76 := Tryz.zeroValue271,
  t77 := Tryz.underlying272,
  a77 := Tryz.isAgg272,
  z77 := Tryz.sizeOf272,
  v77 := Tryz.zeroValue272 }
instance inhabRef : Inhabited S199 := ⟨z199⟩
def pI (x : S199) : List Value := [.int .i64 x.f0, .int .i64 x.f1, .int .i64 x.f2, .int .i64 x.f3]
theorem qA : Flat k199 pI :=
  ⟨fun _ => rfl, by decide, fun x v hv => by
    simp only [pI, List.mem_cons, List.not_mem_nil, or_false] at hv
    rcases hv with rfl | rfl | rfl | rfl <;> rfl, fun h => sN h, fun w base ok x => rE w base ok x⟩
def cmp3 (a b : Int) : Int := if a < b then -1 else if b < a then 1 else 0
theorem vP (a b : Int) : cmp_Compare_int.f a b = some (cmp3 a b) := by
  unfold cmp_Compare_int.f cmp_isNaN_int.f
  simp only [bne_self_eq_false, Option.bind_some, Bool.false_eq_true, if_false]
  unfold cmp3
  split
  · rfl
  · split
    · rfl
    · rfl
def kS (x y : S199) : Int := if cmp3 x.f0 y.f0 ≠ 0 then cmp3 x.f0 y.f0 else if cmp3 x.f2 y.f2 ≠ 0 then cmp3 x.f2 y.f2 else cmp3 x.f3 y.f3
theorem vO (x y : S199) : kS x y < 0 ↔ Flag.ltR (toR x) (toR y) := by
  unfold kS cmp3 Flag.ltR toR
  dsimp only
  repeat' split
  all_goals omega
open Go.Sort Go.Proofs in
theorem jX (x y : S199) : ltOf kS x y = decide (Flag.ltR (toR x) (toR y)) := by
  unfold ltOf
  rw [decide_eq_decide]
  exact vO x y
open Go.Sort Go.Proofs in
theorem sw : SWO (ltOf kS) where
  irrefl x := by rw [jX]; exact decide_eq_false (by unfold Flag.ltR; omega)
  trans x y z h1 h2 := by
    rw [jX] at *
    have h1 := of_decide_eq_true h1
    have h2 := of_decide_eq_true h2
    exact decide_eq_true (by unfold Flag.ltR at *; omega)
  ntrans x y z h1 h2 := by
    rw [jX] at *
    have h1 := of_decide_eq_false h1
    have h2 := of_decide_eq_false h2
    exact decide_eq_false (by unfold Flag.ltR at *; omega)
theorem or_f (a b c : Int) : df.f 4 [a, b, c] = some (if a ≠ 0 then a else if b ≠ 0 then b else c) := by
  show df.l0 4 0 [a, b, c] 3 0 = _
  have e1 : wrap64 ((0 : Int) + 1) = 1 := by unfold wrap64; omega
  have e2 : wrap64 ((1 : Int) + 1) = 2 := by unfold wrap64; omega
  have e3 : wrap64 ((2 : Int) + 1) = 3 := by unfold wrap64; omega
  have l3 : (([a, b, c] : List Int).length : Int) = 3 := rfl
  rw [df.l0, if_pos (by decide), if_pos (by decide), l3, if_pos (by decide), show rd [a, b, c] 0 = a from rfl, e1]
  by_cases ha : a = 0
  · rw [if_pos ha, if_neg (fun h => h ha), df.l0, if_pos (by decide), if_pos (by decide), l3, if_pos (by decide), show rd [a, b, c] 1 = b from rfl, e2]
    by_cases hb : b = 0
    · rw [if_pos hb, if_neg (fun h => h hb), df.l0, if_pos (by decide), if_pos (by decide), l3, if_pos (by decide), show rd [a, b, c] 2 = c from rfl, e3]
      by_cases hc : c = 0
      · rw [if_pos hc, df.l0, if_neg (by decide), hc]
      · rw [if_neg hc]
    · rw [if_neg hb, if_pos hb]
  · rw [if_neg ha, if_pos ha]
open Go.Proofs Go.Sort in
def Gw (w W : World) : Prop := ∃ q os', W = grow (w.drewN q) os'
open Go.Proofs Go.Sort in
theorem Gw.alloc {w W : World} (h : Gw w W) (o : Obj) : Gw w (W.alloc o) := by
  obtain ⟨q, os, rfl⟩ := h
  exact ⟨q, _, by rw [alloc_eq_grow, grow_grow]⟩
open Go.Proofs Go.Sort in
theorem Gw.drewN {w W : World} (h : Gw w W) (n : Nat) : Gw w (W.drewN n) := by
  obtain ⟨q, os, rfl⟩ := h
  exact ⟨q + n, os, by show grow ((w.drewN q).drewN n) os = _; rw [World.drewN_drewN]⟩
open Go.Proofs Go.Sort in
theorem Gw.refl (w : World) : Gw w w := ⟨0, #[], by rw [grow_empty]; rfl⟩
def or_T1 : Bool × List (List Nat × List Nat) := (true, [([], []), ([0], [0]), ([], []), ([2], [2]), ([1, 3], [1, 3]), ([], []), ([5], [5]), ([], []), ([7], [7]), ([6, 8, 4], [6, 8]), ([], []), ([10], [10]), ([], []), ([12], [12]), ([11, 13, 9], [11, 13]), ([4, 9, 14], [4, 9, 14]), ([15, 14], [15]), ([16, 16, 0, 1, 2, 3, 4, 5, 6, 7, 8, 9, 10, 11, 12, 13, 14, 15, 16], [16])])
def or_B1 : List Nat := [0, 1, 0, 4, 15, 0, 32, 0, 128, 511, 0, 1024, 0, 4096, 16383, 32767, 65535, 131071]
theorem Ae : rtab .any (opsOf Tryz.f153 1) = or_T1 := by kernel_rfl
theorem wI : cB or_T1.2 or_B1 = true := by kernel_rfl
set_option maxHeartbeats 8000000 in
set_option maxRecDepth 100000 in
open Go.Proofs Go.Sort in
theorem zV (x y : S199) (W : World) : Calls Tryz.prog 153 #[.agg #[.int .i64 x.f0, .int .i64 x.f1, .int .i64 x.f2, .int .i64 x.f3], .agg #[.int .i64 y.f0, .int .i64 y.f1, .int .i64 y.f2, .int .i64 y.f3]] W fun e w' => e = .returned (.int .i64 (kS x y)) ∧ ∃ q os', w' = grow (W.drewN q) os' := by
  have hu199 := Tryz.underlying199
  obtain ⟨t1, h1⟩ : ∃ t, t = cmp3 x.f0 y.f0 := ⟨_, rfl⟩
  obtain ⟨t2, h2⟩ : ∃ t, t = cmp3 x.f2 y.f2 := ⟨_, rfl⟩
  obtain ⟨t3, h3⟩ : ∃ t, t = cmp3 x.f3 y.f3 := ⟨_, rfl⟩
  obtain ⟨r, hr⟩ : ∃ r, r = kS x y := ⟨_, rfl⟩
  have A1 := aa.mk (show cmp_Compare_int.f x.f0 y.f0 = some t1 by rw [h1]; exact vP _ _)
  have A2 := aa.mk (show cmp_Compare_int.f x.f2 y.f2 = some t2 by rw [h2]; exact vP _ _)
  have A3 := aa.mk (show cmp_Compare_int.f x.f3 y.f3 = some t3 by rw [h3]; exact vP _ _)
  have A4 := aa.mk (show df.f 4 [t1, t2, t3] = some r by rw [or_f, hr, h1, h2, h3]; rfl)
  rw [← hr]
  clear h1 h2 h3 hr
  obtain ⟨W0, hW0⟩ : ∃ X, X = (W.alloc (.cells #[.int .i64 x.f0, .int .i64 x.f1, .int .i64 x.f2, .int .i64 x.f3] 199)).alloc (.cells #[.int .i64 y.f0, .int .i64 y.f1, .int .i64 y.f2, .int .i64 y.f3] 199) := ⟨_, rfl⟩
  have G0 := aa.mk (show Gw W W0 by rw [hW0]; exact ((Gw.refl W).alloc _).alloc _)
  have B1 := aa.mk (show W0.heap[W.heap.size]? = some (.cells #[.int .i64 x.f0, .int .i64 x.f1, .int .i64 x.f2, .int .i64 x.f3] 199 (0, 0)) by rw [hW0]; exact aj (bg W _) _)
  have B2 := aa.mk (show W0.heap[W.heap.size + 1]? = some (.cells #[.int .i64 y.f0, .int .i64 y.f1, .int .i64 y.f2, .int .i64 y.f3] 199 (0, 0)) by
    have h1 := bg (W.alloc (.cells #[.int .i64 x.f0, .int .i64 x.f1, .int .i64 x.f2, .int .i64 x.f3] 199)) (.cells #[.int .i64 y.f0, .int .i64 y.f1, .int .i64 y.f2, .int .i64 y.f3] 199)
    rw [hW0]; simpa using h1)
  have HW0 := aa.mk hW0
  clear hW0
  go_enter Tryz.func153, Tryz.ntmps153
  go_wp2_with fail
  rw [← HW0.out]
  refine dG (n := 18) (S := fun w' => w'.cell? ⟨W.heap.size, 0, none⟩ = some (.int .i64 x.f0) ∧ w'.cell? ⟨W.heap.size, 2, none⟩ = some (.int .i64 x.f2) ∧ w'.cell? ⟨W.heap.size, 3, none⟩ = some (.int .i64 x.f3) ∧ w'.cell? ⟨W.heap.size + 1, 0, none⟩ = some (.int .i64 y.f0) ∧ w'.cell? ⟨W.heap.size + 1, 2, none⟩ = some (.int .i64 y.f2) ∧ w'.cell? ⟨W.heap.size + 1, 3, none⟩ = some (.int .i64 y.f3)) (ds := []) (lb 18 0) (by kernel_rfl) rfl (by kernel_rfl) ⟨(ae B1.out 0).trans rfl, (ae B1.out 2).trans rfl, (ae B1.out 3).trans rfl, (ae B2.out 0).trans rfl, (ae B2.out 2).trans rfl, (ae B2.out 3).trans rfl⟩ (fun hHeld => ?_)
  refine bG Ae wI (fun HT_ HW_ => ?_)
  have G1 := aa.mk (show Gw W W0.drew from G0.out.drewN 1)
  have B3 := aa.mk (show W0.drew.heap[W.heap.size]? = some (.cells #[.int .i64 x.f0, .int .i64 x.f1, .int .i64 x.f2, .int .i64 x.f3] 199 (0, 0)) from B1.out)
  have B4 := aa.mk (show W0.drew.heap[W.heap.size + 1]? = some (.cells #[.int .i64 y.f0, .int .i64 y.f1, .int .i64 y.f2, .int .i64 y.f3] 199 (0, 0)) from B2.out)
  generalize W0.drew = W1 at hHeld G1 B3 B4 ⊢
  refine pu_ 0 5 18 1 ?_
  refine pu_ 2 7 18 5 ?_
  refine pu_ 5 10 18 37 ?_
  refine pu_ 7 12 18 165 ?_
  refine pu_ 10 15 18 1189 ?_
  refine pu_ 12 17 18 5285 ?_
  refine tk_ 1 6 18 5287 ?_
  refine tk_ 3 8 18 5295 ?_
  refine tk_ 6 11 18 5359 ?_
  refine tk_ 8 13 18 5615 ?_
  refine tk_ 11 16 18 7663 ?_
  refine tk_ 13 18 18 15855 ?_
  refine on_ 4 9 18 15871 (fun K hK => ?_)
  refine dO Tryz.func132 (by kernel_rfl) rfl #[.int .i64 x.f0, .int .i64 y.f0] (by rfl) rfl rfl (by (try simp only [List.map_toArray, List.map_cons, List.map_nil]); first | done | rfl) ?_
  with_reducible refine (cmp_Compare_int.calls x.f0 y.f0 t1 _ A1.out).mono ?_
  rintro e w' ⟨rfl, ⟨nd1, rfl⟩⟩
  refine ⟨_, rfl, ?_⟩
  refine hK.out _ _ ⟨(ae B3.out 0).trans rfl, (ae B3.out 2).trans rfl, (ae B3.out 3).trans rfl, (ae B4.out 0).trans rfl, (ae B4.out 2).trans rfl, (ae B4.out 3).trans rfl⟩ (fun hHeld => ?_)
  clear hK K
  refine nm_ 9 ?_
  refine on_ 9 14 18 16383 (fun K hK => ?_)
  refine dO Tryz.func132 (by kernel_rfl) rfl #[.int .i64 x.f2, .int .i64 y.f2] (by rfl) rfl rfl (by (try simp only [List.map_toArray, List.map_cons, List.map_nil]); first | done | rfl) ?_
  with_reducible refine (cmp_Compare_int.calls x.f2 y.f2 t2 _ A2.out).mono ?_
  rintro e w' ⟨rfl, ⟨nd2, rfl⟩⟩
  refine ⟨_, rfl, ?_⟩
  refine hK.out _ _ ⟨(ae B3.out 0).trans rfl, (ae B3.out 2).trans rfl, (ae B3.out 3).trans rfl, (ae B4.out 0).trans rfl, (ae B4.out 2).trans rfl, (ae B4.out 3).trans rfl⟩ (fun hHeld => ?_)
  clear hK K
  refine nm_ 14 ?_
  refine on_ 14 19 18 32767 (fun K hK => ?_)
  refine dO Tryz.func132 (by kernel_rfl) rfl #[.int .i64 x.f3, .int .i64 y.f3] (by rfl) rfl rfl (by (try simp only [List.map_toArray, List.map_cons, List.map_nil]); first | done | rfl) ?_
  with_reducible refine (cmp_Compare_int.calls x.f3 y.f3 t3 _ A3.out).mono ?_
  rintro e w' ⟨rfl, ⟨nd3, rfl⟩⟩
  refine ⟨_, rfl, ?_⟩
  refine hK.out _ _ ⟨(ae B3.out 0).trans rfl, (ae B3.out 2).trans rfl, (ae B3.out 3).trans rfl, (ae B4.out 0).trans rfl, (ae B4.out 2).trans rfl, (ae B4.out 3).trans rfl⟩ (fun hHeld => ?_)
  clear hK K
  refine nm_ 19 ?_
  have G2 := aa.mk (((G1.out.drewN nd1).drewN nd2).drewN nd3)
  have B5 := aa.mk (show (((W1.drewN nd1).drewN nd2).drewN nd3).heap[W.heap.size]? = some (.cells #[.int .i64 x.f0, .int .i64 x.f1, .int .i64 x.f2, .int .i64 x.f3] 199 (0, 0)) from B3.out)
  have B6 := aa.mk (show (((W1.drewN nd1).drewN nd2).drewN nd3).heap[W.heap.size + 1]? = some (.cells #[.int .i64 y.f0, .int .i64 y.f1, .int .i64 y.f2, .int .i64 y.f3] 199 (0, 0)) from B4.out)
  generalize ((W1.drewN nd1).drewN nd2).drewN nd3 = W2 at hHeld G2 B5 B6 ⊢
  refine on_ 15 20 18 65535 (fun K hK => ?_)
  refine mZ (w1 := ?_) (v := ?_) (by rfl) rfl ?_ ?_
  rotate_left 2
  · go_simp
    constructor
    · rfl
    · rfl
  have B7 := aa.mk (aj (B5.out) (.cells #[.int .i64 t1, .int .i64 t2, .int .i64 t3] 3))
  have B8 := aa.mk (aj (B6.out) (.cells #[.int .i64 t1, .int .i64 t2, .int .i64 t3] 3))
  have B9 := aa.mk (bg W2 (.cells #[.int .i64 t1, .int .i64 t2, .int .i64 t3] 3))
  have G3 := aa.mk (G2.out.alloc (.cells #[.int .i64 t1, .int .i64 t2, .int .i64 t3] 3))
  refine hK.out _ _ ⟨(ae B7.out 0).trans rfl, (ae B7.out 2).trans rfl, (ae B7.out 3).trans rfl, (ae B8.out 0).trans rfl, (ae B8.out 2).trans rfl, (ae B8.out 3).trans rfl⟩ (fun hHeld => ?_)
  clear hK K
  refine nm_ 20 ?_
  have hC : Kd.C (Kd.int .i64) (W2.alloc (.cells #[.int .i64 t1, .int .i64 t2, .int .i64 t3] 3)) (some ⟨W2.heap.size, 0, none⟩) 3 [t1, t2, t3] := by
    refine ⟨rfl, by omega, fun _ => ⟨_, rfl, fun j p hj => ⟨[.int .i64 p], rfl, rfl, fun i u hu => ?_⟩⟩⟩
    have hi : i = 0 := by
      have := (List.getElem?_eq_some_iff.1 hu).1
      simp at this; exact this
    subst hi
    have hu' : u = .int .i64 p := by simpa using hu.symm
    subst hu'
    have hj3 : j < 3 := (List.getElem?_eq_some_iff.1 hj).1
    have e : (Addr.add ⟨W2.heap.size, 0, none⟩ (j * (Kd.int .i64).sz + 0) : Addr) = ⟨W2.heap.size, j, none⟩ := by
      have e1 : j * (Kd.int .i64).sz + 0 = j := by show j * 1 + 0 = j; omega
      rw [e1]
      rw [show (⟨W2.heap.size, 0, none⟩ : Addr).add j = ⟨W2.heap.size, 0 + j, none⟩ from by cases j <;> rfl, Nat.zero_add]
    rw [e, ae B9.out j]
    match j, hj3 with
    | 0, _ => cases hj; rfl
    | 1, _ => cases hj; rfl
    | 2, _ => cases hj; rfl
  have HC := aa.mk hC
  generalize W2.alloc (.cells #[.int .i64 t1, .int .i64 t2, .int .i64 t3] 3) = W3 at hHeld G3 B7 B8 HC ⊢
  clear hC
  refine on_ 16 21 18 131071 (fun K hK => ?_)
  refine dO Tryz.func170 (by kernel_rfl) rfl #[.slice (some ⟨W2.heap.size, 0, none⟩) 3 3] (by rfl) rfl rfl (by (try simp only [List.map_toArray, List.map_cons, List.map_nil]); first | done | rfl) ?_
  refine Calls.mono (show Calls Tryz.prog 170 #[.slice (some ⟨W2.heap.size, 0, none⟩) 3 3] W3 _ from df.calls 4 _ 3 [t1, t2, t3] r _ HC.out (Nat.le_refl _) A4.out) ?_
  rintro e w' ⟨rfl, ⟨nd4, rfl⟩⟩
  refine ⟨_, rfl, ?_⟩
  refine hK.out _ _ ⟨(ae B7.out 0).trans rfl, (ae B7.out 2).trans rfl, (ae B7.out 3).trans rfl, (ae B8.out 0).trans rfl, (ae B8.out 2).trans rfl, (ae B8.out 3).trans rfl⟩ (fun hHeld => ?_)
  clear hK K
  refine nm_ 21 ?_
  refine pu_ 17 4 18 262143 ?_
  refine eQ (bU HT_.out (by kernel_rfl)) ?_
  have G4 := aa.mk (G3.out.drewN nd4)
  clear hHeld
  go_wp2
  go_ret
  exact ⟨rfl, G4.out⟩
open Go.Proofs Go.Sort in
theorem wW (cl : Nat) (eg : ∀ args w, (callFunc cl args).run Tryz.prog w = .ok (.enter cl args) w)
    (hcl : ∀ (x y : S199) (W : World), Calls Tryz.prog cl #[.agg #[.int .i64 x.f0, .int .i64 x.f1, .int .i64 x.f2, .int .i64 x.f3], .agg #[.int .i64 y.f0, .int .i64 y.f1, .int .i64 y.f2, .int .i64 y.f3]] W fun e w' => e = .returned (.int .i64 (kS x y)) ∧ ∃ q os', w' = grow (W.drewN q) os')
    {w0 w : World} {base : Nat} {ok : Nat → Prop} {v : Value} {xs : List S199} (HO : Kd.R k199 199 w base ok v xs) (HB : Go.RowKit.Below base w0 w) (hbase : base ≤ w.heap.size) (hlen : xs.length < 4611686018427387904) :
    Calls Tryz.prog 152 #[v, .func (.func cl) #[] #[]] w fun e w' => e = .returned (.tuple #[]) ∧ ∃ ys : List S199, ys.Perm xs ∧ (ys.Pairwise fun a b => Flag.leR (toR a) (toR b)) ∧ Kd.R k199 199 w' base ok v ys ∧ Go.RowKit.Below base w0 w' ∧ w.heap.size ≤ w'.heap.size ∧ (∀ i, i < w.heap.size → some i ≠ v.ownBlock → w'.heap[i]? = w.heap[i]?) := by
  rcases iZ qA HO with ⟨rfl, rfl⟩ | ⟨g, cap, rfl, hg, hok, hL⟩
  · refine (AnyF.slices_SortFunc_none uS none 0 (.func (.func cl) #[] #[]) w).mono ?_
    rintro e w' ⟨rfl, rfl⟩
    exact ⟨rfl, [], List.Perm.nil, List.Pairwise.nil, HO, HB, Nat.le_refl _, fun _ _ _ => rfl⟩
  · have hk : ∀ x : S199, (pI x).length = 4 := fun _ => rfl
    have hcon := AnyQ.slices_SortFunc uS 4 Tryz.isAgg199 Tryz.sizeOf199 pI hk qA.one kS sw cl #[] g 0 cap xs.toArray w eg (fun m os dk hd x y => hcl x y _) (hL.holds hk (by decide)) hL.block (by simpa using hlen)
    refine Calls.mono hcon ?_
    rintro e w' ⟨rfl, d', n, os, hp, hs, rfl⟩
    obtain ⟨h1, h2, h3⟩ := pM hp hs
    have h4 := hL.sorted (n := n) (os := os) hk (by decide) h1
    refine ⟨rfl, d'.toList, h2, h3.imp (fun {a b} h => ?_), ?_, kN HB hg hbase, ?_, fun i hi hne => ?_⟩
    · rw [jX] at h
      have h9 : ¬ Flag.ltR (toR b) (toR a) := of_decide_eq_false h
      exact h9
    · have h5 := gF (base := base) (ok := ok) qA hg hok h4
      have e1 : d'.toList.length = xs.length := by simpa using h1
      rw [e1] at h5
      exact h5
    · exact size_sortWorldK_c pI 4 w g 0 n d' os
    · rw [iU 4 g n d' os i hi, if_neg (fun h => hne (by rw [h]; rfl))]
def refsOf (x : S75) : List S199 := x.f1.map fun y => ⟨y.f1, y.f2, x.f0, y.f0⟩
def gZ (l : List S75) : List S199 := l.flatMap refsOf
def ofR (r : Flag.Rf) : S199 := ⟨r.p, r.n, r.o, r.v⟩
def eO (l : List S199) : List S199 := (Flag.vM (l.map toR)).map ofR
theorem iw (l : List S199) : (eO l).map toR = Flag.vM (l.map toR) := by
  unfold eO
  rw [List.map_map]
  exact List.map_id' _
theorem mo (l : List S75) : (gZ l).map toR = Flag.qo (l.map toM) := by
  unfold gZ Flag.qo
  induction l with
  | nil => rfl
  | cons x t ih =>
    rw [List.flatMap_cons, List.map_append, ih, List.map_cons, List.flatMap_cons]
    congr 1
    unfold refsOf toM
    rw [List.map_map, List.map_map]
    rfl
theorem wD {l m : List S199} (hk : Flag.KeyR (m.map toR)) (hp : l.Perm m) (hs : l.Pairwise fun a b => Flag.leR (toR a) (toR b)) : l = eO m := by
  apply xX
  rw [iw]
  exact Flag.sD hk (hp.map toR) (List.pairwise_map.2 hs)
theorem oW {l : List S75} (h : Flag.tF (l.map toM)) : (gZ l).length ≤ 9216 := by
  have hl := h.len
  rw [List.length_map] at hl
  have key : ∀ m : List S75, (∀ x ∈ m, x.f1.length ≤ 1024) → (gZ m).length ≤ 1024 * m.length := by
    intro m
    induction m with
    | nil => intro _; exact Nat.zero_le _
    | cons x t ih =>
      intro hm
      have h1 := hm x List.mem_cons_self
      have h2 := ih fun y hy => hm y (List.mem_cons_of_mem _ hy)
      unfold gZ at h2 ⊢
      rw [List.flatMap_cons, List.length_append, List.length_cons]
      unfold refsOf
      rw [List.length_map]
      unfold refsOf at h2
      omega
  have := key l fun x hx => by
    have := (h.each (toM x) (List.mem_map_of_mem hx)).2.2.len
    unfold toM at this
    simpa using this
  omega
def gJ.f (l0 : List (S75)) : Option ((List (S199)) × Int) := some (if Flag.fT (l0.map toM) = 0 then (eO (gZ l0), 0) else ([], 9))
set_option maxHeartbeats 8000000 in
set_option maxRecDepth 100000 in
theorem gJ.calls (A0 : Option Addr) (c0 : Nat) (l0 : List (S75)) (r1 : List (S199)) (r2 : Int) (w : World) (hr0 : Kd.C k75 w A0 l0.length l0) (hc0 : l0.length ≤ c0) (h : gJ.f l0 = some (r1, r2)) :
    Calls Tryz.prog 126 #[.slice A0 l0.length c0] w fun e w' => ∃ v0_ : Value, e = .returned (.tuple #[v0_, .int .i64 r2]) ∧ Kd.R k199 199 w' w.heap.size (fun _ => True) v0_ r1 ∧ Below w.heap.size w w' := by
  have hu75 := Tryz.underlying75
  have hu199 := Tryz.underlying199
  have hu151 := Tryz.underlying151
  unfold gJ.f at h
  have h := Option.some.inj h
  obtain ⟨n, hnn⟩ : ∃ n, n = l0.length := ⟨_, rfl⟩
  have hck := dh.calls 1200 A0 c0 l0 _ w hr0 hc0 (yL l0)
  obtain ⟨ec, hec⟩ : ∃ e, e = Flag.fT (l0.map toM) := ⟨_, rfl⟩
  rw [← hec, ← hnn] at hck
  have HCK := aa.mk hck
  have HR0 := aa.mk hr0
  have HNN := aa.mk hnn
  have HEC := aa.mk hec
  rw [← hnn]
  clear hr0 hc0 hck
  by_cases hc : Flag.fT (l0.map toM) = 0
  · rw [if_pos hc] at h
    obtain ⟨rfl, rfl⟩ := Prod.mk.inj h
    have h9 := Flag.gB.1 hc
    have hln := oW h9
    have hl9 : n ≤ 9 := by have := h9.len; rw [List.length_map, ← hnn] at this; exact this
    have HLN := aa.mk hln
    have H9 := aa.mk h9
    have hec0 : ec = 0 := by rw [hec]; exact hc
    subst hec0
    have HL9 := aa.mk hl9
    clear h hc hnn hec h9 hln hl9
    go_enter Tryz.func126, Tryz.ntmps126
    go_wp2_with fail
    refine HCK.out.mono ?_
    rintro e w1 ⟨rfl, hb1⟩
    have HB1 := aa.mk hb1
    clear hb1
    go_wp2_with fail
    go_loopg [5, 17] n (fun gk v5 v17 W => ∃ (i : Int) (o : List S199), v17 = .int .i64 i ∧ aa (0 ≤ i ∧ i + gk = n) ∧ aa (o = gZ (l0.take i.toNat) ∧ (o.length : Int) ≤ 1024 * i) ∧ aa (Kd.R k199 199 W w.heap.size (fun _ => True) v5 o) ∧ aa (Below w.heap.size w W))
    case atStart => exact ⟨0, [], rfl, ⟨Int.le_refl _, by simp⟩, ⟨rfl, by simp⟩, ⟨Kd.bW _ _ _ _ _⟩, HB1⟩
    case round =>
      obtain ⟨i, o, rfl, HI, HOE, HO, HS⟩ := hrel
      obtain ⟨Ao, co, rfl⟩ := Kd.aZ HO.out
      obtain ⟨no, hno⟩ : ∃ m, m = o.length := ⟨_, rfl⟩
      rw [← hno] at HO ⊢
      have HNO := aa.mk hno
      clear hno
      cases gk with
      | zero =>
        have hi : i = n := by have := HI.out.2; omega
        have hd : decide (i < (n : Int)) = false := decide_eq_false (by omega)
        have hoe : o = gZ l0 := by rw [HOE.out.1, hi, Int.toNat_natCast, HNN.out, List.take_length]
        have HE := aa.mk hoe
        have hol : o.length < 4611686018427387904 := by rw [hoe]; have := HLN.out; omega
        have hso := wW 153 (fun args w => iY Tryz.func153 (by kernel_rfl) rfl args w) (fun x y W => zV x y W) HO.out HS.out HS.out.size hol
        have HSO := aa.mk hso
        clear hi hoe hol hso
        go_wp2_with fail
        refine HSO.out.mono ?_
        rintro e w3 ⟨rfl, ys, hp, hs, hR, hB, _, _⟩
        have HY := aa.mk (And.intro hp hs)
        have HR3 := aa.mk hR
        have HB3 := aa.mk hB
        clear hp hs hR hB
        go_wp2
        go_ret2
        refine ⟨_, rfl, ?_, HB3.out⟩
        have hk : Flag.KeyR ((gZ l0).map toR) := by rw [mo]; exact (Flag.qM H9.out).key
        have hy := wD hk (by rw [← HE.out]; exact HY.out.1) HY.out.2
        rw [← hy]
        exact HR3.out
      | succ k1 =>
        have hp0 : 0 ≤ i := HI.out.1
        have hp1 : i < (n : Int) := by have := HI.out.2; omega
        have hd : decide (i < (n : Int)) = true := decide_eq_true hp1
        obtain ⟨ad, A1, c1, e3, g0, g1, hc1, hr1⟩ := oO HR0.out i hp0 (by rw [← HNN.out]; exact hp1)
        cases e3
        obtain ⟨x, hx⟩ : ∃ x, x = dI l0 i := ⟨_, rfl⟩
        rw [← hx] at g0 g1 hc1 hr1
        replace g0 := (HS.out.cell (World.block_lt_of_cell? w _ g0)).trans g0
        replace g1 := (HS.out.cell (World.block_lt_of_cell? w _ g1)).trans g1
        have hxm : x.f1.length ≤ 1024 := by
          have h4 : i.toNat < l0.length := by rw [← HNN.out]; omega
          have h5 : x = l0[i.toNat] := by rw [hx]; unfold dI; rw [List.getD_eq_getElem?_getD, List.getElem?_eq_getElem h4]; rfl
          have h6 := (H9.out.each (toM x) (by rw [h5]; exact List.mem_map_of_mem (List.getElem_mem h4))).2.2.len
          unfold toM at h6
          simpa using h6
        have hst : gZ (l0.take (i + 1).toNat) = o ++ refsOf x := by
          have h3 : (i + 1).toNat = i.toNat + 1 := by omega
          have h4 : i.toNat < l0.length := by rw [← HNN.out]; omega
          have h5 : x = l0[i.toNat] := by rw [hx]; unfold dI; rw [List.getD_eq_getElem?_getD, List.getElem?_eq_getElem h4]; rfl
          unfold gZ
          rw [h3, List.take_succ_eq_append_getElem h4, List.flatMap_append, ← h5, HOE.out.1]
          simp [gZ]
        have HST := aa.mk hst
        have HP := aa.mk (And.intro hp0 hp1)
        obtain ⟨m, hm⟩ : ∃ m, m = x.f1.length := ⟨_, rfl⟩
        have HR1 := aa.mk hr1
        rw [← hm] at g1 hxm
        have HM := aa.mk hm
        have HXM := aa.mk hxm
        have hwi : IntKind.i64.wrap (i + 1) = i + 1 := IntWalk.i64_in _ (by have := HL9.out; omega)
        obtain ⟨bx, hbx⟩ : ∃ b, b = wr.heap.size := ⟨_, rfl⟩
        obtain ⟨W1, hW1⟩ : ∃ W, W = wr.alloc (.cells #[.int .i64 x.f0, .slice A1 m c1] 75) := ⟨_, rfl⟩
        have hx1 : W1.heap[bx]? = some (.cells #[.int .i64 x.f0, .slice A1 m c1] 75 (0, 0)) := by rw [hW1, hbx]; exact bg wr _
        have hb1 : Below w.heap.size w W1 := by rw [hW1]; exact HS.out.alloc HS.out.size _
        have ho1 : Kd.R k199 199 W1 w.heap.size (fun k => k ≠ bx) (.slice Ao no co) o := by rw [hW1, hbx]; exact Kd.bQ (Kd.aX (Kd.bO HO.out) (fun k hk => Nat.ne_of_lt hk.2.2.1)) _
        have HX1 := aa.mk hx1
        have HB1' := aa.mk hb1
        have HO1 := aa.mk ho1
        have HW1 := aa.mk hW1
        have HBX := aa.mk hbx
        clear hx hr1 hm hc1 hst hx1 hb1 ho1 hxm hW1 hbx
        go_wp2_with fail
        rw [← HW1.out, ← HBX.out]
        clear g0 g1
        go_loopg [5, 24] m (fun gk2 v5 v24 W => ∃ (j : Int) (o2 : List S199), v24 = .int .i64 j ∧ aa (0 ≤ j ∧ j + gk2 = m) ∧ aa (o2 = o ++ (refsOf x).take j.toNat ∧ (o2.length : Int) ≤ 1024 * i + j) ∧ aa (Kd.R k199 199 W w.heap.size (fun k => k ≠ bx) v5 o2) ∧ aa (Below w.heap.size w W ∧ W.heap[bx]? = some (.cells #[.int .i64 x.f0, .slice A1 m c1] 75 (0, 0))))
        case atStart => exact ⟨0, o, rfl, ⟨Int.le_refl _, by simp⟩, ⟨by simp, by have := HOE.out.2; omega⟩, ⟨HO1.out⟩, ⟨HB1'.out, HX1.out⟩⟩
        case round =>
          clear HB1' HX1
          obtain ⟨j, o2, rfl, HJ, HOE2, HO2, HS2⟩ := hrel
          obtain ⟨Ao2, co2, rfl⟩ := Kd.aZ HO2.out
          obtain ⟨no2, hno2⟩ : ∃ m, m = o2.length := ⟨_, rfl⟩
          rw [← hno2] at HO2 ⊢
          have HNO2 := aa.mk hno2
          clear hno2
          cases gk with
          | zero =>
            have hj : j = m := by have := HJ.out.2; omega
            have hdj : decide (j < (m : Int)) = false := decide_eq_false (by omega)
            have hoe : o2 = o ++ refsOf x := by
              rw [HOE2.out.1, hj, Int.toNat_natCast, List.take_of_length_le]
              unfold refsOf; rw [List.length_map, HM.out]; exact Nat.le_refl _
            have HE2 := aa.mk hoe
            have HE3 := aa.mk (show (o2.length : Int) ≤ 1024 * (i + 1) by have := HOE2.out.2; have := HXM.out; omega)
            clear hj hoe
            go_wp2_with fail
            go_roundg k1
            case measure => omega
            case rel =>
              refine ⟨i + 1, o2, by first | rfl | (simp; done) | go_num, ⟨by have := HP.out.1; omega, by have := HI.out.2; omega⟩, ⟨by rw [HST.out, HE2.out], HE3.out⟩, ⟨?_⟩, ⟨HS2.out.1⟩⟩
              exact Kd.aX HO2.out (fun _ _ => trivial)
          | succ k2 =>
            have hj0 : 0 ≤ j := HJ.out.1
            have hj1 : j < (m : Int) := by have := HJ.out.2; omega
            have hdj : decide (j < (m : Int)) = true := decide_eq_true hj1
            have hC1 : Kd.C k151 wr A1 m x.f1 := by rw [HM.out]; exact Kd.aN HR1.out HS2.out.1
            obtain ⟨ad2, e4, y0, y1, y2⟩ := dS hC1 j hj0 hj1
            subst e4
            obtain ⟨y, hy⟩ : ∃ y, y = ax x.f1 j := ⟨_, rfl⟩
            rw [← hy] at y0 y1 y2
            have q0 : (wr.alloc (.cells #[.int .i64 y.f0, .int .i64 y.f1, .int .i64 y.f2] 151)).cell? ⟨bx, 0, none⟩ = some (.int .i64 x.f0) := (ae (aj HS2.out.2 _) 0).trans rfl
            have hwj : IntKind.i64.wrap (j + 1) = j + 1 := IntWalk.i64_in _ (by have := HXM.out; omega)
            obtain ⟨os, hos⟩ : ∃ os, os = o2 ++ [(⟨y.f1, y.f2, x.f0, y.f0⟩ : S199)] := ⟨_, rfl⟩
            have hst2 : os = o ++ (refsOf x).take (j + 1).toNat := by
              have h3 : (j + 1).toNat = j.toNat + 1 := by omega
              have h4 : j.toNat < x.f1.length := by rw [← HM.out]; omega
              have h4' : j.toNat < (refsOf x).length := by unfold refsOf; rw [List.length_map]; exact h4
              have h5 : y = x.f1[j.toNat] := by rw [hy]; unfold ax; rw [List.getD_eq_getElem?_getD, List.getElem?_eq_getElem h4]; rfl
              have h6 : (refsOf x)[j.toNat] = (⟨y.f1, y.f2, x.f0, y.f0⟩ : S199) := by rw [h5]; exact List.getElem_map _
              rw [hos, HOE2.out.1, h3, List.take_succ_eq_append_getElem h4', h6, List.append_assoc]
            have HOS := aa.mk hos
            have HST2 := aa.mk hst2
            have HY := aa.mk hy
            have HP2 := aa.mk (And.intro hj0 hj1)
            have HLT := aa.mk (show bx < wr.heap.size from aA HS2.out.2)
            have HOL := aa.mk (show (no2 : Int) ≤ 10240 by rw [HNO2.out]; have := HOE2.out.2; have := HI.out.2; have := HXM.out; have := HL9.out; omega)
            clear hos hst2 hy hC1
            go_wp2_with (first | ((with_reducible refine bK (b := .append) (xs := #[.tmp 28, .tmp 38]) rfl ?_); at_builtin; refine Kd.fJ k199 (w0 := w) w.heap.size rfl (.tmp 28) (.tmp 38) 196 199 (.agg #[(.int .i64 0), (.int .i64 0), (.int .i64 0), (.int .i64 0)]) 32 rfl Tryz.underlying196 zz rfl (by decide) (by omega) (.slice Ao2 no2 co2) o2 (⟨y.f1, y.f2, x.f0, y.f0⟩ : S199) [.int .i64 y.f1, .int .i64 y.f2, .int .i64 x.f0, .int .i64 y.f0] (fun k => k ≠ bx) (fun _ => False) rfl (by first | (go_simp; done) | (go_simp; rfl)) ?aP (fun _ hk => hk.elim) ?aF ?aO ?aB ?aS ?aL ?_; (case aP => exact rE _ _ _ (⟨y.f1, y.f2, x.f0, y.f0⟩ : S199)); (case aF => exact (fun k hk => Nat.ne_of_gt (Nat.lt_of_lt_of_le HLT.out (by have h9 := hk; simp at h9; omega)))); (case aO => exact Kd.bQ HO2.out _); (case aB => exact HS2.out.1.alloc HS2.out.1.size _); (case aS => exact ay (HS2.out.1.alloc HS2.out.1.size _)); (case aL => exact (by rw [← HNO2.out]; have := HOL.out; omega)); intro v1 w8 ho hb hg hat; rw [← HOS.out] at ho; obtain ⟨A8, c8, rfl⟩ := Kd.aZ ho; have HO8 := aa.mk ho; have HB8 := aa.mk hb; have HG8 := aa.mk (hg.block bx); clear ho hb hg hat))
            go_roundg k2
            case measure => omega
            case rel =>
              refine ⟨j + 1, os, by first | rfl | (simp; done) | go_num, ⟨by have := HP2.out.1; omega, by have := HJ.out.2; omega⟩, ⟨HST2.out, ?_⟩, ⟨HO8.out⟩, ⟨HB8.out, ?_⟩⟩
              · rw [HOS.out, List.length_append, List.length_singleton]; have := HOE2.out.2; omega
              · exact (HG8.out (by simp; have := HLT.out; omega) (fun e => HO2.out.1 bx e.symm rfl)).trans (aj HS2.out.2 _)
  · rw [if_neg hc] at h
    obtain ⟨rfl, rfl⟩ := Prod.mk.inj h
    have hne : ec ≠ 0 := by rw [hec]; exact hc
    have h9 : ec = 9 := by
      rcases Flag.vH (l0.map toM) with h1 | h1
      · exact absurd h1 hc
      · rw [hec]; exact h1
    subst h9
    clear h hc hec hne hnn
    go_enter Tryz.func126, Tryz.ntmps126
    go_wp2_with fail
    refine HCK.out.mono ?_
    rintro e w1 ⟨rfl, hb1⟩
    have HB1 := aa.mk hb1
    clear hb1
    go_wp2
    go_ret2
    exact ⟨_, rfl, Kd.bW _ _ _ _ _, HB1.out⟩
def ou : Go.Shelf.Ren := ⟨fun | 6 => 130 | 15 => 157 | 14 => 156 | 28 => 179 | 29 => 180 | 20 => 171 | 21 => 172 | 22 => 173 | 23 => 174 | 24 => 175 | 25 => 176 | 26 => 177 | 27 => 178 | 46 => 199 | 47 => 200 | 48 => 201 | 49 => 202 | 50 => 203 | 57 => 208 | n => n, fun | 22 => 26 | 24 => 93 | 25 => 204 | 3 => 3 | 39 => 225 | 0 => 0 | 53 => 247 | 55 => 249 | 4 => 4 | 46 => 241 | 45 => 240 | 50 => 229 | 5 => 5 | 9 => 9 | 66 => 262 | 70 => 266 | 76 => 271 | 77 => 272 | n => n, fun | n => n⟩
theorem qR : Go.Proofs.SlLaysF0.n6 Tryz.prog ou := {
  mixed := by kernel_rfl,
  f6 := ⟨Tryz.f130.name, by decide, Tryz.func130.trans (congrArg some (by kernel_rfl))⟩,
  f14 := ⟨Tryz.f156.name, by decide, Tryz.func156.trans (congrArg some (by kernel_rfl))⟩,
  f15 := Tryz.func157.trans (congrArg some (by kernel_rfl)),
  f20 := ⟨Tryz.f171.name, by decide, Tryz.func171.trans (congrArg some (by kernel_rfl))⟩,
  f21 := ⟨Tryz.f172.name, by decide, Tryz.func172.trans (congrArg some (by kernel_rfl))⟩,
  f22 := ⟨Tryz.f173.name, by decide, Tryz.func173.trans (congrArg some (by kernel_rfl))⟩,
  f23 := ⟨Tryz.f174.name, by decide, Tryz.func174.trans (congrArg some (by kernel_rfl))⟩,
  f24 := ⟨Tryz.f175.name, by decide, Tryz.func175.trans (congrArg some (by kernel_rfl))⟩,
  f25 := ⟨Tryz.f176.name, by decide, Tryz.func176.trans (congrArg some (by kernel_rfl))⟩,
  f26 := ⟨Tryz.f177.name, by decide, Tryz.func177.trans (congrArg some (by kernel_rfl))⟩,
  f27 := ⟨Tryz.f178.name, by decide, Tryz.func178.trans (congrArg some (by kernel_rfl))⟩,
  f28 := Tryz.func179.trans (congrArg some (by kernel_rfl)),
  f29 := Tryz.func180.trans (congrArg some (by kernel_rfl)),
  f46 := ⟨Tryz.f199.name, by decide, Tryz.func199.trans (congrArg some (by kernel_rfl))⟩,
  f47 := Tryz.func200.trans (congrArg some (by kernel_rfl)),
  f48 := Tryz.func201.trans (congrArg some (by kernel_rfl)),
  f49 := ⟨Tryz.f202.name, by decide, Tryz.func202.trans (congrArg some (by kernel_rfl))⟩,
  f50 := ⟨Tryz.f203.name, by decide, Tryz.func203.trans (congrArg some (by kernel_rfl))⟩,
  f57 := ⟨Tryz.f208.name, by decide, Tryz.func208.trans (congrArg some (by kernel_rfl))⟩,
  t0 := Tryz.underlying0,
  a0 := Tryz.isAgg0,
  z0 := Tryz.sizeOf0,
  v0 := Tryz.zeroValue0,
  t3 := Tryz.underlying3,
  a3 := Tryz.isAgg3,
  z3 := Tryz.sizeOf3,
  v3 := Tryz.zeroValue3,
  t4 := Tryz.underlying4,
  a4 := Tryz.isAgg4,
  z4 := Tryz.sizeOf4,
  v4 := Tryz.zeroValue4,
  t5 := Tryz.underlying5,
  a5 := Tryz.isAgg5,
  z5 := Tryz.sizeOf5,
  v5 := Tryz.zeroValue5,
  t9 := Tryz.underlying9,
  a9 := Tryz.isAgg9,
  z9 := Tryz.sizeOf9,
  v9 := Tryz.zeroValue9,
  t22 := Tryz.underlying26,
  a22 := Tryz.isAgg26,
  z22 := Tryz.sizeOf26,
  v22 := Tryz.zeroValue26,
  t25 := Tryz.underlying204,
  a25 := Tryz.isAgg204,
  z25 := Tryz.sizeOf204,
  v25 := Tryz.zeroValue204,
  t39 := Tryz.underlying225,
  a39 := Tryz.isAgg225,
  z39 := Tryz.sizeOf225,
  v39 := Tryz.zeroValue225,
  t45 := Tryz.underlying240,
  a45 := Tryz.isAgg240,
  z45 := Tryz.sizeOf240,
  v45 := Tryz.zeroValue240,
  t46 := Tryz.underlying241,
  a46 := Tryz.isAgg241,
  z46 := Tryz.sizeOf241,
  v46 := Tryz.zeroValue241,
  t50 := Tryz.underlying229,
  a50 := Tryz.isAgg229,
  z50 := Tryz.sizeOf229,
  v50 := Tryz.zeroValue229,
  t53 := Tryz.underlying247,
  a53 := Tryz.isAgg247,
  z53 := Tryz.sizeOf247,
  v53 := Tryz.zeroValue247,
  t55 := Tryz.underlying249,
  a55 := Tryz.isAgg249,
  z55 := Tryz.sizeOf249,
  v55 := Tryz.zeroValue249,
  t66 := Tryz.underlying262,
  a66 := Tryz.isAgg262,
  z66 := Tryz.sizeOf262,
  v66 := Tryz.zeroValue262,
  t70 := Tryz.underlying266,
  a70 := Tryz.isAgg266,
  z70 := Tryz.sizeOf266,
  v70 := Tryz.zeroValue266,
  t76 := Tryz.underlying271,
  a76 := Tryz.isAgg271,
  z76 := Tryz.sizeOf271,
  v76 := Tryz.zeroValue271,
  t77 := Tryz.underlying272,
  a77 := Tryz.isAgg272,
  z77 := Tryz.sizeOf272,
  v77 := Tryz.zeroValue272 }
instance inhab93 : Inhabited S93 := ⟨z93⟩
def bq (x : S93) : List Value := [.int .i64 x.f0, .int .i64 x.f1]
theorem fO : Flat k93 bq :=
  ⟨fun _ => rfl, by decide, fun x v hv => by
    simp only [bq, List.mem_cons, List.not_mem_nil, or_false] at hv
    rcases hv with rfl | rfl <;> rfl, fun h => pV h, fun w base ok x => ik w base ok x⟩
def nY (x y : S93) : Int := if x.f0 < y.f0 then -1 else if y.f0 < x.f0 then 1 else 0
open Go.Sort Go.Proofs in
theorem lg (x y : S93) : ltOf nY x y = decide (x.f0 < y.f0) := by
  unfold ltOf nY
  by_cases h1 : x.f0 < y.f0
  · simp [h1]
  · by_cases h2 : y.f0 < x.f0 <;> simp [h1, h2]
open Go.Sort Go.Proofs in
theorem vg : SWO (ltOf nY) where
  irrefl x := by rw [lg]; simp
  trans x y z h1 h2 := by rw [lg] at *; simp at *; omega
  ntrans x y z h1 h2 := by rw [lg] at *; simp at *; omega
theorem qC (a b : Int) : cmp_Compare_int.f a b = some (if a < b then -1 else if b < a then 1 else 0) := by
  unfold cmp_Compare_int.f cmp_isNaN_int.f
  simp only [bne_self_eq_false, Option.bind_some, Bool.false_eq_true, if_false]
  split
  · rfl
  · split
    · rfl
    · rfl
set_option maxHeartbeats 1000000 in
set_option maxRecDepth 100000 in
open Go.Proofs Go.Sort in
theorem wV (x y : S93) (W : World) : Calls Tryz.prog 154 #[.agg #[.int .i64 x.f0, .int .i64 x.f1], .agg #[.int .i64 y.f0, .int .i64 y.f1]] W fun e w' => e = .returned (.int .i64 (nY x y)) ∧ ∃ q os', w' = grow (W.drewN q) os' := by
  have hu93 := Tryz.underlying93
  have hf : cmp_Compare_int.f x.f0 y.f0 = some (nY x y) := qC x.f0 y.f0
  go_enter Tryz.func154, Tryz.ntmps154
  go_wp2_with fail
  refine (cmp_Compare_int.calls x.f0 y.f0 _ _ hf).mono ?_
  rintro e w1 ⟨rfl, ⟨q, rfl⟩⟩
  clear hf
  go_wp2
  go_ret
  exact ⟨rfl, q, _, by rw [alloc_eq_grow, alloc_eq_grow, grow_grow]; rfl⟩
open Go.Proofs Go.Sort in
theorem oM (cl : Nat) (eg : ∀ args w, (callFunc cl args).run Tryz.prog w = .ok (.enter cl args) w)
    (hcl : ∀ (x y : S93) (W : World), Calls Tryz.prog cl #[.agg #[.int .i64 x.f0, .int .i64 x.f1], .agg #[.int .i64 y.f0, .int .i64 y.f1]] W fun e w' => e = .returned (.int .i64 (nY x y)) ∧ ∃ q os', w' = grow (W.drewN q) os')
    {w0 w : World} {base : Nat} {ok : Nat → Prop} {v : Value} {xs : List S93} (HO : Kd.R k93 93 w base ok v xs) (HB : Go.RowKit.Below base w0 w) (hbase : base ≤ w.heap.size) (hlen : xs.length < 4611686018427387904) :
    Calls Tryz.prog 130 #[v, .func (.func cl) #[] #[]] w fun e w' => e = .returned (.tuple #[]) ∧ ∃ ys : List S93, ys.Perm xs ∧ (ys.Pairwise fun a b => a.f0 ≤ b.f0) ∧ Kd.R k93 93 w' base ok v ys ∧ Go.RowKit.Below base w0 w' ∧ w.heap.size ≤ w'.heap.size ∧ (∀ i, i < w.heap.size → some i ≠ v.ownBlock → w'.heap[i]? = w.heap[i]?) := by
  rcases iZ fO HO with ⟨rfl, rfl⟩ | ⟨g, cap, rfl, hg, hok, hL⟩
  · refine (AnyF.slices_SortFunc_none qR none 0 (.func (.func cl) #[] #[]) w).mono ?_
    rintro e w' ⟨rfl, rfl⟩
    exact ⟨rfl, [], List.Perm.nil, List.Pairwise.nil, HO, HB, Nat.le_refl _, fun _ _ _ => rfl⟩
  · have hk : ∀ x : S93, (bq x).length = 2 := fun _ => rfl
    have hcon := AnyQ.slices_SortFunc qR 2 Tryz.isAgg93 Tryz.sizeOf93 bq hk fO.one nY vg cl #[] g 0 cap xs.toArray w eg (fun m os dk hd x y => hcl x y _) (hL.holds hk (by decide)) hL.block (by simpa using hlen)
    refine Calls.mono hcon ?_
    rintro e w' ⟨rfl, d', n, os, hp, hs, rfl⟩
    obtain ⟨h1, h2, h3⟩ := pM hp hs
    have h4 := hL.sorted (n := n) (os := os) hk (by decide) h1
    refine ⟨rfl, d'.toList, h2, h3.imp (fun {a b} h => ?_), ?_, kN HB hg hbase, ?_, fun i hi hne => ?_⟩
    · rw [lg] at h
      have := of_decide_eq_false h
      omega
    · have h5 := gF (base := base) (ok := ok) fO hg hok h4
      have e1 : d'.toList.length = xs.length := by simpa using h1
      rw [e1] at h5
      exact h5
    · exact size_sortWorldK_c bq 2 w g 0 n d' os
    · rw [iU 2 g n d' os i hi, if_neg (fun h => hne (by rw [h]; rfl))]
def bZ.f (l0 : List (S93)) : Option (List (S93)) := if l0.length < 8796093022208 then some l0 else none
set_option maxHeartbeats 2000000 in
set_option maxRecDepth 100000 in
theorem bZ.calls (A0 : Option Addr) (c0 : Nat) (l0 : List (S93)) (r : List (S93)) (w : World) (hr0 : Kd.C k93 w A0 l0.length l0) (hc0 : l0.length ≤ c0) (h : bZ.f l0 = some r) :
    Calls Tryz.prog 115 #[.slice A0 l0.length c0] w fun e w' => ∃ v0_ : Value, e = .returned (v0_) ∧ Kd.R k93 93 w' w.heap.size (fun _ => True) v0_ r ∧ Below w.heap.size w w' := by
  unfold bZ.f at h
  split at h
  · rename_i hl
    obtain rfl := Option.some.inj h
    have hq : ∀ (w : World) (a : Option Addr) (n c n' c' : Nat), (binOp .eql 26 (.slice a n c) (.slice none n' c')).run Tryz.prog w = .ok (.bool a.isNone) w := fun w a n c n' c' => Lib.run_eql_slice_nil w _ _ a n c n' c' Tryz.underlying26
    have HR0 := aa.mk hr0
    have HC0 := aa.mk hc0
    have HL := aa.mk hl
    cases A0 with
    | none =>
      have hn : l0 = [] := by
        cases l0 with
        | nil => rfl
        | cons x t =>
          obtain ⟨_, _, h3⟩ := hr0
          obtain ⟨ad, h4, _⟩ := h3 (by simp)
          cases h4
      subst hn
      clear hr0 hc0 hl h
      go_enter Tryz.func115, Tryz.ntmps115
      go_wp2
      go_ret
      exact ⟨_, rfl, Kd.bW _ _ _ _ _, Below.refl _ _⟩
    | some ad =>
      have HN := aa.mk (je k93 93 w w.heap.size (fun _ => True) (Nat.le_refl _) trivial)
      have HB := aa.mk ((Below.refl w.heap.size w).alloc (Nat.le_refl _) (.cells #[] 93))
      clear hr0 hc0 hl h
      go_enter Tryz.func115, Tryz.ntmps115
      go_wp2_with (first | ((with_reducible refine bK (b := .append) (xs := #[.tmp 5, .tmp 6]) rfl ?_); at_builtin; refine Kd.ek k93 (w0 := w) w.heap.size rfl (.tmp 5) (.tmp 6) 26 93 (.agg #[(.int .i64 0), (.int .i64 0)]) 16 rfl Tryz.underlying26 jh rfl (by decide) (by omega) (.slice (some ⟨w.heap.size, 0, none⟩) 0 0) ([] : List S93) l0 _ _ _ (fun _ => True) (fun _ => False) rfl rfl ?aO ?aR (fun _ _ h => h) (fun _ h => h.elim) ?aF ?aB ?aS ?aL ?_; (case aR => exact Kd.dA HR0.out _); (case aB => exact HB.out); (case aF => exact (fun _ _ => trivial)); (case aO => exact HN.out); (case aS => simp); (case aL => have := HL.out; simp only [List.length_nil]; omega); intro v1 w3 ho hb hg hat; have HO := aa.mk ho; have HB3 := aa.mk hb; clear ho hb hg hat))
      go_ret
      exact ⟨_, rfl, HO.out, HB3.out⟩
  · cases h
def toP (x : S93) : Flag.Sp := ⟨x.f0, x.f1⟩
def ofP (x : Flag.Sp) : S93 := ⟨x.a, x.n⟩
theorem vV (l : List S93) : (l.map toP).map ofP = l := by
  induction l with
  | nil => rfl
  | cons x t ih => rw [List.map_cons, List.map_cons, ih]; rfl
structure OkSp (x : S93) : Prop where
  a : 0 ≤ x.f0
  n : 0 < x.f1
  e : x.f0 + x.f1 ≤ 1099511627776
instance okSp_dec (x : S93) : Decidable (OkSp x) := decidable_of_iff (0 ≤ x.f0 ∧ 0 < x.f1 ∧ x.f0 + x.f1 ≤ 1099511627776) ⟨fun h => ⟨h.1, h.2.1, h.2.2⟩, fun h => ⟨h.a, h.n, h.e⟩⟩
def gM (o : List S93) (x : S93) : List S93 :=
  if 0 < o.length ∧ x.f0 ≤ wrap64 ((aU o (o.length - 1)).f0 + (aU o (o.length - 1)).f1) then
    o.set ((o.length : Int) - 1).toNat ⟨(aU o (o.length - 1)).f0, mx (aU o (o.length - 1)).f1 (wrap64 (wrap64 (x.f0 + x.f1) - (aU o (o.length - 1)).f0))⟩
  else o ++ [x]
theorem p9 (o : List S93) (x : S93) : (gM o x).length ≤ o.length + 1 := by
  unfold gM
  split
  · rw [List.length_set]; omega
  · simp
theorem lN (l : List S93) : ∀ o : List S93, (l.foldl gM o).length ≤ o.length + l.length := by
  induction l with
  | nil => intro o; simp
  | cons x t ih =>
    intro o
    have h1 := ih (gM o x)
    have h2 := p9 o x
    simp only [List.foldl_cons, List.length_cons]
    omega
theorem uT {o : List S93} {x : S93} (ho : ∀ y ∈ o, OkSp y) (hx : OkSp x) : (gM o x).map toP = Flag.joinStep (o.map toP) (toP x) ∧ ∀ y ∈ gM o x, OkSp y := by
  obtain ⟨x1, x2, x3⟩ := hx
  unfold gM
  rcases List.eq_nil_or_concat o with rfl | ⟨m, y, rfl⟩
  · rw [if_neg (by simp)]
    refine ⟨rfl, fun z hz => ?_⟩
    have : z = x := by simpa using hz
    rw [this]; exact ⟨x1, x2, x3⟩
  · rw [List.concat_eq_append] at ho ⊢
    have hr : aU (m ++ [y]) (((m ++ [y]).length : Int) - 1) = y := by simp [aU]
    obtain ⟨y1, y2, y3⟩ := ho y (by simp)
    rw [hr, w64 (n := y.f0 + y.f1) (by omega), w64 (n := x.f0 + x.f1) (by omega), w64 (n := x.f0 + x.f1 - y.f0) (by omega), yH]
    have hl : (m ++ [y]).map toP = m.map toP ++ [toP y] := by simp
    have hj : Flag.joinStep (m.map toP ++ [toP y]) (toP x) = if x.f0 ≤ y.f0 + y.f1 then m.map toP ++ [⟨y.f0, max y.f1 (x.f0 + x.f1 - y.f0)⟩] else m.map toP ++ [toP y] ++ [toP x] := by
      unfold Flag.joinStep
      simp only [List.getLast?_append, List.getLast?_singleton, Option.some_or, List.dropLast_concat]
      rfl
    rw [hl, hj]
    by_cases hc : x.f0 ≤ y.f0 + y.f1
    · rw [if_pos ⟨by simp, hc⟩, if_pos hc]
      have e : (((m ++ [y]).length : Int) - 1).toNat = m.length := by simp
      rw [e]
      have e2 : (m ++ [y]).set m.length (⟨y.f0, max y.f1 (x.f0 + x.f1 - y.f0)⟩ : S93) = m ++ [⟨y.f0, max y.f1 (x.f0 + x.f1 - y.f0)⟩] := by simp
      rw [e2]
      refine ⟨by simp [toP], fun z hz => ?_⟩
      rcases List.mem_append.1 hz with hz | hz
      · exact ho z (List.mem_append_left _ hz)
      · have : z = ⟨y.f0, max y.f1 (x.f0 + x.f1 - y.f0)⟩ := by simpa using hz
        rw [this]
        exact ⟨y1, show 0 < max y.f1 (x.f0 + x.f1 - y.f0) by omega, show y.f0 + max y.f1 (x.f0 + x.f1 - y.f0) ≤ _ by omega⟩
    · rw [if_neg (fun h => hc h.2), if_neg hc]
      refine ⟨by simp, fun z hz => ?_⟩
      rcases List.mem_append.1 hz with hz | hz
      · exact ho z hz
      · have : z = x := by simpa using hz
        rw [this]; exact ⟨x1, x2, x3⟩
theorem kQ (l : List S93) : ∀ o : List S93, (∀ y ∈ o, OkSp y) → (∀ x ∈ l, OkSp x) → (l.foldl gM o).map toP = (l.map toP).foldl Flag.joinStep (o.map toP) ∧ ∀ y ∈ l.foldl gM o, OkSp y := by
  induction l with
  | nil => intro o ho _; exact ⟨rfl, ho⟩
  | cons x t ih =>
    intro o ho hl
    obtain ⟨h1, h2⟩ := uT ho (hl x List.mem_cons_self)
    obtain ⟨h3, h4⟩ := ih _ h2 (fun y hy => hl y (List.mem_cons_of_mem _ hy))
    refine ⟨?_, h4⟩
    rw [List.foldl_cons, h3, h1]
    rfl
def jy (l : List S93) : List S93 := l.mergeSort fun a b => decide (a.f0 ≤ b.f0)
theorem eZ (l : List S93) : (jy l).Perm l := List.mergeSort_perm l _
theorem iB (l : List S93) : (jy l).Pairwise fun a b => a.f0 ≤ b.f0 := by
  have h := List.pairwise_mergeSort (le := fun a b : S93 => decide (a.f0 ≤ b.f0)) (fun a b c h1 h2 => by simp at *; omega) (fun a b => by simp; omega) l
  exact h.imp (fun {a b} h => by simpa using h)
def joinL (l : List S93) : List S93 := (jy l).foldl gM []
theorem o9 {l : List S93} (h : ∀ x ∈ l, OkSp x) : (joinL l).map toP = Flag.pz ((jy l).map toP) :=
  (kQ (jy l) [] (fun y hy => by cases hy) (fun x hx => h x ((eZ l).mem_iff.1 hx))).1
theorem gT {l : List S93} (h : l.Pairwise fun a b => a.f0 ≤ b.f0) : Flag.iF (l.map toP) := List.pairwise_map.2 h
theorem wG {l ys : List S93} (h : ∀ x ∈ l, OkSp x) (hp : ys.Perm l) (hs : ys.Pairwise fun a b => a.f0 ≤ b.f0) : ys.foldl gM [] = joinL l := by
  have hy : ∀ x ∈ ys, OkSp x := fun x hx => h x (hp.mem_iff.1 hx)
  have h1 := (kQ ys [] (fun y hy => by cases hy) hy).1
  have h2 := o9 h
  have h3 : Flag.pz (ys.map toP) = Flag.pz ((jy l).map toP) :=
    Flag.sM ((hp.trans (eZ l).symm).map toP) (gT hs) (gT (iB l)) (fun x hx => by
      obtain ⟨z, hz, rfl⟩ := List.mem_map.1 hx
      exact (hy z hz).n)
  have h4 : (ys.foldl gM []).map toP = (joinL l).map toP := by rw [h1, h2]; exact h3
  rw [← vV (ys.foldl gM []), h4, vV]
def f_.f (l0 : List (S93)) : Option (List (S93)) := if l0.length < 1099511627776 ∧ ∀ x ∈ l0, OkSp x then some (joinL l0) else none
set_option maxHeartbeats 4000000 in
set_option maxRecDepth 100000 in
theorem f_.calls (A0 : Option Addr) (c0 : Nat) (l0 : List (S93)) (r : List (S93)) (w : World) (hr0 : Kd.C k93 w A0 l0.length l0) (hc0 : l0.length ≤ c0) (h : f_.f l0 = some r) :
    Calls Tryz.prog 127 #[.slice A0 l0.length c0] w fun e w' => ∃ v0_ : Value, e = .returned (v0_) ∧ Kd.R k93 93 w' w.heap.size (fun _ => True) v0_ r ∧ Below w.heap.size w w' := by
  have hu93 := Tryz.underlying93
  unfold f_.f at h
  split at h
  · rename_i hl
    obtain rfl := Option.some.inj h
    have hcl : bZ.f l0 = some l0 := by unfold bZ.f; rw [if_pos (by omega)]
    have HR0 := aa.mk hr0
    have HC0 := aa.mk hc0
    have HL := aa.mk hl
    clear hr0 hc0 hl h
    go_enter Tryz.func127, Tryz.ntmps127
    go_wp2_with fail
    refine (bZ.calls A0 c0 l0 _ w HR0.out HC0.out hcl).mono ?_
    rintro e w1 ⟨v1, rfl, hR1, hb1⟩
    have HR1 := aa.mk hR1
    have HB1 := aa.mk hb1
    obtain ⟨A1, c1, rfl⟩ := Kd.aZ hR1
    clear hR1 hb1 hcl
    go_wp2_with fail
    refine (oM 154 (enters_of Tryz.func154 (by kernel_rfl) rfl) wV HR1.out HB1.out HB1.out.size (by have := HL.out.1; omega)).mono ?_
    rintro e w2 ⟨rfl, ys, hperm, hsort, hR2, hb2, hs2, hk2⟩
    have hlen : ys.length = l0.length := hperm.length_eq
    have hres : ys.foldl gM [] = joinL l0 := wG HL.out.2 hperm hsort
    have hysz : ys.length < 1099511627776 := by have := HL.out.1; omega
    rw [← hlen] at hR2
    have HR2 := aa.mk hR2
    have HB2 := aa.mk hb2
    have HRES := aa.mk hres
    rw [← hlen]
    clear hperm hsort hR2 hb2 hs2 hk2 hres HR1 hlen
    go_wp2_with fail
    go_loopg [3, 13] ys.length (fun gk v3 v13 W => ∃ i : Int, v13 = .int .i64 i ∧ aa (0 ≤ i ∧ i + gk = ys.length) ∧ aa (Kd.R k93 93 W w.heap.size (fun k => some k ≠ (Value.slice A1 ys.length c1).ownBlock) v3 ((ys.take i.toNat).foldl gM [])) ∧ aa (Below w.heap.size w W ∧ w2.heap.size ≤ W.heap.size ∧ ∀ k, (Value.slice A1 ys.length c1).ownBlock = some k → W.heap[k]? = w2.heap[k]?))
    case atStart => exact ⟨0, rfl, ⟨Int.le_refl _, by simp⟩, ⟨by simpa using Kd.bW _ _ _ _ _⟩, ⟨HB2.out, Nat.le_refl _, fun _ _ => rfl⟩⟩
    case round =>
      obtain ⟨i, rfl, HI, HO, HS⟩ := hrel
      obtain ⟨o, ho⟩ : ∃ o, o = (ys.take i.toNat).foldl gM [] := ⟨_, rfl⟩
      have hol : o.length ≤ ys.length := by
        have h1 := lN (ys.take i.toNat) []
        rw [← ho] at h1
        have h2 : (ys.take i.toNat).length ≤ ys.length := by rw [List.length_take]; omega
        simp only [List.length_nil] at h1
        omega
      rw [← ho] at HO
      have HOL := aa.mk hol
      have HOO := aa.mk ho
      clear ho hol
      cases gk with
      | zero =>
        have hi : i = ys.length := by have := HI.out.2; omega
        have hd : decide (i < (ys.length : Int)) = false := decide_eq_false (by omega)
        have hor : o = joinL l0 := by rw [← HRES.out, HOO.out, hi, Int.toNat_natCast, List.take_length]
        have HOR := aa.mk hor
        clear hi hor
        go_wp2
        go_ret
        refine ⟨_, rfl, ?_, HS.out.1⟩
        rw [← HOR.out]
        exact Kd.aX HO.out (fun _ _ => trivial)
      | succ k1 =>
        have hp0 : 0 ≤ i := HI.out.1
        have hp1 : i < (ys.length : Int) := by have := HI.out.2; omega
        have hd : decide (i < (ys.length : Int)) = true := decide_eq_true hp1
        have hC : Kd.C k93 wr A1 ys.length ys := by
          rcases iZ fO HR2.out with ⟨h1, h2⟩ | ⟨g, cap, h1, h2, h3, h4⟩
          · rw [h2] at hp1; simp at hp1; omega
          · injection h1 with h5 _ h6
            subst h5 h6
            have h7 := gF (base := w.heap.size) (ok := fun _ => True) fO h2 trivial (h4.far (HS.out.2.2 g rfl))
            exact (Kd.bu h7).2.2
        obtain ⟨ad, e3, g0, g1⟩ := fQ hC i hp0 hp1
        cases e3
        obtain ⟨x, hx⟩ : ∃ x, x = aU ys i := ⟨_, rfl⟩
        rw [← hx] at g0 g1
        have hst : (ys.take (i + 1).toNat).foldl gM [] = gM o x := by
          have h3 : (i + 1).toNat = i.toNat + 1 := by omega
          have h4 : i.toNat < ys.length := by omega
          have h5 : x = ys[i.toNat] := by rw [hx]; unfold aU; rw [List.getD_eq_getElem?_getD, List.getElem?_eq_getElem h4]; rfl
          rw [h3, List.take_succ_eq_append_getElem h4, List.foldl_append, ← h5, HOO.out]
          rfl
        have HST := aa.mk hst
        have HP := aa.mk (And.intro hp0 hp1)
        obtain ⟨A3, c3, rfl⟩ := Kd.aZ HO.out
        obtain ⟨j, hj⟩ : ∃ j : Int, j = (o.length : Int) - 1 := ⟨_, rfl⟩
        have hwj : IntKind.i64.wrap ((o.length : Int) - 1) = j := by rw [hj]; exact IntWalk.i64_in _ (by have := HOL.out; omega)
        have hwj2 : wrap64 ((o.length : Int) - 1) = j := by rw [hj]; exact w64 (by have := HOL.out; omega)
        have HJ := aa.mk hj
        clear hx hC hst hj
        obtain ⟨W1, hW1⟩ : ∃ W, W = wr.alloc (.cells #[.int .i64 x.f0, .int .i64 x.f1] 93) := ⟨_, rfl⟩
        obtain ⟨bx, hbx⟩ : ∃ b, b = wr.heap.size := ⟨_, rfl⟩
        have hx1 : W1.heap[bx]? = some (.cells #[.int .i64 x.f0, .int .i64 x.f1] 93 (0, 0)) := by rw [hW1, hbx]; exact bg wr _
        have hwsz : w.heap.size ≤ wr.heap.size := HS.out.1.size
        have hb1 : Below w.heap.size w W1 := by rw [hW1]; exact HS.out.1.alloc hwsz _
        have hs1 : w2.heap.size ≤ W1.heap.size := by rw [hW1]; exact Nat.le_trans HS.out.2.1 (by simp)
        have ho1 : Kd.R k93 93 W1 w.heap.size (fun k => some k ≠ (Value.slice (some ad) ys.length c1).ownBlock) (.slice A3 o.length c3) o := by rw [hW1]; exact Kd.bQ HO.out _
        have hbxo : bx ≥ w.heap.size := by omega
        have hne : ∀ k, some k = (Value.slice (some ad) ys.length c1).ownBlock → k < wr.heap.size := by
          intro k hk
          have h1 := HS.out.2.2 k hk.symm
          have h2 : k < w2.heap.size := Kd.R_lt HR2.out k hk.symm
          have := HS.out.2.1
          omega
        have hk1 : ∀ k, (Value.slice (some ad) ys.length c1).ownBlock = some k → k < W1.heap.size ∧ W1.heap[k]? = w2.heap[k]? := by
          intro k hk
          have h1 := hne k hk.symm
          refine ⟨by rw [hW1]; simp; omega, ?_⟩
          rw [hW1, Below.heap_alloc _ _ _ h1]
          exact HS.out.2.2 k hk
        have HX1 := aa.mk hx1
        have HB1' := aa.mk hb1
        have HS1 := aa.mk hs1
        have HO1 := aa.mk ho1
        have HK1 := aa.mk hk1
        have HBX := aa.mk hbxo
        have q0 : W1.cell? ⟨bx, 0, none⟩ = some (.int .i64 x.f0) := (ae hx1 0).trans rfl
        have q1 : W1.cell? ⟨bx, 1, none⟩ = some (.int .i64 x.f1) := (ae hx1 1).trans rfl
        by_cases hn : 0 < o.length
        · have hdj : decide (0 ≤ j) = true := decide_eq_true (by have := HJ.out; omega)
          have hi0 : 0 ≤ j := by have := HJ.out; omega
          have hi1 : j < (o.length : Int) := by have := HJ.out; omega
          obtain ⟨g, cap, hv, hgb, hgl, cells, hgc⟩ := Kd.oz ho1 hn
          injection hv with hv1 _ hv2
          subst hv1 hv2
          obtain ⟨ce, hcl, hM, hcc, hfz⟩ := Kd.kU ho1 z93 j hi0 hi1
          obtain rfl := pV hM
          have e0 : W1.cell? ⟨g, j.toNat * 2, none⟩ = some (.int .i64 (o.getD j.toNat z93).f0) := hcc 0 _ rfl
          have e1 : W1.cell? ⟨g, j.toNat * 2 + 1, none⟩ = some (.int .i64 (o.getD j.toNat z93).f1) := hcc 1 _ rfl
          obtain ⟨y, hy⟩ : ∃ y, y = o.getD j.toNat z93 := ⟨_, rfl⟩
          rw [← hy] at e0 e1 hM hcc
          have HY := aa.mk hy
          have HCC := aa.mk hcc
          clear hM hcc hfz hcl hgc hgl hgb hx1 hb1 hs1 ho1 hk1 hne hwsz hbxo
          by_cases hc : x.f0 ≤ wrap64 (y.f0 + y.f1)
          · have hdc : decide (x.f0 ≤ wrap64 (y.f0 + y.f1)) = true := decide_eq_true hc
            have hag : gM o x = o.set j.toNat ⟨y.f0, mx y.f1 (wrap64 (wrap64 (x.f0 + x.f1) - y.f0))⟩ := by
              have hy2 : y = aU o ((o.length : Int) - 1) := by rw [hy, HJ.out]; rfl
              unfold gM
              rw [← hy2, if_pos ⟨hn, hc⟩, HJ.out]
            have HAG := aa.mk hag
            clear hag hc hy
            go_wp2_with fail
            rw [← hW1, ← hbx]
            have HW1 := aa.mk hW1
            have HBX1 := aa.mk hbx
            clear hW1 hbx
            go_quiet (fail)
            obtain ⟨W2, hW2⟩ : ∃ W, W = W1.drewN nq := ⟨_, rfl⟩
            rw [← hW2]
            have HO2 := aa.mk (show Kd.R k93 93 W2 w.heap.size (fun k => some k ≠ (Value.slice (some ad) ys.length c1).ownBlock) (.slice (some ⟨g, 0, none⟩) o.length c3) o by rw [hW2]; exact Kd.bT HO1.out nq)
            have HB2' := aa.mk (show Below w.heap.size w W2 by rw [hW2]; exact af HB1'.out nq)
            have HS2 := aa.mk (show w2.heap.size ≤ W2.heap.size by rw [hW2]; exact HS1.out)
            have HK2 := aa.mk (show ∀ k, (Value.slice (some ad) ys.length c1).ownBlock = some k → k < W2.heap.size ∧ W2.heap[k]? = w2.heap[k]? by rw [hW2]; exact HK1.out)
            have HX2 := aa.mk (show W2.heap[bx]? = some (.cells #[.int .i64 x.f0, .int .i64 x.f1] 93 (0, 0)) by rw [hW2]; exact HX1.out)
            have p0 : W2.cell? ⟨bx, 0, none⟩ = some (.int .i64 x.f0) := (ae HX2.out 0).trans rfl
            have p1 : W2.cell? ⟨bx, 1, none⟩ = some (.int .i64 x.f1) := (ae HX2.out 1).trans rfl
            have e0' : W2.cell? ⟨g, j.toNat * 2, none⟩ = some (.int .i64 y.f0) := by rw [hW2]; exact e0
            have e1' : W2.cell? ⟨g, j.toNat * 2 + 1, none⟩ = some (.int .i64 y.f1) := by rw [hW2]; exact e1
            have HCC2 := aa.mk (show ∀ (j_1 : Nat) (u : Value), [Value.int IntKind.i64 y.f0, Value.int IntKind.i64 y.f1][j_1]? = some u → W2.cell? ⟨g, j.toNat * 2 + j_1, none⟩ = some u by rw [hW2]; exact HCC.out)
            obtain ⟨s1, hs1⟩ : ∃ s : Int, s = wrap64 (x.f0 + x.f1) := ⟨_, rfl⟩
            have hs1w : IntKind.i64.wrap (x.f0 + x.f1) = s1 := by rw [hs1]; exact IntWalk.i64_left _
            have hs1w2 : wrap64 (x.f0 + x.f1) = s1 := hs1.symm
            obtain ⟨z, hz⟩ : ∃ s : Int, s = wrap64 (s1 - y.f0) := ⟨_, rfl⟩
            have hzw : IntKind.i64.wrap (s1 - y.f0) = z := by rw [hz]; exact IntWalk.i64_left _
            have hzw2 : wrap64 (s1 - y.f0) = z := hz.symm
            obtain ⟨m, hm⟩ : ∃ m : Int, m = mx y.f1 z := ⟨_, rfl⟩
            have hm' : (if y.f1 < z then z else y.f1) = m := hm.symm
            have HMM := aa.mk (show mx y.f1 (wrap64 (wrap64 (x.f0 + x.f1) - y.f0)) = m by rw [hs1w2, hzw2, hm])
            clear hW2 q0 q1 e0 e1 hs1 hz hm
            go_wp2_with fail
            go_still_tail 21, (by kernel_rfl)
            change wpList _ _ _ _ _ W2.drew
            refine Kd.u7 k93 (w0 := w) (W := W2.drew) w.heap.size rfl rfl 3 (.tmp 58) (.tmp 56) rfl 93 j 1 o (⟨y.f0, m⟩ : S93) (.int .i64 m) [.int .i64 m] [.int .i64 y.f0, .int .i64 y.f1] (fun k => some k ≠ (Value.slice (some ad) ys.length c1).ownBlock) (fun _ => False) rfl rfl rfl rfl (by kernel_rfl) (by simp [Value.oneCell']) (Kd.dC HO2.out) hi0 hi1 rfl (fun j u hu => HCC2.out j u hu) (Nat.le_refl 2) (ik _ _ _ (⟨y.f0, m⟩ : S93)) (fun _ hk => hk.elim) (aQ HB2'.out) ?_
            intro w4 hO4 hB4 hG4
            have HO4 := aa.mk hO4
            have HB4 := aa.mk hB4
            have HG4 := aa.mk hG4
            clear hO4 hB4 hG4
            go_wp2
            go_roundg k1
            case measure => omega
            case rel =>
              refine ⟨i + 1, by first | rfl | (simp; done), ⟨by have := HP.out.1; omega, by have := HI.out.2; omega⟩, ⟨?_⟩, ⟨HB4.out, ?_, ?_⟩⟩
              · rw [HST.out, HAG.out, HMM.out]; exact HO4.out
              · exact Nat.le_trans HS2.out HG4.out.size
              · intro k hk
                have h1 := HK2.out k hk
                rw [HG4.out.block k h1.1 (fun e => HO2.out.1 k (by rw [e]; rfl) hk.symm)]
                exact h1.2
          · have hdc : decide (x.f0 ≤ wrap64 (y.f0 + y.f1)) = false := decide_eq_false hc
            have hag : gM o x = o ++ [x] := by
              have hy2 : y = aU o ((o.length : Int) - 1) := by rw [hy, HJ.out]; rfl
              unfold gM
              rw [← hy2, if_neg (fun h => hc h.2)]
            have HAG := aa.mk hag
            clear hag hc hy
            go_wp2_with fail
            rw [← hW1, ← hbx]
            have HW1 := aa.mk hW1
            have HBX1 := aa.mk hbx
            clear hW1 hbx
            go_quiet (fail)
            obtain ⟨W2, hW2⟩ : ∃ W, W = W1.drewN nq := ⟨_, rfl⟩
            rw [← hW2]
            have HO2 := aa.mk (show Kd.R k93 93 W2 w.heap.size (fun k => some k ≠ (Value.slice (some ad) ys.length c1).ownBlock) (.slice (some ⟨g, 0, none⟩) o.length c3) o by rw [hW2]; exact Kd.bT HO1.out nq)
            have HB2' := aa.mk (show Below w.heap.size w W2 by rw [hW2]; exact af HB1'.out nq)
            have HS2 := aa.mk (show w2.heap.size ≤ W2.heap.size by rw [hW2]; exact HS1.out)
            have HK2 := aa.mk (show ∀ k, (Value.slice (some ad) ys.length c1).ownBlock = some k → k < W2.heap.size ∧ W2.heap[k]? = w2.heap[k]? by rw [hW2]; exact HK1.out)
            have HX2 := aa.mk (show W2.heap[bx]? = some (.cells #[.int .i64 x.f0, .int .i64 x.f1] 93 (0, 0)) by rw [hW2]; exact HX1.out)
            have p0 : W2.cell? ⟨bx, 0, none⟩ = some (.int .i64 x.f0) := (ae HX2.out 0).trans rfl
            have p1 : W2.cell? ⟨bx, 1, none⟩ = some (.int .i64 x.f1) := (ae HX2.out 1).trans rfl
            clear hW2 q0 q1 e0 e1
            go_wp2_with (first | ((with_reducible refine bK (b := .append) (xs := #[.tmp 59, .tmp 61]) rfl ?_); at_builtin; refine Kd.fJ k93 (w0 := w) w.heap.size rfl (.tmp 59) (.tmp 61) 26 93 (.agg #[(.int .i64 0), (.int .i64 0)]) 16 rfl Tryz.underlying26 jh rfl (by decide) (by omega) (.slice (some ⟨g, 0, none⟩) o.length c3) o x [.int .i64 x.f0, .int .i64 x.f1] (fun k => some k ≠ (Value.slice (some ad) ys.length c1).ownBlock) (fun _ => False) rfl (by first | (go_simp; done) | (go_simp; rfl)) ?aP (fun _ hk => hk.elim) ?aF ?aO ?aB ?aS ?aL ?_; (case aP => exact ik _ _ _ x); (case aF => intro k hk e; have h1 := (HK2.out k e.symm).1; omega); (case aO => exact HO2.out); (case aB => exact HB2'.out); (case aS => exact HB2'.out.size); (case aL => have := HOL.out; omega); intro v1 w4 ho hb hg hat; have HO4 := aa.mk ho; have HB4 := aa.mk hb; have HG4 := aa.mk hg; clear ho hb hg hat))
            go_roundg k1
            case measure => omega
            case rel =>
              refine ⟨i + 1, by first | rfl | (simp; done), ⟨by have := HP.out.1; omega, by have := HI.out.2; omega⟩, ⟨?_⟩, ⟨HB4.out, ?_, ?_⟩⟩
              · rw [HST.out, HAG.out]; exact HO4.out
              · exact Nat.le_trans HS2.out HG4.out.size
              · intro k hk
                have h1 := HK2.out k hk
                rw [HG4.out.block k h1.1 (fun e => HO2.out.1 k e.symm hk.symm)]
                exact h1.2
        · have hdj : decide (0 ≤ j) = false := decide_eq_false (by have := HJ.out; omega)
          have hag : gM o x = o ++ [x] := by
            unfold gM
            rw [if_neg (fun h => hn h.1)]
          have HAG := aa.mk hag
          clear hag hx1 hb1 hs1 ho1 hk1 hne hwsz hbxo hn
          go_wp2_with fail
          rw [← hW1, ← hbx]
          have HW1 := aa.mk hW1
          have HBX1 := aa.mk hbx
          clear hW1 hbx
          go_quiet (fail)
          obtain ⟨W2, hW2⟩ : ∃ W, W = W1.drewN nq := ⟨_, rfl⟩
          rw [← hW2]
          have HO2 := aa.mk (show Kd.R k93 93 W2 w.heap.size (fun k => some k ≠ (Value.slice (some ad) ys.length c1).ownBlock) (.slice A3 o.length c3) o by rw [hW2]; exact Kd.bT HO1.out nq)
          have HB2' := aa.mk (show Below w.heap.size w W2 by rw [hW2]; exact af HB1'.out nq)
          have HS2 := aa.mk (show w2.heap.size ≤ W2.heap.size by rw [hW2]; exact HS1.out)
          have HK2 := aa.mk (show ∀ k, (Value.slice (some ad) ys.length c1).ownBlock = some k → k < W2.heap.size ∧ W2.heap[k]? = w2.heap[k]? by rw [hW2]; exact HK1.out)
          have HX2 := aa.mk (show W2.heap[bx]? = some (.cells #[.int .i64 x.f0, .int .i64 x.f1] 93 (0, 0)) by rw [hW2]; exact HX1.out)
          have p0 : W2.cell? ⟨bx, 0, none⟩ = some (.int .i64 x.f0) := (ae HX2.out 0).trans rfl
          have p1 : W2.cell? ⟨bx, 1, none⟩ = some (.int .i64 x.f1) := (ae HX2.out 1).trans rfl
          clear hW2 q0 q1
          go_wp2_with (first | ((with_reducible refine bK (b := .append) (xs := #[.tmp 59, .tmp 61]) rfl ?_); at_builtin; refine Kd.fJ k93 (w0 := w) w.heap.size rfl (.tmp 59) (.tmp 61) 26 93 (.agg #[(.int .i64 0), (.int .i64 0)]) 16 rfl Tryz.underlying26 jh rfl (by decide) (by omega) (.slice A3 o.length c3) o x [.int .i64 x.f0, .int .i64 x.f1] (fun k => some k ≠ (Value.slice (some ad) ys.length c1).ownBlock) (fun _ => False) rfl (by first | (go_simp; done) | (go_simp; rfl)) ?aP (fun _ hk => hk.elim) ?aF ?aO ?aB ?aS ?aL ?_; (case aP => exact ik _ _ _ x); (case aF => intro k hk e; have h1 := (HK2.out k e.symm).1; omega); (case aO => exact HO2.out); (case aB => exact HB2'.out); (case aS => exact HB2'.out.size); (case aL => have := HOL.out; omega); intro v1 w4 ho hb hg hat; have HO4 := aa.mk ho; have HB4 := aa.mk hb; have HG4 := aa.mk hg; clear ho hb hg hat))
          go_roundg k1
          case measure => omega
          case rel =>
            refine ⟨i + 1, by first | rfl | (simp; done), ⟨by have := HP.out.1; omega, by have := HI.out.2; omega⟩, ⟨?_⟩, ⟨HB4.out, ?_, ?_⟩⟩
            · rw [HST.out, HAG.out]; exact HO4.out
            · exact Nat.le_trans HS2.out HG4.out.size
            · intro k hk
              have h1 := HK2.out k hk
              rw [HG4.out.block k h1.1 (fun e => HO2.out.1 k e.symm hk.symm)]
              exact h1.2
  · cases h
def dx.l0 : Nat → List (S93) → List (S199) → Int → Int → Option ((List (S93)) × Int)
 | 0, _, _, _, _ => none
 | k + 1, x6, x17, x18, x19 => if x19 < x18 then (if 0 ≤ x19 then (if x19 < (x17.length : Int) then (if x6.length < 8796093022208 then (dx.l0 k (x6 ++ [(⟨(bP x17 x19).f0, (bP x17 x19).f1⟩ : S93)]) x17 x18 (wrap64 (x19 + 1))) else (none)) else (none)) else (none)) else ((f_.f x6).bind fun t110 => (some (t110, 0)))
def dx.f (k : Nat) (l0 : List (S75)) : Option ((List (S93)) × Int) := (gJ.f l0).bind fun bt101 => (if bt101.2 = 0 then (dx.l0 k ([] : List (S93)) bt101.1 (bt101.1.length : Int) 0) else (some (([] : List (S93)), bt101.2)))
set_option maxHeartbeats 8000000 in
set_option maxRecDepth 100000 in
theorem dx.calls (k : Nat) (A0 : Option Addr) (c0 : Nat) (l0 : List (S75)) (r1 : List (S93)) (r2 : Int) (w : World) (hr0 : Kd.C k75 w A0 l0.length l0) (hc0 : l0.length ≤ c0) (h : dx.f k l0 = some (r1, r2)) :
 Calls Tryz.prog 88 #[.slice A0 l0.length c0] w fun e w' => ∃ v0_ : Value, e = .returned (.tuple #[v0_, .int .i64 r2]) ∧ Kd.R k93 93 w' w.heap.size (fun _ => True) v0_ r1 ∧ Below w.heap.size w w' := by
 have hu199 := Tryz.underlying199
 have hu93 := Tryz.underlying93
 have HR0 := aa.mk hr0
 have HC0 := aa.mk hc0
 clear hr0 hc0
 have HB := aa.mk (Below.refl w.heap.size w)
 have H : ((gJ.f l0).bind fun bt101 => (if bt101.2 = 0 then (dx.l0 k ([] : List (S93)) bt101.1 (bt101.1.length : Int) 0) else (some (([] : List (S93)), bt101.2)))) = some (r1, r2) := h
 clear h
 replace H := Option.bind_eq_some_iff.mp H
 obtain ⟨⟨t101, t102⟩, A20, H⟩ := H
 replace H : (if t102 = 0 then (dx.l0 k ([] : List (S93)) t101 (t101.length : Int) 0) else (some (([] : List (S93)), t102))) = some (r1, r2) := H
 have A2 := aa.mk A20
 clear A20
 by_cases c3 : t102 = 0
 ·rw [if_pos c3] at H
  have c3b0 : (t102 == 0) = true := beq_iff_eq.mpr c3
  have c3b1 : (t102 != 0) = false := bne_eq_false_iff_eq.mpr c3
  clear c3
  have H' := aa.mk H
  clear H
  go_enter Tryz.func88, Tryz.ntmps88
  go_wp2_with (first | ((with_reducible refine bB (f := 126) rfl ?_); refine dN (some 11) rfl rfl Tryz.func126 (by kernel_rfl) rfl #[.slice A0 l0.length c0] rfl (by (try simp only [List.map_toArray, List.map_cons, List.map_nil]); first | done | rfl | (simp only [List.length_drop, List.length_take]; rfl)) ?_; (with_reducible refine (gJ.calls _ _ l0 t101 t102 _ ?side1 ?side2 A2.out).mono ?_); (case side1 => repeat (first | exact HR0.out | (with_reducible refine Kd.dA ?_ _) | (with_reducible refine Kd.C_drewN ?_ _) | (with_reducible refine Kd.C_drew ?_))); (case side2 => exact HC0.out); rintro e w4 ⟨v103, rfl, ho0, hb⟩; refine ⟨_, rfl, ?_⟩; have n0_ := aa.mk (Kd.bH ho0 (ay (by repeat (first | (with_reducible first | exact HB.out | apply ah | apply af | apply ag) | exact HB.out)))); have n1_ := aa.mk (az (by repeat (first | (with_reducible first | exact HB.out | apply ah | apply af | apply ag) | exact HB.out)) hb); clear HB; have HO104 := n0_; have HB := n1_; clear n0_ n1_; (try clear hb); (try clear hb2); (try clear hk); (try clear hi); (try clear ho0); obtain ⟨Ao5, co5, eo5⟩ := Kd.aZ HO104.out; subst eo5))
  go_loopg [6, 19] k (fun kq v6 v19 w' => ∃ (x6_1 : List (S93)) (x19_1 : Int), v19 = .int .i64 x19_1 ∧ aa (dx.l0 kq x6_1 t101 (t101.length : Int) x19_1 = some (r1, r2)) ∧ aa (kq ≤ k) ∧ aa (Kd.R k93 93 w' w.heap.size (fun _ => True) v6 x6_1) ∧ aa (Kd.R k199 199 w' w.heap.size (fun _ => True) (.slice Ao5 t101.length co5) t101) ∧ aa (Below w.heap.size w w'))
  case atStart => exact ⟨(([] : List (S93))), (0), (by first | rfl | (simp; done) | (simp [*]; done)), H', ⟨Nat.le_refl _⟩, ⟨by first | exact Kd.bW _ _ _ _ _ | exact Kd.N_nil _ _ _ _ _ | exact Kd.V_nil _ _ _ _ _ | exact Kd.Q_nil _ _ _ _ _ | exact Kd.jv _ _ _ _ _⟩, ⟨by (with_reducible repeat (first | apply Kd.bQ | apply Kd.bT | apply Kd.dC)); exact HO104.out⟩, ⟨by repeat (first | (with_reducible first | exact HB.out | apply ah | apply af | apply ag) | exact HB.out)⟩⟩
  case round =>
   clear H'
   try clear c1
   try clear p2
   try clear c3
   try clear c3b0
   try clear c3b1
   obtain ⟨x6_1, x19_1, rfl, HA, HK1, HO_6, HO_17, HB⟩ := hrel
   cases gk with
   | zero => exact absurd HA.out (by simp [dx.l0])
   | succ k1 =>
    have H := HA.out
    clear HA
    simp only [dx.l0] at H
    by_cases c6 : x19_1 < (t101.length : Int)
    ·rw [if_pos c6] at H
     have c6b0 : decide (x19_1 < (t101.length : Int)) = true := decide_eq_true c6
     clear c6
     by_cases c7 : 0 ≤ x19_1
     ·rw [if_pos c7] at H
      have c7b0 : decide (0 ≤ x19_1) = true := decide_eq_true c7
      clear c7
      by_cases c8 : x19_1 < (t101.length : Int)
      ·rw [if_pos c8] at H
       have c8b0 : decide (x19_1 < (t101.length : Int)) = true := decide_eq_true c8
       clear c8
       by_cases c9 : x6_1.length < 8796093022208
       ·rw [if_pos c9] at H
        have LMc9 := aa.mk c9
        clear c9
        obtain ⟨y107, hy107⟩ : ∃ y_ : List (S93), y_ = (x6_1 ++ [(⟨(bP t101 x19_1).f0, (bP t101 x19_1).f1⟩ : S93)]) := ⟨_, rfl⟩
        replace H : (dx.l0 k1 y107 t101 (t101.length : Int) (wrap64 (x19_1 + 1))) = some (r1, r2) := by first | (rw [hy107]; with_reducible exact H) | (have H2_ := (Option.bind_some _ _).symm.trans H; rw [hy107]; with_reducible exact H2_) | (have H2_ := (Option.bind_some _ _).symm.trans H; with_reducible exact H2_) | with_reducible exact H | (rw [hy107]; exact H) | exact H
        have Ny107 := aa.mk hy107
        clear hy107
        have H' := aa.mk H
        clear H
        have p105 : 0 ≤ (x19_1 : Int) := of_decide_eq_true (by first | (with_reducible assumption) | assumption)
        have q105 : x19_1 < (t101.length : Int) := of_decide_eq_true (by first | (with_reducible assumption) | assumption)
        obtain ⟨ad105, e105, hx105_0, hx105_1, hx105_2, hx105_3⟩ := zR (Kd.bu HO_17.out).2.2 x19_1 p105 q105
        cases e105
        replace p105 := eq_true p105
        replace q105 := eq_true q105
        go_wp2_with (first | ((with_reducible refine bf (N := 8) rfl ?_); refine aY ?hg (N := 8) ?hd (cs := #[.int .i64 0, .int .i64 0, .int .i64 0, .int .i64 0]) (t := 199) ?hr ?_; (case hd => rfl); (case hg => rfl); (case hr => first | (go_simp; done) | (go_simp; rfl)); intro gb106 hg w10 hbox hb; have n0_ := aa.mk (Kd.bA (by (with_reducible repeat (first | apply Kd.bQ | apply Kd.bT | apply Kd.dC)); exact HO_6.out) hb); have n1_ := aa.mk (Kd.bA (Kd.xO (by (with_reducible repeat (first | apply Kd.bQ | apply Kd.bT | apply Kd.dC)); exact HO_17.out) gb106 (Nat.le_of_eq hg.symm)) hb); have n2_ := aa.mk (az (by repeat (first | (with_reducible first | exact HB.out | apply ah | apply af | apply ag) | exact HB.out)) hb); have n3_ := aa.mk (hbox); have n4_ := aa.mk ((by rw [hg]; exact (ay (by repeat (first | (with_reducible first | exact HB.out | apply ah | apply af | apply ag) | exact HB.out))) : w.heap.size ≤ gb106)); have n5_ := aa.mk ((by rw [hg]; exact (ay (by repeat (first | (with_reducible first | exact HB.out | apply ah | apply af | apply ag) | exact HB.out))) : w.heap.size ≤ gb106)); clear HO_6; clear HO_17; clear HB; have HO_6 := n0_; have HO_17 := n1_; have HB := n2_; have BK106 := n3_; have GW106 := n4_; have GE106 := n5_; clear n0_ n1_ n2_ n3_ n4_ n5_; clear hb hbox hg; have hcz11_0 : w10.cell? ⟨gb106, 0, none⟩ = some (.int .i64 0) := (ae BK106.out 0).trans rfl; have hcz11_1 : w10.cell? ⟨gb106, 1, none⟩ = some (.int .i64 0) := (ae BK106.out 1).trans rfl; have hcz11_2 : w10.cell? ⟨gb106, 2, none⟩ = some (.int .i64 0) := (ae BK106.out 2).trans rfl; have hcz11_3 : w10.cell? ⟨gb106, 3, none⟩ = some (.int .i64 0) := (ae BK106.out 3).trans rfl; have hfz11_0 := ai BK106.out 0; have hfz11_1 := ai BK106.out 1; have hfz11_2 := ai BK106.out 2; have hfz11_3 := ai BK106.out 3) | ((with_reducible refine bK (b := .append) (xs := #[.tmp 23, .tmp 29]) rfl ?_); at_builtin; refine Kd.fJ k93 (w0 := w) w.heap.size rfl (.tmp 23) (.tmp 29) 26 93 (.agg #[(.int .i64 0), (.int .i64 0)]) 16 rfl Tryz.underlying26 jh rfl (by decide) (by omega) u6 x6_1 (⟨(bP t101 x19_1).f0, (bP t101 x19_1).f1⟩ : S93) [.int .i64 ((bP t101 x19_1).f0), .int .i64 ((bP t101 x19_1).f1)] (fun _ => True) (fun _ => False) rfl (by first | (go_simp; done) | (go_simp; rfl)) ?aP (fun _ hk => hk.elim) ?aF ?aO ?aB ?aS ?aL ?_; (case aP => exact ik _ _ _ (⟨(bP t101 x19_1).f0, (bP t101 x19_1).f1⟩ : S93)); (case aB => exact (by repeat (first | (with_reducible first | exact HB.out | apply ah | apply af | apply ag | refine av ?_ GE106.out) | exact HB.out))); (case aF => exact (fun _ _ => trivial)); (case aO => exact (by (with_reducible repeat (first | apply Kd.bQ | apply Kd.bT | apply Kd.dC)); exact Kd.aX (Kd.dE (p := ⟨gb106, 3, none⟩) (Kd.dE (p := ⟨gb106, 2, none⟩) (Kd.dE (p := ⟨gb106, 1, none⟩) (Kd.dE (p := ⟨gb106, 0, none⟩) (Kd.iE HO_6.out BK106.out (by decide)) (fun _ hk => hk.2) (.int .i64 ((bP t101 x19_1).f0))) (fun _ hk => hk.2) (.int .i64 ((bP t101 x19_1).f1))) (fun _ hk => hk.2) (.int .i64 ((bP t101 x19_1).f2))) (fun _ hk => hk.2) (.int .i64 ((bP t101 x19_1).f3))) (fun _ hk => trivial))); (case aS => exact (ay (by repeat (first | (with_reducible first | exact HB.out | apply ah | apply af | apply ag | refine av ?_ GE106.out) | exact HB.out)))); (case aL => have := LMc9.out; omega); intro v108 w12 ho hb hg hat; rw [← Ny107.out] at ho; have n0_ := aa.mk (Kd.zg (by (with_reducible repeat (first | apply Kd.bQ | apply Kd.bT | apply Kd.dC)); exact (Kd.aX (Kd.dE (p := ⟨gb106, 3, none⟩) (Kd.dE (p := ⟨gb106, 2, none⟩) (Kd.dE (p := ⟨gb106, 1, none⟩) (Kd.dE (p := ⟨gb106, 0, none⟩) (Kd.aX HO_17.out (fun k_ hk => (⟨hk, hk.2⟩ : _ ∧ k_ ≠ gb106))) (fun _ hk => hk.2) (.int .i64 ((bP t101 x19_1).f0))) (fun _ hk => hk.2) (.int .i64 ((bP t101 x19_1).f1))) (fun _ hk => hk.2) (.int .i64 ((bP t101 x19_1).f2))) (fun _ hk => hk.2) (.int .i64 ((bP t101 x19_1).f3))) (fun _ h_ => h_.1))) (Kd.Bb (by (with_reducible repeat (first | apply Kd.bQ | apply Kd.bT | apply Kd.dC)); exact (Kd.aX (Kd.dE (p := ⟨gb106, 3, none⟩) (Kd.dE (p := ⟨gb106, 2, none⟩) (Kd.dE (p := ⟨gb106, 1, none⟩) (Kd.dE (p := ⟨gb106, 0, none⟩) (Kd.iE HO_6.out BK106.out (by decide)) (fun _ hk => hk.2) (.int .i64 ((bP t101 x19_1).f0))) (fun _ hk => hk.2) (.int .i64 ((bP t101 x19_1).f1))) (fun _ hk => hk.2) (.int .i64 ((bP t101 x19_1).f2))) (fun _ hk => hk.2) (.int .i64 ((bP t101 x19_1).f3))) (fun _ h_ => h_.1)))) (by decide) hg); have n1_ := aa.mk (gz (g := gb106) (o := .cells #[.int .i64 ((bP t101 x19_1).f0), .int .i64 ((bP t101 x19_1).f1), .int .i64 ((bP t101 x19_1).f2), .int .i64 ((bP t101 x19_1).f3)] 199 (0, 0)) (by (with_reducible repeat (first | refine ak ?_ _ | refine au ?_ | refine aj ?_ _)); refine aW (cs := #[.int .i64 ((bP t101 x19_1).f0), .int .i64 ((bP t101 x19_1).f1), .int .i64 ((bP t101 x19_1).f2), .int .i64 0]) ?_ 3 _ rfl; (with_reducible repeat (first | refine ak ?_ _ | refine au ?_ | refine aj ?_ _)); refine aW (cs := #[.int .i64 ((bP t101 x19_1).f0), .int .i64 ((bP t101 x19_1).f1), .int .i64 0, .int .i64 0]) ?_ 2 _ rfl; (with_reducible repeat (first | refine ak ?_ _ | refine au ?_ | refine aj ?_ _)); refine aW (cs := #[.int .i64 ((bP t101 x19_1).f0), .int .i64 0, .int .i64 0, .int .i64 0]) ?_ 1 _ rfl; (with_reducible repeat (first | refine ak ?_ _ | refine au ?_ | refine aj ?_ _)); refine aW (cs := #[.int .i64 0, .int .i64 0, .int .i64 0, .int .i64 0]) ?_ 0 _ rfl; (with_reducible repeat (first | refine ak ?_ _ | refine au ?_ | refine aj ?_ _)); exact BK106.out) hg (Kd.R_ne HO_6.out BK106.out (by decide))); have n2_ := aa.mk (hb); have n3_ := aa.mk (ho); clear HO_17; clear BK106; clear HB; clear HO_6; have HO_17 := n0_; have BK106 := n1_; have HB := n2_; have HO109 := n3_; clear n0_ n1_ n2_ n3_; clear ho hb hg hat))
        go_roundg k1
        case measure => have := HK1.out; omega
        case rel => exact ⟨(y107), (wrap64 (x19_1 + 1)), (by first | rfl | (simp; done) | (simp [*]; done)), H', ⟨by have := HK1.out; omega⟩, ⟨by (with_reducible repeat (first | apply Kd.bQ | apply Kd.bT | apply Kd.dC)); exact HO109.out⟩, ⟨by (with_reducible repeat (first | apply Kd.bQ | apply Kd.bT | apply Kd.dC)); exact Kd.aX HO_17.out (fun _ hk => trivial)⟩, ⟨by repeat (first | (with_reducible first | exact HB.out | apply ah | apply af | apply ag | refine av ?_ GE106.out) | exact HB.out)⟩⟩
       ·rw [if_neg c9] at H
        exact absurd H (by simp)
      ·rw [if_neg c8] at H
       exact absurd H (by simp)
     ·rw [if_neg c7] at H
      exact absurd H (by simp)
    ·rw [if_neg c6] at H
     have c6b0 : decide (x19_1 < (t101.length : Int)) = false := decide_eq_false c6
     clear c6
     replace H := Option.bind_eq_some_iff.mp H
     obtain ⟨t110, A130, H⟩ := H
     replace H : (some (t110, 0)) = some (r1, r2) := H
     have A13 := aa.mk A130
     clear A130
     simp only [Option.some.injEq, Prod.mk.injEq] at H
     obtain ⟨rfl, rfl⟩ := H
     obtain ⟨Ao14, co14, eo14⟩ := Kd.aZ HO_6.out
     subst eo14
     go_wp2_with (first | ((with_reducible refine bB (f := 127) rfl ?_); refine dN (some 33) rfl rfl Tryz.func127 (by kernel_rfl) rfl #[.slice Ao14 x6_1.length co14] rfl (by (try simp only [List.map_toArray, List.map_cons, List.map_nil]); first | done | rfl | (simp only [List.length_drop, List.length_take]; rfl)) ?_; (with_reducible refine (f_.calls _ _ x6_1 t110 _ ?side1 ?side2 A13.out).mono ?_); (case side1 => repeat (first | exact (Kd.bu HO_6.out).2.2 | (with_reducible refine Kd.dA ?_ _) | (with_reducible refine Kd.C_drewN ?_ _) | (with_reducible refine Kd.C_drew ?_))); (case side2 => exact (Kd.bu HO_6.out).2.1); rintro e w15 ⟨v111, rfl, ho0, hb⟩; refine ⟨_, rfl, ?_⟩; have n0_ := aa.mk (Kd.qZ (by (with_reducible repeat (first | apply Kd.bQ | apply Kd.bT | apply Kd.dC)); exact HO_6.out) (Kd.o8 ho0) hb); have n1_ := aa.mk (Kd.bA (by (with_reducible repeat (first | apply Kd.bQ | apply Kd.bT | apply Kd.dC)); exact HO_17.out) hb); have n2_ := aa.mk (Kd.bH (Kd.yS ho0 (Kd.R_lt (by (with_reducible repeat (first | apply Kd.bQ | apply Kd.bT | apply Kd.dC)); exact HO_6.out))) (ay (by repeat (first | (with_reducible first | exact HB.out | apply ah | apply af | apply ag) | exact HB.out)))); have n3_ := aa.mk (az (by repeat (first | (with_reducible first | exact HB.out | apply ah | apply af | apply ag) | exact HB.out)) hb); clear HO_6; clear HO_17; clear HB; have HO_6 := n0_; have HO_17 := n1_; have HO112 := n2_; have HB := n3_; clear n0_ n1_ n2_ n3_; (try clear hb); (try clear hb2); (try clear hk); (try clear hi); (try clear ho0)))
     go_ret2
     exact ⟨_, by first | rfl | (simp [aD, aC] <;> rfl) | (simp [*, aD, aC] <;> rfl), by (with_reducible repeat (first | apply Kd.bQ | apply Kd.bT | apply Kd.dC)); exact Kd.aX HO112.out (fun _ hk => trivial), by repeat (first | (with_reducible first | exact HB.out | apply ah | apply af | apply ag) | exact HB.out)⟩
 ·rw [if_neg c3] at H
  have c3b0 : (t102 == 0) = false := beq_eq_false_iff_ne.mpr c3
  have c3b1 : (t102 != 0) = true := bne_iff_ne.mpr c3
  simp only [Option.some.injEq, Prod.mk.injEq] at H
  obtain ⟨rfl, rfl⟩ := H
  go_enter Tryz.func88, Tryz.ntmps88
  go_wp2_with (first | ((with_reducible refine bB (f := 126) rfl ?_); refine dN (some 11) rfl rfl Tryz.func126 (by kernel_rfl) rfl #[.slice A0 l0.length c0] rfl (by (try simp only [List.map_toArray, List.map_cons, List.map_nil]); first | done | rfl | (simp only [List.length_drop, List.length_take]; rfl)) ?_; (with_reducible refine (gJ.calls _ _ l0 t101 t102 _ ?side1 ?side2 A2.out).mono ?_); (case side1 => repeat (first | exact HR0.out | (with_reducible refine Kd.dA ?_ _) | (with_reducible refine Kd.C_drewN ?_ _) | (with_reducible refine Kd.C_drew ?_))); (case side2 => exact HC0.out); rintro e w16 ⟨v103, rfl, ho0, hb⟩; refine ⟨_, rfl, ?_⟩; have n0_ := aa.mk (Kd.bH ho0 (ay (by repeat (first | (with_reducible first | exact HB.out | apply ah | apply af | apply ag) | exact HB.out)))); have n1_ := aa.mk (az (by repeat (first | (with_reducible first | exact HB.out | apply ah | apply af | apply ag) | exact HB.out)) hb); clear HB; have HO104 := n0_; have HB := n1_; clear n0_ n1_; (try clear hb); (try clear hb2); (try clear hk); (try clear hi); (try clear ho0)))
  go_ret2
  exact ⟨_, by first | rfl | (simp [aD, aC] <;> rfl) | (simp [*, aD, aC] <;> rfl), by first | exact Kd.bW _ _ _ _ _ | exact Kd.N_nil _ _ _ _ _ | exact Kd.V_nil _ _ _ _ _ | exact Kd.Q_nil _ _ _ _ _ | exact Kd.jv _ _ _ _ _, by repeat (first | (with_reducible first | exact HB.out | apply ah | apply af | apply ag) | exact HB.out)⟩
theorem refs9 {l : List S75} (h : Flag.fT (l.map toM) = 0) : Flag.Ok9 ((eO (gZ l)).map toR) ∧ (eO (gZ l)).length ≤ 9216 := by
  have h9 := Flag.gB.1 h
  have e1 : ((eO (gZ l)).map toR).length = (gZ l).length := by rw [iw, (Flag.iJ _).length_eq, List.length_map]
  rw [List.length_map] at e1
  refine ⟨?_, by rw [e1]; exact oW h9⟩
  rw [iw, mo]
  exact (Flag.qM h9).perm (Flag.iJ _)
theorem rd_r9 (pre : List S199) (x : S199) (t : List S199) {i : Int} (h : i = pre.length) : bP (pre ++ x :: t) i = x := by
  unfold bP
  rw [h, Int.toNat_natCast, List.getD_eq_getElem?_getD, List.getElem?_append_right (Nat.le_refl _), Nat.sub_self]; rfl
def spR (r : S199) : S93 := ⟨r.f0, r.f1⟩
theorem uA {l : List S199} (h : Flag.Ok9 (l.map toR)) : ∀ x ∈ l.map spR, OkSp x := by
  intro x hx
  obtain ⟨r, hr, rfl⟩ := List.mem_map.1 hx
  have h := h.each (toR r) (List.mem_map_of_mem hr)
  unfold toR at h
  dsimp only at h
  exact ⟨by show 0 ≤ r.f0; omega, by show 0 < r.f1; omega, by show r.f0 + r.f1 ≤ _; omega⟩
theorem vE (q : List S199) (hq : q.length ≤ 9216) (hok : Flag.Ok9 (q.map toR)) (t : List S199) : ∀ (pre : List S199) (k : Nat), q = pre ++ t → t.length < k →
    dx.l0 k (pre.map spR) q (q.length : Int) (pre.length : Int) = some (joinL (q.map spR), 0) := by
  induction t with
  | nil =>
    intro pre k h hk
    obtain ⟨k, rfl⟩ : ∃ k', k = k' + 1 := ⟨k - 1, by simp at hk; omega⟩
    rw [List.append_nil] at h
    subst h
    rw [dx.l0, if_neg (by omega)]
    unfold f_.f
    rw [if_pos ⟨by rw [List.length_map]; omega, uA hok⟩]
    rfl
  | cons s t ih =>
    intro pre k h hk
    obtain ⟨k, rfl⟩ : ∃ k', k = k' + 1 := ⟨k - 1, by simp at hk; omega⟩
    have hlen : q.length = pre.length + t.length + 1 := by rw [h]; simp; omega
    have hr : bP q (pre.length : Int) = s := by rw [h]; exact rd_r9 pre s t rfl
    have e1 : wrap64 ((pre.length : Int) + 1) = ((pre ++ [s]).length : Int) := by rw [w64 (by omega)]; simp
    have hnext := ih (pre ++ [s]) k (by rw [h]; simp) (by simp at hk; omega)
    rw [dx.l0, if_pos (by omega), if_pos (by omega), if_pos (by omega), if_pos (by rw [List.length_map]; omega), hr, e1]
    rw [List.map_append] at hnext
    exact hnext
theorem used9 {l : List S75} {k : Nat} (hk : 9217 < k) : dx.f k l = some (if Flag.fT (l.map toM) = 0 then (joinL ((eO (gZ l)).map spR), 0) else ([], 9)) := by
  unfold dx.f gJ.f
  rw [Option.bind_some]
  by_cases hc : Flag.fT (l.map toM) = 0
  · obtain ⟨r1, r2⟩ := refs9 hc
    rw [if_pos hc, if_pos hc]
    dsimp only
    rw [if_pos rfl]
    have := vE _ r2 r1 (eO (gZ l)) [] k rfl (by omega)
    exact this
  · rw [if_neg hc, if_neg hc]
    rfl
def cmpI (a b : Int) : Int := if a < b then -1 else if b < a then 1 else 0
def keyE (x : S93) : Int := wrap64 (x.f0 + x.f1)
set_option maxHeartbeats 1000000 in
set_option maxRecDepth 100000 in
theorem yZ (x : S93) (v : Int) (w : World) :
    Calls Tryz.prog 162 #[.agg #[.int .i64 x.f0, .int .i64 x.f1], .int .i64 v] w fun e w' => e = .returned (.int .i64 (cmpI (keyE x) (wrap64 (v + 1)))) ∧ Below w.heap.size w w' := by
  have hu93 := Tryz.underlying93
  go_enter Tryz.func162, Tryz.ntmps162
  go_wp2_with fail
  have hf : cmp_Compare_int.f (wrap64 (x.f0 + x.f1)) (wrap64 (v + 1)) = some (cmpI (keyE x) (wrap64 (v + 1))) := qC _ _
  refine (cmp_Compare_int.calls (wrap64 (x.f0 + x.f1)) (wrap64 (v + 1)) _ _ hf).mono ?_
  rintro e w1 ⟨rfl, hd⟩
  have HB := aa.mk (az ((Below.refl w.heap.size w).alloc (Nat.le_refl _) (.cells #[.int .i64 x.f0, .int .i64 x.f1] 93)) hd.below)
  clear hd hf
  go_wp2
  go_ret
  exact ⟨rfl, HB.out⟩
set_option maxHeartbeats 2000000 in
set_option maxRecDepth 100000 in
theorem oH (A0 : Option Addr) (c0 : Nat) (l0 : List S93) (v : Int) (w : World) (hr0 : Kd.C k93 w A0 l0.length l0) (hlen : l0.length ≤ 1024)
    (hs : ∀ i j : Int, 0 ≤ i → i < j → j < l0.length → keyE (aU l0 i) < keyE (aU l0 j)) :
    Calls Tryz.prog 161 #[.slice A0 l0.length c0, .int .i64 v, .func (.func 162) #[] #[]] w fun e w' => ∃ i : Int, 0 ≤ i ∧ i ≤ l0.length ∧ (∀ j : Int, 0 ≤ j → j < i → keyE (aU l0 j) < wrap64 (v + 1)) ∧ (∀ j : Int, i ≤ j → j < l0.length → wrap64 (v + 1) ≤ keyE (aU l0 j)) ∧ e = .returned (.tuple #[.int .i64 i, .bool (decide (i < l0.length) && (keyE (aU l0 i) == wrap64 (v + 1)))]) ∧ Below w.heap.size w w' := by
  have hu93 := Tryz.underlying93
  have HR0 := aa.mk hr0
  have HS := aa.mk hs
  clear hr0 hs
  go_enter Tryz.func161, Tryz.ntmps161
  go_wp2_with fail
  go_loopg [9, 10] l0.length (fun gk v9 v10 W => ∃ lo hi : Int, v9 = .int .i64 lo ∧ v10 = .int .i64 hi ∧ aa (0 ≤ lo ∧ lo ≤ hi ∧ hi ≤ l0.length ∧ hi - lo ≤ gk) ∧ aa ((∀ j : Int, 0 ≤ j → j < lo → keyE (aU l0 j) < wrap64 (v + 1)) ∧ (∀ j : Int, hi ≤ j → j < l0.length → wrap64 (v + 1) ≤ keyE (aU l0 j))) ∧ aa (Below w.heap.size w W))
  case atStart => exact ⟨0, l0.length, rfl, rfl, ⟨Int.le_refl _, by omega, Int.le_refl _, by omega⟩, ⟨fun j h1 h2 => by omega, fun j h1 h2 => by omega⟩, ⟨Below.refl _ _⟩⟩
  case round =>
    obtain ⟨lo, hi, rfl, rfl, HI, HQ, HB⟩ := hrel
    by_cases hlt : lo < hi
    · have hd : decide (lo < hi) = true := decide_eq_true hlt
      obtain ⟨h1, h2, h3, h4⟩ := HI.out
      have hlen64 : (l0.length : Int) ≤ 1024 := by omega
      obtain ⟨k1, rfl⟩ : ∃ k, gk = k + 1 := ⟨gk - 1, by omega⟩
      have m0 : lo ≤ (lo + hi) / 2 := by omega
      have m1 : (lo + hi) / 2 < hi := by omega
      have q0 : 0 ≤ (lo + hi) / 2 := by omega
      have q1 : (lo + hi) / 2 < (l0.length : Int) := by omega
      have hC : Kd.C k93 wr A0 l0.length l0 := Kd.aN HR0.out HB.out
      obtain ⟨ad, e3, g0, g1⟩ := fQ hC ((lo + hi) / 2) q0 q1
      cases e3
      obtain ⟨x, hx⟩ : ∃ x, x = aU l0 ((lo + hi) / 2) := ⟨_, rfl⟩
      rw [← hx] at g0 g1
      have HX := aa.mk hx
      have HM := aa.mk (And.intro m0 m1)
      clear hx hC
      go_wp2_with fail
      refine (yZ x v _).mono ?_
      rintro e w1 ⟨rfl, hb1⟩
      have HB1 := aa.mk (az HB.out hb1)
      clear hb1 g0 g1
      by_cases hc : keyE x < wrap64 (v + 1)
      · have hcv : cmpI (keyE x) (wrap64 (v + 1)) = -1 := by unfold cmpI; rw [if_pos hc]
        rw [hcv]
        go_wp2
        go_roundg k1
        case measure => omega
        case rel =>
          refine ⟨(lo + hi) / 2 + 1, hi, by first | rfl | (simp; done), by first | rfl | (simp; done), ⟨by omega, by omega, by omega, by omega⟩, ⟨fun j h5 h6 => ?_, HQ.out.2⟩, HB1⟩
          by_cases h7 : j = (lo + hi) / 2
          · rw [h7, ← HX.out]; exact hc
          · have := HS.out j ((lo + hi) / 2) h5 (by omega) q1
            rw [← HX.out] at this
            omega
      · have hcv : 0 ≤ cmpI (keyE x) (wrap64 (v + 1)) := by unfold cmpI; rw [if_neg hc]; split <;> omega
        have hdc : decide (cmpI (keyE x) (wrap64 (v + 1)) < 0) = false := decide_eq_false (by omega)
        go_wp2
        go_roundg k1
        case measure => omega
        case rel =>
          refine ⟨lo, (lo + hi) / 2, by first | rfl | (simp; done), by first | rfl | (simp; done), ⟨by omega, by omega, by omega, by omega⟩, ⟨HQ.out.1, fun j h5 h6 => ?_⟩, HB1⟩
          by_cases h7 : j = (lo + hi) / 2
          · rw [h7, ← HX.out]; omega
          · have := HS.out ((lo + hi) / 2) j q0 (by omega) h6
            rw [← HX.out] at this
            omega
    · have hd : decide (lo < hi) = false := decide_eq_false hlt
      obtain ⟨h1, h2, h3, h4⟩ := HI.out
      by_cases hn : lo < (l0.length : Int)
      · have hdn : decide (lo < (l0.length : Int)) = true := decide_eq_true hn
        have hC : Kd.C k93 wr A0 l0.length l0 := Kd.aN HR0.out HB.out
        obtain ⟨ad, e3, g0, g1⟩ := fQ hC lo h1 hn
        cases e3
        obtain ⟨x, hx⟩ : ∃ x, x = aU l0 lo := ⟨_, rfl⟩
        rw [← hx] at g0 g1
        have HX := aa.mk hx
        clear hx hC
        go_wp2_with fail
        refine (yZ x v _).mono ?_
        rintro e w1 ⟨rfl, hb1⟩
        have HB1 := aa.mk (az HB.out hb1)
        clear hb1 g0 g1
        have hce : (cmpI (keyE x) (wrap64 (v + 1)) == 0) = (keyE x == wrap64 (v + 1)) := by
          unfold cmpI
          rcases Int.lt_trichotomy (keyE x) (wrap64 (v + 1)) with h5 | h5 | h5
          · rw [if_pos h5]; have : ¬ keyE x = wrap64 (v + 1) := by omega
            simp [this]
          · simp [h5]
          · rw [if_neg (by omega), if_pos h5]; have : ¬ keyE x = wrap64 (v + 1) := by omega
            simp [this]
        go_wp2
        go_ret2
        refine ⟨lo, h1, by omega, HQ.out.1, fun j h5 h6 => HQ.out.2 j (by omega) h6, ?_, HB1.out⟩
        rw [hdn, ← HX.out, ← hce]
        rfl
      · have hdn : decide (lo < (l0.length : Int)) = false := decide_eq_false hn
        go_wp2
        go_ret2
        refine ⟨lo, h1, by omega, HQ.out.1, fun j h5 h6 => HQ.out.2 j (by omega) h6, ?_, HB.out⟩
        rw [hdn]
        rfl
theorem oh {α : Type} (p : α → Bool) (l : List α) : ∀ i : Nat, i ≤ l.length → (∀ j (hj : j < l.length), j < i → p l[j] = true) → (∀ hi : i < l.length, p l[i] = false) → (l.takeWhile p).length = i := by
  induction l with
  | nil => intro i h _ _; simp at h; simp [h]
  | cons x t ih =>
    intro i h h1 h2
    cases i with
    | zero =>
      have := h2 (by simp)
      rw [List.takeWhile_cons_of_neg (by simpa using this)]; rfl
    | succ i =>
      have h0 := h1 0 (by simp) (by omega)
      rw [List.takeWhile_cons_of_pos (by simpa using h0), List.length_cons, ih i (by simpa using h) (fun j hj hji => h1 (j + 1) (by simp; omega) (by omega)) (fun hi => h2 (by simp; omega))]
theorem j5 (l : List S93) (j : Int) (h0 : 0 ≤ j) (h1 : j < l.length) : aU l j = l[j.toNat]'(by omega) := by
  unfold aU; rw [List.getD_eq_getElem?_getD, List.getElem?_eq_getElem (by omega)]; rfl
def atL (l : List S93) (s : Int) : Nat := (Flag.ahead (l.map toP) s).length
def free_at.f (l0 : List (S93)) (a1 : Int) : Option Int := if Flag.iD 65536 (l0.map toP) = 0 ∧ -1 ≤ a1 ∧ a1 ≤ 1099511627776 then some (atL l0 a1 : Int) else none
theorem zG {l : List S93} (h : Flag.NFs (l.map toP)) (i j : Nat) (hij : i < j) (hj : j < l.length) : (l[i]'(by omega)).f0 + (l[i]'(by omega)).f1 < l[j].f0 := by
  have e : l = l.take i ++ l[i]'(by omega) :: l.drop (i + 1) := by rw [List.getElem_cons_drop, List.take_append_drop]
  have h2 := h
  rw [e, List.map_append] at h2
  obtain ⟨_, h3, _⟩ := Flag.jR h2
  have hm : l[j] ∈ l.drop (i + 1) := by
    have : (l.drop (i + 1))[j - (i + 1)]'(by rw [List.length_drop]; omega) = l[j] := by rw [List.getElem_drop]; congr 1; omega
    rw [← this]; exact List.getElem_mem _
  exact h3.after (toP l[j]) (List.mem_map_of_mem hm)
set_option maxHeartbeats 1000000 in
set_option maxRecDepth 100000 in
theorem free_at.calls (A0 : Option Addr) (c0 : Nat) (l0 : List (S93)) (a1 : Int) (r : Int) (w : World) (hr0 : Kd.C k93 w A0 l0.length l0) (hc0 : l0.length ≤ c0) (h : free_at.f l0 a1 = some r) :
    Calls Tryz.prog 135 #[.slice A0 l0.length c0, .int .i64 a1] w fun e w' => e = .returned (.int .i64 r) ∧ Below w.heap.size w w' := by
  unfold free_at.f at h
  split at h
  · rename_i hc
    obtain ⟨hck, ha, hb⟩ := hc
    have hm := Flag.gV.1 hck
    obtain rfl := Option.some.inj h
    have hlen : l0.length ≤ 1024 := by have := hm.len; simpa using this
    have hins : ∀ x ∈ l0, 0 < x.f1 ∧ 0 ≤ x.f0 ∧ x.f0 + x.f1 ≤ 65536 := fun x hx => by
      have := hm.ins _ (List.mem_map_of_mem hx)
      exact ⟨this.n, this.a, this.e⟩
    have hkey : ∀ j : Int, 0 ≤ j → j < l0.length → ∃ hj : j.toNat < l0.length, keyE (aU l0 j) = l0[j.toNat].f0 + l0[j.toNat].f1 := by
      intro j h0 h1
      have hj : j.toNat < l0.length := by omega
      refine ⟨hj, ?_⟩
      rw [j5 l0 j h0 h1]
      have := hins _ (List.getElem_mem hj)
      exact w64 (by omega)
    have hT : wrap64 (a1 + 1) = a1 + 1 := w64 (by omega)
    have hsort : ∀ i j : Int, 0 ≤ i → i < j → j < l0.length → keyE (aU l0 i) < keyE (aU l0 j) := by
      intro i j h0 h1 h2
      obtain ⟨hi', e1⟩ := hkey i h0 (by omega)
      obtain ⟨hj', e2⟩ := hkey j (by omega) h2
      rw [e1, e2]
      have h3 := zG hm.nf i.toNat j.toNat (by omega) hj'
      have := (hins _ (List.getElem_mem hj')).1
      omega
    have HR0 := aa.mk hr0
    have HK := aa.mk hkey
    have HT := aa.mk hT
    have hbs := oH A0 c0 l0 a1 w hr0 hlen hsort
    clear hr0 hkey hT hsort hins hm hck h
    go_enter Tryz.func135, Tryz.ntmps135
    go_wp2_with fail
    refine hbs.mono ?_
    rintro e w2 ⟨i, i0, i1, il, ig, rfl, hb2⟩
    have hres : (atL l0 a1 : Int) = i := by
      unfold atL Flag.ahead
      have h1 := oh (fun x : Flag.Sp => decide (x.a + x.n ≤ a1)) (l0.map toP) i.toNat (by simp; omega) (fun j hj hji => by
        have hj : j < l0.length := by simpa using hj
        have h2 := il (j : Int) (by omega) (by omega)
        obtain ⟨h3, h4⟩ := HK.out (j : Int) (by omega) (by omega)
        rw [h4, HT.out] at h2
        simp only [List.getElem_map]
        apply decide_eq_true
        show (l0[j]).f0 + (l0[j]).f1 ≤ a1
        have e : (l0[((j : Int)).toNat]'h3) = l0[j] := by congr 1
        rw [e] at h2
        omega) (fun hj => by
        have hj : i.toNat < l0.length := by simpa using hj
        have h2 := ig i (Int.le_refl _) (by omega)
        obtain ⟨h3, h4⟩ := HK.out i i0 (by omega)
        rw [h4, HT.out] at h2
        simp only [List.getElem_map]
        apply decide_eq_false
        show ¬ ((l0[i.toNat]).f0 + (l0[i.toNat]).f1 ≤ a1)
        omega)
      rw [h1]; omega
    have HRES := aa.mk hres
    have HB2 := aa.mk hb2
    clear il ig hb2 hres
    go_wp2
    go_ret
    exact ⟨by rw [HRES.out]; rfl, HB2.out⟩
  · cases h
theorem wy (x : S93) (size : Int) (h0 : 0 ≤ size) (h1 : size ≤ 65536) : dB.f x.f0 x.f1 size = some (decide (0 < x.f1 ∧ 0 ≤ x.f0 ∧ x.f0 + x.f1 ≤ size)) := by
  unfold dB.f
  split
  · split
    · split
      · rw [w64 (by omega)]
        congr 1
        exact decide_eq_decide.2 (by omega)
      · congr 1; exact (decide_eq_false (by omega)).symm
    · congr 1; exact (decide_eq_false (by omega)).symm
  · congr 1; exact (decide_eq_false (by omega)).symm
theorem sH (size e : Int) (x : S93) (t : List Flag.Sp) : Flag.jw size e (toP x :: t) = (decide (0 < x.f1) && decide (0 ≤ x.f0) && decide (x.f0 + x.f1 ≤ size) && decide (e < x.f0) && Flag.jw size (x.f0 + x.f1) t) := rfl
theorem qN (size : Int) (h0 : 0 ≤ size) (h1 : size ≤ 65536) (l : List S93) (hl : l.length ≤ 1024) (sp : List S93) : ∀ (m i : Nat) (last : Int), i + m = l.length → aH.l0 (m + 1) last l (l.length : Int) (i : Int) size sp = some (if Flag.jw size last ((l.drop i).map toP) = true then 0 else 9) := by
  intro m
  induction m with
  | zero =>
    intro i last hi
    rw [List.drop_eq_nil_of_le (by omega)]
    unfold aH.l0
    rw [if_neg (by omega)]
    simp [Flag.jw]
  | succ m ih =>
    intro i last hi
    have hil : i < l.length := by omega
    rw [← List.getElem_cons_drop hil, List.map_cons, sH]
    unfold aH.l0
    have hx : aU l (i : Int) = l[i] := by rw [j5 l (i : Int) (by omega) (by omega)]; simp
    rw [if_pos (by omega), if_pos (by omega), if_pos (by omega), hx, wy _ size h0 h1, Option.bind_some]
    by_cases hin : 0 < l[i].f1 ∧ 0 ≤ l[i].f0 ∧ l[i].f0 + l[i].f1 ≤ size
    · rw [if_pos (decide_eq_true hin)]
      have hw : wrap64 (l[i].f0 + l[i].f1) = l[i].f0 + l[i].f1 := w64 (by omega)
      have hw2 : wrap64 ((i : Int) + 1) = ((i + 1 : Nat) : Int) := by rw [w64 (by omega)]; omega
      rw [hw, hw2]
      by_cases hc : l[i].f0 ≤ last
      · rw [if_pos hc, decide_eq_false (show ¬ (last < l[i].f0) by omega)]
        simp
      · rw [if_neg hc, ih (i + 1) _ (by omega), decide_eq_true (show last < l[i].f0 by omega), decide_eq_true hin.1, decide_eq_true hin.2.1, decide_eq_true hin.2.2]
        simp
    · rw [if_neg (by simpa using hin)]
      have : (decide (0 < l[i].f1) && decide (0 ≤ l[i].f0) && decide (l[i].f0 + l[i].f1 ≤ size)) = false := by
        rw [Bool.eq_false_iff]
        intro h
        simp only [Bool.and_eq_true, decide_eq_true_eq] at h
        exact hin ⟨h.1.1, h.1.2, h.2⟩
      rw [this]
      simp
theorem check6 (size : Int) (l : List S93) : ∃ k, aH.f k size l = some (Flag.iD size (l.map toP)) := by
  refine ⟨l.length + 3, ?_⟩
  unfold aH.f Flag.iD
  by_cases h0 : size < 0
  · rw [if_pos h0, if_neg (by omega)]; unfold aH.j0; rfl
  · by_cases h1 : size > 65536
    · rw [if_neg h0, if_pos h1, if_neg (by omega)]; unfold aH.j0; rfl
    · rw [if_neg h0, if_neg h1]
      by_cases h2 : (l.length : Int) > 1024
      · rw [decide_eq_true h2, if_neg (by rw [List.length_map]; omega)]; unfold aH.j0; rfl
      · rw [decide_eq_false h2]
        have hj : aH.j0 (l.length + 3) false size l = aH.l0 (l.length + 1 + 1) (-1) l (l.length : Int) 0 size l := by unfold aH.j0; exact if_neg Bool.false_ne_true
        rw [hj]
        have h := qN size (by omega) (by omega) l (by omega) l l.length 0 (-1) (by omega)
        have h' := (aH.tK (l.length + 1)).2 (-1) l (l.length : Int) 0 size l _ h
        rw [List.drop_zero] at h'
        rw [h']
        congr 1
        have e : ((0 ≤ size ∧ size ≤ 65536) ∧ (l.map toP).length ≤ 1024 ∧ Flag.jw size (-1) (l.map toP) = true) ↔ Flag.jw size (-1) (l.map toP) = true := ⟨fun h => h.2.2, fun h => ⟨by omega, by rw [List.length_map]; omega, h⟩⟩
        by_cases hr : Flag.jw size (-1) (l.map toP) = true
        · rw [if_pos hr, if_pos (e.2 hr)]
        · rw [if_neg hr, if_neg (fun h => hr (e.1 h))]
section
variable {α : Type} {d : Kd α} {enc : α → List Value} {e : Nat} {w : World} {base : Nat} {ok : Nat → Prop} {v : Value} {xs : List α} {k g cap : Nat}
def LieL (enc : α → List Value) (k e : Nat) (w : World) (g cap : Nat) (cur : Array Value) (xs : List α) : Prop :=
  w.heap[g]? = some (.cells cur e (0, 0)) ∧ cur.size = cap * k ∧ xs.length ≤ cap ∧ cap ≤ maxLen ∧ cur.toList.take (xs.length * k) = xs.flatMap enc
theorem fq (hk : ∀ x, (enc x).length = k) (l : List α) : (l.flatMap enc).length = l.length * k := by
  induction l with
  | nil => simp
  | cons x t ih => rw [List.flatMap_cons, List.length_append, hk, ih, List.length_cons, Nat.succ_mul]; omega
theorem pJ (hk : ∀ x, (enc x).length = k) (l : List α) (j : Nat) : (l.flatMap enc).take (j * k) = (l.take j).flatMap enc := by
  induction l generalizing j with
  | nil => simp
  | cons x t ih =>
    cases j with
    | zero => simp
    | succ j => rw [List.take_succ_cons, List.flatMap_cons, List.flatMap_cons, ← ih, List.take_append, hk, Nat.succ_mul, List.take_of_length_le (by rw [hk]; omega)]; congr 2; omega
theorem mr (hk : ∀ x, (enc x).length = k) (l : List α) (j : Nat) : (l.flatMap enc).drop (j * k) = (l.drop j).flatMap enc := by
  induction l generalizing j with
  | nil => simp
  | cons x t ih =>
    cases j with
    | zero => simp
    | succ j => rw [List.drop_succ_cons, List.flatMap_cons, ← ih, List.drop_append, hk, Nat.succ_mul, List.drop_of_length_le (by rw [hk]; omega), List.nil_append]; congr 1; omega
theorem flat_get (hk : ∀ x, (enc x).length = k) (l : List α) (j : Nat) (x : α) (hj : l[j]? = some x) (i : Nat) (u : Value) (hu : (enc x)[i]? = some u) : (l.flatMap enc)[j * k + i]? = some u := by
  have h1 := mr (enc := enc) hk l j
  have hjl := (List.getElem?_eq_some_iff.1 hj).1
  have h2 : l.drop j = x :: l.drop (j + 1) := by
    rw [← List.getElem_cons_drop hjl]
    have := (List.getElem?_eq_some_iff.1 hj).2
    rw [this]
  rw [h2, List.flatMap_cons] at h1
  have h3 : ((l.flatMap enc).drop (j * k))[i]? = some u := by
    rw [h1, List.getElem?_append_left (List.getElem?_eq_some_iff.1 hu).1]
    exact hu
  rwa [List.getElem?_drop] at h3
theorem xU (hk : ∀ x, (enc x).length = k) (cs : List Value) : ∀ (l : List α), cs.length = l.length * k → (∀ j x, l[j]? = some x → ∀ i u, (enc x)[i]? = some u → cs[j * k + i]? = some u) → cs = l.flatMap enc := by
  intro l hl h
  apply List.ext_getElem?
  intro t
  by_cases ht : t < cs.length
  · have hk0 : 0 < k := by
      rcases Nat.eq_zero_or_pos k with h0 | h0
      · rw [h0, Nat.mul_zero] at hl; omega
      · exact h0
    have hj : t / k < l.length := by rw [Nat.div_lt_iff_lt_mul hk0]; omega
    have e1 : l[t / k]? = some l[t / k] := List.getElem?_eq_getElem hj
    have hm : t % k < (enc l[t / k]).length := by rw [hk]; exact Nat.mod_lt _ hk0
    have e2 := List.getElem?_eq_getElem hm
    have e3 : t / k * k + t % k = t := Nat.div_add_mod' t k
    have h1 := h _ _ e1 _ _ e2
    have h2 := flat_get (enc := enc) hk l _ _ e1 _ _ e2
    rw [e3] at h1 h2
    rw [h1, h2]
  · rw [List.getElem?_eq_none (by omega), List.getElem?_eq_none (by rw [fq hk]; omega)]
theorem Lies.toL (hk : ∀ x, (enc x).length = k) (h : Lies enc k e w g cap xs) : ∃ cur, LieL enc k e w g cap cur xs := by
  obtain ⟨cur, h1, h2, h3, h4, h5⟩ := h
  refine ⟨cur, h1, h2, h3, h4, xU hk _ xs ?_ ?_⟩
  · rw [List.length_take, (show cur.toList.length = cur.size from Array.length_toList), h2]
    exact Nat.min_eq_left (Nat.mul_le_mul_right _ h3)
  · intro j x hj i u hu
    have hjl := (List.getElem?_eq_some_iff.1 hj).1
    have hi : i < k := by have := (List.getElem?_eq_some_iff.1 hu).1; rw [hk] at this; exact this
    have : (j + 1) * k ≤ xs.length * k := Nat.mul_le_mul_right _ hjl
    rw [Nat.add_mul, Nat.one_mul] at this
    rw [List.getElem?_take_of_lt (by omega), Array.getElem?_toList]
    exact h5 j x hj i u hu
theorem LieL.to (hk : ∀ x, (enc x).length = k) {cur : Array Value} (h : LieL enc k e w g cap cur xs) : Lies enc k e w g cap xs := by
  obtain ⟨h1, h2, h3, h4, h5⟩ := h
  refine ⟨cur, h1, h2, h3, h4, fun j x hj i u hu => ?_⟩
  have hjl := (List.getElem?_eq_some_iff.1 hj).1
  have hi : i < k := by have := (List.getElem?_eq_some_iff.1 hu).1; rw [hk] at this; exact this
  have : (j + 1) * k ≤ xs.length * k := Nat.mul_le_mul_right _ hjl
  rw [Nat.add_mul, Nat.one_mul] at this
  have h6 := flat_get (enc := enc) hk xs j x hj i u hu
  rw [← h5, List.getElem?_take_of_lt (by omega), Array.getElem?_toList] at h6
  exact h6
theorem LieL.cell {cur : Array Value} (h : LieL enc k e w g cap cur xs) (o j : Nat) (u : Value) (hj : cur.toList[o + j]? = some u) : w.cell? ((⟨g, o, none⟩ : Addr).add j) = some u := by
  rw [yE, ae h.1, ← Array.getElem?_toList]
  exact hj
end
section
variable {P : Program}
theorem fG (w : World) (dT sT ty elem : TypeId) (g o dLen dCap : Nat) (a : Addr) (sLen sCap : Nat) (cur : Array Value) (t : TypeId) (cs : List Value) (k : Nat)
    (hu : P.underlying dT = some (.slice elem)) (hs : ∀ w, (Go.sizeOf elem).run P w = .ok k w)
    (hg : w.heap[g]? = some (.cells cur t (0, 0))) (hn : cs.length = Nat.min sLen dLen * k)
    (hsrc : ∀ j v, cs[j]? = some v → w.cell? (a.add j) = some v) (hfit : o + cs.length ≤ cur.size) (h1 : ∀ v ∈ cs, v.oneCell' = true) :
    (Builtin.copy_ #[dT, sT] ty #[.slice (some ⟨g, o, none⟩) dLen dCap, .slice (some a) sLen sCap]).run P w =
      .ok (goInt (Nat.min sLen dLen)) (w.setRow g (cur.toList.take o ++ cs ++ cur.toList.drop (o + cs.length)).toArray) := by
  have hl := run_loadCells_list (P := P) w a cs hsrc
  have hst := run_storeCells_at P g o t cs 0 cur w hg (by simpa using hfit) h1
  rw [hn] at hl
  simp only [Nat.add_zero] at hst
  simp [Builtin.copy_, run_underlying hu, Builtin.lenOf, Builtin.firstCells, hs, hl, hst]
theorem mF (w : World) (dT sT ty elem : TypeId) (g o dLen dCap : Nat) (k : Nat) (hu : P.underlying dT = some (.slice elem)) (hs : ∀ w, (Go.sizeOf elem).run P w = .ok k w) :
    (Builtin.copy_ #[dT, sT] ty #[.slice (some ⟨g, o, none⟩) dLen dCap, .slice none 0 0]).run P w = .ok (goInt 0) w := by
  simp [Builtin.copy_, run_underlying hu, Builtin.lenOf, Builtin.firstCells, hs, storeCells]
theorem jH (w : World) (t e ty : TypeId) (z : Value) (ht : P.underlying t = some (.slice e)) (hv : ∀ w, (zeroValue e).run P w = .ok z w) (g o n c : Nat) (cur : Array Value) (te : TypeId)
    (hg : w.heap[g]? = some (.cells cur te (0, 0))) (hfit : o + n * z.cells.size ≤ cur.size) (h1 : ∀ v ∈ z.cells.toList, v.oneCell' = true) (hn : 0 < n) :
    ∃ zs : List Value, zs.length = n * z.cells.size ∧ (Builtin.clear_ #[t] ty #[.slice (some ⟨g, o, none⟩) n c]).run P w = .ok (.tuple #[]) (w.setRow g (cur.toList.take o ++ zs ++ cur.toList.drop (o + zs.length)).toArray) := by
  refine ⟨(Builtin.zeroCells z.cells n).toList, by simp [Builtin.zeroCells], ?_⟩
  have hz1 : ∀ v ∈ (Builtin.zeroCells z.cells n).toList, v.oneCell' = true := by
    intro v hv'
    simp only [Builtin.zeroCells, Array.toList_map, List.mem_map] at hv'
    obtain ⟨i, hi, rfl⟩ := hv'
    have hi : i < n * z.cells.size := by simpa using hi
    have hs0 : 0 < z.cells.size := by
      rcases Nat.eq_zero_or_pos z.cells.size with h0 | h0
      · rw [h0, Nat.mul_zero] at hi; omega
      · exact h0
    have hm := Nat.mod_lt i hs0
    rw [getElem!_pos z.cells _ hm]
    exact h1 _ (by simp)
  have hst := run_storeCells_at P g o te (Builtin.zeroCells z.cells n).toList 0 cur w hg (by simp [Builtin.zeroCells]; omega) hz1
  simp only [Nat.add_zero] at hst
  obtain ⟨m, rfl⟩ : ∃ m, n = m + 1 := ⟨n - 1, by omega⟩
  simp [Builtin.clear_, run_underlying ht, hv, hst]
theorem mG (w : World) (t e ty : TypeId) (ht : P.underlying t = some (.slice e)) (a : Option Addr) (c : Nat) :
    (Builtin.clear_ #[t] ty #[.slice a 0 c]).run P w = .ok (.tuple #[]) w := by
  cases a <;> simp [Builtin.clear_, run_underlying ht]
end
section
variable {α : Type} {enc : α → List Value} {e : Nat} {w : World} {k g cap : Nat}
theorem d_ {β : Type} (a b : List β) (n : Nat) (h : a.length = n) : (a ++ b).take n = a := by subst h; simp
theorem oU {β : Type} (a b : List β) (n : Nat) (h : a.length = n) : (a ++ b).drop n = b := by subst h; simp
theorem LieL.put (hk : ∀ x, (enc x).length = k) {cur : Array Value} {xs ys : List α} {i : Nat} (h : LieL enc k e w g cap cur xs) (hi : i ≤ xs.length) (hc : i + ys.length ≤ cap) :
    LieL enc k e (w.setRow g (cur.toList.take (i * k) ++ ys.flatMap enc ++ cur.toList.drop (i * k + (ys.flatMap enc).length)).toArray) g cap (cur.toList.take (i * k) ++ ys.flatMap enc ++ cur.toList.drop (i * k + (ys.flatMap enc).length)).toArray (xs.take i ++ ys) := by
  obtain ⟨h1, h2, h3, h4, h5⟩ := h
  have hfl := fq (enc := enc) hk ys
  have hik : i * k ≤ xs.length * k := Nat.mul_le_mul_right _ hi
  have hck : (i + ys.length) * k ≤ cap * k := Nat.mul_le_mul_right _ hc
  rw [Nat.add_mul] at hck
  have hl1 : (cur.toList.take (i * k)).length = i * k := by rw [List.length_take, (show cur.toList.length = cur.size from Array.length_toList), h2]; exact Nat.min_eq_left (by omega)
  have hpre : cur.toList.take (i * k) = (xs.take i).flatMap enc := by
    rw [← pJ (enc := enc) hk xs i, ← h5, List.take_take, Nat.min_eq_left hik]
  have hxl : (xs.take i).length = i := by rw [List.length_take]; omega
  refine ⟨setRow_heap w g cur _ e (0, 0) h1, ?_, by rw [List.length_append, hxl]; exact hc, h4, ?_⟩
  · rw [List.size_toArray, List.length_append, List.length_append, hl1, List.length_drop, (show cur.toList.length = cur.size from Array.length_toList), h2, hfl]; omega
  · rw [List.length_append, hxl, List.flatMap_append, ← hpre, Nat.add_mul]
    exact d_ _ _ _ (by rw [List.length_append, hl1, hfl])
theorem LieL.cut (hk : ∀ x, (enc x).length = k) {cur : Array Value} {xs : List α} (h : LieL enc k e w g cap cur xs) (i : Nat) (hi : i ≤ xs.length) : LieL enc k e w g cap cur (xs.take i) := by
  obtain ⟨h1, h2, h3, h4, h5⟩ := h
  have hik : i * k ≤ xs.length * k := Nat.mul_le_mul_right _ hi
  have hxl : (xs.take i).length = i := by rw [List.length_take]; omega
  refine ⟨h1, h2, by omega, h4, ?_⟩
  rw [hxl, ← pJ (enc := enc) hk xs i, ← h5, List.take_take, Nat.min_eq_left hik]
theorem LieL.behind {cur cur' : Array Value} {xs : List α} (h : LieL enc k e w g cap cur xs) (o : Nat) (ho : xs.length * k ≤ o) (hs : cur'.size = cur.size) (hc : cur'.toList.take o = cur.toList.take o) : LieL enc k e (w.setRow g cur') g cap cur' xs := by
  obtain ⟨h1, h2, h3, h4, h5⟩ := h
  refine ⟨setRow_heap w g cur _ e (0, 0) h1, by rw [hs, h2], h3, h4, ?_⟩
  have e1 : cur'.toList.take (xs.length * k) = (cur'.toList.take o).take (xs.length * k) := by rw [List.take_take, Nat.min_eq_left ho]
  rw [e1, hc, List.take_take, Nat.min_eq_left ho, h5]
theorem aJ {B : Nat} {w0 w : World} (h : Below B w0 w) (hg : B ≤ g) (cs : Array Value) : Below B w0 (w.setRow g cs) :=
  ⟨h.os, h.tape, h.output, by rw [setRow_size]; exact h.size, fun i hi => by rw [setRow_other w g i cs (by omega)]; exact h.block i hi⟩
end
section
variable {α : Type} {enc : α → List Value} {e : Nat} {w : World} {k g cap : Nat}
theorem LieL.nC (hk : ∀ x, (enc x).length = k) {cur : Array Value} {xs ys : List α} {i : Nat} (h : LieL enc k e w g cap cur xs) (hi : i + ys.length ≤ xs.length) :
    LieL enc k e (w.setRow g (cur.toList.take (i * k) ++ ys.flatMap enc ++ cur.toList.drop (i * k + (ys.flatMap enc).length)).toArray) g cap (cur.toList.take (i * k) ++ ys.flatMap enc ++ cur.toList.drop (i * k + (ys.flatMap enc).length)).toArray (xs.take i ++ ys ++ xs.drop (i + ys.length)) := by
  have hp := h.put hk (ys := ys) (show i ≤ xs.length by omega) (by have := h.2.2.1; omega)
  obtain ⟨h1, h2, h3, h4, h5⟩ := h
  have hfl := fq (enc := enc) hk ys
  have hxl : (xs.take i).length = i := by rw [List.length_take]; omega
  refine ⟨hp.1, hp.2.1, ?_, h4, ?_⟩
  · simp only [List.length_append, hxl, List.length_drop]; omega
  · have hlen : (xs.take i ++ ys ++ xs.drop (i + ys.length)).length = xs.length := by simp only [List.length_append, hxl, List.length_drop]; omega
    rw [hlen, List.flatMap_append]
    have h6 := hp.2.2.2.2
    simp only at h6 ⊢
    have hpl : (xs.take i ++ ys).length = i + ys.length := by rw [List.length_append, hxl]
    rw [hpl, Nat.add_mul] at h6
    have hl1 : (cur.toList.take (i * k)).length = i * k := by
      rw [List.length_take, (show cur.toList.length = cur.size from Array.length_toList), h2]
      exact Nat.min_eq_left (Nat.mul_le_mul_right _ (by omega))
    have hA : (cur.toList.take (i * k) ++ ys.flatMap enc).length = i * k + ys.length * k := by rw [List.length_append, hl1, hfl]
    have hle : i * k + ys.length * k ≤ xs.length * k := by rw [← Nat.add_mul]; exact Nat.mul_le_mul_right _ hi
    have h7 : cur.toList.take (i * k) ++ ys.flatMap enc = (xs.take i ++ ys).flatMap enc := by
      rw [← h6]
      exact (d_ _ _ _ hA).symm
    rw [List.take_append, List.take_of_length_le (by rw [hA]; exact hle), h7]
    congr 1
    rw [← h7, hA, hfl, ← mr (enc := enc) hk xs (i + ys.length), ← h5, Nat.add_mul, List.drop_take]
theorem LieL.src (hk : ∀ x, (enc x).length = k) {cur : Array Value} {xs : List α} (h : LieL enc k e w g cap cur xs) (j : Nat) : ∀ t u, ((xs.drop j).flatMap enc)[t]? = some u → w.cell? ((⟨g, j * k, none⟩ : Addr).add t) = some u := by
  intro t u ht
  refine h.cell _ _ _ ?_
  rw [← mr (enc := enc) hk xs j, ← h.2.2.2.2, List.getElem?_drop] at ht
  have hl := (List.getElem?_eq_some_iff.1 ht).1
  rw [List.length_take] at hl
  rw [List.getElem?_take_of_lt (by omega)] at ht
  exact ht
theorem LieL.same {w1 : World} {cur : Array Value} {xs : List α} (h : LieL enc k e w g cap cur xs) (hk : w1.heap[g]? = w.heap[g]?) : LieL enc k e w1 g cap cur xs := ⟨hk.trans h.1, h.2⟩
end
def SrcV (w : World) (v : Value) (vs : List S93) (g : Nat) : Prop :=
  (v = .slice none 0 0 ∧ vs = []) ∨ ∃ gv cv curv, v = .slice (some ⟨gv, 0, none⟩) vs.length cv ∧ LieL bq 2 93 w gv cv curv vs ∧ gv ≠ g
theorem dm (x : S93) : (bq x).length = 2 := rfl
theorem iP (l : List S93) : ∀ v ∈ l.flatMap bq, v.oneCell' = true := by
  intro v hv
  obtain ⟨x, _, hx⟩ := List.mem_flatMap.1 hv
  exact fO.one x v hx
theorem LieL.R {w : World} {g cap : Nat} {cur : Array Value} {xs : List S93} {base : Nat} {ok : Nat → Prop} (h : LieL bq 2 93 w g cap cur xs) (hb : base ≤ g) (hg : ok g) : Kd.R k93 93 w base ok (.slice (some ⟨g, 0, none⟩) xs.length cap) xs :=
  gF fO hb hg (h.to dm)
theorem LieL.of_own {w : World} {g c n base : Nat} {xs : List S93} (h : w.ownsRow base 93 2 (.slice (some ⟨g, 0, none⟩) n c) n (xs.flatMap bq)) : n = xs.length ∧ ∃ cur, LieL bq 2 93 w g c cur xs := by
  obtain ⟨h1, h2⟩ := h
  rw [fq (enc := bq) dm] at h1
  have hn : n = xs.length := by omega
  subst hn
  rcases h2 with ⟨h3, _⟩ | ⟨g', cap, cur, h3, h4, h5, h6, h7, h8, h9⟩
  · cases h3
  · injection h3 with h10 _ h11
    injection h10 with h10
    injection h10 with h10
    subst h10 h11
    exact ⟨rfl, cur, h5, h8, h6, h7, h9⟩
theorem LieL.own {w : World} {g c base : Nat} {cur : Array Value} {xs : List S93} (h : LieL bq 2 93 w g c cur xs) (hb : base ≤ g) : w.ownsRow base 93 2 (.slice (some ⟨g, 0, none⟩) xs.length c) xs.length (xs.flatMap bq) :=
  ⟨fq (enc := bq) dm xs, .inr ⟨g, c, cur, rfl, hb, h.1, h.2.2.1, h.2.2.2.1, h.2.1, h.2.2.2.2⟩⟩
theorem rZ {β : Type} (a b c : List β) (n : Nat) (h : a.length + b.length = n) : (a ++ b ++ c).take n = a ++ b := d_ _ _ _ (by rw [List.length_append]; exact h)
theorem sS {β : Type} (xs vs : List β) (i j : Nat) (hi : i ≤ xs.length) (h : i + vs.length ≤ j) : (xs.take i ++ vs ++ xs.drop (i + vs.length)).drop j = xs.drop j := by
  have h1 : (xs.take i ++ vs).length = i + vs.length := by rw [List.length_append, List.length_take]; omega
  rw [List.drop_append, List.drop_of_length_le (by omega), h1, List.nil_append, List.drop_drop]
  congr 1; omega
section
open Go.Lib
variable {P : Program}
end
set_option maxHeartbeats 4000000 in
set_option maxRecDepth 100000 in
theorem uB (w0 w : World) (base g c : Nat) (ok : Nat → Prop) (cur : Array Value) (xs vs : List S93) (v : Value) (i j : Nat) (hL : LieL bq 2 93 w g c cur xs) (hV : SrcV w v vs g)
    (hB : Below base w0 w) (hbg : base ≤ g) (hok : ok g) (hfr : ∀ k, w.heap.size ≤ k → ok k) (hij : i < j) (hjn : j ≤ xs.length) (hn : xs.length ≤ 4096) (hm : vs.length ≤ 2) (hm2 : vs.length = 2 → j = i + 1) :
    Calls Tryz.prog 163 #[.slice (some ⟨g, 0, none⟩) xs.length c, .int .i64 i, .int .i64 j, v] w fun e w' => ∃ v' : Value, e = .returned v' ∧ Kd.R k93 93 w' base ok v' (xs.take i ++ vs ++ xs.drop j) ∧ Below base w0 w' := by
  have hu93 := Tryz.underlying93
  have hus := Tryz.underlying26
  have hsz : ∀ w, (Go.sizeOf 93).run Tryz.prog w = .ok 2 w := Tryz.sizeOf93
  have hnc : xs.length ≤ c := hL.2.2.1
  have hcm : c ≤ 9223372036854775807 := by have := hL.2.2.2.1; unfold maxLen at this; omega
  obtain ⟨n, hnn⟩ : ∃ n, n = xs.length := ⟨_, rfl⟩
  obtain ⟨m, hmm⟩ : ∃ m, m = vs.length := ⟨_, rfl⟩
  rw [← hmm] at hm hm2
  rw [← hnn] at hjn hn hnc
  have hi0 : (0 : Int) ≤ (i : Int) := by omega
  have b1 : (i : Int) ≤ (j : Int) := by omega
  have b2 : (j : Int) ≤ (n : Int) := by omega
  have b2c : (j : Int) ≤ (c : Int) := by omega
  have b1c : (i : Int) ≤ (c : Int) := by omega
  have b3 : ((i : Int) == (j : Int)) = false := by simp; omega
  have b4 : ¬ ((i : Int) = (j : Int)) := by omega
  have b5 : ¬ (c = i) := by omega
  have b6 : i ≤ n := by omega
  have HL := aa.mk hL
  have HB := aa.mk hB
  have HOK := aa.mk (And.intro hbg (And.intro hok hfr))
  rw [← hnn]
  obtain ⟨i0, hi0', hz0⟩ := Option.map_eq_some_iff.1 jh
  simp only [Prod.mk.injEq] at hz0
  have HI0 := aa.mk (And.intro hi0' hz0)
  clear hL hB hbg hok hfr hi0' hz0
  have hVV : ∃ (ao : Option Addr) (cv : Nat), v = .slice ao m cv ∧ (ao = none → m = 0 ∧ cv = 0) ∧ ∀ ad, ao = some ad → ∃ gv curv, ad = ⟨gv, 0, none⟩ ∧ LieL bq 2 93 w gv cv curv vs ∧ gv ≠ g := by
    rcases hV with ⟨rfl, rfl⟩ | ⟨gv, cv, curv, rfl, hLv, hgv⟩
    · exact ⟨none, 0, by rw [hmm]; rfl, fun _ => ⟨by rw [hmm]; rfl, rfl⟩, fun ad h => (by cases h)⟩
    · exact ⟨some ⟨gv, 0, none⟩, cv, by rw [hmm], fun h => (by cases h), fun ad h => by injection h with h; exact ⟨gv, curv, h.symm, hLv, hgv⟩⟩
  obtain ⟨ao, cv, rfl, hao0, hao⟩ := hVV
  have HAO0 := aa.mk hao0
  have HAO := aa.mk hao
  have hmc : Kd.C k93 w ao m vs := by
    cases ao with
    | none =>
      have h0 := (hao0 rfl).1
      have hv0 : vs = [] := List.eq_nil_of_length_eq_zero (by omega)
      subst hv0
      rw [h0]
      exact Kd.C_nil k93 w
    | some ad =>
      obtain ⟨gv, curv, rfl, hLv, _⟩ := hao ad rfl
      rw [hmm]
      exact (Kd.bu (hLv.R (base := 0) (ok := fun _ => True) (Nat.zero_le _) trivial)).2.2
  have HMC := aa.mk hmc
  clear hV hao0 hao hmc
  · by_cases hjn' : j = n
    · have hdj : xs.drop j = [] := List.drop_of_length_le (by omega)
      have b7 : ((j : Int) == (n : Int)) = true := by simp; omega
      have hxl : (xs.take i).length = i := by rw [List.length_take]; omega
      have HDJ := aa.mk hdj
      have HXL := aa.mk hxl
      have HMM := aa.mk hmm
      have HNN := aa.mk hnn
      have hLi := HL.out.cut dm i (by omega)
      by_cases hlt : i + m < n
      · have hbd : decide ((i : Int) + (m : Int) < (n : Int)) = true := decide_eq_true (by omega)
        have hb6 : ¬ (c = i + m) := by omega
        have hx1 : (0 : Int) ≤ (i : Int) + (m : Int) := by omega
        have hx2 : (i : Int) + (m : Int) ≤ (n : Int) := by omega
        have htn : ((i : Int) + (m : Int)).toNat = i + m := by omega
        have hap : ∃ w1 cur1, (∀ ty, (Builtin.append_ #[26, 26] ty #[.slice (some ⟨g, 0, none⟩) i c, .slice ao m cv]).run Tryz.prog w = .ok (.slice (some ⟨g, 0, none⟩) (i + m) c) w1) ∧ LieL bq 2 93 w1 g c cur1 (xs.take i ++ vs) ∧ Below base w0 w1 := by
          obtain ⟨hi0', hz0a, hz0b, hz0c⟩ := HI0.out
          have hown := hLi.own HOK.out.1
          rw [hxl] at hown
          cases ao with
          | none =>
            obtain ⟨hm0, hc0⟩ := HAO0.out rfl
            have hv0 : vs = [] := List.eq_nil_of_length_eq_zero (by rw [← hmm]; exact hm0)
            subst hv0 hc0
            rw [hm0]
            refine ⟨w, cur, fun ty => ?_, by simpa using hLi, HB.out⟩
            have hrun := run_append_owned_none (P := Tryz.prog) w base 26 ty 93 i0 2 Tryz.underlying26 hi0' _ i _ hown
            exact hrun
          | some ad =>
            obtain ⟨gv, curv, rfl, hLv, hgv⟩ := HAO.out ad rfl
            obtain ⟨w', hrun, r1, r2⟩ := run_append_fits (P := Tryz.prog) w base 26 26 93 i0 2 Tryz.underlying26 hi0' hz0b g i c _ hown ⟨gv, 0, none⟩ m cv (vs.flatMap bq) (by rw [fq (enc := bq) dm, hmm]) (fun t u hu => by have := hLv.src dm 0 t u (by simpa using hu); simpa using this) (iP vs) (by omega)
            rw [← List.flatMap_append] at r1
            obtain ⟨_, cur1, hL1⟩ := LieL.of_own r1
            refine ⟨w', cur1, fun ty => hrun, hL1, ⟨r2.os.trans HB.out.os, r2.tape.trans HB.out.tape, r2.output.trans HB.out.output, Nat.le_trans HB.out.size r2.size, fun k hk => ?_⟩⟩
            have h1 := HOK.out.1
            have h2 := aA HL.out.1
            rw [r2.block k (by omega) (by intro h; injection h with h; omega)]
            exact HB.out.block k hk
        obtain ⟨w1, cur1, hrun, hL1, hB1⟩ := hap
        have hl1 : (xs.take i ++ vs).length = i + m := by rw [List.length_append, hxl, hmm]
        obtain ⟨zs, hzl, hclr⟩ := jH (P := Tryz.prog) w1 26 93 0 (.agg #[.int .i64 0, .int .i64 0]) Tryz.underlying26 Tryz.zeroValue93 g ((i + m) * 2) (n - (i + m)) (c - (i + m)) cur1 93 hL1.1 (by rw [hL1.2.1]; show (i + m) * 2 + (n - (i + m)) * 2 ≤ c * 2; omega) (by intro u hu; simp [Value.cells] at hu; rw [hu]; rfl) (by omega)
        obtain ⟨cur3, hcur3⟩ : ∃ R : Array Value, R = (cur1.toList.take ((i + m) * 2) ++ zs ++ cur1.toList.drop ((i + m) * 2 + zs.length)).toArray := ⟨_, rfl⟩
        rw [← hcur3] at hclr
        have hc2l : (cur1.toList.take ((i + m) * 2)).length = (i + m) * 2 := by
          rw [List.length_take, (show cur1.toList.length = cur1.size from Array.length_toList), hL1.2.1]
          omega
        have hzl2 : zs.length = (n - (i + m)) * 2 := hzl
        have hL5 := hL1.behind (cur' := cur3) ((i + m) * 2) (by rw [hl1]; exact Nat.le_refl _) (by rw [hcur3, List.size_toArray, List.length_append, List.length_append, hc2l, List.length_drop, (show cur1.toList.length = cur1.size from Array.length_toList), hL1.2.1, hzl2]; omega) (by rw [hcur3, List.append_assoc]; exact d_ _ _ _ hc2l)
        have hres := hL5.R (base := base) (ok := ok) HOK.out.1 HOK.out.2.1
        rw [hl1] at hres
        have HRES := aa.mk (And.intro hres (aJ hB1 HOK.out.1 cur3))
        clear hcur3 hc2l hzl hzl2 hL5 hres hl1 hL1 hB1 hLi hdj hxl hm2 hnn hmm hsz
        go_enter Tryz.func163, Tryz.ntmps163
        go_wp2_with (first
          | (at_builtin; refine Lib.wpList_append_run _ rfl _ _ _ _ rfl _ _ rfl rfl _ _ (hrun _) ?_)
          | (at_builtin; refine wpList_clear_run _ rfl _ 26 rfl _ rfl hclr ?_))
        go_ret
        refine ⟨_, rfl, ?_, HRES.out.2⟩
        have h := HRES.out.1
        rw [HDJ.out, List.append_nil]
        exact h
      · have hbd : decide ((i : Int) + (m : Int) < (n : Int)) = false := decide_eq_false (by omega)
        have hRi : Kd.R k93 93 w base ok (.slice (some ⟨g, 0, none⟩) i c) (xs.take i) := by
          have h := hLi.R (base := base) (ok := ok) HOK.out.1 HOK.out.2.1
          rw [hxl] at h
          exact h
        have HRI := aa.mk hRi
        clear hLi hdj hxl hm2 hnn hmm hsz hRi
        go_enter Tryz.func163, Tryz.ntmps163
        go_wp2_with (first | ((with_reducible refine bK (b := .append) (xs := #[.tmp 32, .tmp 33]) rfl ?_); at_builtin; refine Kd.ek k93 (w0 := w0) base rfl (.tmp 32) (.tmp 33) 26 93 (.agg #[(.int .i64 0), (.int .i64 0)]) 16 rfl Tryz.underlying26 jh rfl (by decide) (by omega) (.slice (some ⟨g, 0, none⟩) i c) (xs.take i) vs _ _ _ ok (fun _ => False) rfl rfl ?aO ?aR (fun _ _ h => h) (fun _ h => h.elim) ?aF ?aB ?aS ?aL ?_; (case aR => exact HMC.out); (case aB => exact HB.out); (case aF => exact HOK.out.2.2); (case aO => exact HRI.out); (case aS => have h1 := HOK.out.1; have h2 := aA HL.out.1; omega); (case aL => rw [HXL.out]; omega); intro v1 w3 ho hb hg hat; have hl3 : (xs.take i ++ vs).length = i + m := (by rw [List.length_append, HXL.out, HMM.out]); obtain ⟨A3, c3, hv3⟩ := Kd.aZ ho; rw [hl3] at hv3; subst hv3; have HO := aa.mk ho; have HB3 := aa.mk hb; clear ho hb hg hat hl3))
        go_ret
        refine ⟨_, rfl, ?_, HB3.out⟩
        rw [HDJ.out, List.append_nil]
        exact HO.out
    · have hmv : ∀ h : m ≠ 0, ∃ gv curv, ao = some ⟨gv, 0, none⟩ ∧ LieL bq 2 93 w gv cv curv vs ∧ gv ≠ g := by
        intro h
        cases ao with
        | none => exact absurd (HAO0.out rfl).1 h
        | some ad =>
          obtain ⟨gv, curv, rfl, h1, h2⟩ := HAO.out ad rfl
          exact ⟨gv, curv, rfl, h1, h2⟩
      have HMV := aa.mk hmv
      clear hmv
      have b7 : ((j : Int) == (n : Int)) = false := by simp; omega
      have b8 : ¬ ((j : Int) = (n : Int)) := by omega
      have b9 : ¬ (c = j) := by omega
      have hw1 : IntKind.i64.wrap ((i : Int) + (m : Int)) = (i : Int) + (m : Int) := by rw [IntKind.wrap_i64]; omega
      have hw1' : wrap64 ((i : Int) + (m : Int)) = (i : Int) + (m : Int) := w64 (by omega)
      obtain ⟨tot, htot⟩ : ∃ tot : Nat, tot = i + m + (n - j) := ⟨_, rfl⟩
      have et : (i : Int) + (m : Int) + ((n - j : Nat) : Int) = (tot : Int) := by omega
      have en : ((n - j : Nat) : Int) = (n : Int) - (j : Int) := by omega
      have ht4 : (tot : Int) ≤ 8192 := by omega
      have hw2 : IntKind.i64.wrap ((i : Int) + (m : Int) + ((n - j : Nat) : Int)) = (tot : Int) := by rw [et]; exact IntWalk.i64_in _ (by omega)
      have hw2' : wrap64 ((i : Int) + (m : Int) + ((n - j : Nat) : Int)) = (tot : Int) := by rw [et]; exact w64 (by omega)
      have hw3 : IntKind.i64.wrap ((i : Int) + (m : Int) + ((n : Int) - (j : Int))) = (tot : Int) := by rw [← en]; exact hw2
      have hw3' : wrap64 ((i : Int) + (m : Int) + ((n : Int) - (j : Int))) = (tot : Int) := by rw [← en]; exact hw2'
      clear et en ht4
      have HT := aa.mk htot
      have HM2 := aa.mk hm2
      have HNN := aa.mk hnn
      have HMM := aa.mk hmm
      have hmlen : m ≤ 9223372036854775807 := by omega
      clear htot hm2 hnn hmm hsz
      go_enter Tryz.func163, Tryz.ntmps163
      go_wp2_with fail
      go_quiet (fail)
      obtain ⟨W2, hW2⟩ : ∃ W, W = w.drewN nq := ⟨_, rfl⟩
      rw [← hW2]
      have HL2 := aa.mk (show LieL bq 2 93 W2 g c cur xs by rw [hW2]; exact HL.out.same rfl)
      have HMV2 := aa.mk (show ∀ h : m ≠ 0, ∃ gv curv, ao = some ⟨gv, 0, none⟩ ∧ LieL bq 2 93 W2 gv cv curv vs ∧ gv ≠ g by rw [hW2]; exact HMV.out)
      have HB2 := aa.mk (show Below base w0 W2 by rw [hW2]; exact af HB.out nq)
      have HSZ2 := aa.mk (show W2.heap.size = w.heap.size by rw [hW2]; rfl)
      clear hW2
      have hmin1 : Nat.min m (tot - i) = m := Nat.min_eq_left (by have := HT.out; omega)
      have hmin2 : Nat.min (n - j) (tot - (i + m)) = n - j := Nat.min_eq_left (by have := HT.out; omega)
      have hfv : (vs.flatMap bq).length = m * 2 := by rw [fq (enc := bq) dm, HMM.out]
      have hfd : ((xs.drop j).flatMap bq).length = (n - j) * 2 := by rw [fq (enc := bq) dm, List.length_drop, HNN.out]
      have htn : ((i : Int) + (m : Int)).toNat = i + m := by omega
      have hx1 : (0 : Int) ≤ (i : Int) + (m : Int) := by omega
      have hx2 : (i : Int) ≤ (tot : Int) := by have := HT.out; omega
      have hx3 : (i : Int) + (m : Int) ≤ (tot : Int) := by have := HT.out; omega
      have HF := aa.mk (And.intro hmin1 (And.intro hmin2 (And.intro hfv hfd)))
      clear hmin1 hmin2 hfv hfd
      by_cases hr : tot > c
      · have hdr : decide ((c : Int) < (tot : Int)) = true := decide_eq_true (by omega)
        obtain ⟨gv, curv, rfl, hLV2, hgv⟩ := HMV2.out (by have := HT.out; omega)
        have HLV2 := aa.mk hLV2
        clear hLV2
        have hw4 : IntKind.i64.wrap ((tot : Int) - (i : Int)) = (tot : Int) - (i : Int) := IntWalk.i64_in _ (by have := HT.out; omega)
        have hw4' : wrap64 ((tot : Int) - (i : Int)) = (tot : Int) - (i : Int) := w64 (by have := HT.out; omega)
        obtain ⟨G, hG⟩ : ∃ G, G = grownCap W2 tot c 93 := ⟨_, rfl⟩
        have hGt : tot ≤ G := by rw [hG]; exact grownCap_ge W2 _ _ _
        have hGm : G ≤ maxLen := by rw [hG]; exact grownCap_le_maxLen W2 tot c 93 (by have := HT.out; unfold maxLen; omega)
        obtain ⟨ROW, hROW⟩ : ∃ ROW : Array Value, ROW = ((xs.take i).flatMap bq).toArray ++ Builtin.zeroCells (Value.agg #[.int .i64 0, .int .i64 0]).cells (tot - i) ++ Builtin.zeroCells (Value.agg #[.int .i64 0, .int .i64 0]).cells (G - tot) := ⟨_, rfl⟩
        have hrz : ∀ ty, (Builtin.append_ #[26, 3] ty #[.slice (some ⟨g, 0, none⟩) i c, .int .i64 ((tot : Int) - (i : Int))]).run Tryz.prog W2 = .ok (.slice (some ⟨W2.heap.size, 0, none⟩) tot G) (W2.drew.alloc (.cells ROW 93)) := fun ty => by
          obtain ⟨hi0', hz0a, hz0b, hz0c⟩ := HI0.out
          have hold : (Builtin.firstCells i0.size i (.slice (some ⟨g, 0, none⟩) i c)).run Tryz.prog W2.drew = .ok ((xs.take i).flatMap bq).toArray W2.drew := by
            rw [hz0b]
            refine run_firstCells_some W2.drew 2 i ⟨g, 0, none⟩ i c ((xs.take i).flatMap bq) (by rw [fq (enc := bq) dm, List.length_take, ← HNN.out, Nat.min_eq_left b6]) (fun t u hu => ?_)
            have h1 := (HL2.out.cut dm i (by rw [← HNN.out]; exact b6)).src dm 0 t u (by simpa using hu)
            simpa using h1
          have h := Lib.run_append_grow_zeros (P := Tryz.prog) W2 26 3 ty 93 i0 _ .i64 .i64 Tryz.underlying26 Tryz.underlying3 hi0' hz0a (some ⟨g, 0, none⟩) i c _ hold (tot - i) (by have := HT.out; omega) (by rw [hz0b]; decide) (by omega) (by have := HT.out; omega) (by rw [hz0c]; have := HT.out; omega) (by
            have e1 : i + (tot - i) = tot := by have := HT.out; omega
            rw [hz0c, e1]
            exact growslice_fits (by omega) (by have := HT.out; omega))
          have e1 : i + (tot - i) = tot := by have := HT.out; omega
          have e2 : (tot : Int) - (i : Int) = ((tot - i : Nat) : Int) := by omega
          rw [e1] at h
          rw [e2, hROW, hG]
          exact h
        have hROWs : ROW.size = G * 2 := by
          rw [hROW]
          have e1 : ((xs.take i).flatMap bq).length = i * 2 := by rw [fq (enc := bq) dm, List.length_take, ← HNN.out, Nat.min_eq_left b6]
          simp only [Array.size_append, List.size_toArray, e1, Builtin.zeroCells, Array.size_map, Array.size_range, Value.cells, List.size_toArray, List.length_cons, List.length_nil]
          omega
        have hb5 : ¬ (G = i) := by omega
        have hpl : ((xs.take i).flatMap bq).length = i * 2 := by rw [fq (enc := bq) dm, List.length_take, ← HNN.out, Nat.min_eq_left b6]
        have hxl : (xs.take i).length = i := by rw [List.length_take, ← HNN.out]; omega
        have hLN : LieL bq 2 93 (W2.drew.alloc (.cells ROW 93)) W2.heap.size G ROW (xs.take i) := by
          refine ⟨bg W2.drew _, hROWs, by omega, hGm, ?_⟩
          rw [hROW, hxl]
          simp only [Array.toList_append]
          rw [List.append_assoc]
          exact d_ _ _ _ hpl
        obtain ⟨N, hN⟩ : ∃ N, N = W2.heap.size := ⟨_, rfl⟩
        obtain ⟨W3, hW3⟩ : ∃ W, W = W2.drew.alloc (.cells ROW 93) := ⟨_, rfl⟩
        rw [← hW3, ← hN] at hLN
        have hgN : g ≠ N := by have := aA HL2.out.1; omega
        have hgvN : gv ≠ N := by have := aA HLV2.out.1; omega
        have hL3 : LieL bq 2 93 W3 g c cur xs := HL2.out.same (by rw [hW3]; exact Below.heap_alloc W2.drew _ _ (aA HL2.out.1))
        have hV3 : LieL bq 2 93 W3 gv cv curv vs := HLV2.out.same (by rw [hW3]; exact Below.heap_alloc W2.drew _ _ (aA HLV2.out.1))
        have hBN : base ≤ N := by rw [hN]; exact HB2.out.size |> fun h => by have := HOK.out.1; have := aA HL2.out.1; omega
        have hB3 : Below base w0 W3 := by rw [hW3]; exact (aQ HB2.out).alloc (by show base ≤ W2.heap.size; rw [← hN]; exact hBN) _
        have hcpA : ∀ ty, (Builtin.copy_ #[26, 26] ty #[.slice (some ⟨N, i * 2, none⟩) (tot - i) (G - i), .slice (some ⟨gv, 0, none⟩) m cv]).run Tryz.prog W3 = .ok (goInt (Nat.min m (tot - i))) (W3.setRow N (ROW.toList.take (i * 2) ++ vs.flatMap bq ++ ROW.toList.drop (i * 2 + (vs.flatMap bq).length)).toArray) := fun ty =>
          fG W3 26 26 ty 93 N (i * 2) (tot - i) (G - i) ⟨gv, 0, none⟩ m cv ROW 93 (vs.flatMap bq) 2 Tryz.underlying26 Tryz.sizeOf93 hLN.1 (by rw [HF.out.1]; exact HF.out.2.2.1) (fun t u hu => by have := hV3.src dm 0 t u (by simpa using hu); simpa using this) (by rw [HF.out.2.2.1, hROWs]; have := HT.out; omega) (iP vs)
        have hLN1 := hLN.put dm (ys := vs) (i := i) (by omega) (by rw [← HMM.out]; have := HT.out; omega)
        obtain ⟨ROW1, hROW1⟩ : ∃ R : Array Value, R = (ROW.toList.take (i * 2) ++ vs.flatMap bq ++ ROW.toList.drop (i * 2 + (vs.flatMap bq).length)).toArray := ⟨_, rfl⟩
        rw [← hROW1] at hcpA hLN1
        obtain ⟨W4, hW4⟩ : ∃ W, W = W3.setRow N ROW1 := ⟨_, rfl⟩
        rw [← hW4] at hcpA hLN1
        have e1 : (xs.take i).take i = xs.take i := by rw [List.take_take, Nat.min_self]
        rw [e1] at hLN1
        have hL4 : LieL bq 2 93 W4.drew g c cur xs := hL3.same (by rw [hW4]; exact setRow_other W3 N g ROW1 hgN)
        have hLN1d : LieL bq 2 93 W4.drew N G ROW1 (xs.take i ++ vs) := hLN1.same rfl
        have hcpB : ∀ ty, (Builtin.copy_ #[26, 26] ty #[.slice (some ⟨N, (i + m) * 2, none⟩) (tot - (i + m)) (G - (i + m)), .slice (some ⟨g, j * 2, none⟩) (n - j) (c - j)]).run Tryz.prog W4.drew = .ok (goInt (Nat.min (n - j) (tot - (i + m)))) (W4.drew.setRow N (ROW1.toList.take ((i + m) * 2) ++ (xs.drop j).flatMap bq ++ ROW1.toList.drop ((i + m) * 2 + ((xs.drop j).flatMap bq).length)).toArray) := fun ty =>
          fG W4.drew 26 26 ty 93 N ((i + m) * 2) (tot - (i + m)) (G - (i + m)) ⟨g, j * 2, none⟩ (n - j) (c - j) ROW1 93 ((xs.drop j).flatMap bq) 2 Tryz.underlying26 Tryz.sizeOf93 hLN1d.1 (by rw [HF.out.2.1]; exact HF.out.2.2.2) (fun t u hu => hL4.src dm j t u hu) (by rw [HF.out.2.2.2, hLN1d.2.1]; have := HT.out; omega) (iP _)
        have hLN2 := hLN1d.put dm (ys := xs.drop j) (i := i + m) (by rw [List.length_append, hxl, ← HMM.out]; exact Nat.le_refl _) (by rw [List.length_drop, ← HNN.out]; have := HT.out; omega)
        obtain ⟨ROW2, hROW2⟩ : ∃ R : Array Value, R = (ROW1.toList.take ((i + m) * 2) ++ (xs.drop j).flatMap bq ++ ROW1.toList.drop ((i + m) * 2 + ((xs.drop j).flatMap bq).length)).toArray := ⟨_, rfl⟩
        rw [← hROW2] at hcpB hLN2
        have e2 : (xs.take i ++ vs).take (i + m) = xs.take i ++ vs := List.take_of_length_le (by rw [List.length_append, hxl, ← HMM.out]; exact Nat.le_refl _)
        rw [e2] at hLN2
        have hlen : (xs.take i ++ vs ++ xs.drop j).length = tot := by simp only [List.length_append, hxl, List.length_drop, ← HMM.out, ← HNN.out]; have := HT.out; omega
        have hRes := hLN2.R (base := base) (ok := ok) hBN (HOK.out.2.2 N (by rw [hN, HSZ2.out]; exact Nat.le_refl _))
        rw [hlen] at hRes
        have hB5 : Below base w0 (W4.drew.setRow N ROW2) := aJ (aQ (by rw [hW4]; exact aJ hB3 hBN ROW1)) hBN ROW2
        have HRES := aa.mk (And.intro hRes hB5)
        have hb6 : ¬ (G = i + m) := by have := HT.out; omega
        have hx4 : (i : Int) ≤ (G : Int) := by omega
        rw [← hN, ← hW3] at hrz
        clear hROW1 hROW2 hW3 hW4 hLN hLN1 hLN1d hLN2 hL3 hV3 hL4 hB3 hB5 hRes e1 e2 hlen hpl hxl hROW hROWs hG hgN hgvN hN hBN hGm
        go_wp2_with (first
          | (at_builtin; refine Lib.wpList_append_run _ rfl _ _ _ _ rfl _ _ rfl rfl _ _ (hrz _) ?_)
          | (at_builtin; refine wpList_copy_runI _ rfl _ _ 26 26 rfl _ _ rfl rfl (hcpA _) ?_))
        go_still_tail 9, (by kernel_rfl)
        change wpList _ _ _ _ _ W4.drew
        refine wpList_copy_runI W4.drew rfl _ _ 26 26 rfl _ _ rfl rfl (hcpB _) ?_
        go_wp2
        go_ret
        exact ⟨_, rfl, HRES.out.1, HRES.out.2⟩
      · have hdr : decide ((c : Int) < (tot : Int)) = false := decide_eq_false (by omega)
        by_cases hd : i + m ≤ j
        · have hdd : decide ((i : Int) + (m : Int) ≤ (j : Int)) = true := decide_eq_true (by omega)
          have hb6 : ¬ (c = i + m) := by omega
          have hD1 : ∃ W3 cur1, (∀ ty, (Builtin.copy_ #[26, 26] ty #[.slice (some ⟨g, i * 2, none⟩) (tot - i) (c - i), .slice ao m cv]).run Tryz.prog W2 = .ok (goInt (Nat.min m (tot - i))) W3) ∧ LieL bq 2 93 W3 g c cur1 (xs.take i ++ vs ++ xs.drop (i + vs.length)) ∧ Below base w0 W3 := by
            by_cases hm0 : m = 0
            · have hv0 : vs = [] := List.eq_nil_of_length_eq_zero (by rw [← HMM.out]; exact hm0)
              subst hv0 hm0
              refine ⟨W2, cur, fun ty => ?_, ?_, HB2.out⟩
              · cases ao with
                | none =>
                  have := (HAO0.out rfl).2
                  subst this
                  have h1 := mF (P := Tryz.prog) W2 26 26 ty 93 g (i * 2) (tot - i) (c - i) 2 Tryz.underlying26 Tryz.sizeOf93
                  rw [h1]
                  simp
                | some ad =>
                  have h1 := fG (P := Tryz.prog) W2 26 26 ty 93 g (i * 2) (tot - i) (c - i) ad 0 cv cur 93 [] 2 Tryz.underlying26 Tryz.sizeOf93 HL2.out.1 (by simp) (fun t u hu => by simp at hu) (by rw [HL2.out.2.1]; simp; omega) (fun v hv => by cases hv)
                  rw [h1]
                  congr 1
                  simp only [List.append_nil, List.length_nil, Nat.add_zero, List.take_append_drop, Array.toArray_toList]
                  exact setRow_self W2 g cur 93 (0, 0) HL2.out.1
              · simpa using HL2.out
            · obtain ⟨gv, curv, rfl, hLV2, hgv⟩ := HMV2.out hm0
              refine ⟨_, _, fun ty => fG W2 26 26 ty 93 g (i * 2) (tot - i) (c - i) ⟨gv, 0, none⟩ m cv cur 93 (vs.flatMap bq) 2 Tryz.underlying26 Tryz.sizeOf93 HL2.out.1 (by rw [HF.out.1]; exact HF.out.2.2.1) (fun t u hu => by have := hLV2.src dm 0 t u (by simpa using hu); simpa using this) (by rw [HF.out.2.2.1, HL2.out.2.1]; omega) (iP vs), HL2.out.nC dm (ys := vs) (i := i) (by rw [← HMM.out, ← HNN.out]; omega), aJ HB2.out HOK.out.1 _⟩
          obtain ⟨W3, cur1, hcp1, hL3, hB3⟩ := hD1
          have hL3d : LieL bq 2 93 W3.drew g c cur1 (xs.take i ++ vs ++ xs.drop (i + vs.length)) := hL3.same rfl
          have hcp2 : ∀ ty, (Builtin.copy_ #[26, 26] ty #[.slice (some ⟨g, (i + m) * 2, none⟩) (tot - (i + m)) (c - (i + m)), .slice (some ⟨g, j * 2, none⟩) (n - j) (c - j)]).run Tryz.prog W3.drew = .ok (goInt (Nat.min (n - j) (tot - (i + m)))) (W3.drew.setRow g (cur1.toList.take ((i + m) * 2) ++ (xs.drop j).flatMap bq ++ cur1.toList.drop ((i + m) * 2 + ((xs.drop j).flatMap bq).length)).toArray) := fun ty =>
            fG W3.drew 26 26 ty 93 g ((i + m) * 2) (tot - (i + m)) (c - (i + m)) ⟨g, j * 2, none⟩ (n - j) (c - j) cur1 93 ((xs.drop j).flatMap bq) 2 Tryz.underlying26 Tryz.sizeOf93 hL3d.1 (by rw [HF.out.2.1]; exact HF.out.2.2.2) (fun t u hu => hL3d.src dm j t u (by rw [sS xs vs i j (by rw [← HNN.out]; exact b6) (by rw [← HMM.out]; exact hd)]; exact hu)) (by rw [HF.out.2.2.2, hL3d.2.1]; have := HT.out; omega) (iP _)
          have hxl : (xs.take i).length = i := by rw [List.length_take, ← HNN.out]; omega
          have hL4 := hL3d.put dm (ys := xs.drop j) (i := i + m) (by simp only [List.length_append, hxl, ← HMM.out]; omega) (by rw [List.length_drop, ← HNN.out]; have := HT.out; omega)
          obtain ⟨cur2, hcur2⟩ : ∃ R : Array Value, R = (cur1.toList.take ((i + m) * 2) ++ (xs.drop j).flatMap bq ++ cur1.toList.drop ((i + m) * 2 + ((xs.drop j).flatMap bq).length)).toArray := ⟨_, rfl⟩
          rw [← hcur2] at hcp2 hL4
          rw [rZ _ _ _ (i + m) (by rw [hxl, ← HMM.out])] at hL4
          have hlen : (xs.take i ++ vs ++ xs.drop j).length = tot := by simp only [List.length_append, hxl, List.length_drop, ← HMM.out, ← HNN.out]; have := HT.out; omega
          have hB4 : Below base w0 (W3.drew.setRow g cur2) := aJ (aQ hB3) HOK.out.1 cur2
          obtain ⟨W4, hW4⟩ : ∃ W, W = W3.drew.setRow g cur2 := ⟨_, rfl⟩
          rw [← hW4] at hcp2 hL4 hB4
          have HL4 := aa.mk hL4
          have HB4 := aa.mk hB4
          have HLEN := aa.mk hlen
          clear hcur2 hW4 hL3 hL3d hL4 hB4 hlen hxl hB3
          go_wp2_with (at_builtin; refine wpList_copy_runI _ rfl _ _ 26 26 rfl _ _ rfl rfl (hcp1 _) ?_)
          go_still_tail 9, (by kernel_rfl)
          change wpList _ _ _ _ _ W3.drew
          refine wpList_copy_runI W3.drew rfl _ _ 26 26 rfl _ _ rfl rfl (hcp2 _) ?_
          have hres : Kd.R k93 93 W4 base ok (.slice (some ⟨g, 0, none⟩) tot c) (xs.take i ++ vs ++ xs.drop j) := by
            have h := HL4.out.R (base := base) (ok := ok) HOK.out.1 HOK.out.2.1
            rw [HLEN.out] at h
            exact h
          have HRES := aa.mk hres
          clear hres
          by_cases hz : tot = n
          · have hcl : ∀ ty a cc, (Builtin.clear_ #[26] ty #[.slice a 0 cc]).run Tryz.prog W4 = .ok (.tuple #[]) W4 := fun ty a cc => mG W4 26 93 ty Tryz.underlying26 a cc
            by_cases hcn : c = n
            · go_wp2_with fail
              go_ret
              refine ⟨_, rfl, ?_, HB4.out⟩
              have h := HRES.out
              rw [hz, hcn] at h
              first | exact h | (rw [List.append_assoc] at h; exact h)
            · go_wp2_with fail
              go_ret
              refine ⟨_, rfl, ?_, HB4.out⟩
              have h := HRES.out
              rw [hz] at h
              first | exact h | (rw [List.append_assoc] at h; exact h)
          · have htn2 : tot < n := by have := HT.out; omega
            have hb7 : ¬ (c = tot) := by omega
            have hx5 : (tot : Int) ≤ (n : Int) := by omega
            obtain ⟨zs, hzl, hclr⟩ := jH (P := Tryz.prog) W4 26 93 0 (.agg #[.int .i64 0, .int .i64 0]) Tryz.underlying26 Tryz.zeroValue93 g (tot * 2) (n - tot) (c - tot) cur2 93 HL4.out.1 (by rw [HL4.out.2.1]; show tot * 2 + (n - tot) * 2 ≤ c * 2; omega) (by intro u hu; simp [Value.cells] at hu; rw [hu]; rfl) (by omega)
            obtain ⟨cur3, hcur3⟩ : ∃ R : Array Value, R = (cur2.toList.take (tot * 2) ++ zs ++ cur2.toList.drop (tot * 2 + zs.length)).toArray := ⟨_, rfl⟩
            rw [← hcur3] at hclr
            have hc2l : (cur2.toList.take (tot * 2)).length = tot * 2 := by
              rw [List.length_take, (show cur2.toList.length = cur2.size from Array.length_toList), HL4.out.2.1]
              omega
            have hzl2 : zs.length = (n - tot) * 2 := hzl
            have hL5 := HL4.out.behind (cur' := cur3) (tot * 2) (by rw [HLEN.out]; exact Nat.le_refl _) (by rw [hcur3, List.size_toArray, List.length_append, List.length_append, hc2l, List.length_drop, (show cur2.toList.length = cur2.size from Array.length_toList), HL4.out.2.1, hzl2]; omega) (by rw [hcur3, List.append_assoc]; exact d_ _ _ _ hc2l)
            have hres5 : Kd.R k93 93 (W4.setRow g cur3) base ok (.slice (some ⟨g, 0, none⟩) tot c) (xs.take i ++ vs ++ xs.drop j) := by
              have h := hL5.R (base := base) (ok := ok) HOK.out.1 HOK.out.2.1
              rw [HLEN.out] at h
              exact h
            have HRES5 := aa.mk hres5
            clear hcur3 hc2l hzl hzl2 hL5 hres5
            go_wp2_with (at_builtin; refine wpList_clear_run _ rfl _ 26 rfl _ rfl hclr ?_)
            go_ret
            exact ⟨_, rfl, HRES5.out, aJ HB4.out HOK.out.1 cur3⟩
        · have hdd : decide ((i : Int) + (m : Int) ≤ (j : Int)) = false := decide_eq_false (by omega)
          obtain ⟨gv, curv, rfl, hLV2, hgv⟩ := HMV2.out (by omega)
          have hb6 : ¬ (c = i + m) := by have := HT.out; omega
          have hcv0 : curv.size ≠ 0 := by
            have h1 := hLV2.2.1
            have h2 := hLV2.2.2.1
            rw [← HMM.out] at h2
            omega
          have hov : ∀ cc, (callFunc 183 #[.slice (some ⟨g, (i + m) * 2, none⟩) (tot - (i + m)) cc, .slice (some ⟨gv, 0, none⟩) m cv]).run Tryz.prog W2 = .ok (.value (.bool false)) W2 := fun cc => by
            rw [run_callFunc_extern Tryz.func183 (by kernel_rfl) (by kernel_rfl) (by kernel_rfl) (e := Extern.SlicesOverlaps.overlaps #[26, 26] #[4]) (by kernel_rfl),
              Lib.run_overlaps_apart W2 26 4 93 Tryz.underlying26 2 Tryz.sizeOf93 ⟨g, (i + m) * 2, none⟩ ⟨gv, 0, none⟩ (tot - (i + m)) cc m cv (fun h => hgv h.symm) 93 93 cur.size curv.size (by simp [World.shape?, HL2.out.1]) (by simp [World.shape?, hLV2.1]) hcv0 (ai HL2.out.1 _) (ai HL2.out.1 _)]
            rfl
          have hxl : (xs.take (i + m)).length = i + m := by rw [List.length_take, ← HNN.out]; have := HM2.out; omega
          have hdl : (xs.drop j).length = n - j := by rw [List.length_drop, HNN.out]
          have hcp1 : ∀ ty, (Builtin.copy_ #[26, 26] ty #[.slice (some ⟨g, (i + m) * 2, none⟩) (tot - (i + m)) (c - (i + m)), .slice (some ⟨g, j * 2, none⟩) (n - j) (c - j)]).run Tryz.prog W2.drew = .ok (goInt (Nat.min (n - j) (tot - (i + m)))) (W2.drew.setRow g (cur.toList.take ((i + m) * 2) ++ (xs.drop j).flatMap bq ++ cur.toList.drop ((i + m) * 2 + ((xs.drop j).flatMap bq).length)).toArray) := fun ty =>
            fG W2.drew 26 26 ty 93 g ((i + m) * 2) (tot - (i + m)) (c - (i + m)) ⟨g, j * 2, none⟩ (n - j) (c - j) cur 93 ((xs.drop j).flatMap bq) 2 Tryz.underlying26 Tryz.sizeOf93 HL2.out.1 (by rw [HF.out.2.1]; exact HF.out.2.2.2) (fun t u hu => (HL2.out.same (w1 := W2.drew) rfl).src dm j t u hu) (by rw [HF.out.2.2.2, HL2.out.2.1]; have := HT.out; omega) (iP _)
          have hL3 := (HL2.out.same (w1 := W2.drew) rfl).put dm (ys := xs.drop j) (i := i + m) (by rw [← HNN.out]; have := HM2.out; omega) (by rw [hdl]; have := HT.out; omega)
          obtain ⟨cur1, hcur1⟩ : ∃ R : Array Value, R = (cur.toList.take ((i + m) * 2) ++ (xs.drop j).flatMap bq ++ cur.toList.drop ((i + m) * 2 + ((xs.drop j).flatMap bq).length)).toArray := ⟨_, rfl⟩
          rw [← hcur1] at hcp1 hL3
          have hB3 : Below base w0 (W2.drew.setRow g cur1) := aJ (aQ HB2.out) HOK.out.1 cur1
          have hV3 : LieL bq 2 93 (W2.drew.setRow g cur1) gv cv curv vs := hLV2.same (setRow_other W2.drew g gv cur1 hgv)
          obtain ⟨W3, hW3⟩ : ∃ W, W = W2.drew.setRow g cur1 := ⟨_, rfl⟩
          rw [← hW3] at hcp1 hL3 hB3 hV3
          have hcp2 : ∀ ty, (Builtin.copy_ #[26, 26] ty #[.slice (some ⟨g, i * 2, none⟩) (tot - i) (c - i), .slice (some ⟨gv, 0, none⟩) m cv]).run Tryz.prog W3 = .ok (goInt (Nat.min m (tot - i))) (W3.setRow g (cur1.toList.take (i * 2) ++ vs.flatMap bq ++ cur1.toList.drop (i * 2 + (vs.flatMap bq).length)).toArray) := fun ty =>
            fG W3 26 26 ty 93 g (i * 2) (tot - i) (c - i) ⟨gv, 0, none⟩ m cv cur1 93 (vs.flatMap bq) 2 Tryz.underlying26 Tryz.sizeOf93 hL3.1 (by rw [HF.out.1]; exact HF.out.2.2.1) (fun t u hu => by have := hV3.src dm 0 t u (by simpa using hu); simpa using this) (by rw [HF.out.2.2.1, hL3.2.1]; have := HT.out; omega) (iP vs)
          have hL4 := hL3.nC dm (ys := vs) (i := i) (by rw [List.length_append, hxl, ← HMM.out]; omega)
          have e3 : (xs.take (i + m) ++ xs.drop j).take i = xs.take i := by rw [List.take_append, List.take_take, Nat.min_eq_left (by omega), hxl]; simp [show i - (i + m) = 0 by omega]
          have e4 : (xs.take (i + m) ++ xs.drop j).drop (i + vs.length) = xs.drop j := by rw [← HMM.out]; exact oU _ _ _ hxl
          rw [e3, e4] at hL4
          obtain ⟨cur2, hcur2⟩ : ∃ R : Array Value, R = (cur1.toList.take (i * 2) ++ vs.flatMap bq ++ cur1.toList.drop (i * 2 + (vs.flatMap bq).length)).toArray := ⟨_, rfl⟩
          rw [← hcur2] at hcp2 hL4
          have hlen : (xs.take i ++ vs ++ xs.drop j).length = tot := by simp only [List.length_append, hdl, ← HMM.out, List.length_take, ← HNN.out]; have := HT.out; omega
          have hres := hL4.R (base := base) (ok := ok) HOK.out.1 HOK.out.2.1
          rw [hlen] at hres
          have HRES := aa.mk (And.intro hres (aJ hB3 HOK.out.1 cur2))
          clear hcur1 hcur2 hW3 hL3 hB3 hV3 hL4 e3 e4 hlen hres hxl hdl hcv0 hLV2 hd
          go_wp2_with (simp only [hov])
          go_still_tail 9, (by kernel_rfl)
          change wpList _ _ _ _ _ W2.drew
          refine wpList_copy_runI W2.drew rfl _ _ 26 26 rfl _ _ rfl rfl (hcp1 _) ?_
          go_wp2_with (at_builtin; refine wpList_copy_runI _ rfl _ _ 26 26 rfl _ _ rfl rfl (hcp2 _) ?_)
          go_ret
          exact ⟨_, rfl, HRES.out.1, HRES.out.2⟩
def jD (y x : S93) : List S93 := if y.f0 < x.f0 then [⟨y.f0, wrap64 (x.f0 - y.f0)⟩] else []
def iq (y x : S93) : List S93 := if wrap64 (x.f0 + x.f1) < wrap64 (y.f0 + y.f1) then [⟨wrap64 (x.f0 + x.f1), wrap64 (wrap64 (y.f0 + y.f1) - wrap64 (x.f0 + x.f1))⟩] else []
def outL (l : List S93) (i : Nat) (x : S93) : List S93 := l.take i ++ (jD (aU l i) x ++ iq (aU l i) x) ++ l.drop (i + 1)
def jS.f (l0 : List (S93)) (a1 : Int) (a2_0 : Int) (a2_1 : Int) : Option (List (S93)) := if 0 ≤ a1 ∧ a1 < l0.length ∧ l0.length ≤ 4096 then some (outL l0 a1.toNat ⟨a2_0, a2_1⟩) else none
theorem Af {w : World} {base g : Nat} {ok : Nat → Prop} {v : Value} {vs : List S93} (h : Kd.R k93 93 w base ok v vs) (hg : ∀ k, v.ownBlock = some k → k ≠ g) : SrcV w v vs g := by
  rcases iZ fO h with ⟨h1, h2⟩ | ⟨gv, cap, h1, h2, h3, h4⟩
  · exact .inl ⟨h1, h2⟩
  · obtain ⟨curv, h5⟩ := h4.toL dm
    subst h1
    exact .inr ⟨gv, cap, curv, rfl, h5, hg gv rfl⟩
theorem uj {w : World} {base : Nat} {ok : Nat → Prop} {v : Value} {xs : List S93} (h : Kd.R k93 93 w base ok v xs) (h0 : xs ≠ []) : ∃ g c cur, v = .slice (some ⟨g, 0, none⟩) xs.length c ∧ LieL bq 2 93 w g c cur xs ∧ base ≤ g ∧ ok g := by
  rcases iZ fO h with ⟨h1, h2⟩ | ⟨g, cap, h1, h2, h3, h4⟩
  · exact absurd h2 h0
  · obtain ⟨cur, h5⟩ := h4.toL dm
    exact ⟨g, cap, cur, h1, h5, h2, h3⟩
theorem lu (w0 W : World) (A0 : Option Addr) (c0 : Nat) (l0 : List S93) (i : Nat) (vs : List S93) (v : Value) (hC : Kd.C k93 W A0 l0.length l0) (hc0 : l0.length ≤ c0) (hR : Kd.R k93 93 W w0.heap.size (fun _ => True) v vs)
    (hB : Below w0.heap.size w0 W) (hi : i < l0.length) (hn : l0.length ≤ 4096) (hm : vs.length ≤ 2) :
    Calls Tryz.prog 115 #[.slice A0 l0.length c0] W fun e w' => ∃ s : Value, e = .returned s ∧ Below W.heap.size W w' ∧
      Calls Tryz.prog 163 #[s, .int .i64 i, .int .i64 ((i : Int) + 1), v] w' fun e w'' => ∃ v' : Value, e = .returned v' ∧ Kd.R k93 93 w'' w0.heap.size (fun _ => True) v' (l0.take i ++ vs ++ l0.drop (i + 1)) ∧ Below w0.heap.size w0 w'' := by
  refine (bZ.calls A0 c0 l0 l0 W hC hc0 (by unfold bZ.f; rw [if_pos (by omega)])).mono ?_
  rintro e w' ⟨s, rfl, hR1, hb1⟩
  have hne : l0 ≠ [] := by intro h; rw [h] at hi; simp at hi
  obtain ⟨g, c, cur, rfl, hL, hg, _⟩ := uj hR1 hne
  have hV : SrcV w' v vs g := Af (Kd.bA hR hb1) (fun k hk => by
    have := Kd.R_lt hR k hk
    omega)
  refine ⟨_, rfl, hb1, ?_⟩
  have h := uB w0 w' w0.heap.size g c (fun _ => True) cur l0 vs v i (i + 1) hL hV (dM hB hB.size hb1) (Nat.le_trans hB.size hg) trivial (fun _ _ => trivial) (by omega) (by omega) hn hm (fun _ => rfl)
  have e1 : ((i + 1 : Nat) : Int) = (i : Int) + 1 := by omega
  rw [e1] at h
  exact h
set_option maxHeartbeats 4000000 in
set_option maxRecDepth 100000 in
theorem jS.calls (A0 : Option Addr) (c0 : Nat) (l0 : List (S93)) (a1 : Int) (a2_0 : Int) (a2_1 : Int) (r : List (S93)) (w : World) (hr0 : Kd.C k93 w A0 l0.length l0) (hc0 : l0.length ≤ c0) (h : jS.f l0 a1 a2_0 a2_1 = some r) :
    Calls Tryz.prog 136 #[.slice A0 l0.length c0, .int .i64 a1, .agg #[.int .i64 a2_0, .int .i64 a2_1]] w fun e w' => ∃ v0_ : Value, e = .returned (v0_) ∧ Kd.R k93 93 w' w.heap.size (fun _ => True) v0_ r ∧ Below w.heap.size w w' := by
  have hu93 := Tryz.underlying93
  unfold jS.f at h
  split at h
  · rename_i hc
    obtain ⟨h0, h1, h2⟩ := hc
    obtain rfl := Option.some.inj h
    obtain ⟨i, rfl⟩ : ∃ i : Nat, a1 = (i : Int) := ⟨a1.toNat, by omega⟩
    rw [Int.toNat_natCast]
    have hin : i < l0.length := by omega
    obtain ⟨ad, e3, g0, g1⟩ := fQ hr0 (i : Int) h0 h1
    cases e3
    obtain ⟨y, hy⟩ : ∃ y, y = aU l0 (i : Int) := ⟨_, rfl⟩
    rw [← hy] at g0 g1
    have hres : outL l0 i ⟨a2_0, a2_1⟩ = l0.take i ++ (jD y ⟨a2_0, a2_1⟩ ++ iq y ⟨a2_0, a2_1⟩) ++ l0.drop (i + 1) := by unfold outL; rw [← hy]
    rw [hres]
    have hti : ((i : Int)).toNat = i := Int.toNat_natCast i
    have hw1 : IntKind.i64.wrap ((i : Int) + 1) = (i : Int) + 1 := IntWalk.i64_in _ (by omega)
    rw [hti] at g0 g1
    obtain ⟨W0, hW0⟩ : ∃ W, W = w.alloc (.cells #[.int .i64 a2_0, .int .i64 a2_1] 93) := ⟨_, rfl⟩
    have hbel0 : Below w.heap.size w W0 := by rw [hW0]; exact (Below.refl _ _).alloc (Nat.le_refl _) _
    have g0' : (w.alloc (.cells #[.int .i64 a2_0, .int .i64 a2_1] 93)).cell? (ad.add (i * 2)) = some (.int .i64 y.f0) := by rw [← hW0]; exact ed hbel0 g0
    have g1' : (w.alloc (.cells #[.int .i64 a2_0, .int .i64 a2_1] 93)).cell? ⟨(ad.add (i * 2)).block, (ad.add (i * 2)).off + 1, none⟩ = some (.int .i64 y.f1) := by rw [← hW0]; exact ed hbel0 g1
    obtain ⟨b5, hb5⟩ : ∃ b, b = w.heap.size := ⟨_, rfl⟩
    obtain ⟨b7, hb7⟩ : ∃ b, b = W0.heap.size := ⟨_, rfl⟩
    obtain ⟨W1, hW1⟩ : ∃ W, W = W0.alloc (.cells #[.int .i64 y.f0, .int .i64 y.f1] 93) := ⟨_, rfl⟩
    have hx5 : W1.heap[b5]? = some (.cells #[.int .i64 a2_0, .int .i64 a2_1] 93 (0, 0)) := by rw [hW1]; refine aj ?_ _; rw [hW0, hb5]; exact bg w _
    have hx7 : W1.heap[b7]? = some (.cells #[.int .i64 y.f0, .int .i64 y.f1] 93 (0, 0)) := by rw [hW1, hb7]; exact bg W0 _
    have hbel1 : Below w.heap.size w W1 := by rw [hW1]; exact hbel0.alloc hbel0.size _
    have x0 : W1.cell? ⟨b5, 0, none⟩ = some (.int .i64 a2_0) := (ae hx5 0).trans rfl
    have x1 : W1.cell? ⟨b5, 1, none⟩ = some (.int .i64 a2_1) := (ae hx5 1).trans rfl
    have y0 : W1.cell? ⟨b7, 0, none⟩ = some (.int .i64 y.f0) := (ae hx7 0).trans rfl
    have y1 : W1.cell? ⟨b7, 1, none⟩ = some (.int .i64 y.f1) := (ae hx7 1).trans rfl
    have HR0 := aa.mk hr0
    have HC0 := aa.mk hc0
    have HI := aa.mk (And.intro hin h2)
    have HX5 := aa.mk hx5
    have HX7 := aa.mk hx7
    have HB1 := aa.mk hbel1
    have e5 : w.heap.size = b5 := hb5.symm
    have e7 : (w.alloc (.cells #[.int .i64 a2_0, .int .i64 a2_1] 93)).heap.size = b7 := by rw [← hW0, hb7]
    have e7' : w.heap.size + 1 = b7 := by rw [← e7]; simp
    have E57 := aa.mk (And.intro e5 (And.intro e7 e7'))
    have hWW : W1 = (w.alloc (.cells #[.int .i64 a2_0, .int .i64 a2_1] 93)).alloc (.cells #[.int .i64 y.f0, .int .i64 y.f1] 93) := by rw [hW1, hW0]
    have HWW := aa.mk hWW
    clear hr0 hc0 h hy hres hin h2 hW0 hW1 hb5 hb7 hx5 hx7 hbel0 hbel1 g0 g1 e5 e7 e7' hWW
    obtain ⟨s1, hs1⟩ : ∃ s : Int, s = wrap64 (a2_0 + a2_1) := ⟨_, rfl⟩
    obtain ⟨s2, hs2⟩ : ∃ s : Int, s = wrap64 (y.f0 + y.f1) := ⟨_, rfl⟩
    have HS := aa.mk (And.intro hs1 hs2)
    by_cases c1 : y.f0 < a2_0
    · have hd1 : decide (y.f0 < a2_0) = true := decide_eq_true c1
      have hr1 : jD y ⟨a2_0, a2_1⟩ = [⟨y.f0, wrap64 (a2_0 - y.f0)⟩] := by unfold jD; rw [if_pos c1]
      have HR1 := aa.mk hr1
      clear hr1
      rw [HWW.out] at x0 x1 y0 y1
      rw [← E57.out.2.2] at y0 y1
      rw [← E57.out.1] at x0 x1
      go_enter Tryz.func136, Tryz.ntmps136
      go_wp2_with (first | ((with_reducible refine bK (b := .append) (xs := #[.tmp 20, .tmp 29]) rfl ?_); at_builtin; refine Kd.fJ k93 (w0 := w) w.heap.size rfl (.tmp 20) (.tmp 29) 26 93 (.agg #[(.int .i64 0), (.int .i64 0)]) 16 rfl Tryz.underlying26 jh rfl (by decide) (by omega) (.slice none 0 0) ([] : List S93) (⟨y.f0, wrap64 (a2_0 - y.f0)⟩ : S93) [.int .i64 ((⟨y.f0, wrap64 (a2_0 - y.f0)⟩ : S93) : S93).f0, .int .i64 ((⟨y.f0, wrap64 (a2_0 - y.f0)⟩ : S93) : S93).f1] (fun k => k ≠ b5 ∧ k ≠ b7) (fun _ => False) rfl (by first | (go_simp; done) | (go_simp; rfl)) ?aP (fun _ hk => hk.elim) ?aF ?aO ?aB ?aS ?aL ?_; (case aP => exact ik _ _ _ ((⟨y.f0, wrap64 (a2_0 - y.f0)⟩ : S93) : S93)); (case aF => intro k hk; rw [← HWW.out] at hk; have q1 := aA HX5.out; have q2 := aA HX7.out; exact ⟨by omega, by omega⟩); (case aO => exact Kd.bW _ _ _ _ _); (case aB => rw [← HWW.out]; exact HB1.out); (case aS => rw [← HWW.out]; exact HB1.out.size); (case aL => simp); intro v1 w4 ho hb hg hat; rw [← HWW.out] at hg; have HO4 := aa.mk ho; have HB4 := aa.mk hb; have HG4 := aa.mk hg; clear ho hb hg hat))
      clear x0 x1 y0 y1 g0' g1'
      simp only [E57.out.2.2]
      simp only [E57.out.1]
      have HX54 := aa.mk ((HG4.out.block b5 (aA HX5.out) (by simp [Value.ownBlock])).trans HX5.out)
      have HX74 := aa.mk ((HG4.out.block b7 (aA HX7.out) (by simp [Value.ownBlock])).trans HX7.out)
      obtain ⟨A4, c4, rfl⟩ := Kd.aZ HO4.out
      have x0 : w4.cell? ⟨b5, 0, none⟩ = some (.int .i64 a2_0) := (ae HX54.out 0).trans rfl
      have x1 : w4.cell? ⟨b5, 1, none⟩ = some (.int .i64 a2_1) := (ae HX54.out 1).trans rfl
      have y0 : w4.cell? ⟨b7, 0, none⟩ = some (.int .i64 y.f0) := (ae HX74.out 0).trans rfl
      have y1 : w4.cell? ⟨b7, 1, none⟩ = some (.int .i64 y.f1) := (ae HX74.out 1).trans rfl
      have hs1w : IntKind.i64.wrap (a2_0 + a2_1) = s1 := by rw [HS.out.1]; exact IntWalk.i64_left _
      have hs1w2 : wrap64 (a2_0 + a2_1) = s1 := HS.out.1.symm
      have hs2w : IntKind.i64.wrap (y.f0 + y.f1) = s2 := by rw [HS.out.2]; exact IntWalk.i64_left _
      have hs2w2 : wrap64 (y.f0 + y.f1) = s2 := HS.out.2.symm
      clear hs1 hs2
      go_quiet (fail)
      obtain ⟨W6, hW6⟩ : ∃ W, W = w4.drewN nq := ⟨_, rfl⟩
      rw [← hW6]
      have HO6 := aa.mk (show Kd.R k93 93 W6 w.heap.size (fun k => k ≠ b5 ∧ k ≠ b7) (.slice A4 ([] ++ [(⟨y.f0, wrap64 (a2_0 - y.f0)⟩ : S93)]).length c4) ([] ++ [(⟨y.f0, wrap64 (a2_0 - y.f0)⟩ : S93)]) by rw [hW6]; exact Kd.bT HO4.out nq)
      have HB6 := aa.mk (show Below w.heap.size w W6 by rw [hW6]; exact af HB4.out nq)
      have HX56 := aa.mk (show W6.heap[b5]? = some (.cells #[.int .i64 a2_0, .int .i64 a2_1] 93 (0, 0)) by rw [hW6]; exact HX54.out)
      have HX76 := aa.mk (show W6.heap[b7]? = some (.cells #[.int .i64 y.f0, .int .i64 y.f1] 93 (0, 0)) by rw [hW6]; exact HX74.out)
      clear hW6 x0 x1 y0 y1
      by_cases c2 : s1 < s2
      · have hd2 : decide (s1 < s2) = true := decide_eq_true c2
        have hr2 : iq y ⟨a2_0, a2_1⟩ = [⟨s1, wrap64 (s2 - s1)⟩] := by unfold iq; rw [hs1w2, hs2w2, if_pos c2]
        have HR2 := aa.mk hr2
        clear hr2 hs1w hs1w2 hs2w hs2w2
        go_wp2_with (first | ((with_reducible refine bK (b := .append) (xs := #[.tmp 44, .tmp 50]) rfl ?_); at_builtin; refine Kd.fJ k93 (w0 := w) w.heap.size rfl (.tmp 44) (.tmp 50) 26 93 (.agg #[(.int .i64 0), (.int .i64 0)]) 16 rfl Tryz.underlying26 jh rfl (by decide) (by omega) (.slice A4 ([] ++ [(⟨y.f0, wrap64 (a2_0 - y.f0)⟩ : S93)]).length c4) ([] ++ [(⟨y.f0, wrap64 (a2_0 - y.f0)⟩ : S93)]) (⟨s1, wrap64 (s2 - s1)⟩ : S93) [.int .i64 ((⟨s1, wrap64 (s2 - s1)⟩ : S93) : S93).f0, .int .i64 ((⟨s1, wrap64 (s2 - s1)⟩ : S93) : S93).f1] (fun k => k ≠ b5 ∧ k ≠ b7) (fun _ => False) rfl (by first | (go_simp; done) | (go_simp; rfl)) ?aP (fun _ hk => hk.elim) ?aF ?aO ?aB ?aS ?aL ?_; (case aP => exact ik _ _ _ ((⟨s1, wrap64 (s2 - s1)⟩ : S93) : S93)); (case aF => intro k hk; have q1 := aA HX56.out; have q2 := aA HX76.out; exact ⟨by omega, by omega⟩); (case aO => exact HO6.out); (case aB => exact HB6.out); (case aS => exact HB6.out.size); (case aL => simp); intro v1 w7 ho hb hg hat; have HO7 := aa.mk ho; have HB7 := aa.mk hb; clear ho hb hg hat))
        obtain ⟨A7, c7, rfl⟩ := Kd.aZ HO7.out
        clear hd2
        go_wp2_with fail
        have hvs : jD y ⟨a2_0, a2_1⟩ ++ iq y ⟨a2_0, a2_1⟩ = (([] ++ [(⟨y.f0, wrap64 (a2_0 - y.f0)⟩ : S93)]) ++ [(⟨s1, wrap64 (s2 - s1)⟩ : S93)]) := by first | (rw [HR1.out, HR2.out]; done) | (rw [HR1.out, HR2.out]; rfl)
        have HVS := aa.mk hvs
        refine (lu w _ (some ad) c0 l0 i (([] ++ [(⟨y.f0, wrap64 (a2_0 - y.f0)⟩ : S93)]) ++ [(⟨s1, wrap64 (s2 - s1)⟩ : S93)]) _ (Kd.aN HR0.out HB7.out) HC0.out (Kd.aX HO7.out (fun _ _ => trivial)) HB7.out HI.out.1 HI.out.2 (by simp)).mono ?_
        rintro e w8 ⟨s, rfl, hb8, hcall⟩
        have HCALL := aa.mk hcall
        clear hb8 hcall hvs
        go_wp2_with fail
        refine HCALL.out.mono ?_
        rintro e w9 ⟨v', rfl, hR9, hb9⟩
        have HR9 := aa.mk hR9
        have HB9 := aa.mk hb9
        clear hR9 hb9
        go_wp2
        go_ret
        refine ⟨_, rfl, ?_, HB9.out⟩; rw [HVS.out]; exact HR9.out
      · have hd2 : decide (s1 < s2) = false := decide_eq_false c2
        have hr2 : iq y ⟨a2_0, a2_1⟩ = [] := by unfold iq; rw [hs1w2, hs2w2, if_neg c2]
        have HR2 := aa.mk hr2
        clear hr2 hs1w hs1w2 hs2w hs2w2
        go_wp2_with fail
        have hvs : jD y ⟨a2_0, a2_1⟩ ++ iq y ⟨a2_0, a2_1⟩ = (([] ++ [(⟨y.f0, wrap64 (a2_0 - y.f0)⟩ : S93)])) := by first | (rw [HR1.out, HR2.out]; done) | (rw [HR1.out, HR2.out]; rfl)
        have HVS := aa.mk hvs
        refine (lu w _ (some ad) c0 l0 i (([] ++ [(⟨y.f0, wrap64 (a2_0 - y.f0)⟩ : S93)])) _ (Kd.aN HR0.out HB6.out) HC0.out (Kd.aX HO6.out (fun _ _ => trivial)) HB6.out HI.out.1 HI.out.2 (by simp)).mono ?_
        rintro e w8 ⟨s, rfl, hb8, hcall⟩
        have HCALL := aa.mk hcall
        clear hb8 hcall hvs
        go_wp2_with fail
        refine HCALL.out.mono ?_
        rintro e w9 ⟨v', rfl, hR9, hb9⟩
        have HR9 := aa.mk hR9
        have HB9 := aa.mk hb9
        clear hR9 hb9
        go_wp2
        go_ret
        refine ⟨_, rfl, ?_, HB9.out⟩; rw [HVS.out]; exact HR9.out
    · have hd1 : decide (y.f0 < a2_0) = false := decide_eq_false c1
      have hr1 : jD y ⟨a2_0, a2_1⟩ = [] := by unfold jD; rw [if_neg c1]
      have HR1 := aa.mk hr1
      clear hr1
      rw [HWW.out] at x0 x1 y0 y1
      rw [← E57.out.2.2] at y0 y1
      rw [← E57.out.1] at x0 x1
      go_enter Tryz.func136, Tryz.ntmps136
      go_wp2_with fail
      clear x0 x1 y0 y1 g0' g1'
      rw [← HWW.out]
      simp only [E57.out.2.2]
      simp only [E57.out.1]
      have HO1 := aa.mk (Kd.bW k93 93 W1 w.heap.size (fun k => k ≠ b5 ∧ k ≠ b7))
      have x0 : W1.cell? ⟨b5, 0, none⟩ = some (.int .i64 a2_0) := (ae HX5.out 0).trans rfl
      have x1 : W1.cell? ⟨b5, 1, none⟩ = some (.int .i64 a2_1) := (ae HX5.out 1).trans rfl
      have y0 : W1.cell? ⟨b7, 0, none⟩ = some (.int .i64 y.f0) := (ae HX7.out 0).trans rfl
      have y1 : W1.cell? ⟨b7, 1, none⟩ = some (.int .i64 y.f1) := (ae HX7.out 1).trans rfl
      have hs1w : IntKind.i64.wrap (a2_0 + a2_1) = s1 := by rw [HS.out.1]; exact IntWalk.i64_left _
      have hs1w2 : wrap64 (a2_0 + a2_1) = s1 := HS.out.1.symm
      have hs2w : IntKind.i64.wrap (y.f0 + y.f1) = s2 := by rw [HS.out.2]; exact IntWalk.i64_left _
      have hs2w2 : wrap64 (y.f0 + y.f1) = s2 := HS.out.2.symm
      clear hs1 hs2
      go_quiet (fail)
      obtain ⟨W6, hW6⟩ : ∃ W, W = W1.drewN nq := ⟨_, rfl⟩
      rw [← hW6]
      have HO6 := aa.mk (show Kd.R k93 93 W6 w.heap.size (fun k => k ≠ b5 ∧ k ≠ b7) (.slice none 0 0) ([] : List S93) by rw [hW6]; exact Kd.bT HO1.out nq)
      have HB6 := aa.mk (show Below w.heap.size w W6 by rw [hW6]; exact af HB1.out nq)
      have HX56 := aa.mk (show W6.heap[b5]? = some (.cells #[.int .i64 a2_0, .int .i64 a2_1] 93 (0, 0)) by rw [hW6]; exact HX5.out)
      have HX76 := aa.mk (show W6.heap[b7]? = some (.cells #[.int .i64 y.f0, .int .i64 y.f1] 93 (0, 0)) by rw [hW6]; exact HX7.out)
      clear hW6 x0 x1 y0 y1
      by_cases c2 : s1 < s2
      · have hd2 : decide (s1 < s2) = true := decide_eq_true c2
        have hr2 : iq y ⟨a2_0, a2_1⟩ = [⟨s1, wrap64 (s2 - s1)⟩] := by unfold iq; rw [hs1w2, hs2w2, if_pos c2]
        have HR2 := aa.mk hr2
        clear hr2 hs1w hs1w2 hs2w hs2w2
        go_wp2_with (first | ((with_reducible refine bK (b := .append) (xs := #[.tmp 44, .tmp 50]) rfl ?_); at_builtin; refine Kd.fJ k93 (w0 := w) w.heap.size rfl (.tmp 44) (.tmp 50) 26 93 (.agg #[(.int .i64 0), (.int .i64 0)]) 16 rfl Tryz.underlying26 jh rfl (by decide) (by omega) (.slice none 0 0) ([] : List S93) (⟨s1, wrap64 (s2 - s1)⟩ : S93) [.int .i64 ((⟨s1, wrap64 (s2 - s1)⟩ : S93) : S93).f0, .int .i64 ((⟨s1, wrap64 (s2 - s1)⟩ : S93) : S93).f1] (fun k => k ≠ b5 ∧ k ≠ b7) (fun _ => False) rfl (by first | (go_simp; done) | (go_simp; rfl)) ?aP (fun _ hk => hk.elim) ?aF ?aO ?aB ?aS ?aL ?_; (case aP => exact ik _ _ _ ((⟨s1, wrap64 (s2 - s1)⟩ : S93) : S93)); (case aF => intro k hk; have q1 := aA HX56.out; have q2 := aA HX76.out; exact ⟨by omega, by omega⟩); (case aO => exact HO6.out); (case aB => exact HB6.out); (case aS => exact HB6.out.size); (case aL => simp); intro v1 w7 ho hb hg hat; have HO7 := aa.mk ho; have HB7 := aa.mk hb; clear ho hb hg hat))
        obtain ⟨A7, c7, rfl⟩ := Kd.aZ HO7.out
        clear hd2
        go_wp2_with fail
        have hvs : jD y ⟨a2_0, a2_1⟩ ++ iq y ⟨a2_0, a2_1⟩ = (([] : List S93) ++ [(⟨s1, wrap64 (s2 - s1)⟩ : S93)]) := by first | (rw [HR1.out, HR2.out]; done) | (rw [HR1.out, HR2.out]; rfl)
        have HVS := aa.mk hvs
        refine (lu w _ (some ad) c0 l0 i (([] : List S93) ++ [(⟨s1, wrap64 (s2 - s1)⟩ : S93)]) _ (Kd.aN HR0.out HB7.out) HC0.out (Kd.aX HO7.out (fun _ _ => trivial)) HB7.out HI.out.1 HI.out.2 (by simp)).mono ?_
        rintro e w8 ⟨s, rfl, hb8, hcall⟩
        have HCALL := aa.mk hcall
        clear hb8 hcall hvs
        go_wp2_with fail
        refine HCALL.out.mono ?_
        rintro e w9 ⟨v', rfl, hR9, hb9⟩
        have HR9 := aa.mk hR9
        have HB9 := aa.mk hb9
        clear hR9 hb9
        go_wp2
        go_ret
        refine ⟨_, rfl, ?_, HB9.out⟩; rw [HVS.out]; exact HR9.out
      · have hd2 : decide (s1 < s2) = false := decide_eq_false c2
        have hr2 : iq y ⟨a2_0, a2_1⟩ = [] := by unfold iq; rw [hs1w2, hs2w2, if_neg c2]
        have HR2 := aa.mk hr2
        clear hr2 hs1w hs1w2 hs2w hs2w2
        go_wp2_with fail
        have hvs : jD y ⟨a2_0, a2_1⟩ ++ iq y ⟨a2_0, a2_1⟩ = (([] : List S93)) := by first | (rw [HR1.out, HR2.out]; done) | (rw [HR1.out, HR2.out]; rfl)
        have HVS := aa.mk hvs
        refine (lu w _ (some ad) c0 l0 i (([] : List S93)) _ (Kd.aN HR0.out HB6.out) HC0.out (Kd.aX HO6.out (fun _ _ => trivial)) HB6.out HI.out.1 HI.out.2 (by simp)).mono ?_
        rintro e w8 ⟨s, rfl, hb8, hcall⟩
        have HCALL := aa.mk hcall
        clear hb8 hcall hvs
        go_wp2_with fail
        refine HCALL.out.mono ?_
        rintro e w9 ⟨v', rfl, hR9, hb9⟩
        have HR9 := aa.mk hR9
        have HB9 := aa.mk hb9
        clear hR9 hb9
        go_wp2
        go_ret
        refine ⟨_, rfl, ?_, HB9.out⟩; rw [HVS.out]; exact HR9.out
  · cases h
def inX1 (l : List S93) (i : Nat) (x : S93) : S93 := if 0 < i ∧ wrap64 ((aU l ((i : Int) - 1)).f0 + (aU l ((i : Int) - 1)).f1) = x.f0 then ⟨(aU l ((i : Int) - 1)).f0, wrap64 ((aU l ((i : Int) - 1)).f1 + x.f1)⟩ else x
def inLo (l : List S93) (i : Nat) (x : S93) : Nat := if 0 < i ∧ wrap64 ((aU l ((i : Int) - 1)).f0 + (aU l ((i : Int) - 1)).f1) = x.f0 then i - 1 else i
def inX2 (l : List S93) (i : Nat) (x : S93) : S93 := if i < l.length ∧ wrap64 (x.f0 + x.f1) = (aU l (i : Int)).f0 then ⟨x.f0, wrap64 (x.f1 + (aU l (i : Int)).f1)⟩ else x
def inHi (l : List S93) (i : Nat) (x : S93) : Nat := if i < l.length ∧ wrap64 (x.f0 + x.f1) = (aU l (i : Int)).f0 then i + 1 else i
def inL (l : List S93) (i : Nat) (x : S93) : List S93 := l.take (inLo l i x) ++ [inX2 l i (inX1 l i x)] ++ l.drop (inHi l i (inX1 l i x))
def free_in.f (l0 : List (S93)) (a1_0 : Int) (a1_1 : Int) : Option (List (S93)) := (free_at.f l0 a1_0).bind fun i => some (inL l0 i.toNat ⟨a1_0, a1_1⟩)
structure Stop (p : Prop) : Prop where mk :: (out : p)
theorem gG {p : Prop} (h : Stop p) : p := h.out
section
variable {P : Program}
theorem jF (w : World) (g o : Nat) (t ty : TypeId) (cur cells : Array Value) (hg : w.heap[g]? = some (.cells cur t (0, 0))) (hi : (P.info? ty).map (·.size) = some cells.size)
    (hf : o + cells.size ≤ cur.size) (h1 : ∀ v ∈ cells.toList, v.oneCell' = true) :
    (storeVar ty ⟨g, o, none⟩ (.agg cells)).run P w = .ok () (w.setRow g (cur.toList.take o ++ cells.toList ++ cur.toList.drop (o + cells.toList.length)).toArray) := by
  have hst := run_storeCells_at P g o t cells.toList 0 cur w hg (by simpa using hf) h1
  simp only [Nat.add_zero] at hst
  cases hq : P.info? ty with
  | none => simp [hq] at hi
  | some i =>
    have hs : cells.size = i.size := by simp [hq] at hi; omega
    simp [storeVar, sizeOf, typeInfo, hq, Value.cells, hs, hst]
theorem eD {ops : Array Oper} {rest : List Oper} {o : Oper} {a : Act} {w : World} {Q : Exit → Act → World → Prop} (hgd : o.guard = none) (ty : TypeId) (x y : Operand) (ho : o.op = .store ty x y)
    (A : Addr) (g k : Nat) (hA : A = ⟨g, k, none⟩) (cells : Array Value) (hx : a.eval x = .pointer (some A)) (hy : a.eval y = .agg cells)
    (t : TypeId) (cur : Array Value) (hg : w.heap[g]? = some (.cells cur t (0, 0))) (hi : (P.info? ty).map (·.size) = some cells.size)
    (hf : k + cells.size ≤ cur.size) (h1 : ∀ v ∈ cells.toList, v.oneCell' = true)
    (h : wpList P ops Q rest (a.put o.dst undef) (w.setRow g (cur.toList.take k ++ cells.toList ++ cur.toList.drop (k + cells.toList.length)).toArray)) : wpList P ops Q (o :: rest) a w := by
  subst hA
  refine wpList_plain hgd fun K hK => ?_
  unfold Oper.wp execOp
  simp only [ho, hx, hy, Instr.storeAt, Instr.sureAddr, Sem.run_bind, Sem.run_pure, Result.andThen_ok, jF w g k t ty cur cells hg hi hf h1]
  exact hK _ _ h
theorem fB {o : Oper} {a : Act} {w : World} (ty : TypeId) (x y : Operand) (ho : o.op = .store ty x y)
    (A : Addr) (g k : Nat) (hA : A = ⟨g, k, none⟩) (cells : Array Value) (hx : a.eval x = .pointer (some A)) (hy : a.eval y = .agg cells)
    (t : TypeId) (cur : Array Value) (hg : w.heap[g]? = some (.cells cur t (0, 0))) (hi : (P.info? ty).map (·.size) = some cells.size)
    (hf : k + cells.size ≤ cur.size) (h1 : ∀ v ∈ cells.toList, v.oneCell' = true) :
    (execOp a.eval o).run P w = .ok .skip (w.setRow g (cur.toList.take k ++ cells.toList ++ cur.toList.drop (k + cells.toList.length)).toArray) := by
  subst hA
  unfold execOp
  simp only [ho, hx, hy, Instr.storeAt, Instr.sureAddr, Sem.run_bind, Sem.run_pure, Result.andThen_ok, jF w g k t ty cur cells hg hi hf h1]
end
theorem bS {α : Type} {d : Kd α} {e base : Nat} {ok : Nat → Prop} {w : World} {v : Value} {xs : List α} (h : d.R e w base ok v xs) {g t : Nat} {cs : Array Value} {fr : Nat × Nat} (hb : w.heap[g]? = some (.cells cs t fr)) (ht : ∀ q, q ∈ e :: d.E → q ≠ t) : d.R e w base (fun k => ok k ∧ k ≠ g) v xs :=
  Kd.aX (Kd.bO h) fun k hk => ⟨hk.1, fun he => by
    obtain ⟨_, _, _, q, hq, cells, hc⟩ := hk
    subst he
    rw [hb] at hc
    injection hc with hc
    injection hc with _ hc2 _
    exact ht q hq hc2.symm⟩
theorem put_comm {a : Act} {i j : Tmp} {u v : Value} (h : i ≠ j) : (a.put (some i) u).put (some j) v = (a.put (some j) v).put (some i) u := by
  unfold Act.put
  simp only [Act.mk.injEq, and_true]
  exact Array.setIfInBounds_comm _ _ h
abbrev ptrV (b : Nat) : Value := .pointer (some ⟨b, 0, none⟩)
theorem aM {w w' : World} {p : Addr} {v : Value} (hb : Below w.heap.size w w') (h : w.cell? p = some v) : w'.cell? p = some v := (hb.cell (World.block_lt_of_cell? _ _ h)).trans h
section
variable {P : Program} {ops : Array Oper} {Q : Exit → Act → World → Prop} {S : World → Prop} {ds : List Nat}
def Nd1 (P : Program) (ops : Array Oper) (Q : Exit → Act → World → Prop) (S : World → Prop) (ds : List Nat) (n N : Nat) (t : TypeId) (cs : Array Value) (B F k kj : Nat) (a : Act) (w0 : World) : Prop :=
  S w0 → (∀ w, Below w0.heap.size w0 w → S w → aV P .any ops Q S ds (F + 1) (lb n k) a w) ∧
    ∀ b w, Below w0.heap.size w0 w → S w → w.heap[b]? = some (.cells cs t (0, 0)) → B ≤ b → aV P .any ops Q S ds F (lb n kj) (a.put (some N) (ptrV b)) w
theorem rA (j N : Nat) (t : TypeId) (cs : Array Value) {n F k : Nat} {l : Array Bool} {a : Act} {w : World} (kj : Nat) (hS : S w) (h : Nd1 P ops Q S ds n N t cs w.heap.size F k kj a w) (hl : l = lb n k := by rfl) : aV P .any ops Q S ds (F + 1) l a w := by
  subst hl
  exact (h hS).1 w (Below.refl _ _) hS
def rdy (T : List (List Nat × List Nat)) (n k : Nat) (is : List Nat) : Bool := lZ T (lb n k).toList == is
theorem mV {T : Bool × List (List Nat × List Nat)} (hT : rtab .any ops = T) {n k : Nat} {is : List Nat} (h : rdy T.2 n k is = true) : Region.ready .any ops (lb n k) = is := by
  subst hT
  rw [ready_eq]
  exact eq_of_beq h
theorem all2 {n k : Nat} {a : Act} {w : World} {F e j : Nat} {is : List Nat} (hr : Region.ready .any ops (lb n k) = is) (his : is = [e, j] ∨ is = [j, e])
    (h1 : wpOp P ops Q e (fun a' w' => (e ∉ ds → S w → S w') ∧ aV P .any ops Q S ds F ((lb n k).setIfInBounds e true) a' w') a w)
    (h2 : wpOp P ops Q j (fun a' w' => (j ∉ ds → S w → S w') ∧ aV P .any ops Q S ds F ((lb n k).setIfInBounds j true) a' w') a w) : aV P .any ops Q S ds (F + 1) (lb n k) a w := by
  refine fI hr (by rcases his with rfl | rfl <;> simp) fun i hi => ?_
  have : i = e ∨ i = j := by
    rcases his with rfl | rfl
    · simpa using hi
    · rcases List.mem_cons.1 hi with h | h
      · exact .inr h
      · exact .inl (by simpa using h)
  rcases this with rfl | rfl
  · exact h1
  · exact h2
theorem yz {j N : Nat} {oj : Oper} {t : TypeId} {cs : Array Value} {a : Act} {w : World} {K : Act → World → Prop} (hj : ops[j]? = some oj) (hN : oj.dst = some N) (hg : oj.guard = none)
    (hrun : (execOp a.eval oj).run P w = .ok (.value (.pointer (some ⟨w.heap.size, 0, none⟩))) (w.alloc (.cells cs t (0, 0))))
    (h : ∀ w1, w1.heap[w.heap.size]? = some (.cells cs t (0, 0)) → Below w.heap.size w w1 → K (a.put (some N) (ptrV w.heap.size)) w1) : wpOp P ops Q j K a w := by
  refine wpOp_step hj fun K' hK => ?_
  have hw : Region.wanted oj (yielded ops a.tmps) = true := by
    unfold Region.wanted
    rw [hg]
  refine nO hw hN hrun fun g hg2 w1 h1 h2 => hK _ _ ?_
  subst hg2
  rw [hN]
  exact h w1 h1 h2
def EvK (S : World → Prop) (B : Nat) (t : TypeId) (cs : Array Value) (w w' : World) : Prop := w.heap.size ≤ w'.heap.size ∧ (S w → S w') ∧ ∀ b, B ≤ b → w.heap[b]? = some (.cells cs t (0, 0)) → w'.heap[b]? = some (.cells cs t (0, 0))
theorem EvK.of {B : Nat} {t : TypeId} {cs : Array Value} {w w' : World} (hst : ∀ w w' : World, Below w.heap.size w w' → S w → S w') (hb : Below w.heap.size w w') : EvK S B t cs w w' := ⟨hb.size, hst _ _ hb, fun b _ h => (hb.block b (aA h)).trans h⟩
theorem yA {T : Bool × List (List Nat × List Nat)} (hT : rtab .any ops = T) {n e j N M : Nat} {oe oj : Oper} {t : TypeId} {cs : Array Value} {B F k kj : Nat} (k' kj' : Nat) {a : Act} {w0 : World}
    (he : ops[e]? = some oe) (hNe : oe.dst = some M) (hj : ops[j]? = some oj) (hN : oj.dst = some N) (hg : oj.guard = none) (hne : M ≠ N)
    (hc : ((rdy T.2 n k [e, j] || rdy T.2 n k [j, e]) && rdy T.2 n kj [e] && ((lb n k).toList.set e true == (lb n k').toList) && ((lb n k).toList.set j true == (lb n kj).toList) && ((lb n kj).toList.set e true == (lb n kj').toList)) = true)
    (hd : e ∉ ds ∧ j ∉ ds) (hB : B ≤ w0.heap.size) (hst : ∀ w w' : World, Below w.heap.size w w' → S w → S w')
    (hrun : ∀ (A : Act) (w : World), A = a ∨ (∃ b, A = a.put (some N) (ptrV b)) → (execOp A.eval oj).run P w = .ok (.value (.pointer (some ⟨w.heap.size, 0, none⟩))) (w.alloc (.cells cs t (0, 0))))
    (h : ∀ w, Below w0.heap.size w0 w → S w → ∀ A : Act, A = a ∨ (∃ b, A = a.put (some N) (ptrV b)) → ∀ K : Act → World → Prop,
      (∀ v w', EvK S B t cs w w' → Nd1 P ops Q S ds n N t cs B F k' kj' (a.put (some M) v) w' → K (A.put (some M) v) w') → if Region.wanted oe (yielded ops A.tmps) = true then Oper.wp P oe A w K Q else K (A.put oe.dst undef) w) :
    Nd1 P ops Q S ds n N t cs B (F + 1) k kj a w0 := by
  simp only [Bool.and_eq_true, Bool.or_eq_true] at hc
  obtain ⟨⟨⟨⟨c1, c2⟩, c3⟩, c4⟩, c5⟩ := hc
  have e3 : (lb n k).setIfInBounds e true = lb n k' := eq_of_beq (jE c3)
  have e4 : (lb n k).setIfInBounds j true = lb n kj := eq_of_beq (jE c4)
  have e5 : (lb n kj).setIfInBounds e true = lb n kj' := eq_of_beq (jE c5)
  have late : ∀ b w, Below w0.heap.size w0 w → S w → w.heap[b]? = some (.cells cs t (0, 0)) → B ≤ b → aV P .any ops Q S ds (F + 1) (lb n kj) (a.put (some N) (ptrV b)) w := by
    intro b w hb hS hbox hBb
    refine fI (mV hT c2) (by simp) fun i hi => ?_
    have : i = e := by simpa using hi
    subst this
    refine wpOp_step he fun K hK => ?_
    refine h w hb hS _ (.inr ⟨b, rfl⟩) K fun v w' hb' hnd => hK _ _ ⟨fun _ _ => hb'.2.1 hS, ?_⟩
    rw [e5, put_comm ((fun e_ => hne e_.symm))]
    have hS' := hb'.2.1 hS
    exact (hnd hS').2 b w' (Below.refl _ _) hS' (hb'.2.2 b hBb hbox) hBb
  intro _
  refine ⟨fun w hb hS => ?_, late⟩
  obtain ⟨is, his, hr⟩ : ∃ is, (is = [e, j] ∨ is = [j, e]) ∧ Region.ready .any ops (lb n k) = is := by
    rcases c1 with c1 | c1
    · exact ⟨_, .inl rfl, mV hT c1⟩
    · exact ⟨_, .inr rfl, mV hT c1⟩
  refine all2 hr his ?_ ?_
  · refine wpOp_step he fun K hK => ?_
    refine h w hb hS _ (.inl rfl) K fun v w' hb' hnd => hK _ _ ⟨fun _ _ => hb'.2.1 hS, ?_⟩
    rw [e3]
    have hS' := hb'.2.1 hS
    exact (hnd hS').1 w' (Below.refl _ _) hS'
  · refine yz hj hN hg (hrun a w (.inl rfl)) fun w1 h1 h2 => ⟨fun _ _ => hst _ _ h2 hS, ?_⟩
    rw [e4]
    exact late _ w1 (hb.trans (h2.mono hb.size)) (hst _ _ h2 hS) h1 (Nat.le_trans hB hb.size)
theorem gy {T : Bool × List (List Nat × List Nat)} (hT : rtab .any ops = T) (e j : Nat) {n N M : Nat} {oe oj : Oper} {t : TypeId} {cs : Array Value} {B F k kj : Nat} (k' kj' : Nat) {a : Act} {w0 : World} {f : FuncId} {fn : Func} {os : Array Operand} {ts : Array TypeId}
    (hf : P.funcs[f]? = some fn) (args : Array Value) (hB : B ≤ w0.heap.size) (hst : ∀ w w' : World, Below w.heap.size w w' → S w → S w')
    (h : ∀ w, Below w0.heap.size w0 w → Calls P f args w fun x w' => ∃ v, x = .returned v ∧ Below w.heap.size w w' ∧ Nd1 P ops Q S ds n N t cs B F k' kj' (a.put (some M) v) w')
    (he : ops[e]? = some oe := by exact rfl) (hNe : oe.dst = some M := by exact rfl) (hj : ops[j]? = some oj := by exact rfl) (hN : oj.dst = some N := by exact rfl) (hg : oj.guard = none := by exact rfl) (hge : oe.guard = none := by exact rfl) (hne : M ≠ N := by decide)
    (hc : ((rdy T.2 n k [e, j] || rdy T.2 n k [j, e]) && rdy T.2 n kj [e] && ((lb n k).toList.set e true == (lb n k').toList) && ((lb n k).toList.set j true == (lb n kj).toList) && ((lb n kj).toList.set e true == (lb n kj').toList)) = true := by kernel_rfl)
    (hd : e ∉ ds ∧ j ∉ ds := by decide) (hname : (fn.name == "runtime.NumGoroutine") = false := by kernel_rfl) (hb : fn.body.isSome = true := by exact rfl)
    (hop : oe.op = .call { callee := .value (.func f), args := os, argTypes := ts } := by exact rfl)
    (ha : os.map a.eval = args := by first | rfl | (simp only [List.map_toArray, List.map_cons, List.map_nil]; rfl)) (ha2 : ∀ b, os.map (a.put (some N) (ptrV b)).eval = args := by intro b; first | rfl | (simp only [List.map_toArray, List.map_cons, List.map_nil]; rfl))
    (hrun : ∀ (A : Act) (w : World), (execOp A.eval oj).run P w = .ok (.value (.pointer (some ⟨w.heap.size, 0, none⟩))) (w.alloc (.cells cs t (0, 0))) := by intro A w; first | (go_simp; done) | (go_simp; rfl)) :
    Nd1 P ops Q S ds n N t cs B (F + 1) k kj a w0 := by
  refine yA hT k' kj' he hNe hj hN hg hne hc hd hB hst (fun A w _ => hrun A w) fun w hw hS A hA K hK => ?_
  have hwt : Region.wanted oe (yielded ops A.tmps) = true := by
    unfold Region.wanted
    rw [hge]
  rw [hNe]
  refine dO hf hname hb args hwt hNe hop (by rcases hA with rfl | ⟨b, rfl⟩; exact ha; exact ha2 b) ?_
  refine (h w hw).mono fun x w' hx => ?_
  obtain ⟨v, rfl, hb', hnd⟩ := hx
  exact ⟨v, rfl, hK v w' (EvK.of hst hb') hnd⟩
theorem jg {n N : Nat} {t : TypeId} {cs : Array Value} {B F k kj : Nat} {a a' : Act} {w0 : World} (h : Nd1 P ops Q S ds n N t cs B F k kj a' w0) (ha : a = a' := by (simp only [Act.put, List.setIfInBounds_toArray, List.set_cons_zero, List.set_cons_succ, kE, mf]; rfl)) : Nd1 P ops Q S ds n N t cs B F k kj a w0 := by subst ha; exact h
theorem iM {T : Bool × List (List Nat × List Nat)} (hT : rtab .any ops = T) (i : Nat) {n N Ni : Nat} {oi : Oper} {t : TypeId} {cs : Array Value} {B F k kj : Nat} (k' kj' : Nat) {a a' : Act} {v : Value} {w0 : World}
    (h : Nd1 P ops Q S ds n N t cs B F k' kj' a' w0)
    (hi : ops[i]? = some oi := by exact rfl) (hNi : oi.dst = some Ni := by exact rfl) (hne : Ni ≠ N := by decide)
    (hc : (anyT T (lb n k).toList (lb n k').toList i && anyT T (lb n kj).toList (lb n kj').toList i) = true := by kernel_rfl)
    (hQ : ∀ c a w, Q (.panic c) (a.put oi.dst v) w → Q (.panic c) a w := by exact fun _ _ _ h => h)
    (hy : Yields P ops oi v a := by exact Or.inl ⟨by rfl, by intro w'; go_simp; with_reducible rfl⟩)
    (hy2 : ∀ b, Yields P ops oi v (a.put (some N) (ptrV b)) := by exact fun b => Or.inl ⟨by rfl, by intro w'; first | (go_simp; done) | (go_simp; with_reducible rfl)⟩)
    (ha : a.put (some Ni) v = a' := by (simp only [Act.put, List.setIfInBounds_toArray, List.set_cons_zero, List.set_cons_succ, kE, mf]; rfl)) :
    Nd1 P ops Q S ds n N t cs B (F + 1) k kj a w0 := by
  subst ha
  rw [Bool.and_eq_true] at hc
  intro hS0
  obtain ⟨h1, h2⟩ := h hS0
  refine ⟨fun w hb hS => yo _ hi hNi (q8 hT hc.1) hQ hy rfl (h1 w hb hS), fun b w hb hS hbox hBb => ?_⟩
  refine yo _ hi hNi (q8 hT hc.2) hQ (hy2 b) rfl ?_
  rw [put_comm ((fun e_ => hne e_.symm))]
  exact h2 b w hb hS hbox hBb
theorem nL {T : Bool × List (List Nat × List Nat)} (hT : rtab .any ops = T) (j : Nat) {n N : Nat} {oj : Oper} {t : TypeId} {cs : Array Value} {B F k kj : Nat} {a : Act} {w0 : World} (hB : B ≤ w0.heap.size) (hst : ∀ w w' : World, Below w.heap.size w w' → S w → S w')
    (h : ∀ b w, Below w0.heap.size w0 w → S w → w.heap[b]? = some (.cells cs t (0, 0)) → B ≤ b → aV P .any ops Q S ds F (lb n kj) (a.put (some N) (ptrV b)) w)
    (hj : ops[j]? = some oj := by exact rfl) (hN : oj.dst = some N := by exact rfl) (hg : oj.guard = none := by exact rfl)
    (hc : (rdy T.2 n k [j] && ((lb n k).toList.set j true == (lb n kj).toList)) = true := by kernel_rfl)
    (hrun : ∀ (A : Act) (w : World), (execOp A.eval oj).run P w = .ok (.value (.pointer (some ⟨w.heap.size, 0, none⟩))) (w.alloc (.cells cs t (0, 0))) := by intro A w; first | (go_simp; done) | (go_simp; rfl)) :
    Nd1 P ops Q S ds n N t cs B F k kj a w0 := by
  rw [Bool.and_eq_true] at hc
  intro _
  refine ⟨fun w hb hS => ?_, h⟩
  refine fI (mV hT hc.1) (by simp) fun i hi => ?_
  have : i = j := by simpa using hi
  subst this
  refine yz hj hN hg (hrun a w) fun w1 h1 h2 => ⟨fun _ _ => hst _ _ h2 hS, ?_⟩
  rw [(show (lb n k).setIfInBounds i true = lb n kj from eq_of_beq (jE hc.2))]
  exact h _ w1 (hb.trans (h2.mono hb.size)) (hst _ _ h2 hS) h1 (Nat.le_trans hB hb.size)
def stT (n k i k' : Nat) : Bool := (lb n k).toList.set i true == (lb n k').toList
theorem stT_of {n k i k' : Nat} (h : stT n k i k' = true) : (lb n k).setIfInBounds i true = lb n k' := eq_of_beq (jE h)
theorem rP {F : Nat} {l : Array Bool} {a a' : Act} {w : World} (h : aV P .any ops Q S ds F l a' w) (ha : a = a' := by (simp only [ptrV, Act.put, List.setIfInBounds_toArray, List.set_cons_zero, List.set_cons_succ, kE, mf]; rfl)) : aV P .any ops Q S ds F l a w := by subst ha; exact h
theorem qG {o : Oper} {a : Act} {w : World} (ty : TypeId) (x y : Operand) (ho : o.op = .store ty x y) (g : Nat) (hx : a.eval x = ptrV g) (cells : Array Value) (hy : a.eval y = .agg cells)
    (t : TypeId) (cur : Array Value) (hg : w.heap[g]? = some (.cells cur t (0, 0))) (hi : (P.info? ty).map (·.size) = some cells.size) (hf : cells.size = cur.size) (h1 : ∀ v ∈ cells.toList, v.oneCell' = true) :
    (execOp a.eval o).run P w = .ok .skip (w.setRow g cells) := by
  have h := fB (P := P) ty x y ho ⟨g, 0, none⟩ g 0 rfl cells hx hy t cur hg hi (by omega) h1
  rw [(show (cur.toList.take 0 ++ cells.toList ++ cur.toList.drop (0 + cells.toList.length)).toArray = cells by
    rw [List.take_zero, List.nil_append, List.drop_eq_nil_of_le (by simp; omega), List.append_nil]), ] at h
  exact h
theorem fE {T : Bool × List (List Nat × List Nat)} (hT : rtab .any ops = T) (i g : Nat) {n k F : Nat} {oi : Oper} {a : Act} {w : World} (k' : Nat) (cells : Array Value) {ty : TypeId} {x y : Operand} {t : TypeId} {cur : Array Value} (hg : w.heap[g]? = some (.cells cur t (0, 0)))
    (h : aV P .any ops Q S ds F (lb n k') a (w.setRow g cells)) (hi : ops[i]? = some oi := by exact rfl) (hN : oi.dst = none := by exact rfl) (hgd : oi.guard = none := by exact rfl) (ho : oi.op = .store ty x y := by exact rfl) (hx : a.eval x = ptrV g := by exact rfl) (hy : a.eval y = .agg cells := by exact rfl)
    (hc : (rdy T.2 n k [i] && stT n k i k') = true := by kernel_rfl) (hd : i ∈ ds := by decide) (hif : (P.info? ty).map (·.size) = some cells.size := by kernel_rfl) (hf : cells.size = cur.size := by rfl) (h1 : ∀ v ∈ cells.toList, v.oneCell' = true := by simp [Value.oneCell']) :
    aV P .any ops Q S ds (F + 1) (lb n k) a w := by
  rw [Bool.and_eq_true] at hc
  refine fI (mV hT hc.1) (by simp) fun i' hi' => ?_
  have : i' = i := by simpa using hi'
  subst this
  refine wpOp_step hi fun K hK => ?_
  have hw : Region.wanted oi (yielded ops a.tmps) = true := by
    unfold Region.wanted
    rw [hgd]
  rw [hN]
  refine iV hw hN (qG ty x y ho g hx cells hy t cur hg hif hf h1) (hK _ _ ⟨fun hn => absurd hd hn, ?_⟩)
  rw [stT_of hc.2]
  exact h
theorem l7 {T : Bool × List (List Nat × List Nat)} (hT : rtab .any ops = T) {n k F : Nat} {a : Act} {w : World} (h : Q .normal a w) (hc : rdy T.2 n k [] = true := by kernel_rfl) : aV P .any ops Q S ds F (lb n k) a w := jG (mV hT hc) h F
theorem bF {rest : List Oper} {o : Oper} {a : Act} {w : World} (g : Nat) (cells : Array Value) {ty : TypeId} {x y : Operand} {t : TypeId} {cur : Array Value} (hg : w.heap[g]? = some (.cells cur t (0, 0)))
    (h : wpList P ops Q rest (a.put o.dst undef) (w.setRow g cells)) (hgd : o.guard = none := by exact rfl) (ho : o.op = .store ty x y := by exact rfl) (hx : a.eval x = ptrV g := by exact rfl) (hy : a.eval y = .agg cells := by exact rfl)
    (hif : (P.info? ty).map (·.size) = some cells.size := by kernel_rfl) (hf : cells.size = cur.size := by rfl) (h1 : ∀ v ∈ cells.toList, v.oneCell' = true := by simp [Value.oneCell']) : wpList P ops Q (o :: rest) a w := by
  refine eD hgd ty x y ho ⟨g, 0, none⟩ g 0 rfl cells hx hy t cur hg hif (by omega) h1 ?_
  rw [(show (cur.toList.take 0 ++ cells.toList ++ cur.toList.drop (0 + cells.toList.length)).toArray = cells by
    rw [List.take_zero, List.nil_append, List.drop_eq_nil_of_le (by simp; omega), List.append_nil])]
  exact h
end
def dP.j0 : Nat → Int → Bool → Int → List (S93) → Int → Int → Option (Int × (List (S93)) × Int)
 | 0, _, _, _, _, _, _ => none
 | k + 1, x7, x61, x102000, x102001, x103000, x103001 => if x61 = true then (some (0, ([] : List (S93)), 72)) else ((jS.f x102001 x7 x103000 x103001).bind fun t110 => ((ic.f x102000 t110).bind fun bt113 => (some (bt113.1, bt113.2.1, bt113.2.2))))
def dP.f (k : Nat) (a0_0 : Int) (l0_1 : List (S93)) (a1_0 : Int) (a1_1 : Int) : Option (Int × (List (S93)) × Int) := (aH.f k a0_0 l0_1).bind fun t104 => (if t104 = 0 then ((dB.f a1_0 a1_1 a0_0).bind fun t105 => (if t105 = true then ((free_at.f l0_1 a1_0).bind fun t106 => (if t106 = (l0_1.length : Int) then (dP.j0 k t106 true a0_0 l0_1 a1_0 a1_1) else (if 0 ≤ t106 then (if t106 < (l0_1.length : Int) then (if ((aU l0_1 t106).f0) > a1_0 then (dP.j0 k t106 true a0_0 l0_1 a1_0 a1_1) else (dP.j0 k t106 (decide ((wrap64 (((aU l0_1 t106).f0) + ((aU l0_1 t106).f1))) < (wrap64 (a1_0 + a1_1)))) a0_0 l0_1 a1_0 a1_1)) else (none)) else (none)))) else (some (0, ([] : List (S93)), 4)))) else (some (0, ([] : List (S93)), t104)))
def tk_T9 : Bool × List (List Nat × List Nat) := (true, [([], []), ([0], [0]), ([], []), ([2], [2]), ([], []), ([], []), ([3, 4, 5], [3, 4, 5]), ([1, 6, 6], [1, 6]), ([7], [7]), ([7], [7]), ([8, 7, 0, 1, 2, 3, 4, 5, 6, 7, 8, 9], [8]), ([9, 10, 0, 1, 2, 3, 4, 5, 6, 7, 8, 9, 10], [9])])
def tk_B9 : List Nat := [0, 1, 0, 4, 0, 0, 60, 127, 255, 255, 1023, 2047]
theorem zm : rtab .any (opsOf Tryz.f92 9) = tk_T9 := by kernel_rfl
theorem ym : cB tk_T9.2 tk_B9 = true := by kernel_rfl
set_option maxHeartbeats 8000000 in
set_option maxRecDepth 100000 in
theorem dP.calls (k : Nat) (a0_0 : Int) (A0_1 : Option Addr) (c0_1 : Nat) (l0_1 : List (S93)) (a1_0 : Int) (a1_1 : Int) (r1 : Int) (r2 : List (S93)) (r3 : Int) (w : World) (hr0_1 : Kd.C k93 w A0_1 l0_1.length l0_1) (hc0_1 : l0_1.length ≤ c0_1) (h : dP.f k a0_0 l0_1 a1_0 a1_1 = some (r1, r2, r3)) :
    Calls Tryz.prog 92 #[.agg #[.int .i64 a0_0, .slice A0_1 l0_1.length c0_1], .agg #[.int .i64 a1_0, .int .i64 a1_1]] w fun e w' => ∃ v1_ : Value, e = .returned (.tuple #[.agg #[.int .i64 r1, v1_], .int .i64 r3]) ∧ Kd.R k93 93 w' w.heap.size (fun _ => True) v1_ r2 ∧ Below w.heap.size w w' := by
  have hu28 := Tryz.underlying28
  have hu93 := Tryz.underlying93
  obtain ⟨b, hb0⟩ : ∃ k, k = w.heap.size := ⟨_, rfl⟩
  obtain ⟨W1, hW1⟩ : ∃ W, W = w.alloc (.cells #[.int .i64 a0_0, .slice A0_1 l0_1.length c0_1] 28) := ⟨_, rfl⟩
  have s1 : W1.heap.size = b + 1 := by rw [hW1, hb0]; simp
  obtain ⟨W2, hW2⟩ : ∃ W, W = W1.alloc (.cells #[.int .i64 a1_0, .int .i64 a1_1] 93) := ⟨_, rfl⟩
  have s2 : W2.heap.size = b + 2 := by rw [hW2]; simp [s1]
  obtain ⟨W, hW⟩ : ∃ W, W = W2.alloc (.cells #[.int .i64 0, .slice none 0 0] 28) := ⟨_, rfl⟩
  have k1 : Below w.heap.size w W1 := by rw [hW1]; exact (Below.refl _ _).alloc (Nat.le_refl _) _
  have k2 : Below W1.heap.size W1 W2 := by rw [hW2]; exact (Below.refl _ _).alloc (Nat.le_refl _) _
  have k3 : Below W2.heap.size W2 W := by rw [hW]; exact (Below.refl _ _).alloc (Nat.le_refl _) _
  have y1 : W1.heap[b]? = some (.cells #[.int .i64 a0_0, .slice A0_1 l0_1.length c0_1] 28 (0, 0)) := by rw [hW1, hb0]; exact bg w _
  have y2 : W2.heap[b + 1]? = some (.cells #[.int .i64 a1_0, .int .i64 a1_1] 93 (0, 0)) := by rw [hW2, ← s1]; exact bg W1 _
  have HX2 := aa.mk (aK (aK y1 k2) k3)
  have HX3 := aa.mk (aK y2 k3)
  obtain ⟨b4, hb4⟩ : ∃ k, k = b + 2 := ⟨_, rfl⟩
  have HX4 := aa.mk (show W.heap[b4]? = some (.cells #[.int .i64 0, .slice none 0 0] 28 (0, 0)) by rw [hW, hb4, ← s2]; exact bg W2 _)
  have hB := (k1.trans (k2.mono k1.size)).trans (k3.mono (k1.trans (k2.mono k1.size)).size)
  have HB := aa.mk hB
  have HR := aa.mk (And.intro (Kd.aN hr0_1 hB) hc0_1)
  have HE4 := aa.mk (show w.heap.size ≤ b4 by omega)
  have H := aa.mk h
  rw [hW1] at hW2
  rw [hW2] at hW
  clear hr0_1 hc0_1 h hB k1 k2 k3 y1 y2 s1 s2
  have q0 := (ae HX2.out 0).trans rfl
  have q1 := (ae HX2.out 1).trans rfl
  have q2 := (ae HX3.out 0).trans rfl
  have q3 := (ae HX3.out 1).trans rfl
  rw [hW, hb0] at q0 q1
  rw [hW, hb0] at q2 q3
  go_enter Tryz.func92, Tryz.ntmps92
  go_wp2_with fail
  rw [← hW, ← hb0, ← hb4]
  clear q0 q1 q2 q3
  clear hW hW1 hW2 hb0 hb4
  have h := H.out
  unfold dP.f at h
  obtain ⟨e0, he0, h⟩ := Option.bind_eq_some_iff.1 h
  refine (aH.calls k a0_0 A0_1 c0_1 l0_1 e0 W HR.out.1 HR.out.2 he0).mono ?_
  rintro e w' ⟨rfl, hb⟩
  have HX2' := aa.mk ((hb.block _ (aA HX2.out)).trans HX2.out)
  have HX3' := aa.mk ((hb.block _ (aA HX3.out)).trans HX3.out)
  have HX4' := aa.mk ((hb.block _ (aA HX4.out)).trans HX4.out)
  have HR' := aa.mk (And.intro (Kd.aN HR.out.1 hb) HR.out.2)
  have HB' := aa.mk (HB.out.trans (hb.mono HB.out.size))
  clear hb HX2 HX3 HX4 HR HB
  have HX2 := HX2'
  have HX3 := HX3'
  have HX4 := HX4'
  have HR := HR'
  have HB := HB'
  clear HX2' HX3' HX4' HR' HB'
  clear he0 H
  generalize w' = W at HX2 HX3 HX4 HR HB ⊢
  by_cases c0 : e0 = 0
  rotate_left
  · rw [if_neg c0] at h
    have bn : (e0 != 0) = true := bne_iff_ne.mpr c0
    obtain ⟨rfl, hq⟩ := Prod.mk.inj (Option.some.inj h)
    obtain ⟨rfl, rfl⟩ := Prod.mk.inj hq
    clear h hq c0
    go_wp2_with (refine gI (.store 28 (.tmp 4) (.tmp 12)) rfl ?_; refine gG ?_)
    refine ⟨?_⟩
    refine bF b4 #[.int .i64 0, .slice none 0 0] HX4.out ?_
    have hx4 := setRow_heap W b4 _ #[.int .i64 0, .slice none 0 0] _ _ HX4.out
    have HB4 := aa.mk (aJ HB.out (g := b4) HE4.out #[.int .i64 0, .slice none 0 0])
    generalize W.setRow b4 #[.int .i64 0, .slice none 0 0] = w4 at hx4 HB4 ⊢
    go_wp2
    (try simp only [Exit.inBlock, Exit.then])
    refine bodyPost_ret (bJ rfl _ _ b4 28 #[.int .i64 0, .slice none 0 0] (0, 0) _ rfl hx4 Tryz.underlying28 rfl (by kernel_rfl)) rfl ?_
    exact ⟨_, rfl, Kd.bW _ _ _ _ _, HB4.out⟩
  subst c0
  rw [if_pos rfl] at h
  obtain ⟨i0, hi0, h⟩ := Option.bind_eq_some_iff.1 h
  have HI := aa.mk hi0
  have H := aa.mk h
  clear hi0 h
  have q0 := (ae HX2.out 0).trans rfl
  have q1 := (ae HX2.out 1).trans rfl
  have q2 := (ae HX3.out 0).trans rfl
  have q3 := (ae HX3.out 1).trans rfl
  go_wp2_with fail
  clear q0 q1 q2 q3
  refine (dB.calls a1_0 a1_1 a0_0 i0 W HI.out).mono ?_
  rintro e w' ⟨rfl, hb⟩
  have HX2' := aa.mk ((hb.block _ (aA HX2.out)).trans HX2.out)
  have HX3' := aa.mk ((hb.block _ (aA HX3.out)).trans HX3.out)
  have HX4' := aa.mk ((hb.block _ (aA HX4.out)).trans HX4.out)
  have HR' := aa.mk (And.intro (Kd.aN HR.out.1 hb) HR.out.2)
  have HB' := aa.mk (HB.out.trans (hb.mono HB.out.size))
  clear hb HX2 HX3 HX4 HR HB
  have HX2 := HX2'
  have HX3 := HX3'
  have HX4 := HX4'
  have HR := HR'
  have HB := HB'
  clear HX2' HX3' HX4' HR' HB'
  generalize w' = W at HX2 HX3 HX4 HR HB ⊢
  have h := H.out
  clear H HI
  cases i0 with
  | false =>
    rw [if_neg (by decide)] at h
    obtain ⟨rfl, hq⟩ := Prod.mk.inj (Option.some.inj h)
    obtain ⟨rfl, rfl⟩ := Prod.mk.inj hq
    clear h hq
    go_wp2_with (refine gI (.store 28 (.tmp 4) (.tmp 19)) rfl ?_; refine gG ?_)
    refine ⟨?_⟩
    refine bF b4 #[.int .i64 0, .slice none 0 0] HX4.out ?_
    have hx4 := setRow_heap W b4 _ #[.int .i64 0, .slice none 0 0] _ _ HX4.out
    have HB4 := aa.mk (aJ HB.out (g := b4) HE4.out #[.int .i64 0, .slice none 0 0])
    generalize W.setRow b4 #[.int .i64 0, .slice none 0 0] = w4 at hx4 HB4 ⊢
    go_wp2
    (try simp only [Exit.inBlock, Exit.then])
    refine bodyPost_ret (bJ rfl _ _ b4 28 #[.int .i64 0, .slice none 0 0] (0, 0) _ rfl hx4 Tryz.underlying28 rfl (by kernel_rfl)) rfl ?_
    exact ⟨_, rfl, Kd.bW _ _ _ _ _, HB4.out⟩
  | true =>
  rw [if_pos rfl] at h
  obtain ⟨i, hi, h⟩ := Option.bind_eq_some_iff.1 h
  have HI := aa.mk hi
  have H := aa.mk h
  clear hi h
  have q0 := (ae HX2.out 0).trans rfl
  have q1 := (ae HX2.out 1).trans rfl
  have q2 := (ae HX3.out 0).trans rfl
  have q3 := (ae HX3.out 1).trans rfl
  go_wp2_with fail
  clear q0 q1 q2 q3
  refine (free_at.calls A0_1 c0_1 l0_1 a1_0 i W HR.out.1 HR.out.2 HI.out).mono ?_
  rintro e w' ⟨rfl, hb⟩
  have HX2' := aa.mk ((hb.block _ (aA HX2.out)).trans HX2.out)
  have HX3' := aa.mk ((hb.block _ (aA HX3.out)).trans HX3.out)
  have HX4' := aa.mk ((hb.block _ (aA HX4.out)).trans HX4.out)
  have HR' := aa.mk (And.intro (Kd.aN HR.out.1 hb) HR.out.2)
  have HB' := aa.mk (HB.out.trans (hb.mono HB.out.size))
  clear hb HX2 HX3 HX4 HR HB
  have HX2 := HX2'
  have HX3 := HX3'
  have HX4 := HX4'
  have HR := HR'
  have HB := HB'
  clear HX2' HX3' HX4' HR' HB'
  generalize w' = W at HX2 HX3 HX4 HR HB ⊢
  have h := H.out
  clear H HI
  obtain ⟨bz, hbz, h2⟩ : ∃ bz : Bool, dP.j0 k i bz a0_0 l0_1 a1_0 a1_1 = some (r1, r2, r3) ∧ ((bz = true ∧ i = (l0_1.length : Int)) ∨ (i ≠ (l0_1.length : Int) ∧ 0 ≤ i ∧ i < (l0_1.length : Int) ∧ ((bz = true ∧ (aU l0_1 i).f0 > a1_0) ∨ (¬ (aU l0_1 i).f0 > a1_0 ∧ bz = decide (wrap64 ((aU l0_1 i).f0 + (aU l0_1 i).f1) < wrap64 (a1_0 + a1_1)))))) := by
    split at h
    · rename_i c; exact ⟨true, h, .inl ⟨rfl, c⟩⟩
    · rename_i c
      split at h
      · rename_i c1
        split at h
        · rename_i c2
          split at h
          · rename_i c3; exact ⟨true, h, .inr ⟨c, c1, c2, .inl ⟨rfl, c3⟩⟩⟩
          · rename_i c3; exact ⟨_, h, .inr ⟨c, c1, c2, .inr ⟨c3, rfl⟩⟩⟩
        · cases h
      · cases h
  clear h
  cases k with
  | zero => cases hbz
  | succ k =>
  rw [dP.j0] at hbz
  have H := aa.mk hbz
  clear hbz
  have q0 := (ae HX2.out 0).trans rfl
  have q1 := (ae HX2.out 1).trans rfl
  have q2 := (ae HX3.out 0).trans rfl
  have q3 := (ae HX3.out 1).trans rfl
  rcases h2 with ⟨rfl, hl⟩ | ⟨hne, h0, hl, hh⟩
  · have c1 : (i == (l0_1.length : Int)) = true := beq_iff_eq.mpr hl
    have c2 : ((l0_1.length : Int) == (l0_1.length : Int)) = true := beq_self_eq_true _
    have h := H.out
    rw [if_pos rfl] at h
    obtain ⟨rfl, hq⟩ := Prod.mk.inj (Option.some.inj h)
    obtain ⟨rfl, rfl⟩ := Prod.mk.inj hq
    subst hl
    clear h hq H
    go_wp2_with fail
    go_quiet (fail)
    clear q0 q1 q2 q3
    have hb := af (Below.refl W.heap.size W) nq
    have HX2' := aa.mk ((hb.block _ (aA HX2.out)).trans HX2.out)
    have HX3' := aa.mk ((hb.block _ (aA HX3.out)).trans HX3.out)
    have HX4' := aa.mk ((hb.block _ (aA HX4.out)).trans HX4.out)
    have HR' := aa.mk (And.intro (Kd.aN HR.out.1 hb) HR.out.2)
    have HB' := aa.mk (HB.out.trans (hb.mono HB.out.size))
    clear hb HX2 HX3 HX4 HR HB
    have HX2 := HX2'
    have HX3 := HX3'
    have HX4 := HX4'
    have HR := HR'
    have HB := HB'
    clear HX2' HX3' HX4' HR' HB'
    generalize W.drewN nq = W at HX2 HX3 HX4 HR HB ⊢
    go_wp2_with (refine gI (.store 28 (.tmp 4) (.tmp 62)) rfl ?_; refine gG ?_)
    refine ⟨?_⟩
    refine bF b4 #[.int .i64 0, .slice none 0 0] HX4.out ?_
    have hx4 := setRow_heap W b4 _ #[.int .i64 0, .slice none 0 0] _ _ HX4.out
    have HB4 := aa.mk (aJ HB.out (g := b4) HE4.out #[.int .i64 0, .slice none 0 0])
    generalize W.setRow b4 #[.int .i64 0, .slice none 0 0] = w4 at hx4 HB4 ⊢
    go_wp2
    (try simp only [Exit.inBlock, Exit.then])
    refine bodyPost_ret (bJ rfl _ _ b4 28 #[.int .i64 0, .slice none 0 0] (0, 0) _ rfl hx4 Tryz.underlying28 rfl (by kernel_rfl)) rfl ?_
    exact ⟨_, rfl, Kd.bW _ _ _ _ _, HB4.out⟩
  have b1 : (i == (l0_1.length : Int)) = false := beq_eq_false_iff_ne.mpr hne
  obtain ⟨ad, rfl, g0, g1⟩ := fQ HR.out.1 i h0 hl
  rcases hh with ⟨rfl, hgt⟩ | ⟨hgt, rfl⟩
  · have d1 : decide (a1_0 < (aU l0_1 i).f0) = true := decide_eq_true hgt
    have h := H.out
    rw [if_pos rfl] at h
    obtain ⟨rfl, hq⟩ := Prod.mk.inj (Option.some.inj h)
    obtain ⟨rfl, rfl⟩ := Prod.mk.inj hq
    clear h hq H
    go_wp2_with fail
    go_quiet (fail)
    clear q0 q1 q2 q3 g0 g1
    have hb := af (Below.refl W.heap.size W) nq
    have HX2' := aa.mk ((hb.block _ (aA HX2.out)).trans HX2.out)
    have HX3' := aa.mk ((hb.block _ (aA HX3.out)).trans HX3.out)
    have HX4' := aa.mk ((hb.block _ (aA HX4.out)).trans HX4.out)
    have HR' := aa.mk (And.intro (Kd.aN HR.out.1 hb) HR.out.2)
    have HB' := aa.mk (HB.out.trans (hb.mono HB.out.size))
    clear hb HX2 HX3 HX4 HR HB
    have HX2 := HX2'
    have HX3 := HX3'
    have HX4 := HX4'
    have HR := HR'
    have HB := HB'
    clear HX2' HX3' HX4' HR' HB'
    generalize W.drewN nq = W at HX2 HX3 HX4 HR HB ⊢
    go_wp2_with (refine gI (.store 28 (.tmp 4) (.tmp 62)) rfl ?_; refine gG ?_)
    refine ⟨?_⟩
    refine bF b4 #[.int .i64 0, .slice none 0 0] HX4.out ?_
    have hx4 := setRow_heap W b4 _ #[.int .i64 0, .slice none 0 0] _ _ HX4.out
    have HB4 := aa.mk (aJ HB.out (g := b4) HE4.out #[.int .i64 0, .slice none 0 0])
    generalize W.setRow b4 #[.int .i64 0, .slice none 0 0] = w4 at hx4 HB4 ⊢
    go_wp2
    (try simp only [Exit.inBlock, Exit.then])
    refine bodyPost_ret (bJ rfl _ _ b4 28 #[.int .i64 0, .slice none 0 0] (0, 0) _ rfl hx4 Tryz.underlying28 rfl (by kernel_rfl)) rfl ?_
    exact ⟨_, rfl, Kd.bW _ _ _ _ _, HB4.out⟩
  have d1 : decide (a1_0 < (aU l0_1 i).f0) = false := decide_eq_false hgt
  obtain ⟨z1, hz1⟩ : ∃ z, z = wrap64 ((aU l0_1 i).f0 + (aU l0_1 i).f1) := ⟨_, rfl⟩
  obtain ⟨z2, hz2⟩ : ∃ z, z = wrap64 (a1_0 + a1_1) := ⟨_, rfl⟩
  rw [← hz1, ← hz2] at H
  cases hd : decide (z1 < z2) with
  | true =>
    rw [hd] at H
    have h := H.out
    rw [if_pos rfl] at h
    obtain ⟨rfl, hq⟩ := Prod.mk.inj (Option.some.inj h)
    obtain ⟨rfl, rfl⟩ := Prod.mk.inj hq
    rw [hz1, hz2] at hd
    clear h hq H hz1 hz2
    go_wp2_with fail
    go_quiet (fail)
    clear q0 q1 q2 q3 g0 g1
    have hb := af (Below.refl W.heap.size W) nq
    have HX2' := aa.mk ((hb.block _ (aA HX2.out)).trans HX2.out)
    have HX3' := aa.mk ((hb.block _ (aA HX3.out)).trans HX3.out)
    have HX4' := aa.mk ((hb.block _ (aA HX4.out)).trans HX4.out)
    have HR' := aa.mk (And.intro (Kd.aN HR.out.1 hb) HR.out.2)
    have HB' := aa.mk (HB.out.trans (hb.mono HB.out.size))
    clear hb HX2 HX3 HX4 HR HB
    have HX2 := HX2'
    have HX3 := HX3'
    have HX4 := HX4'
    have HR := HR'
    have HB := HB'
    clear HX2' HX3' HX4' HR' HB'
    generalize W.drewN nq = W at HX2 HX3 HX4 HR HB ⊢
    go_wp2_with (refine gI (.store 28 (.tmp 4) (.tmp 62)) rfl ?_; refine gG ?_)
    refine ⟨?_⟩
    refine bF b4 #[.int .i64 0, .slice none 0 0] HX4.out ?_
    have hx4 := setRow_heap W b4 _ #[.int .i64 0, .slice none 0 0] _ _ HX4.out
    have HB4 := aa.mk (aJ HB.out (g := b4) HE4.out #[.int .i64 0, .slice none 0 0])
    generalize W.setRow b4 #[.int .i64 0, .slice none 0 0] = w4 at hx4 HB4 ⊢
    go_wp2
    (try simp only [Exit.inBlock, Exit.then])
    refine bodyPost_ret (bJ rfl _ _ b4 28 #[.int .i64 0, .slice none 0 0] (0, 0) _ rfl hx4 Tryz.underlying28 rfl (by kernel_rfl)) rfl ?_
    exact ⟨_, rfl, Kd.bW _ _ _ _ _, HB4.out⟩
  | false =>
  rw [hd] at H
  rw [hz1, hz2] at hd
  have h := H.out
  rw [if_neg (by decide)] at h
  obtain ⟨out, ho, h⟩ := Option.bind_eq_some_iff.1 h
  obtain ⟨⟨f1, f2, f3⟩, hf, h⟩ := Option.bind_eq_some_iff.1 h
  obtain ⟨rfl, hq⟩ := Prod.mk.inj (Option.some.inj h)
  obtain ⟨rfl, rfl⟩ := Prod.mk.inj hq
  have HOU := aa.mk ho
  have HFU := aa.mk hf
  clear h hq H hz1 hz2 ho hf
  go_wp2_with fail
  go_quiet (fail)
  clear q0 q1 q2 q3 g0 g1 b1 d1 hd
  have hb := af (Below.refl W.heap.size W) nq
  have HX2' := aa.mk ((hb.block _ (aA HX2.out)).trans HX2.out)
  have HX3' := aa.mk ((hb.block _ (aA HX3.out)).trans HX3.out)
  have HX4' := aa.mk ((hb.block _ (aA HX4.out)).trans HX4.out)
  have HR' := aa.mk (And.intro (Kd.aN HR.out.1 hb) HR.out.2)
  have HB' := aa.mk (HB.out.trans (hb.mono HB.out.size))
  clear hb HX2 HX3 HX4 HR HB
  have HX2 := HX2'
  have HX3 := HX3'
  have HX4 := HX4'
  have HR := HR'
  have HB := HB'
  clear HX2' HX3' HX4' HR' HB'
  generalize W.drewN nq = W at HX2 HX3 HX4 HR HB ⊢
  go_wp2_with fail
  refine dG (n := 12) (S := fun w' => w'.cell? ⟨b, 0, none⟩ = some (.int .i64 a0_0) ∧ w'.cell? ⟨b, 1, none⟩ = some (.slice (some ad) l0_1.length c0_1) ∧ w'.cell? ⟨b + 1, 0, none⟩ = some (.int .i64 a1_0) ∧ w'.cell? ⟨b + 1, 1, none⟩ = some (.int .i64 a1_1)) (ds := [10]) (lb 12 0) (by kernel_rfl) rfl (by kernel_rfl) ⟨(ae HX2.out 0).trans rfl, (ae HX2.out 1).trans rfl, (ae HX3.out 0).trans rfl, (ae HX3.out 1).trans rfl⟩ (fun hHeld => ?_)
  refine bG zm ym (fun HT_ HW_ => ?_)
  have hb := aQ (Below.refl W.heap.size W)
  have HX2' := aa.mk ((hb.block _ (aA HX2.out)).trans HX2.out)
  have HX3' := aa.mk ((hb.block _ (aA HX3.out)).trans HX3.out)
  have HX4' := aa.mk ((hb.block _ (aA HX4.out)).trans HX4.out)
  have HR' := aa.mk (And.intro (Kd.aN HR.out.1 hb) HR.out.2)
  have HB' := aa.mk (HB.out.trans (hb.mono HB.out.size))
  clear hb HX2 HX3 HX4 HR HB
  have HX2 := HX2'
  have HX3 := HX3'
  have HX4 := HX4'
  have HR := HR'
  have HB := HB'
  clear HX2' HX3' HX4' HR' HB'
  generalize W.drew = W at hHeld HX2 HX3 HX4 HR HB ⊢
  refine pu_ 0 63 12 1 ?_
  refine tk_ 1 64 12 3 ?_
  refine pu_ 2 65 12 7 ?_
  refine tk_ 3 66 12 15 ?_
  refine pu_ 4 67 12 31 ?_
  refine tk_ 5 68 12 63 ?_
  refine on_ 6 69 12 127 (fun K hK => ?_)
  refine dO Tryz.func136 (by kernel_rfl) rfl #[.slice (some ad) l0_1.length c0_1, .int .i64 i, .agg #[.int .i64 a1_0, .int .i64 a1_1]] (by rfl) rfl rfl (by (try simp only [List.map_toArray, List.map_cons, List.map_nil]); first | done | rfl) ?_
  refine (jS.calls (some ad) c0_1 l0_1 i a1_0 a1_1 out W HR.out.1 HR.out.2 HOU.out).mono ?_
  rintro e w' ⟨v, rfl, hR, hb⟩
  refine ⟨_, rfl, ?_⟩
  refine hK.out _ _ ⟨aM hb hHeld.1, aM hb hHeld.2.1, aM hb hHeld.2.2.1, aM hb hHeld.2.2.2⟩ (fun hHeld => ?_)
  have HRO := aa.mk (And.intro hR hb)
  have HX4b := HX4
  have HX4' := aa.mk ((hb.block _ (aA HX4.out)).trans HX4.out)
  clear hK K hR hb
  refine nm_ 69 ?_
  refine on_ 7 70 12 255 (fun K hK => ?_)
  refine dO Tryz.func133 (by kernel_rfl) rfl #[.int .i64 a0_0, v] (by rfl) rfl rfl (by (try simp only [List.map_toArray, List.map_cons, List.map_nil]); first | done | rfl) ?_
  refine (ic.calls a0_0 (fun k => W.heap.size ≤ k) v out f1 f2 f3 W w' HRO.out.2 (Kd.aX (Kd.bO HRO.out.1) fun k hk => hk.2.1) HFU.out).mono ?_
  rintro e w9 ⟨v1, rfl, hR, hb, hkp⟩
  refine ⟨_, rfl, ?_⟩
  have hc : ∀ {p : Addr} {u : Value}, p.block < W.heap.size → w'.cell? p = some u → w9.cell? p = some u := fun hp hu => (hb.cell hp).trans ((HRO.out.2.cell hp).symm.trans hu)
  have l1 := aA HX2.out
  have l2 := aA HX3.out
  refine hK.out _ _ ⟨hc l1 hHeld.1, hc l1 hHeld.2.1, hc l2 hHeld.2.2.1, hc l2 hHeld.2.2.2⟩ (fun hHeld => ?_)
  have hl4 : b4 < W.heap.size := aA HX4b.out
  have HX5 := aa.mk ((hb.block b4 hl4).trans ((HRO.out.2.block b4 hl4).symm.trans HX4'.out))
  have HN := aa.mk (Kd.bH hR HB.out.size)
  have HB5 := aa.mk (HB.out.trans (hb.mono HB.out.size))
  obtain ⟨N, m, rfl⟩ := Kd.aZ HN.out
  clear hK K hR hb hkp hc l1 l2 hl4 HX4' HRO hHeld HB
  refine nm_ 70 ?_
  refine pu_ 8 71 12 511 ?_
  refine pu_ 9 72 12 1023 ?_
  refine fE HT_.out 10 b4 2047 #[.int .i64 f1, .slice N f2.length m] HX5.out ?_
  have hx4 := setRow_heap w9 b4 _ #[.int .i64 f1, .slice N f2.length m] _ _ HX5.out
  have HB4 := aa.mk (aJ HB5.out (g := b4) HE4.out #[.int .i64 f1, .slice N f2.length m])
  have HN4 := aa.mk (Kd.bR (bS HN.out HX5.out (by decide)) (w1 := w9.setRow b4 #[.int .i64 f1, .slice N f2.length m]) (fun k hk _ => setRow_other _ b4 k _ hk.2))
  clear HN HX5 HB5
  generalize w9.setRow b4 #[.int .i64 f1, .slice N f2.length m] = w4 at hx4 HB4 HN4 ⊢
  refine pu_ 11 5 12 4095 ?_
  refine l7 HT_.out ?_
  clear HT_ HW_
  go_wp2
  (try simp only [Exit.inBlock, Exit.then])
  refine bodyPost_ret (bJ rfl _ _ b4 28 #[.int .i64 f1, .slice N f2.length m] (0, 0) _ rfl hx4 Tryz.underlying28 rfl (by kernel_rfl)) rfl ?_
  exact ⟨_, rfl, Kd.aX HN4.out (fun _ _ => trivial), HB4.out⟩
theorem rD (d : Nat) (size : Int) (l : List S93) : aH.f (1030 + d) size l = some (Flag.iD size (l.map toP)) := by
  unfold aH.f Flag.iD
  have hk : 1030 + d = (1029 + d) + 1 := by omega
  rw [hk]
  by_cases h0 : size < 0
  · rw [if_pos h0, if_neg (by omega)]; unfold aH.j0; rfl
  · by_cases h1 : size > 65536
    · rw [if_neg h0, if_pos h1, if_neg (by omega)]; unfold aH.j0; rfl
    · rw [if_neg h0, if_neg h1]
      by_cases h2 : (l.length : Int) > 1024
      · rw [decide_eq_true h2, if_neg (by rw [List.length_map]; omega)]; unfold aH.j0; rfl
      · rw [decide_eq_false h2]
        have hj : aH.j0 (1029 + d + 1) false size l = aH.l0 (1029 + d) (-1) l (l.length : Int) 0 size l := by unfold aH.j0; exact if_neg Bool.false_ne_true
        rw [hj]
        have h := qN size (by omega) (by omega) l (by omega) l l.length 0 (-1) (by omega)
        have h' : ∀ m, aH.l0 (l.length + 1 + m) (-1) l (l.length : Int) 0 size l = some (if Flag.jw size (-1) ((l.drop 0).map toP) = true then 0 else 9) := by
          intro m
          induction m with
          | zero => exact h
          | succ m ih => exact (aH.tK (l.length + 1 + m)).2 (-1) l (l.length : Int) 0 size l _ ih
        have e9 : 1029 + d = l.length + 1 + (1028 + d - l.length) := by omega
        rw [e9, h', List.drop_zero]
        congr 1
        have e : ((0 ≤ size ∧ size ≤ 65536) ∧ (l.map toP).length ≤ 1024 ∧ Flag.jw size (-1) (l.map toP) = true) ↔ Flag.jw size (-1) (l.map toP) = true := ⟨fun h => h.2.2, fun h => ⟨by omega, by rw [List.length_map]; omega, h⟩⟩
        by_cases hr : Flag.jw size (-1) (l.map toP) = true
        · rw [if_pos hr, if_pos (e.2 hr)]
        · rw [if_neg hr, if_neg (fun h => hr (e.1 h))]
theorem insB_f {size : Int} (x0 x1 : Int) (h0 : 0 ≤ size) (h1 : size ≤ 65536) : dB.f x0 x1 size = some (Flag.insB size ⟨x0, x1⟩) := wy ⟨x0, x1⟩ size h0 h1
theorem Aa {a b : List S93} (h : a.map toP = b.map toP) : a = b := by
  induction a generalizing b with
  | nil => cases b with
    | nil => rfl
    | cons y t => cases h
  | cons x t ih =>
    cases b with
    | nil => cases h
    | cons y u =>
      rw [List.map_cons, List.map_cons] at h
      injection h with h1 h2
      rw [ih h2]
      have e0 : x.f0 = y.f0 := congrArg Flag.Sp.a h1
      have e1 : x.f1 = y.f1 := congrArg Flag.Sp.n h1
      cases x; cases y
      simp only at e0 e1
      rw [e0, e1]
def gapG (s : List S93 × Int) (x : S93) : List S93 × Int := (if s.2 < x.f0 then s.1 ++ [⟨s.2, wrap64 (x.f0 - s.2)⟩] else s.1, mx s.2 (wrap64 (x.f0 + x.f1)))
def gapL (ys : List S93) (size : Int) : List S93 := ((ys ++ [(⟨size, 0⟩ : S93)]).foldl gapG ([], 0)).1
def insG (size : Int) (x : S93) : Bool := Flag.insB size (toP x)
def bN (size : Int) (l : List S93) : Int × List S93 × Int := if size < 0 ∨ size > 65536 then (0, [], 4) else if (l.length : Int) > 1024 then (0, [], 3) else if l.all (insG size) = true then (if ((gapL (jy l) size).length : Int) > 1024 then (0, [], 51) else (size, gapL (jy l) size, 0)) else (0, [], 4)
theorem zk (ys : List S93) : ∀ s : List S93 × Int, 0 ≤ s.2 → s.2 ≤ 65536 → (∀ x ∈ ys, 0 ≤ x.f0 ∧ 0 ≤ x.f1 ∧ x.f0 + x.f1 ≤ 65536) → ((ys.foldl gapG s).1.map toP, (ys.foldl gapG s).2) = (ys.map toP).foldl Flag.iQ (s.1.map toP, s.2) := by
  induction ys with
  | nil => intro s _ _ _; rfl
  | cons x t ih =>
    intro s h0 h1 h
    obtain ⟨q1, q2, q3⟩ := h x List.mem_cons_self
    have e2 : (gapG s x).2 = max s.2 (x.f0 + x.f1) := by
      show mx s.2 (wrap64 (x.f0 + x.f1)) = _
      rw [w64 (by omega), yH]
    have e1 : (gapG s x).1.map toP = (Flag.iQ (s.1.map toP, s.2) (toP x)).1 := by
      unfold gapG Flag.iQ
      show _ = if s.2 < x.f0 then s.1.map toP ++ [⟨s.2, x.f0 - s.2⟩] else s.1.map toP
      simp only []
      split
      · rw [w64 (by omega), List.map_append]; rfl
      · rfl
    rw [List.foldl_cons, List.map_cons, List.foldl_cons, ih (gapG s x) (by rw [e2]; omega) (by rw [e2]; omega) (fun y hy => h y (List.mem_cons_of_mem _ hy)), e1, e2]
    rfl
theorem nG {ys : List S93} {size : Int} (h0 : 0 ≤ size) (h1 : size ≤ 65536) (h : ∀ x ∈ ys, Flag.Ins size (toP x)) : (gapL ys size).map toP = Flag.gapS (ys.map toP) size := by
  have e := zk (ys ++ [(⟨size, 0⟩ : S93)]) ([], 0) (Int.le_refl _) (by decide) (fun x hx => by
    rcases List.mem_append.1 hx with hx | hx
    · have hi := h x hx
      have q1 : 0 < x.f1 := hi.n
      have q2 : 0 ≤ x.f0 := hi.a
      have q3 : x.f0 + x.f1 ≤ size := hi.e
      omega
    · have : x = ⟨size, 0⟩ := by simpa using hx
      subst this
      dsimp only; omega)
  rw [List.map_append] at e
  exact congrArg Prod.fst e
theorem wh {l m : List Flag.Sp} {size : Int} (h0 : 0 ≤ size) (hl : Flag.iF l) (hm : Flag.iF m) (hp : ∀ x ∈ m, Flag.Ins size x) (he : ∀ x, x ∈ l ↔ x ∈ m) : Flag.gapS l size = Flag.gapS m size := by
  obtain ⟨a1, a2⟩ := Flag.l8 (size := size) h0 hl fun x hx => by have h := hp x ((he x).1 hx); exact ⟨h.n, h.a, h.e⟩
  obtain ⟨b1, b2⟩ := Flag.l8 (size := size) h0 hm fun x hx => by have h := hp x hx; exact ⟨h.n, h.a, h.e⟩
  refine Flag.NFs.ext a1 b1 fun i => ?_
  rw [a2, b2]
  have : Flag.memS l i ↔ Flag.memS m i := by
    rw [Flag.eH, Flag.eH]
    exact ⟨fun ⟨x, hx, h⟩ => ⟨x, (he x).1 hx, h⟩, fun ⟨x, hx, h⟩ => ⟨x, (he x).2 hx, h⟩⟩
  rw [this]
theorem qQ {l m : List S93} (hp : l.Perm m) (x : Flag.Sp) : x ∈ l.map toP ↔ x ∈ m.map toP := (hp.map toP).mem_iff
theorem zC {l ys : List S93} {size : Int} (h0 : 0 ≤ size) (h1 : size ≤ 65536) (h : ∀ x ∈ l, Flag.Ins size (toP x)) (hp : ys.Perm l) (hs : ys.Pairwise fun a b => a.f0 ≤ b.f0) : gapL ys size = gapL (jy l) size := by
  apply Aa
  rw [nG h0 h1 fun x hx => h x (hp.mem_iff.1 hx), nG h0 h1 fun x hx => h x ((eZ l).mem_iff.1 hx)]
  exact wh h0 (gT hs) (gT (iB l)) (fun x hx => by
    obtain ⟨y, hy, rfl⟩ := List.mem_map.1 hx
    exact h y ((eZ l).mem_iff.1 hy)) (fun x => (qQ (hp.trans (eZ l).symm) x))
theorem yc {size : Int} {l : List S93} : l.all (insG size) = (l.map toP).all (Flag.insB size) := by
  rw [List.all_map]; rfl
theorem tT (size : Int) (l : List S93) : ((bN size l).1, (bN size l).2.1.map toP, (bN size l).2.2) = Flag.wRef size (l.map toP) := by
  rw [← Flag.xL (l := (jy l).map toP) (gT (iB l)) (fun x => qQ (eZ l) x)]
  unfold bN Flag.wFor
  rw [List.length_map, yc]
  split
  · rfl
  · rename_i h0
    split
    · rfl
    · split
      · rename_i ha
        have hin : ∀ x ∈ l, Flag.Ins size (toP x) := fun x hx => Flag.kY.1 (List.all_eq_true.1 ha _ (List.mem_map_of_mem hx))
        have hg := nG (ys := jy l) (size := size) (by omega) (by omega) fun x hx => hin x ((eZ l).mem_iff.1 hx)
        unfold Flag.uG
        rw [← hg, List.length_map]
        split
        · rfl
        · rfl
      · rfl
structure St where
  size : Int
  now : List S151
  snaps : List S69
  next : Int
  fsize : Int
  sp : List S93
  data : List (List Int)
structure At4 where
  A1 : Option Addr
  c1 : Nat
  A2 : Option Addr
  c2 : Nat
  A5 : Option Addr
  c5 : Nat
  A6 : Option Addr
  c6 : Nat
abbrev kLB : Kd (List Int) := Kd.slice 5 (Kd.int .u8)
def aI (s : St) (a : At4) : Array Value := #[.int .i64 s.size, .slice a.A1 s.now.length a.c1, .slice a.A2 s.snaps.length a.c2, .int .i64 s.next, .int .i64 s.fsize, .slice a.A5 s.sp.length a.c5, .slice a.A6 s.data.length a.c6]
structure Reads (w : World) (s : St) (a : At4) : Prop where
  h1 : Kd.C k151 w a.A1 s.now.length s.now
  l1 : s.now.length ≤ a.c1
  h2 : Kd.C k69 w a.A2 s.snaps.length s.snaps
  l2 : s.snaps.length ≤ a.c2
  h5 : Kd.C k93 w a.A5 s.sp.length s.sp
  l5 : s.sp.length ≤ a.c5
  h6 : Kd.C kLB w a.A6 s.data.length s.data
  l6 : s.data.length ≤ a.c6
theorem Reads.below {w w1 : World} {s : St} {a : At4} (h : Reads w s a) (hb : Below w.heap.size w w1) : Reads w1 s a :=
  ⟨Kd.aN h.h1 hb, h.l1, Kd.aN h.h2 hb, h.l2, Kd.aN h.h5 hb, h.l5, Kd.aN h.h6 hb, h.l6⟩
theorem ky {w w' : World} {B : Nat} (h : bI w w') : Below B w w' := by
  obtain ⟨n, rfl⟩ := h
  exact af (Below.refl _ _) n
def fF (s : St) : List S173 := s.snaps.map fun x => ⟨x.f0, x.f1⟩
def gP (s : St) : List S75 := ⟨0, s.now⟩ :: s.snaps.map fun x => ⟨x.f0, x.f3⟩
theorem rd_sn (pre : List S69) (x : S69) (t : List S69) {i : Int} (h : i = pre.length) : a_ (pre ++ x :: t) i = x := by
  unfold a_
  rw [h, Int.toNat_natCast, List.getD_eq_getElem?_getD, List.getElem?_append_right (Nat.le_refl _), Nat.sub_self]; rfl
theorem sj (q : List S69) (hq : q.length < 4398046511103) (t : List S69) : ∀ (pre : List S69) (k : Nat), q = pre ++ t → t.length < k →
    bC.l0 k (pre.map fun x => ⟨x.f0, x.f1⟩) q (q.length : Int) (pre.length : Int) = some (q.map fun x => ⟨x.f0, x.f1⟩) := by
  induction t with
  | nil =>
    intro pre k h hk
    obtain ⟨k, rfl⟩ : ∃ k', k = k' + 1 := ⟨k - 1, by simp at hk; omega⟩
    rw [bC.l0, if_neg (by rw [h]; simp), h, List.append_nil]
  | cons x t ih =>
    intro pre k h hk
    obtain ⟨k, rfl⟩ : ∃ k', k = k' + 1 := ⟨k - 1, by simp at hk; omega⟩
    have hlen : q.length = pre.length + t.length + 1 := by rw [h]; simp; omega
    have hr : a_ q (pre.length : Int) = x := by rw [h]; exact rd_sn pre x t rfl
    have e1 : wrap64 ((pre.length : Int) + 1) = ((pre ++ [x]).length : Int) := by rw [w64 (by omega)]; simp
    have hnext := ih (pre ++ [x]) k (by rw [h]; simp) (by simp at hk; omega)
    rw [bC.l0, if_pos (by omega), if_pos (by omega), if_pos (by omega), if_pos (by rw [List.length_map]; omega), hr, e1]
    rw [List.map_append] at hnext
    exact hnext
theorem vS (o : S75) (q : List S69) (hq : q.length < 4398046511103) (t : List S69) : ∀ (pre : List S69) (k : Nat), q = pre ++ t → t.length < k →
    bD.l0 k (o :: pre.map fun x => ⟨x.f0, x.f3⟩) q (q.length : Int) (pre.length : Int) = some (o :: q.map fun x => ⟨x.f0, x.f3⟩) := by
  induction t with
  | nil =>
    intro pre k h hk
    obtain ⟨k, rfl⟩ : ∃ k', k = k' + 1 := ⟨k - 1, by simp at hk; omega⟩
    rw [bD.l0, if_neg (by rw [h]; simp), h, List.append_nil]
  | cons x t ih =>
    intro pre k h hk
    obtain ⟨k, rfl⟩ : ∃ k', k = k' + 1 := ⟨k - 1, by simp at hk; omega⟩
    have hlen : q.length = pre.length + t.length + 1 := by rw [h]; simp; omega
    have hr : a_ q (pre.length : Int) = x := by rw [h]; exact rd_sn pre x t rfl
    have e1 : wrap64 ((pre.length : Int) + 1) = ((pre ++ [x]).length : Int) := by rw [w64 (by omega)]; simp
    have hnext := ih (pre ++ [x]) k (by rw [h]; simp) (by simp at hk; omega)
    rw [bD.l0, if_pos (by omega), if_pos (by omega), if_pos (by omega), if_pos (by rw [List.length_cons, List.length_map]; omega), hr, e1]
    rw [List.map_append] at hnext
    exact hnext
theorem uD {w : World} {s : St} {a : At4} (h : Reads w s a) (hq : s.snaps.length < 4398046511103) :
    Calls Tryz.prog 67 #[.agg (aI s a)] w fun e w' => ∃ A c, e = .returned (.slice A (fF s).length c) ∧ (fF s).length ≤ c ∧ Kd.C k173 w' A (fF s).length (fF s) ∧ Below w.heap.size w w' := by
  have hf : bC.f (s.snaps.length + 1) s.size s.now s.snaps s.next s.fsize s.sp s.data = some (fF s) := sj s.snaps hq s.snaps [] _ rfl (by omega)
  refine (bC.calls _ _ _ _ _ _ _ _ _ _ _ _ _ _ _ _ _ w h.h1 h.l1 h.h2 h.l2 h.h5 h.l5 h.h6 h.l6 hf).mono ?_
  rintro e w' ⟨v, rfl, hR, hb⟩
  obtain ⟨A, c, rfl⟩ := Kd.aZ hR
  exact ⟨A, c, rfl, (Kd.bu hR).2.1, (Kd.bu hR).2.2, hb⟩
theorem heapE : Kd.Heap k151 := Kd.ry _ (Kd.jf (Kd.kr _) (Kd.jf (Kd.kr _) (Kd.kr _)))
theorem heapSn : Kd.Heap k69 := Kd.ry _ (Kd.jf (Kd.kr _) (Kd.jf Kd.ql (Kd.jf (Kd.kr _) (Kd.tq _ heapE))))
theorem vB {w : World} {s : St} {a : At4} (h : Reads w s a) (hq : s.snaps.length < 4398046511103) :
    Calls Tryz.prog 72 #[.agg (aI s a)] w fun e w' => ∃ A c, e = .returned (.slice A (gP s).length c) ∧ (gP s).length ≤ c ∧ Kd.C k75 w' A (gP s).length (gP s) ∧ Below w.heap.size w w' := by
  have hf : bD.f (s.snaps.length + 1) s.size s.now s.snaps s.next s.fsize s.sp s.data = some (gP s) := vS ⟨0, s.now⟩ s.snaps hq s.snaps [] _ rfl (by omega)
  refine (bD.calls _ _ (fun k => k < w.heap.size) _ _ _ (fun k => k < w.heap.size) _ _ _ _ _ _ _ _ _ _ _ _ w (Kd.V_mk h.l1 (Kd.C_F heapE h.h1)) (Kd.V_mk h.l2 (Kd.C_F heapSn h.h2)) h.h5 h.l5 h.h6 h.l6 hf).mono ?_
  rintro e w' ⟨v, rfl, hN, hb⟩
  obtain ⟨A, c, hv⟩ := Kd.zJ hN
  subst hv
  exact ⟨A, c, rfl, (Kd.rJ hN).2.1, (Kd.rJ hN).2.2, hb⟩
def ib (l : List S151) (size : Int) : Bool := (dL.f l size).getD false
theorem jI {l : List S151} (hl : l.length ≤ 9223372036854775807) (size : Int) : dL.f l size = some (ib l size) := by
  have h : ∃ b, dL.f l size = some b := by
    unfold dL.f
    split
    · split
      · split
        · exact ⟨_, rfl⟩
        · rename_i hz
          rw [w64 (n := (l.length : Int) - 1) (by omega), if_pos (by omega), if_pos (by omega)]
          exact ⟨_, rfl⟩
      · exact ⟨_, rfl⟩
    · exact ⟨_, rfl⟩
  obtain ⟨b, hb⟩ := h
  unfold ib
  rw [hb]; rfl
def idxF {α : Type} (p : α → Bool) (l : List α) : Int := match l.findIdx? p with
  | some i => (i : Int)
  | none => -1
theorem jV {α : Type} {p : α → Bool} {l : List α} {k : Nat} (hk : k < l.length) (h : p l[k] = true) (ha : ∀ j (hj : j < k), p (l[j]'(by omega)) = false) : idxF p l = (k : Int) := by
  have : l.findIdx? p = some k := List.findIdx?_eq_some_iff_getElem.2 ⟨hk, h, fun j hj => by simpa using ha j hj⟩
  unfold idxF; rw [this]
theorem jd {α : Type} {p : α → Bool} {l : List α} (ha : ∀ x ∈ l, p x = false) : idxF p l = -1 := by
  have : l.findIdx? p = none := List.findIdx?_eq_none_iff.2 ha
  unfold idxF; rw [this]
set_option maxHeartbeats 2000000 in
set_option maxRecDepth 100000 in
theorem qK (cl : Nat) (lb : Array Value) (p : S93 → Bool) (eg : ∀ args w, (callFunc cl args).run Tryz.prog w = .ok (.enter cl args) w)
    (A0 : Option Addr) (c0 : Nat) (l0 : List S93) (w : World) (hr0 : Kd.C k93 w A0 l0.length l0)
    (hp : ∀ (W : World) (x : S93), Below w.heap.size w W → Calls Tryz.prog cl (#[.agg #[.int .i64 x.f0, .int .i64 x.f1]] ++ lb) W fun e w' => e = .returned (.bool (p x)) ∧ Below w.heap.size w w') :
    Calls Tryz.prog 155 #[.slice A0 l0.length c0, .func (.func cl) #[] lb] w fun e w' => e = .returned (.int .i64 (idxF p l0)) ∧ Below w.heap.size w w' := by
  have hu93 := Tryz.underlying93
  have HR0 := aa.mk hr0
  have HP := aa.mk hp
  clear hr0 hp
  go_enter Tryz.func155, Tryz.ntmps155
  go_wp2
  go_loopg [5, 8] l0.length (fun gk _ v8 W => ∃ i : Int, v8 = .int .i64 i ∧ aa (0 ≤ i ∧ i + gk = l0.length) ∧ aa (Below w.heap.size w W) ∧ aa (∀ j (hj : j < l0.length), (j : Int) < i → p l0[j] = false))
  case atStart => exact ⟨0, rfl, ⟨Int.le_refl _, by simp⟩, ⟨Below.refl _ w⟩, ⟨fun j hj h => by omega⟩⟩
  case round =>
    obtain ⟨i, rfl, HI, HB, HA⟩ := hrel
    cases gk with
    | zero =>
      have hi : i = l0.length := by have := HI.out.2; omega
      have hd : decide (i < (l0.length : Int)) = false := decide_eq_false (by omega)
      have hr : idxF p l0 = -1 := jd (fun x hx => by
        obtain ⟨j, hj, rfl⟩ := List.mem_iff_getElem.1 hx
        exact HA.out j hj (by omega))
      have HRES := aa.mk hr
      clear hi hr
      go_wp2
      go_ret
      exact ⟨by rw [HRES.out]; rfl, HB.out⟩
    | succ k1 =>
      have hp0 : 0 ≤ i := HI.out.1
      have hp1 : i < (l0.length : Int) := by have := HI.out.2; omega
      have hd : decide (i < (l0.length : Int)) = true := decide_eq_true hp1
      have hC : Kd.C k93 wr A0 l0.length l0 := Kd.aN HR0.out HB.out
      have hlen64 : (l0.length : Int) ≤ 9223372036854775807 := by have := HR0.out.2.1; omega
      obtain ⟨ad, e3, g0, g1⟩ := fQ hC i hp0 hp1
      cases e3
      obtain ⟨x, hx⟩ : ∃ x, x = aU l0 i := ⟨_, rfl⟩
      rw [← hx] at g0 g1
      have hxi : x = l0[i.toNat]'(by omega) := by rw [hx]; unfold aU; rw [List.getD_eq_getElem?_getD, List.getElem?_eq_getElem (by omega)]; rfl
      have hcall := HP.out wr x HB.out
      have HX := aa.mk hxi
      have HPI := aa.mk (And.intro hp0 hp1)
      clear hx hC hxi
      cases hq : p x with
      | true =>
        rw [hq] at hcall
        have hres : idxF p l0 = i := by
          have h1 := jV (p := p) (l := l0) (k := i.toNat) (by omega) (by rw [← HX.out]; exact hq) (fun j hj => HA.out j (by omega) (by omega))
          rw [h1]; omega
        have HRES := aa.mk hres
        clear hres
        go_wp2_with (go_at_fn cl; refine hcall.mono ?_; rintro e w' ⟨rfl, hb'⟩)
        go_ret
        exact ⟨by rw [HRES.out]; rfl, hb'⟩
      | false =>
        rw [hq] at hcall
        have HQ := aa.mk hq
        go_wp2_with (go_at_fn cl; refine hcall.mono ?_; rintro e w' ⟨rfl, hb'⟩)
        go_roundg k1
        case measure => omega
        case rel =>
          refine ⟨i + 1, by first | rfl | (simp; done) | go_num, ⟨by have := HPI.out.1; omega, by have := HI.out.2; omega⟩, ⟨hb'⟩, ⟨fun j hj h => ?_⟩⟩
          by_cases e : (j : Int) = i
          · have e2 : j = i.toNat := by omega
            subst e2
            rw [← HX.out]; exact HQ.out
          · exact HA.out j hj (by omega)
set_option maxHeartbeats 2000000 in
set_option maxRecDepth 100000 in
theorem yC (cl : Nat) (lb : Array Value) (p : S69 → Bool) (eg : ∀ args w, (callFunc cl args).run Tryz.prog w = .ok (.enter cl args) w)
    (A0 : Option Addr) (c0 : Nat) (l0 : List S69) (w : World) (hr0 : Kd.C k69 w A0 l0.length l0)
    (hp : ∀ (W : World) (x : S69) (A : Option Addr) (c : Nat), Below w.heap.size w W → x.f3.length ≤ c → Kd.C k151 W A x.f3.length x.f3 → Calls Tryz.prog cl (#[.agg #[.int .i64 x.f0, .string x.f1, .int .i64 x.f2, .slice A x.f3.length c]] ++ lb) W fun e w' => e = .returned (.bool (p x)) ∧ Below w.heap.size w w') :
    Calls Tryz.prog 101 #[.slice A0 l0.length c0, .func (.func cl) #[] lb] w fun e w' => e = .returned (.int .i64 (idxF p l0)) ∧ Below w.heap.size w w' := by
  have hu := Tryz.underlying69
  have HR0 := aa.mk hr0
  have HP := aa.mk hp
  clear hr0 hp
  go_enter Tryz.func101, Tryz.ntmps101
  go_wp2
  go_loopg [5, 8] l0.length (fun gk _ v8 W => ∃ i : Int, v8 = .int .i64 i ∧ aa (0 ≤ i ∧ i + gk = l0.length) ∧ aa (Below w.heap.size w W) ∧ aa (∀ j (hj : j < l0.length), (j : Int) < i → p l0[j] = false))
  case atStart => exact ⟨0, rfl, ⟨Int.le_refl _, by simp⟩, ⟨Below.refl _ w⟩, ⟨fun j hj h => by omega⟩⟩
  case round =>
    obtain ⟨i, rfl, HI, HB, HA⟩ := hrel
    cases gk with
    | zero =>
      have hi : i = l0.length := by have := HI.out.2; omega
      have hd : decide (i < (l0.length : Int)) = false := decide_eq_false (by omega)
      have hr : idxF p l0 = -1 := jd (fun x hx => by
        obtain ⟨j, hj, rfl⟩ := List.mem_iff_getElem.1 hx
        exact HA.out j hj (by omega))
      have HRES := aa.mk hr
      clear hi hr
      go_wp2
      go_ret
      exact ⟨by rw [HRES.out]; rfl, HB.out⟩
    | succ k1 =>
      have hp0 : 0 ≤ i := HI.out.1
      have hp1 : i < (l0.length : Int) := by have := HI.out.2; omega
      have hd : decide (i < (l0.length : Int)) = true := decide_eq_true hp1
      have hC : Kd.C k69 wr A0 l0.length l0 := Kd.aN HR0.out HB.out
      have hlen64 : (l0.length : Int) ≤ 9223372036854775807 := by have := HR0.out.2.1; omega
      obtain ⟨ad, A1, c1, e3, g0, g1, g2, g3, g4, g5⟩ := oG hC i hp0 hp1
      cases e3
      obtain ⟨x, hx⟩ : ∃ x, x = a_ l0 i := ⟨_, rfl⟩
      rw [← hx] at g0 g1 g2 g3 g4 g5
      have hxi : x = l0[i.toNat]'(by omega) := by rw [hx]; unfold a_; rw [List.getD_eq_getElem?_getD, List.getElem?_eq_getElem (by omega)]; rfl
      have hcall := HP.out wr x A1 c1 HB.out g4 g5
      have HX := aa.mk hxi
      have HPI := aa.mk (And.intro hp0 hp1)
      clear hx hC hxi g4 g5
      cases hq : p x with
      | true =>
        rw [hq] at hcall
        have hres : idxF p l0 = i := by
          have h1 := jV (p := p) (l := l0) (k := i.toNat) (by omega) (by rw [← HX.out]; exact hq) (fun j hj => HA.out j (by omega) (by omega))
          rw [h1]; omega
        have HRES := aa.mk hres
        clear hres
        go_wp2_with (go_at_fn cl; refine hcall.mono ?_; rintro e w' ⟨rfl, hb'⟩)
        go_ret
        exact ⟨by rw [HRES.out]; rfl, hb'⟩
      | false =>
        rw [hq] at hcall
        have HQ := aa.mk hq
        go_wp2_with (go_at_fn cl; refine hcall.mono ?_; rintro e w' ⟨rfl, hb'⟩)
        go_roundg k1
        case measure => omega
        case rel =>
          refine ⟨i + 1, by first | rfl | (simp; done) | go_num, ⟨by have := HPI.out.1; omega, by have := HI.out.2; omega⟩, ⟨hb'⟩, ⟨fun j hj h => ?_⟩⟩
          by_cases e : (j : Int) = i
          · have e2 : j = i.toNat := by omega
            subst e2
            rw [← HX.out]; exact HQ.out
          · exact HA.out j hj (by omega)
set_option maxHeartbeats 1000000 in
set_option maxRecDepth 100000 in
theorem has_sn (cl : Nat) (lb : Array Value) (p : S69 → Bool) (eg : ∀ args w, (callFunc cl args).run Tryz.prog w = .ok (.enter cl args) w)
    (A0 : Option Addr) (c0 : Nat) (l0 : List S69) (w : World) (hr0 : Kd.C k69 w A0 l0.length l0)
    (hp : ∀ (W : World) (x : S69) (A : Option Addr) (c : Nat), Below w.heap.size w W → x.f3.length ≤ c → Kd.C k151 W A x.f3.length x.f3 → Calls Tryz.prog cl (#[.agg #[.int .i64 x.f0, .string x.f1, .int .i64 x.f2, .slice A x.f3.length c]] ++ lb) W fun e w' => e = .returned (.bool (p x)) ∧ Below w.heap.size w w') :
    Calls Tryz.prog 84 #[.slice A0 l0.length c0, .func (.func cl) #[] lb] w fun e w' => e = .returned (.bool (l0.any p)) ∧ Below w.heap.size w w' := by
  have hidx := yC cl lb p eg A0 c0 l0 w hr0 hp
  have hres : decide (0 ≤ idxF p l0) = l0.any p := by
    unfold idxF
    cases h : l0.findIdx? p with
    | some i =>
      have := List.findIdx?_eq_some_iff_getElem.1 h
      obtain ⟨h1, h2, _⟩ := this
      rw [List.any_eq_true.2 ⟨_, List.getElem_mem h1, h2⟩]
      exact decide_eq_true (by show (0 : Int) ≤ (i : Int); omega)
    | none =>
      have := List.findIdx?_eq_none_iff.1 h
      rw [List.any_eq_false.2 (fun x hx => by rw [this x hx]; decide)]
      rfl
  have HI := aa.mk hidx
  have HRES := aa.mk hres
  clear hidx hres hp hr0
  go_enter Tryz.func84, Tryz.ntmps84
  go_wp2_with fail
  refine HI.out.mono ?_
  rintro e w1 ⟨rfl, hb⟩
  have HB := aa.mk hb
  clear hb
  go_wp2
  go_ret
  exact ⟨by rw [← HRES.out]; rfl, HB.out⟩
set_option maxHeartbeats 2000000 in
set_option maxRecDepth 100000 in
theorem idx_lb (cl : Nat) (lb : Array Value) (p : (List Int) → Bool) (eg : ∀ args w, (callFunc cl args).run Tryz.prog w = .ok (.enter cl args) w)
    (A0 : Option Addr) (c0 : Nat) (l0 : List (List Int)) (w : World) (hr0 : Kd.C (Kd.slice 5 (Kd.int .u8)) w A0 l0.length l0)
    (hp : ∀ (W : World) (x : (List Int)) (A : Option Addr) (c : Nat), Below w.heap.size w W → x.length ≤ c → Kd.C (Kd.int .u8) W A x.length x → Calls Tryz.prog cl (#[.slice A x.length c] ++ lb) W fun e w' => e = .returned (.bool (p x)) ∧ Below w.heap.size w w') :
    Calls Tryz.prog 125 #[.slice A0 l0.length c0, .func (.func cl) #[] lb] w fun e w' => e = .returned (.int .i64 (idxF p l0)) ∧ Below w.heap.size w w' := by
  have HR0 := aa.mk hr0
  have HP := aa.mk hp
  clear hr0 hp
  go_enter Tryz.func125, Tryz.ntmps125
  go_wp2
  go_loopg [5, 8] l0.length (fun gk _ v8 W => ∃ i : Int, v8 = .int .i64 i ∧ aa (0 ≤ i ∧ i + gk = l0.length) ∧ aa (Below w.heap.size w W) ∧ aa (∀ j (hj : j < l0.length), (j : Int) < i → p l0[j] = false))
  case atStart => exact ⟨0, rfl, ⟨Int.le_refl _, by simp⟩, ⟨Below.refl _ w⟩, ⟨fun j hj h => by omega⟩⟩
  case round =>
    obtain ⟨i, rfl, HI, HB, HA⟩ := hrel
    cases gk with
    | zero =>
      have hi : i = l0.length := by have := HI.out.2; omega
      have hd : decide (i < (l0.length : Int)) = false := decide_eq_false (by omega)
      have hr : idxF p l0 = -1 := jd (fun x hx => by
        obtain ⟨j, hj, rfl⟩ := List.mem_iff_getElem.1 hx
        exact HA.out j hj (by omega))
      have HRES := aa.mk hr
      clear hi hr
      go_wp2
      go_ret
      exact ⟨by rw [HRES.out]; rfl, HB.out⟩
    | succ k1 =>
      have hp0 : 0 ≤ i := HI.out.1
      have hp1 : i < (l0.length : Int) := by have := HI.out.2; omega
      have hd : decide (i < (l0.length : Int)) = true := decide_eq_true hp1
      have hC : Kd.C (Kd.slice 5 (Kd.int .u8)) wr A0 l0.length l0 := Kd.aN HR0.out HB.out
      have hlen64 : (l0.length : Int) ≤ 9223372036854775807 := by have := HR0.out.2.1; omega
      obtain ⟨ad, A1, c1, e3, g0, g4, g5⟩ := lF hC i hp0 hp1
      cases e3
      obtain ⟨x, hx⟩ : ∃ x, x = l0.getD i.toNat [] := ⟨_, rfl⟩
      rw [← hx] at g0 g4 g5
      have hxi : x = l0[i.toNat]'(by omega) := by rw [hx]; rw [List.getD_eq_getElem?_getD, List.getElem?_eq_getElem (by omega)]; rfl
      have hcall := HP.out wr x A1 c1 HB.out g4 g5
      have HX := aa.mk hxi
      have HPI := aa.mk (And.intro hp0 hp1)
      clear hx hC hxi g4 g5
      cases hq : p x with
      | true =>
        rw [hq] at hcall
        have hres : idxF p l0 = i := by
          have h1 := jV (p := p) (l := l0) (k := i.toNat) (by omega) (by rw [← HX.out]; exact hq) (fun j hj => HA.out j (by omega) (by omega))
          rw [h1]; omega
        have HRES := aa.mk hres
        clear hres
        go_wp2_with (go_at_fn cl; refine hcall.mono ?_; rintro e w' ⟨rfl, hb'⟩)
        go_ret
        exact ⟨by rw [HRES.out]; rfl, hb'⟩
      | false =>
        rw [hq] at hcall
        have HQ := aa.mk hq
        go_wp2_with (go_at_fn cl; refine hcall.mono ?_; rintro e w' ⟨rfl, hb'⟩)
        go_roundg k1
        case measure => omega
        case rel =>
          refine ⟨i + 1, by first | rfl | (simp; done) | go_num, ⟨by have := HPI.out.1; omega, by have := HI.out.2; omega⟩, ⟨hb'⟩, ⟨fun j hj h => ?_⟩⟩
          by_cases e : (j : Int) = i
          · have e2 : j = i.toNat := by omega
            subst e2
            rw [← HX.out]; exact HQ.out
          · exact HA.out j hj (by omega)
set_option maxHeartbeats 1000000 in
set_option maxRecDepth 100000 in
theorem has_lb (cl : Nat) (lb : Array Value) (p : (List Int) → Bool) (eg : ∀ args w, (callFunc cl args).run Tryz.prog w = .ok (.enter cl args) w)
    (A0 : Option Addr) (c0 : Nat) (l0 : List (List Int)) (w : World) (hr0 : Kd.C (Kd.slice 5 (Kd.int .u8)) w A0 l0.length l0)
    (hp : ∀ (W : World) (x : (List Int)) (A : Option Addr) (c : Nat), Below w.heap.size w W → x.length ≤ c → Kd.C (Kd.int .u8) W A x.length x → Calls Tryz.prog cl (#[.slice A x.length c] ++ lb) W fun e w' => e = .returned (.bool (p x)) ∧ Below w.heap.size w w') :
    Calls Tryz.prog 86 #[.slice A0 l0.length c0, .func (.func cl) #[] lb] w fun e w' => e = .returned (.bool (l0.any p)) ∧ Below w.heap.size w w' := by
  have hidx := idx_lb cl lb p eg A0 c0 l0 w hr0 hp
  have hres : decide (0 ≤ idxF p l0) = l0.any p := by
    unfold idxF
    cases h : l0.findIdx? p with
    | some i =>
      have := List.findIdx?_eq_some_iff_getElem.1 h
      obtain ⟨h1, h2, _⟩ := this
      rw [List.any_eq_true.2 ⟨_, List.getElem_mem h1, h2⟩]
      exact decide_eq_true (by show (0 : Int) ≤ (i : Int); omega)
    | none =>
      have := List.findIdx?_eq_none_iff.1 h
      rw [List.any_eq_false.2 (fun x hx => by rw [this x hx]; decide)]
      rfl
  have HI := aa.mk hidx
  have HRES := aa.mk hres
  clear hidx hres hp hr0
  go_enter Tryz.func86, Tryz.ntmps86
  go_wp2_with fail
  refine HI.out.mono ?_
  rintro e w1 ⟨rfl, hb⟩
  have HB := aa.mk hb
  clear hb
  go_wp2
  go_ret
  exact ⟨by rw [← HRES.out]; rfl, HB.out⟩
end Go.Proofs.YtjeeejoelmmfmaaGreat.Fn
