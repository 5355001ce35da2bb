-- Told by hand; its numbers filled in by a program of this session.
import Derived.Test.YtkkfkdncddbaeaaFnBase
import Derived.Shelf.SlSortCmp.WholeK
namespace Go.Proofs.Ytkkfkdncddbaeaa.Fn
open Go.RowKit Go.Proofs.YtkkfkdncddbaeaaW.PrintWords Go.Proofs.YtkkfkdncddbaeaaW.PrintLast Go.Proofs.YtkkfkdncddbaeaaW.PrintMore
attribute [local go_sem] max2_int min2_int max_two min_two max_three min_three max_four min_four   -- for this text's walks alone
set_option linter.unusedVariables false
set_option linter.unusedSimpArgs false

/-! Rows of plain cells, told by their block; what sorting leaves. -/
/-- A kind whose elements are plain cells. -/
structure Flat {α : Type} (d : Kd α) (enc : α → List Value) : Prop where
  len : ∀ x, (enc x).length = d.sz
  pos : 0 < d.sz
  one : ∀ x, ∀ v ∈ enc x, v.oneCell' = true
  openM : ∀ {w : World} {base : Nat} {ok : Nat → Prop} {x : α} {cs : List Value}, d.M w base ok x cs → cs = enc x
  mkM : ∀ (w : World) (base : Nat) (ok : Nat → Prop) (x : α), d.M w base ok x (enc x)
/-- A row laid in block g: room for cap elements, the first ones are xs. -/
def Lies {α : Type} (enc : α → List Value) (k e : Nat) (w : World) (g cap : Nat) (xs : List α) : Prop :=
  ∃ cur : Array Value, w.heap[g]? = some (.cells cur e (0, 0)) ∧ cur.size = cap * k ∧ xs.length ≤ cap ∧ cap ≤ maxLen ∧
    ∀ j x, xs[j]? = some x → ∀ i v, (enc x)[i]? = some v → cur[j * k + i]? = some v
section
variable {α : Type} {d : Kd α} {enc : α → List Value} {e : Nat} {w : World} {base : Nat} {ok : Nat → Prop} {v : Value} {xs : List α}
theorem R_lies (F : Flat d enc) (h : d.R e w base ok v xs) : (v = .slice none 0 0 ∧ xs = []) ∨ ∃ g cap, v = .slice (some ⟨g, 0, none⟩) xs.length cap ∧ base ≤ g ∧ ok g ∧ Lies enc d.sz e w g cap xs := by
  obtain ⟨hok, inner, ⟨hlen, hown⟩, hr⟩ := h
  rcases hown with ⟨h1, h2⟩ | ⟨g, cap, cur, h1, hb, hh, h2, h3, h4, h5⟩
  · exact .inl ⟨h1, List.eq_nil_of_length_eq_zero h2⟩
  · subst h1
    refine .inr ⟨g, cap, rfl, hb, hok g rfl, cur, hh, h4, h2, h3, fun j x hj i u hu => ?_⟩
    have h6 := F.openM (hr.2 j x hj)
    have hi : i < d.sz := by
      have := (List.getElem?_eq_some_iff.1 hu).1
      rw [F.len] at this
      exact this
    rw [← h6, List.getElem?_take_of_lt hi, List.getElem?_drop, ← h5] at hu
    have h7 := (List.getElem?_eq_some_iff.1 hu).1
    rw [List.length_take] at h7
    rw [List.getElem?_take_of_lt (by omega), Array.getElem?_toList] at hu
    exact hu
theorem R_of_lies (F : Flat d enc) {g cap : Nat} (hb : base ≤ g) (hg : ok g) (h : Lies enc d.sz e w g cap xs) : d.R e w base ok (.slice (some ⟨g, 0, none⟩) xs.length cap) xs := by
  obtain ⟨cur, hh, h1, h2, h3, h4⟩ := h
  have hle : xs.length * d.sz ≤ cur.size := by rw [h1]; exact Nat.mul_le_mul_right _ h2
  refine ⟨fun k hk => ?_, cur.toList.take (xs.length * d.sz), ⟨?_, .inr ⟨g, cap, cur, rfl, hb, hh, h2, h3, h1, rfl⟩⟩, ?_, fun j p hj => ?_⟩
  · have : g = k := by simpa [Value.ownBlock] using hk
    rw [← this]; exact hg
  · rw [List.length_take, Array.length_toList]; exact Nat.min_eq_left hle
  · rw [List.length_take, Array.length_toList]; exact Nat.min_eq_left hle
  · have hjl : j < xs.length := (List.getElem?_eq_some_iff.1 hj).1
    have he : ((cur.toList.take (xs.length * d.sz)).drop (j * d.sz)).take d.sz = enc p := by
      apply List.ext_getElem?
      intro i
      by_cases hi : i < d.sz
      · have hm : j * d.sz + i < xs.length * d.sz := by
          have : (j + 1) * d.sz ≤ xs.length * d.sz := Nat.mul_le_mul_right _ hjl
          rw [Nat.add_mul, Nat.one_mul] at this
          omega
        rw [List.getElem?_take_of_lt hi, List.getElem?_drop, List.getElem?_take_of_lt hm, Array.getElem?_toList]
        have hl : i < (enc p).length := by rw [F.len]; exact hi
        rw [List.getElem?_eq_getElem hl]
        exact h4 j p hj i _ (List.getElem?_eq_getElem hl)
      · rw [List.getElem?_eq_none (by rw [List.length_take]; omega), List.getElem?_eq_none (by rw [F.len]; omega)]
    rw [he]
    exact F.mkM _ _ _ _
/-- The new row of a literal without elements. -/
theorem R_new_nil (d : Kd α) (e : Nat) (w : World) (base : Nat) (ok : Nat → Prop) (hb : base ≤ w.heap.size) (hok : ok w.heap.size) : d.R e (w.alloc (.cells #[] e)) base ok (.slice (some ⟨w.heap.size, 0, none⟩) 0 0) [] := by
  refine ⟨fun k hk => ?_, [], ⟨by simp, .inr ⟨w.heap.size, 0, #[], rfl, hb, blk_new w _, Nat.le_refl _, by unfold maxLen; omega, by simp, by simp⟩⟩, Reps.none _ _⟩
  have : w.heap.size = k := by simpa [Value.ownBlock] using hk
  rw [← this]; exact hok
theorem Lies.block {k g cap : Nat} (h : Lies enc k e w g cap xs) : g < w.heap.size := by
  obtain ⟨cur, hh, _⟩ := h
  exact blk_lt hh
theorem Lies.far {k g cap : Nat} {w1 : World} (h : Lies enc k e w g cap xs) (hk : w1.heap[g]? = w.heap[g]?) : Lies enc k e w1 g cap xs := by
  obtain ⟨cur, hh, h2⟩ := h
  exact ⟨cur, hk.trans hh, h2⟩
open Go.Sort Go.Proofs in
theorem Lies.holds [Inhabited α] {k g cap : Nat} (hk : ∀ x, (enc x).length = k) (h0 : 0 < k) (h : Lies enc k e w g cap xs) : HoldsK enc k w g 0 xs.toArray := by
  obtain ⟨cur, hh, h1, h2, h3, h4⟩ := h
  intro j hj
  rw [size_flatK] at hj
  have hjk : j / k < xs.length := by
    rw [Nat.div_lt_iff_lt_mul h0]
    simpa using hj
  have hm : j % k < k := Nat.mod_lt _ h0
  have e1 : xs[j / k]? = some xs[j / k] := List.getElem?_eq_getElem hjk
  have hl : j % k < (enc xs[j / k]).length := by rw [hk]; exact hm
  have h5 := h4 (j / k) _ e1 (j % k) _ (List.getElem?_eq_getElem hl)
  have e2 : j / k * k + j % k = j := Nat.div_add_mod' j k
  rw [e2] at h5
  refine ⟨?_, ?_⟩
  · rw [Nat.zero_add, blk_cell hh, h5, get_flatK enc k _ j hj]
    have e3 : xs.toArray[j / k]! = xs[j / k] := by rw [getElem!_pos xs.toArray (j / k) (by simpa using hjk)]; simp
    rw [e3, getElem!_pos (enc xs[j / k]) (j % k) hl]
    rfl
  · exact blk_frozen hh _
open Go.Sort Go.Proofs in
theorem sorted_heap [Inhabited α] (k g n : Nat) (d' : Array α) (os : Array Obj) (i : Nat) (hi : i < w.heap.size) : (sortWorldK enc k w g 0 n d' os).heap[i]? = if g = i then (w.heap[i]?).map (onCells (putCells id 0 (flatK enc k d'))) else w.heap[i]? := by
  unfold sortWorldK grow putRowK putRow mapBlock Sort.ahead
  dsimp only
  rw [Array.getElem?_append_left (by rw [Array.size_modify]; exact hi), Array.getElem?_modify]
open Go.Sort Go.Proofs in
theorem Lies.sorted [Inhabited α] {k g cap n : Nat} {d' : Array α} {os : Array Obj} (hk : ∀ x, (enc x).length = k) (h0 : 0 < k) (h : Lies enc k e w g cap xs) (hd : d'.size = xs.length) : Lies enc k e (sortWorldK enc k w g 0 n d' os) g cap d'.toList := by
  have hg := h.block
  obtain ⟨cur, hh, h1, h2, h3, h4⟩ := h
  refine ⟨putCells id 0 (flatK enc k d') cur, ?_, ?_, by simpa [hd] using h2, h3, fun j x hj i u hu => ?_⟩
  · rw [sorted_heap k g n d' os g hg, if_pos rfl, hh]
    rfl
  · unfold putCells
    rw [Array.size_mapIdx, h1]
  · have hjl : j < d'.size := by
      have := (List.getElem?_eq_some_iff.1 hj).1
      simpa using this
    have hi : i < k := by
      have := (List.getElem?_eq_some_iff.1 hu).1
      rw [hk] at this
      exact this
    have hlt : j * k + i < d'.size * k := by
      have : (j + 1) * k ≤ d'.size * k := Nat.mul_le_mul_right _ hjl
      rw [Nat.add_mul, Nat.one_mul] at this
      omega
    have hc : j * k + i < cur.size := by
      rw [h1]
      have : d'.size * k ≤ cap * k := Nat.mul_le_mul_right _ (by omega)
      omega
    have e1 : (j * k + i) / k = j := by rw [Nat.mul_comm, Nat.mul_add_div h0, Nat.div_eq_of_lt hi, Nat.add_zero]
    have e2 : (j * k + i) % k = i := by rw [Nat.mul_comm, Nat.mul_add_mod, Nat.mod_eq_of_lt hi]
    unfold putCells
    rw [Array.getElem?_mapIdx, Array.getElem?_eq_getElem hc, Option.map_some, if_pos ⟨Nat.zero_le _, by rw [size_flatK]; omega⟩, Nat.sub_zero, get_flatK enc k d' _ hlt, e1, e2]
    have e3 : d'[j]! = x := by
      rw [getElem!_pos d' j hjl]
      rw [Array.getElem?_toList, Array.getElem?_eq_getElem hjl] at hj
      exact Option.some.inj hj
    have hil : i < (enc x).length := by rw [hk]; exact hi
    rw [e3, getElem!_pos (enc x) i hil]
    rw [List.getElem?_eq_getElem hil] at hu
    exact hu
open Go.Sort Go.Proofs in
theorem sorted_below [Inhabited α] {k g n : Nat} {d' : Array α} {os : Array Obj} {w0 : World} (h : Go.RowKit.Below base w0 w) (hg : base ≤ g) (hb : base ≤ w.heap.size) : Go.RowKit.Below base w0 (sortWorldK enc k w g 0 n d' os) := by
  refine ⟨h.os, h.tape, h.output, Nat.le_trans h.size ?_, fun i hi => ?_⟩
  · exact size_sortWorldK_c enc k w g 0 n d' os
  · rw [sorted_heap k g n d' os i (by omega), if_neg (by omega)]
    exact h.block i hi
open Go.Sort Go.Proofs in
/-- What the sort hands back, in lists. -/
theorem sort_list [Inhabited α] {lt : α → α → Bool} {xs : List α} {d' : Array α} (hp : PermIn 0 xs.toArray.size xs.toArray d') (hs : SortedIn lt 0 xs.toArray.size d') : d'.size = xs.length ∧ d'.toList.Perm xs ∧ d'.toList.Pairwise fun a b => lt b a = false := by
  obtain ⟨h1, _, h2⟩ := hp
  have hsz : d'.size = xs.length := by simpa using h1
  have e1 : d'.extract 0 xs.toArray.size = d' := by rw [← h1]; exact Array.extract_size
  have e2 : xs.toArray.extract 0 xs.toArray.size = xs.toArray := Array.extract_size
  rw [e1, e2] at h2
  refine ⟨hsz, by simpa using h2, ?_⟩
  rw [List.pairwise_iff_getElem]
  intro i j hi hj hij
  have := hs i j (Nat.zero_le _) hij (by rw [← h1]; simpa using hj)
  rw [getElem!_pos d' j (by simpa using hj), getElem!_pos d' i (by simpa using hi)] at this
  simpa using this
end

end Go.Proofs.Ytkkfkdncddbaeaa.Fn
