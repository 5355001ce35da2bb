-- Told by hand; its numbers filled in by a program of this session.
import Derived.Test.YtkkfkdncddbaeaaFnBase
import Derived.Test.YtkkfkdncddbaeaaHL05
namespace Go.Proofs.Ytkkfkdncddbaeaa.Fn
open Go.RowKit Go.Proofs.YtkkfkdncddbaeaaW.PrintWords Go.Proofs.YtkkfkdncddbaeaaW.PrintLast Go.Proofs.YtkkfkdncddbaeaaW.PrintMore
attribute [local go_sem] max2_int min2_int max_two min_two max_three min_three max_four min_four   -- for this text's walks alone
set_option linter.unusedVariables false
set_option linter.unusedSimpArgs false

/-! What is put and cut: the program's answer and the document's are one. -/
namespace Flag
theorem Rising_flatMap {l : List Ex} {f : Ex → List Ex} (h : Rising l) (h0 : ∀ y ∈ l, 0 < y.n) (hf : ∀ y ∈ l, Rising (f y)) (hi : ∀ y ∈ l, ∀ z ∈ f y, 0 < z.n → y.v ≤ z.v ∧ z.v + z.n ≤ y.v + y.n) : Rising (l.flatMap f) := by
  induction l with
  | nil => trivial
  | cons y t ih =>
    rw [List.flatMap_cons]
    refine Rising_append (hf y List.mem_cons_self) (ih h.2 (fun z hz => h0 z (List.mem_cons_of_mem _ hz)) (fun z hz => hf z (List.mem_cons_of_mem _ hz)) (fun z hz => hi z (List.mem_cons_of_mem _ hz))) ?_
    intro a ha ha0 b hb hb0
    obtain ⟨c, hc, hbc⟩ := List.mem_flatMap.1 hb
    have h1 := hi y List.mem_cons_self a ha ha0
    have h2 := hi c (List.mem_cons_of_mem _ hc) b hbc hb0
    have h3 := h.1 (h0 y List.mem_cons_self) c hc (h0 c (List.mem_cons_of_mem _ hc))
    omega
/-- What is left of an extent where sectors are cut. -/
def withE (v n : Int) (x : Ex) : List Ex :=
  if min (x.v + x.n) (max x.v v) ≥ max x.v (min (x.v + x.n) (v + n)) then [x] else
    [⟨x.v, x.p, min (x.v + x.n) (max x.v v) - x.v⟩, ⟨max x.v (min (x.v + x.n) (v + n)), x.p + max x.v (min (x.v + x.n) (v + n)) - x.v, x.v + x.n - max x.v (min (x.v + x.n) (v + n))⟩]
theorem withE_in {v n : Int} {x : Ex} (hx : okMap x) : ∀ z ∈ withE v n x, 0 < z.n → x.v ≤ z.v ∧ z.v + z.n ≤ x.v + x.n := by
  obtain ⟨h1, h2, h3, h4, h5⟩ := hx
  intro z hz h0
  unfold withE at hz
  split at hz
  · have : z = x := by simpa using hz
    subst this; omega
  · rename_i hc
    simp only [List.mem_cons, List.not_mem_nil, or_false] at hz
    rcases hz with rfl | rfl <;> dsimp only at h0 ⊢ <;> omega
theorem withE_rising {v n : Int} {x : Ex} (hx : okMap x) : Rising (withE v n x) := by
  obtain ⟨h1, h2, h3, h4, h5⟩ := hx
  unfold withE
  split
  · exact ⟨fun _ y hy => by simp at hy, trivial⟩
  · refine ⟨fun a y hy b => ?_, ⟨fun _ y hy => by simp at hy, trivial⟩⟩
    have : y = ⟨max x.v (min (x.v + x.n) (v + n)), x.p + max x.v (min (x.v + x.n) (v + n)) - x.v, x.v + x.n - max x.v (min (x.v + x.n) (v + n))⟩ := by simpa using hy
    subst this
    dsimp only at a b ⊢
    omega
theorem withE_look {v n : Int} {x : Ex} (hx : okMap x) (t : List Ex) (i : Int) : lookE (withE v n x ++ t) i = if (x.v ≤ i ∧ i < x.v + x.n) ∧ ¬ (v ≤ i ∧ i < v + n) then some (valAt x i) else lookE t i := by
  obtain ⟨h1, h2, h3, h4, h5⟩ := hx
  unfold withE
  split
  · rename_i hc
    show lookE (x :: t) i = _
    rw [lookE]
    by_cases ha : x.v ≤ i ∧ i < x.v + x.n
    · rw [if_pos ha, if_pos ⟨ha, by omega⟩]
    · rw [if_neg ha, if_neg (fun h => ha h.1)]
  · rename_i hc
    show lookE (_ :: _ :: t) i = _
    rw [lookE, lookE]
    have hv0 : valAt x i = x.p + (i - x.v) := by unfold valAt; rw [if_neg (by omega)]
    by_cases ha : x.v ≤ i ∧ i < x.v + (min (x.v + x.n) (max x.v v) - x.v)
    · rw [if_pos ha, if_pos (by omega), hv0]
      unfold valAt; rw [if_neg (by dsimp only; omega)]
    · rw [if_neg ha]
      by_cases hb : max x.v (min (x.v + x.n) (v + n)) ≤ i ∧ i < max x.v (min (x.v + x.n) (v + n)) + (x.v + x.n - max x.v (min (x.v + x.n) (v + n)))
      · rw [if_pos hb]
        by_cases hn : (x.v ≤ i ∧ i < x.v + x.n) ∧ ¬ (v ≤ i ∧ i < v + n)
        · rw [if_pos hn, hv0]
          unfold valAt; rw [if_neg (by dsimp only; omega)]
          congr 1; dsimp only; omega
        · omega
      · rw [if_neg hb, if_neg (by omega)]
def cutE (l : List Ex) (v n : Int) : List Ex := l.flatMap (withE v n)
theorem cutE_look {l : List Ex} (h : ∀ x ∈ l, okMap x) (v n i : Int) : NF l → lookE (cutE l v n) i = if v ≤ i ∧ i < v + n then none else lookE l i := by
  intro hn
  induction l with
  | nil => simp [cutE, lookE]
  | cons x t ih =>
    have hx := h x List.mem_cons_self
    have ih := ih (fun y hy => h y (List.mem_cons_of_mem _ hy)) hn.tail
    have e : cutE (x :: t) v n = withE v n x ++ cutE t v n := by simp [cutE]
    rw [e, withE_look hx, ih, lookE]
    by_cases ha : x.v ≤ i ∧ i < x.v + x.n
    · by_cases hb : v ≤ i ∧ i < v + n
      · rw [if_neg (fun h => h.2 hb), if_pos hb, if_pos hb]
      · rw [if_pos ⟨ha, hb⟩, if_neg hb, if_pos ha]
    · rw [if_neg (fun h => ha h.1), if_neg ha]
theorem cutE_rising {l : List Ex} (h : ∀ x ∈ l, okMap x) (hn : NF l) (v n : Int) : Rising (cutE l v n) :=
  Rising_flatMap hn.rising hn.all (fun y hy => withE_rising (h y hy)) (fun y hy => withE_in (h y hy))
/-- Two lists of pieces, as their places are. -/
def mergeE : List Ex → List Ex → List Ex
  | [], b => b
  | x :: a, [] => x :: a
  | x :: a, y :: b => if x.v < y.v then x :: mergeE a (y :: b) else y :: mergeE (x :: a) b
termination_by a b => a.length + b.length
theorem mem_mergeE {z : Ex} : ∀ {a b : List Ex}, z ∈ mergeE a b → z ∈ a ∨ z ∈ b
  | [], b, h => by rw [mergeE] at h; exact .inr h
  | x :: a, [], h => by rw [mergeE] at h; exact .inl h
  | x :: a, y :: b, h => by
    rw [mergeE] at h
    split at h
    · rcases List.mem_cons.1 h with rfl | h
      · exact .inl List.mem_cons_self
      · rcases mem_mergeE h with h | h
        · exact .inl (List.mem_cons_of_mem _ h)
        · exact .inr h
    · rcases List.mem_cons.1 h with rfl | h
      · exact .inr List.mem_cons_self
      · rcases mem_mergeE h with h | h
        · exact .inl h
        · exact .inr (List.mem_cons_of_mem _ h)
termination_by a b => a.length + b.length
def Apart (a b : List Ex) : Prop := ∀ x ∈ a, ∀ y ∈ b, x.v + x.n ≤ y.v ∨ y.v + y.n ≤ x.v
theorem mergeE_rising : ∀ {a b : List Ex}, Rising a → Rising b → (∀ x ∈ a, 0 < x.n) → (∀ x ∈ b, 0 < x.n) → Apart a b → Rising (mergeE a b)
  | [], b, _, hb, _, _, _ => by rw [mergeE]; exact hb
  | x :: a, [], ha, _, _, _, _ => by rw [mergeE]; exact ha
  | x :: a, y :: b, ha, hb, pa, pb, hab => by
    rw [mergeE]
    have hx := pa x List.mem_cons_self
    have hy := pb y List.mem_cons_self
    have hxy := hab x List.mem_cons_self y List.mem_cons_self
    split
    · rename_i hlt
      refine ⟨fun _ z hz z0 => ?_, mergeE_rising ha.2 hb (fun z hz => pa z (List.mem_cons_of_mem _ hz)) pb (fun u hu => hab u (List.mem_cons_of_mem _ hu))⟩
      rcases mem_mergeE hz with hz | hz
      · exact ha.1 hx z hz z0
      · rcases List.mem_cons.1 hz with rfl | hz
        · omega
        · have := hb.1 hy z hz z0
          omega
    · rename_i hlt
      refine ⟨fun _ z hz z0 => ?_, mergeE_rising ha hb.2 pa (fun z hz => pb z (List.mem_cons_of_mem _ hz)) (fun u hu w hw => hab u hu w (List.mem_cons_of_mem _ hw))⟩
      rcases mem_mergeE hz with hz | hz
      · rcases List.mem_cons.1 hz with rfl | hz
        · omega
        · have := ha.1 hx z hz z0
          omega
      · exact hb.1 hy z hz z0
termination_by a b => a.length + b.length
theorem mergeE_look (i : Int) : ∀ {a b : List Ex}, Apart a b → lookE (mergeE a b) i = match lookE a i with | some r => some r | none => lookE b i
  | [], b, _ => by rw [mergeE]; rfl
  | x :: a, [], _ => by
    rw [mergeE]
    cases lookE (x :: a) i <;> rfl
  | x :: a, y :: b, hab => by
    rw [mergeE]
    split
    · rw [lookE, mergeE_look i (a := a) (b := y :: b) (fun u hu => hab u (List.mem_cons_of_mem _ hu)), lookE.eq_2 i x a]
      split <;> rfl
    · rw [lookE, mergeE_look i (a := x :: a) (b := b) (fun u hu w hw => hab u hu w (List.mem_cons_of_mem _ hw)), lookE.eq_2 i y b]
      by_cases hy : y.v ≤ i ∧ i < y.v + y.n
      · rw [if_pos hy]
        cases h : lookE (x :: a) i with
        | none => rw [if_pos hy]
        | some r =>
          obtain ⟨z, hz, h1, h2, _⟩ := lookE_some_mem h
          have := hab z hz y List.mem_cons_self
          omega
      · rw [if_neg hy]
        cases h : lookE (x :: a) i with
        | none => rw [if_neg hy]
        | some r => rfl
termination_by a b => a.length + b.length
/-- Pieces where another list has nothing are apart from it. -/
theorem apart_of {a b : List Ex} (ha : NF a) (hb : ∀ y ∈ b, 0 < y.n) (h : ∀ y ∈ b, ∀ i, y.v ≤ i → i < y.v + y.n → lookE a i = none) : Apart a b := by
  intro x hx y hy
  have h1 := ha.all x hx
  have h2 := hb y hy
  have h10 := h1
  rcases Int.lt_or_le (max x.v y.v) (min (x.v + x.n) (y.v + y.n)) with h3 | h3
  · have h4 := h y hy (max x.v y.v) (by omega) (by omega)
    rw [lookE_mem ha hx (by omega) (by omega)] at h4
    cases h4
  · unfold okE at h10
    omega
end Flag

end Go.Proofs.Ytkkfkdncddbaeaa.Fn
