-- Told by hand; its numbers filled in by a program of this session.
import Derived.Test.YtkkfkdncddbaeaaFnBase
import Derived.Test.YtkkfkdncddbaeaaHPureJ
namespace Go.Proofs.Ytkkfkdncddbaeaa.Fn
open Go.RowKit Go.Proofs.YtkkfkdncddbaeaaW.PrintWords Go.Proofs.YtkkfkdncddbaeaaW.PrintLast Go.Proofs.YtkkfkdncddbaeaaW.PrintMore
attribute [local go_sem] max2_int min2_int max_two min_two max_three min_three max_four min_four   -- for this text's walks alone
set_option linter.unusedVariables false
set_option linter.unusedSimpArgs false

namespace Flag

/-- What is left of a span without another one inside it. -/
def restOf (y x : Sp) : List Sp := (if y.a < x.a then [⟨y.a, x.a - y.a⟩] else []) ++ (if x.a + x.n < y.a + y.n then [⟨x.a + x.n, y.a + y.n - (x.a + x.n)⟩] else [])

theorem restOf_mem {y x z : Sp} (hx : y.a ≤ x.a) (hn : 0 < x.n) (he : x.a + x.n ≤ y.a + y.n) (hz : z ∈ restOf y x) : y.a ≤ z.a ∧ z.a + z.n ≤ y.a + y.n ∧ 0 < z.n ∧ (z.a + z.n ≤ x.a ∨ x.a + x.n ≤ z.a) := by
  unfold restOf at hz
  rcases List.mem_append.1 hz with h | h
  · split at h
    · have : z = ⟨y.a, x.a - y.a⟩ := by simpa using h
      subst this
      dsimp only
      omega
    · cases h
  · split at h
    · have : z = ⟨x.a + x.n, y.a + y.n - (x.a + x.n)⟩ := by simpa using h
      subst this
      dsimp only
      omega
    · cases h
theorem restOf_NFs {y x : Sp} (hn : 0 < x.n) : NFs (restOf y x) := by
  unfold restOf
  split <;> split <;> simp [NFs] <;> omega
theorem restOf_look {y x : Sp} (hn : 0 < x.n) (hx : y.a ≤ x.a) (he : x.a + x.n ≤ y.a + y.n) (i : Int) : memS (restOf y x) i ↔ (y.a ≤ i ∧ i < y.a + y.n) ∧ ¬ (x.a ≤ i ∧ i < x.a + x.n) := by
  unfold restOf
  rw [memS_append]
  by_cases h1 : y.a < x.a <;> by_cases h2 : x.a + x.n < y.a + y.n
  · rw [if_pos h1, if_pos h2]
    show ((y.a ≤ i ∧ i < y.a + (x.a - y.a)) ∨ False) ∨ ((x.a + x.n ≤ i ∧ i < x.a + x.n + (y.a + y.n - (x.a + x.n))) ∨ False) ↔ _
    simp only [or_false]
    omega
  · rw [if_pos h1, if_neg h2]
    show ((y.a ≤ i ∧ i < y.a + (x.a - y.a)) ∨ False) ∨ False ↔ _
    simp only [or_false]
    omega
  · rw [if_neg h1, if_pos h2]
    show False ∨ ((x.a + x.n ≤ i ∧ i < x.a + x.n + (y.a + y.n - (x.a + x.n))) ∨ False) ↔ _
    simp only [or_false, false_or]
    omega
  · rw [if_neg h1, if_neg h2]
    show False ∨ False ↔ _
    simp only [or_false, false_iff]
    omega

/-- Spans without one that lies in one of them. -/
theorem out_spec {L R : List Sp} {y x : Sp} (h : NFs (L ++ y :: R)) (hn : 0 < x.n) (hx : y.a ≤ x.a) (he : x.a + x.n ≤ y.a + y.n) :
    NFs (L ++ restOf y x ++ R) ∧ ∀ i, memS (L ++ restOf y x ++ R) i ↔ memS (L ++ y :: R) i ∧ ¬ (x.a ≤ i ∧ i < x.a + x.n) := by
  obtain ⟨hL, hyR, hLR⟩ := NFs_of_append h
  refine ⟨NFs_append (NFs_append hL (restOf_NFs hn) fun u hu z hz => ?_) hyR.tail fun u hu z hz => ?_, fun i => ?_⟩
  · have h1 := hLR u hu y List.mem_cons_self
    have h2 := restOf_mem hx hn he hz
    omega
  · rcases List.mem_append.1 hu with hu | hu
    · exact hLR u hu z (List.mem_cons_of_mem _ hz)
    · have h1 := hyR.after z hz
      have h2 := restOf_mem hx hn he hu
      omega
  · rw [memS_append, memS_append, restOf_look hn hx he, memS_append]
    have hLx : memS L i → ¬ (x.a ≤ i ∧ i < x.a + x.n) := by
      intro hi
      obtain ⟨u, hu, h1, h2⟩ := memS_iff.1 hi
      have := hLR u hu y List.mem_cons_self
      omega
    have hRx : memS R i → ¬ (x.a ≤ i ∧ i < x.a + x.n) := by
      intro hi
      obtain ⟨u, hu, h1, h2⟩ := memS_iff.1 hi
      have := hyR.after u hu
      omega
    show _ ↔ (memS L i ∨ ((y.a ≤ i ∧ i < y.a + y.n) ∨ memS R i)) ∧ _
    constructor
    · rintro ((h1 | h1) | h1)
      · exact ⟨.inl h1, hLx h1⟩
      · exact ⟨.inr (.inl h1.1), h1.2⟩
      · exact ⟨.inr (.inr h1), hRx h1⟩
    · rintro ⟨h1 | h1 | h1, h2⟩
      · exact .inl (.inl h1)
      · exact .inl (.inr ⟨h1, h2⟩)
      · exact .inr h1

/-- The spans that end at a sector, or ahead of it. -/
def ahead (l : List Sp) (s : Int) : List Sp := l.takeWhile fun x => decide (x.a + x.n ≤ s)
def behind (l : List Sp) (s : Int) : List Sp := l.dropWhile fun x => decide (x.a + x.n ≤ s)
theorem ahead_behind (l : List Sp) (s : Int) : ahead l s ++ behind l s = l := List.takeWhile_append_dropWhile
theorem ahead_end {l : List Sp} {s : Int} : ∀ x ∈ ahead l s, x.a + x.n ≤ s := by
  unfold ahead
  induction l with
  | nil => intro x hx; cases hx
  | cons y t ih =>
    intro x hx
    rw [List.takeWhile_cons] at hx
    split at hx
    · rename_i h
      rcases List.mem_cons.1 hx with rfl | hx
      · simpa using h
      · exact ih x hx
    · cases hx
theorem behind_head {l : List Sp} {s : Int} {y : Sp} {R : List Sp} (h : behind l s = y :: R) : s < y.a + y.n := by
  unfold behind at h
  have := List.head?_dropWhile_not (fun x : Sp => decide (x.a + x.n ≤ s)) l
  rw [h] at this
  simpa using this

/-- A span joined to those that it touches. -/
def joinTo (L R : List Sp) (x : Sp) : List Sp :=
  match L.getLast? with
  | some u => if u.a + u.n = x.a then L.dropLast ++ joinR ⟨u.a, u.n + x.n⟩ R else L ++ joinR x R
  | none => joinR x R
where joinR (x : Sp) : List Sp → List Sp
  | [] => [x]
  | y :: R => if x.a + x.n = y.a then ⟨x.a, x.n + y.n⟩ :: R else x :: y :: R

theorem joinR_spec {x : Sp} {R : List Sp} (hx : 0 < x.n) (hR : NFs R) (h : ∀ y ∈ R, x.a + x.n ≤ y.a) :
    NFs (joinTo.joinR x R) ∧ (∀ i, memS (joinTo.joinR x R) i ↔ (x.a ≤ i ∧ i < x.a + x.n) ∨ memS R i) ∧ ∀ z ∈ joinTo.joinR x R, x.a ≤ z.a := by
  cases R with
  | nil => exact ⟨hx, fun i => by simp [joinTo.joinR, memS], fun z hz => by simp [joinTo.joinR] at hz; rw [hz]; exact Int.le_refl _⟩
  | cons y R =>
    have hy := h y List.mem_cons_self
    have hy0 := hR.head
    rw [joinTo.joinR]
    split
    · rename_i he
      refine ⟨NFs.cons (by dsimp only; omega) hR.tail fun z hz => ?_, fun i => ?_, fun z hz => ?_⟩
      · have := hR.after z hz
        dsimp only
        omega
      · show ((x.a ≤ i ∧ i < x.a + (x.n + y.n)) ∨ memS R i) ↔ _ ∨ ((y.a ≤ i ∧ i < y.a + y.n) ∨ memS R i)
        constructor
        · rintro (h1 | h1)
          · by_cases h2 : i < x.a + x.n
            · exact .inl ⟨h1.1, h2⟩
            · exact .inr (.inl (by omega))
          · exact .inr (.inr h1)
        · rintro (h1 | h1 | h1)
          · exact .inl (by omega)
          · exact .inl (by omega)
          · exact .inr h1
      · rcases List.mem_cons.1 hz with rfl | hz
        · exact Int.le_refl _
        · have := hR.after z hz
          omega
    · rename_i he
      refine ⟨NFs.cons hx hR fun z hz => ?_, fun i => ?_, fun z hz => ?_⟩
      · rcases List.mem_cons.1 hz with rfl | hz
        · omega
        · have := hR.after z hz
          omega
      · exact Iff.rfl
      · rcases List.mem_cons.1 hz with rfl | hz
        · exact Int.le_refl _
        · have := h z hz
          omega

/-- Spans with one more, that none of them overlaps. -/
theorem in_spec {L R : List Sp} {x : Sp} (h : NFs (L ++ R)) (hx : 0 < x.n) (hL : ∀ u ∈ L, u.a + u.n ≤ x.a) (hR : ∀ y ∈ R, x.a + x.n ≤ y.a) :
    NFs (joinTo L R x) ∧ ∀ i, memS (joinTo L R x) i ↔ memS (L ++ R) i ∨ (x.a ≤ i ∧ i < x.a + x.n) := by
  obtain ⟨nL, nR, nLR⟩ := NFs_of_append h
  unfold joinTo
  cases hl : L.getLast? with
  | none =>
    have : L = [] := List.getLast?_eq_none_iff.1 hl
    subst this
    obtain ⟨h1, h2, _⟩ := joinR_spec hx nR hR
    refine ⟨h1, fun i => ?_⟩
    dsimp only
    rw [h2, List.nil_append]
    exact Or.comm
  | some u =>
    obtain ⟨M, rfl⟩ : ∃ M, L = M ++ [u] := ⟨_, memS_last hl⟩
    obtain ⟨nM, nu, nMu⟩ := NFs_of_append nL
    have hu := hL u (by simp)
    have hu0 : 0 < u.n := nu
    dsimp only
    split
    · rename_i he
      obtain ⟨h1, h2, h3⟩ := joinR_spec (x := ⟨u.a, u.n + x.n⟩) (by dsimp only; omega) nR (fun y hy => by have := hR y hy; dsimp only; omega)
      rw [List.dropLast_concat]
      refine ⟨NFs_append nM h1 fun z hz y hy => ?_, fun i => ?_⟩
      · have h4 := nMu z hz u (by simp)
        have h5 := h3 y hy
        dsimp only at h5
        omega
      · rw [memS_append, h2, memS_append, memS_append]
        show memS M i ∨ ((u.a ≤ i ∧ i < u.a + (u.n + x.n)) ∨ memS R i) ↔ ((memS M i ∨ ((u.a ≤ i ∧ i < u.a + u.n) ∨ False)) ∨ memS R i) ∨ (x.a ≤ i ∧ i < x.a + x.n)
        constructor
        · rintro (h4 | h4 | h4)
          · exact .inl (.inl (.inl h4))
          · by_cases h5 : i < u.a + u.n
            · exact .inl (.inl (.inr (.inl ⟨h4.1, h5⟩)))
            · exact .inr (by omega)
          · exact .inl (.inr h4)
        · rintro (((h4 | h4 | h4) | h4) | h4)
          · exact .inl h4
          · exact .inr (.inl (by omega))
          · exact h4.elim
          · exact .inr (.inr h4)
          · exact .inr (.inl (by omega))
    · rename_i he
      obtain ⟨h1, h2, h3⟩ := joinR_spec hx nR hR
      refine ⟨NFs_append nL h1 fun z hz y hy => ?_, fun i => ?_⟩
      · have h5 := h3 y hy
        rcases List.mem_append.1 hz with hz | hz
        · have := nMu z hz u (by simp)
          omega
        · have : z = u := by simpa using hz
          subst this
          omega
      · rw [memS_append (l := M ++ [u]) (m := R), memS_append, h2]
        constructor
        · rintro (h4 | h4 | h4)
          · exact .inl (.inl h4)
          · exact .inr h4
          · exact .inl (.inr h4)
        · rintro ((h4 | h4) | h4)
          · exact .inl h4
          · exact .inr (.inr h4)
          · exact .inr (.inl h4)

end Flag
namespace Flag

/-- What is left of a span without another one, wherever that lies. -/
def cutOf (y x : Sp) : List Sp :=
  if min (y.a + y.n) (x.a + x.n) ≤ max y.a x.a then [y]
  else (if y.a < max y.a x.a then [⟨y.a, max y.a x.a - y.a⟩] else []) ++ (if min (y.a + y.n) (x.a + x.n) < y.a + y.n then [⟨min (y.a + y.n) (x.a + x.n), y.a + y.n - min (y.a + y.n) (x.a + x.n)⟩] else [])
def cutS6 (l : List Sp) (x : Sp) : List Sp := l.flatMap fun y => cutOf y x

theorem cutOf_in {y x z : Sp} (hy : 0 < y.n) (hz : z ∈ cutOf y x) : y.a ≤ z.a ∧ z.a + z.n ≤ y.a + y.n ∧ 0 < z.n := by
  unfold cutOf at hz
  split at hz
  · have : z = y := by simpa using hz
    subst this
    omega
  · rcases List.mem_append.1 hz with h | h
    · split at h
      · have : z = ⟨y.a, max y.a x.a - y.a⟩ := by simpa using h
        subst this
        dsimp only
        omega
      · cases h
    · split at h
      · have : z = ⟨min (y.a + y.n) (x.a + x.n), y.a + y.n - min (y.a + y.n) (x.a + x.n)⟩ := by simpa using h
        subst this
        dsimp only
        omega
      · cases h
theorem cutOf_NFs {y x : Sp} (hy : 0 < y.n) : NFs (cutOf y x) := by
  unfold cutOf
  split
  · exact hy
  · split <;> split <;> simp [NFs] <;> omega
theorem cutOf_look {y x : Sp} (hx : 0 ≤ x.n) (i : Int) : memS (cutOf y x) i ↔ (y.a ≤ i ∧ i < y.a + y.n) ∧ ¬ (x.a ≤ i ∧ i < x.a + x.n) := by
  unfold cutOf
  split
  · show ((y.a ≤ i ∧ i < y.a + y.n) ∨ False) ↔ _
    simp only [or_false]
    omega
  · rw [memS_append]
    by_cases h1 : y.a < max y.a x.a <;> by_cases h2 : min (y.a + y.n) (x.a + x.n) < y.a + y.n
    · rw [if_pos h1, if_pos h2]
      show ((y.a ≤ i ∧ i < y.a + (max y.a x.a - y.a)) ∨ False) ∨ ((min (y.a + y.n) (x.a + x.n) ≤ i ∧ i < min (y.a + y.n) (x.a + x.n) + (y.a + y.n - min (y.a + y.n) (x.a + x.n))) ∨ False) ↔ _
      simp only [or_false]
      omega
    · rw [if_pos h1, if_neg h2]
      show ((y.a ≤ i ∧ i < y.a + (max y.a x.a - y.a)) ∨ False) ∨ False ↔ _
      simp only [or_false]
      omega
    · rw [if_neg h1, if_pos h2]
      show False ∨ ((min (y.a + y.n) (x.a + x.n) ≤ i ∧ i < min (y.a + y.n) (x.a + x.n) + (y.a + y.n - min (y.a + y.n) (x.a + x.n))) ∨ False) ↔ _
      simp only [or_false, false_or]
      omega
    · rw [if_neg h1, if_neg h2]
      show False ∨ False ↔ _
      simp only [or_false, false_iff]
      omega
theorem cutS6_spec {l : List Sp} {x : Sp} (h : NFs l) (hx : 0 ≤ x.n) : NFs (cutS6 l x) ∧ (∀ i, memS (cutS6 l x) i ↔ memS l i ∧ ¬ (x.a ≤ i ∧ i < x.a + x.n)) ∧ ∀ z ∈ cutS6 l x, ∃ y ∈ l, y.a ≤ z.a ∧ z.a + z.n ≤ y.a + y.n := by
  induction l with
  | nil => exact ⟨trivial, fun i => by simp [cutS6, memS], fun z hz => by cases hz⟩
  | cons y t ih =>
    obtain ⟨h1, h2, h3⟩ := ih h.tail
    have e : cutS6 (y :: t) x = cutOf y x ++ cutS6 t x := by simp [cutS6]
    rw [e]
    refine ⟨NFs_append (cutOf_NFs h.head) h1 fun u hu z hz => ?_, fun i => ?_, fun z hz => ?_⟩
    · obtain ⟨g1, g2, g3⟩ := cutOf_in h.head hu
      obtain ⟨v, hv, g4, g5⟩ := h3 z hz
      have := h.after v hv
      omega
    · rw [memS_append, cutOf_look hx, h2]
      show _ ↔ ((y.a ≤ i ∧ i < y.a + y.n) ∨ memS t i) ∧ _
      constructor
      · rintro (⟨a, b⟩ | ⟨a, b⟩)
        · exact ⟨.inl a, b⟩
        · exact ⟨.inr a, b⟩
      · rintro ⟨a | a, b⟩
        · exact .inl ⟨a, b⟩
        · exact .inr ⟨a, b⟩
    · rcases List.mem_append.1 hz with hz | hz
      · obtain ⟨g1, g2, g3⟩ := cutOf_in h.head hz
        exact ⟨y, List.mem_cons_self, g1, g2⟩
      · obtain ⟨v, hv, g⟩ := h3 z hz
        exact ⟨v, List.mem_cons_of_mem _ hv, g⟩

/-- What is free between used ones. -/
def gapStep (s : List Sp × Int) (x : Sp) : List Sp × Int := (if s.2 < x.a then s.1 ++ [⟨s.2, x.a - s.2⟩] else s.1, max s.2 (x.a + x.n))
def gapS (l : List Sp) (size : Int) : List Sp := ((l ++ [(⟨size, 0⟩ : Sp)]).foldl gapStep ([], 0)).1
structure Gap (s : List Sp × Int) (done : List Sp) : Prop where
  nf : NFs s.1
  lt : ∀ y ∈ s.1, y.a + y.n < s.2
  g0 : 0 ≤ s.2
  le : ∀ z ∈ done, z.a + z.n ≤ s.2
  at_ : s.2 = 0 ∨ ∃ z ∈ done, z.a + z.n = s.2
  mem : ∀ i, memS s.1 i ↔ (0 ≤ i ∧ i < s.2) ∧ ¬ memS done i
theorem Gap.nil : Gap ([], 0) [] := by
  refine ⟨trivial, fun y hy => (by cases hy), Int.le_refl _, fun z hz => (by cases hz), .inl rfl, fun i => ?_⟩
  show False ↔ (0 ≤ i ∧ i < 0) ∧ ¬ False
  simp only [not_false_iff, and_true, false_iff]
  omega
theorem Gap.step {s : List Sp × Int} {done : List Sp} {x : Sp} (h : Gap s done) (hx : 0 < x.n) (h0 : 0 ≤ x.a) (hs : ∀ z ∈ done, z.a ≤ x.a) : Gap (gapStep s x) (done ++ [x]) := by
  obtain ⟨g1, g2, g3, g4, g5, g6⟩ := h
  have hdone : ∀ i, memS done i → i < s.2 := by
    intro i hi
    obtain ⟨z, hz, a, b⟩ := memS_iff.1 hi
    have := g4 z hz
    omega
  have hmd : ∀ i, memS (done ++ [x]) i ↔ memS done i ∨ (x.a ≤ i ∧ i < x.a + x.n) := by
    intro i
    rw [memS_append]
    show _ ∨ ((x.a ≤ i ∧ i < x.a + x.n) ∨ False) ↔ _
    simp only [or_false]
  unfold gapStep
  refine ⟨?_, ?_, by dsimp only; omega, fun z hz => ?_, ?_, fun i => ?_⟩
  · dsimp only
    split
    · rename_i hc
      refine NFs_append g1 (show 0 < x.a - s.2 by omega) fun u hu z hz => ?_
      have : z = ⟨s.2, x.a - s.2⟩ := by simpa using hz
      subst this
      exact g2 u hu
    · exact g1
  · dsimp only
    intro y hy
    split at hy
    · rcases List.mem_append.1 hy with hy | hy
      · have := g2 y hy
        omega
      · have : y = ⟨s.2, x.a - s.2⟩ := by simpa using hy
        subst this
        dsimp only
        omega
    · have := g2 y hy
      omega
  · dsimp only
    rcases List.mem_append.1 hz with hz | hz
    · have := g4 z hz
      omega
    · have : z = x := by simpa using hz
      subst this
      omega
  · dsimp only
    by_cases hc : s.2 ≤ x.a + x.n
    · exact .inr ⟨x, by simp, by omega⟩
    · rcases g5 with g5 | ⟨z, hz, g5⟩
      · omega
      · exact .inr ⟨z, List.mem_append_left _ hz, by omega⟩
  · dsimp only
    rw [hmd]
    split
    · rename_i hc
      rw [memS_append, g6]
      show _ ∨ ((s.2 ≤ i ∧ i < s.2 + (x.a - s.2)) ∨ False) ↔ _
      simp only [or_false]
      constructor
      · rintro (⟨a, b⟩ | a)
        · exact ⟨by omega, fun c => c.elim b (fun c => by omega)⟩
        · exact ⟨by omega, fun c => c.elim (fun c => by have := hdone i c; omega) (fun c => by omega)⟩
      · rintro ⟨a, b⟩
        have b1 : ¬ memS done i := fun c => b (.inl c)
        have b2 : ¬ (x.a ≤ i ∧ i < x.a + x.n) := fun c => b (.inr c)
        by_cases c : i < s.2
        · exact .inl ⟨⟨a.1, c⟩, b1⟩
        · exact .inr (by omega)
    · rename_i hc
      rw [g6]
      constructor
      · rintro ⟨a, b⟩
        refine ⟨by omega, fun c => c.elim b (fun c => ?_)⟩
        rcases g5 with g5 | ⟨z, hz, g5⟩
        · omega
        · have := hs z hz
          exact b (memS_iff.2 ⟨z, hz, by omega, by omega⟩)
      · rintro ⟨a, b⟩
        have b1 : ¬ memS done i := fun c => b (.inl c)
        have b2 : ¬ (x.a ≤ i ∧ i < x.a + x.n) := fun c => b (.inr c)
        refine ⟨⟨a.1, ?_⟩, b1⟩
        by_cases c : i < s.2
        · exact c
        · exact absurd ⟨by omega, by omega⟩ b2
theorem Gap.fold {l : List Sp} : ∀ {s : List Sp × Int} {done : List Sp}, Gap s done → risingS l → (∀ z ∈ done, ∀ x ∈ l, z.a ≤ x.a) → (∀ x ∈ l, 0 < x.n ∧ 0 ≤ x.a) → Gap (l.foldl gapStep s) (done ++ l) := by
  induction l with
  | nil => intro s done h _ _ _; simpa using h
  | cons x t ih =>
    intro s done h hr hd hp
    have hr2 := List.pairwise_cons.1 hr
    have h1 := h.step (hp x List.mem_cons_self).1 (hp x List.mem_cons_self).2 (fun z hz => hd z hz x List.mem_cons_self)
    have h2 := ih h1 hr2.2 (fun z hz y hy => by
      rcases List.mem_append.1 hz with hz | hz
      · exact hd z hz y (List.mem_cons_of_mem _ hy)
      · have : z = x := by simpa using hz
        subst this
        exact hr2.1 y hy) (fun y hy => hp y (List.mem_cons_of_mem _ hy))
    rw [List.foldl_cons]
    simpa using h2
theorem gapS_spec {l : List Sp} {size : Int} (h0 : 0 ≤ size) (hr : risingS l) (hp : ∀ x ∈ l, 0 < x.n ∧ 0 ≤ x.a ∧ x.a + x.n ≤ size) :
    NFs (gapS l size) ∧ ∀ i, memS (gapS l size) i ↔ (0 ≤ i ∧ i < size) ∧ ¬ memS l i := by
  have h := Gap.fold (l := l) Gap.nil hr (fun z hz => by cases hz) (fun x hx => ⟨(hp x hx).1, (hp x hx).2.1⟩)
  rw [List.nil_append] at h
  unfold gapS
  rw [List.foldl_append, List.foldl_cons, List.foldl_nil]
  obtain ⟨g1, g2, g3, g4, g5, g6⟩ := h
  generalize l.foldl gapStep ([], 0) = s at g1 g2 g3 g4 g5 g6 ⊢
  have hs : s.2 ≤ size := by
    rcases g5 with g5 | ⟨z, hz, g5⟩
    · omega
    · have := (hp z hz).2.2
      omega
  have hdone : ∀ i, memS l i → i < s.2 := by
    intro i hi
    obtain ⟨z, hz, a, b⟩ := memS_iff.1 hi
    have := g4 z hz
    omega
  unfold gapStep
  dsimp only
  split
  · rename_i hc
    refine ⟨NFs_append g1 (show 0 < size - s.2 by omega) fun u hu z hz => ?_, fun i => ?_⟩
    · have : z = ⟨s.2, size - s.2⟩ := by simpa using hz
      subst this
      exact g2 u hu
    · rw [memS_append, g6]
      show _ ∨ ((s.2 ≤ i ∧ i < s.2 + (size - s.2)) ∨ False) ↔ _
      simp only [or_false]
      constructor
      · rintro (⟨a, b⟩ | a)
        · exact ⟨by omega, b⟩
        · exact ⟨by omega, fun c => by have := hdone i c; omega⟩
      · rintro ⟨a, b⟩
        by_cases c : i < s.2
        · exact .inl ⟨⟨a.1, c⟩, b⟩
        · exact .inr (by omega)
  · rename_i hc
    refine ⟨g1, fun i => ?_⟩
    rw [g6]
    have : s.2 = size := by omega
    rw [this]

/-- As the document says it: one used span behind the other. -/
theorem cutFold_spec {used : List Sp} : ∀ {l : List Sp}, NFs l → (∀ x ∈ used, 0 < x.n) → NFs (used.foldl cutS6 l) ∧ ∀ i, memS (used.foldl cutS6 l) i ↔ memS l i ∧ ¬ memS used i := by
  induction used with
  | nil => intro l h _; exact ⟨h, fun i => by simp [memS]⟩
  | cons x t ih =>
    intro l h hp
    obtain ⟨h1, h2, _⟩ := cutS6_spec h (x := x) (by have := hp x List.mem_cons_self; omega)
    obtain ⟨h3, h4⟩ := ih h1 (fun y hy => hp y (List.mem_cons_of_mem _ hy))
    refine ⟨h3, fun i => ?_⟩
    rw [List.foldl_cons, h4, h2]
    show _ ↔ memS l i ∧ ¬ ((x.a ≤ i ∧ i < x.a + x.n) ∨ memS t i)
    constructor
    · rintro ⟨⟨a, b⟩, c⟩; exact ⟨a, fun d => d.elim b c⟩
    · rintro ⟨a, b⟩; exact ⟨⟨a, fun c => b (.inl c)⟩, fun c => b (.inr c)⟩

end Flag
namespace Flag

/-- How many sectors of a span lie below a line. -/
def room (line : Int) (x : Sp) : Int := min (x.a + x.n) line - x.a
def minFrom (line : Int) (m : Sp) (t : List Sp) : Sp := t.foldl (fun m x => if room line x < room line m then x else m) m
def fits6 (n line : Int) (l : List Sp) : List Sp := l.filter fun x => decide (n ≤ room line x)
def bestS (l : List Sp) (n line : Int) : Option Sp := match fits6 n line l with
  | [] => none
  | x :: t => some (minFrom line x t)
theorem minFrom_spec (line : Int) (t : List Sp) : ∀ m : Sp, (∀ x ∈ t, m.a ≤ x.a) → risingS t →
    (minFrom line m t = m ∨ minFrom line m t ∈ t) ∧ ∀ x, (x = m ∨ x ∈ t) → room line (minFrom line m t) < room line x ∨ (room line (minFrom line m t) = room line x ∧ (minFrom line m t).a ≤ x.a) := by
  induction t with
  | nil => intro m _ _; exact ⟨.inl rfl, fun x hx => by
      have : x = m := by simpa using hx
      rw [this]; exact .inr ⟨rfl, Int.le_refl _⟩⟩
  | cons y t ih =>
    intro m hm hr
    have hr2 := List.pairwise_cons.1 hr
    have hmy := hm y List.mem_cons_self
    have e : minFrom line m (y :: t) = minFrom line (if room line y < room line m then y else m) t := rfl
    rw [e]
    by_cases h : room line y < room line m
    · rw [if_pos h]
      obtain ⟨h1, h2⟩ := ih y hr2.1 hr2.2
      refine ⟨.inr (h1.elim (fun a => by rw [a]; exact List.mem_cons_self) (fun a => List.mem_cons_of_mem _ a)), fun x hx => ?_⟩
      rcases hx with rfl | hx
      · rcases h2 y (.inl rfl) with h3 | h3
        · exact .inl (by omega)
        · exact .inl (by omega)
      · rcases List.mem_cons.1 hx with rfl | hx
        · exact h2 x (.inl rfl)
        · exact h2 x (.inr hx)
    · rw [if_neg h]
      obtain ⟨h1, h2⟩ := ih m (fun x hx => hm x (List.mem_cons_of_mem _ hx)) hr2.2
      refine ⟨h1.elim .inl (fun a => .inr (List.mem_cons_of_mem _ a)), fun x hx => ?_⟩
      rcases hx with rfl | hx
      · exact h2 x (.inl rfl)
      · rcases List.mem_cons.1 hx with rfl | hx
        · rcases h2 m (.inl rfl) with h3 | h3
          · exact .inl (by omega)
          · by_cases h4 : room line m = room line x
            · exact .inr ⟨by omega, by omega⟩
            · exact .inl (by omega)
        · exact h2 x (.inr hx)
theorem NFs.rising {l : List Sp} (h : NFs l) : risingS l := by
  induction l with
  | nil => exact List.Pairwise.nil
  | cons x t ih => exact List.pairwise_cons.2 ⟨fun y hy => by have := h.after y hy; have := h.head; omega, ih h.tail⟩
theorem bestS_some {l : List Sp} {n line : Int} {y : Sp} (hl : risingS l) (h : bestS l n line = some y) :
    y ∈ l ∧ n ≤ room line y ∧ ∀ x ∈ l, n ≤ room line x → room line y < room line x ∨ (room line y = room line x ∧ y.a ≤ x.a) := by
  unfold bestS at h
  have hf : risingS (fits6 n line l) := List.Pairwise.filter _ hl
  have hmem : ∀ x, x ∈ fits6 n line l ↔ x ∈ l ∧ n ≤ room line x := fun x => by unfold fits6; rw [List.mem_filter]; simp
  cases hc : fits6 n line l with
  | nil => rw [hc] at h; cases h
  | cons x t =>
    rw [hc] at h hf hmem
    have h := Option.some.inj h
    have hf2 := List.pairwise_cons.1 hf
    obtain ⟨h1, h2⟩ := minFrom_spec line t x hf2.1 hf2.2
    rw [h] at h1 h2
    have hy : y ∈ x :: t := h1.elim (fun a => by rw [a]; exact List.mem_cons_self) (fun a => List.mem_cons_of_mem _ a)
    obtain ⟨h3, h4⟩ := (hmem y).1 hy
    refine ⟨h3, h4, fun z hz hzn => ?_⟩
    have h5 := (hmem z).2 ⟨hz, hzn⟩
    exact h2 z (List.mem_cons.1 h5)
theorem bestS_none {l : List Sp} {n line : Int} (h : bestS l n line = none) : ∀ x ∈ l, room line x < n := by
  unfold bestS at h
  cases hc : fits6 n line l with
  | nil =>
    intro x hx
    by_cases c : n ≤ room line x
    · have : x ∈ fits6 n line l := by unfold fits6; rw [List.mem_filter]; exact ⟨hx, by simpa using c⟩
      rw [hc] at this
      cases this
    · omega
  | cons x t => rw [hc] at h; cases h

end Flag
namespace Flag

/-- P6.1: may free spans be? -/
def restF (size : Int) : Int → List Sp → Bool
  | _, [] => true
  | e, y :: t => decide (0 < y.n) && decide (0 ≤ y.a) && decide (y.a + y.n ≤ size) && decide (e < y.a) && restF size (y.a + y.n) t
structure Ins (size : Int) (x : Sp) : Prop where
  n : 0 < x.n
  a : 0 ≤ x.a
  e : x.a + x.n ≤ size
theorem restF_iff {size : Int} {l : List Sp} : ∀ {e : Int}, restF size e l = true ↔ (∀ y ∈ l, Ins size y ∧ e < y.a) ∧ NFs l := by
  induction l with
  | nil => intro e; simp [restF, NFs]
  | cons y t ih =>
    intro e
    simp only [restF, Bool.and_eq_true, decide_eq_true_eq, ih]
    constructor
    · rintro ⟨⟨⟨⟨h1, h2⟩, h3⟩, h4⟩, h5, h6⟩
      refine ⟨fun z hz => ?_, NFs.cons h1 h6 fun z hz => (h5 z hz).2⟩
      rcases List.mem_cons.1 hz with rfl | hz
      · exact ⟨⟨h1, h2, h3⟩, h4⟩
      · have := (h5 z hz).2
        exact ⟨(h5 z hz).1, by omega⟩
    · rintro ⟨h1, h2⟩
      obtain ⟨⟨g1, g2, g3⟩, g4⟩ := h1 y List.mem_cons_self
      exact ⟨⟨⟨⟨g1, g2⟩, g3⟩, g4⟩, fun z hz => ⟨(h1 z (List.mem_cons_of_mem _ hz)).1, h2.after z hz⟩, h2.tail⟩
structure Free6 (size : Int) (l : List Sp) : Prop where
  s0 : 0 ≤ size
  s1 : size ≤ 65536
  len : l.length ≤ 1024
  ins : ∀ y ∈ l, Ins size y
  nf : NFs l
def checkF (size : Int) (l : List Sp) : Int := if (0 ≤ size ∧ size ≤ 65536) ∧ l.length ≤ 1024 ∧ restF size (-1) l = true then 0 else 9
theorem checkF_ok {size : Int} {l : List Sp} : checkF size l = 0 ↔ Free6 size l := by
  unfold checkF
  constructor
  · intro h
    split at h
    · rename_i hc
      obtain ⟨h1, h2⟩ := restF_iff.1 hc.2.2
      exact ⟨hc.1.1, hc.1.2, hc.2.1, fun y hy => (h1 y hy).1, h2⟩
    · simp at h
  · intro h
    rw [if_pos ⟨⟨h.s0, h.s1⟩, h.len, restF_iff.2 ⟨fun y hy => ⟨h.ins y hy, by have := (h.ins y hy).a; omega⟩, h.nf⟩⟩]
theorem checkF_or (size : Int) (l : List Sp) : checkF size l = 0 ∨ checkF size l = 9 := by unfold checkF; split <;> simp

end Flag

end Go.Proofs.Ytkkfkdncddbaeaa.Fn
