-- Told by hand; its numbers filled in by a program of this session.
import Derived.Test.YtkkfkdncddbaeaaFnBase
import Derived.Test.YtkkfkdncddbaeaaHPure
namespace Go.Proofs.Ytkkfkdncddbaeaa.Fn
open Go.RowKit Go.Proofs.YtkkfkdncddbaeaaW.PrintWords Go.Proofs.YtkkfkdncddbaeaaW.PrintLast Go.Proofs.YtkkfkdncddbaeaaW.PrintMore
attribute [local go_sem] max2_int min2_int max_two min_two max_three min_three max_four min_four   -- for this text's walks alone
set_option linter.unusedVariables false
set_option linter.unusedSimpArgs false

namespace Flag

/-- A span: sectors from a on. -/
structure Sp where
  a : Int
  n : Int

def Sp.ex (s : Sp) : Ex := ⟨s.a, -1, s.n⟩

/-- Is a sector in one of them? -/
def memS : List Sp → Int → Prop
  | [], _ => False
  | x :: t, i => (x.a ≤ i ∧ i < x.a + x.n) ∨ memS t i
instance memS_dec : ∀ (l : List Sp) (i : Int), Decidable (memS l i)
  | [], _ => inferInstanceAs (Decidable False)
  | x :: t, i => by
    have := memS_dec t i
    exact inferInstanceAs (Decidable ((x.a ≤ i ∧ i < x.a + x.n) ∨ memS t i))

theorem memS_iff {l : List Sp} {i : Int} : memS l i ↔ ∃ x ∈ l, x.a ≤ i ∧ i < x.a + x.n := by
  induction l with
  | nil => simp [memS]
  | cons x t ih => simp [memS, ih]

theorem memS_append {l m : List Sp} {i : Int} : memS (l ++ m) i ↔ memS l i ∨ memS m i := by
  simp only [memS_iff, List.mem_append]
  constructor
  · rintro ⟨x, hx | hx, h⟩
    · exact .inl ⟨x, hx, h⟩
    · exact .inr ⟨x, hx, h⟩
  · rintro (⟨x, hx, h⟩ | ⟨x, hx, h⟩)
    · exact ⟨x, .inl hx, h⟩
    · exact ⟨x, .inr hx, h⟩

theorem lookE_sp (l : List Sp) (i : Int) : lookE (l.map Sp.ex) i = if memS l i then some (-1) else none := by
  induction l with
  | nil => simp [lookE, memS]
  | cons x t ih =>
    rw [List.map_cons, lookE, ih]
    have e : valAt x.ex i = -1 := by simp [valAt, Sp.ex]
    rw [e]
    show (if x.a ≤ i ∧ i < x.a + x.n then _ else _) = _
    by_cases h : x.a ≤ i ∧ i < x.a + x.n
    · rw [if_pos h, if_pos (.inl h)]
    · rw [if_neg h]
      by_cases h2 : memS t i
      · rw [if_pos h2, if_pos (.inr h2)]
      · rw [if_neg h2, if_neg (fun h3 => h3.elim h h2)]

/-- Free spans in normal form: rising, a gap between two. -/
def NFs : List Sp → Prop
  | [] => True
  | [x] => 0 < x.n
  | x :: y :: t => 0 < x.n ∧ x.a + x.n < y.a ∧ NFs (y :: t)

theorem NFs_iff : ∀ {l : List Sp}, NFs l ↔ NF (l.map Sp.ex)
  | [] => by simp [NFs, NF]
  | [x] => by simp [NFs, NF, Sp.ex]
  | x :: y :: t => by
    have ih := @NFs_iff (y :: t)
    simp only [NFs, List.map_cons, NF] at ih ⊢
    rw [ih]
    simp only [Sp.ex, goesOn, okE]
    constructor
    · rintro ⟨h1, h2, h3⟩
      exact ⟨h1, by omega, by omega, h3⟩
    · rintro ⟨h1, h2, h3, h4⟩
      have h5 : x.a + x.n ≠ y.a := fun e => h3 ⟨e, .inl (by simp)⟩
      exact ⟨h1, by omega, h4⟩

theorem ex_inj {l m : List Sp} (h : l.map Sp.ex = m.map Sp.ex) : l = m := by
  induction l generalizing m with
  | nil => cases m <;> simp_all
  | cons x t ih =>
    cases m with
    | nil => simp at h
    | cons y u =>
      simp only [List.map_cons, List.cons.injEq] at h
      obtain ⟨h1, h2⟩ := h
      have : x = y := by
        cases x
        cases y
        simp only [Sp.ex, Ex.mk.injEq] at h1
        simp [h1.1, h1.2.2]
      rw [this, ih h2]

theorem NFs.ext {l m : List Sp} (hl : NFs l) (hm : NFs m) (h : ∀ i, memS l i ↔ memS m i) : l = m := by
  refine ex_inj (NF.ext (NFs_iff.1 hl) (NFs_iff.1 hm) fun i => ?_)
  rw [lookE_sp, lookE_sp]
  by_cases h1 : memS l i
  · rw [if_pos h1, if_pos ((h i).1 h1)]
  · rw [if_neg h1, if_neg (fun h2 => h1 ((h i).2 h2))]

theorem NFs.head {x : Sp} {t : List Sp} (h : NFs (x :: t)) : 0 < x.n := by
  cases t with
  | nil => exact h
  | cons y t => exact h.1
theorem NFs.tail {x : Sp} {t : List Sp} (h : NFs (x :: t)) : NFs t := by
  cases t with
  | nil => trivial
  | cons y t => exact h.2.2
theorem NFs.after {x : Sp} {t : List Sp} (h : NFs (x :: t)) : ∀ y ∈ t, x.a + x.n < y.a := by
  induction t generalizing x with
  | nil => intro y hy; cases hy
  | cons z t ih =>
    intro y hy
    cases hy with
    | head => exact h.2.1
    | tail _ hy =>
      have h1 := ih h.tail y hy
      have h2 := h.2.1
      have h3 := h.tail.head
      omega
theorem NFs.cons {x : Sp} {t : List Sp} (hx : 0 < x.n) (ht : NFs t) (h : ∀ y ∈ t, x.a + x.n < y.a) : NFs (x :: t) := by
  cases t with
  | nil => exact hx
  | cons y t => exact ⟨hx, h y List.mem_cons_self, ht⟩
theorem NFs.all {l : List Sp} (h : NFs l) : ∀ x ∈ l, 0 < x.n := by
  induction l with
  | nil => intro x hx; cases hx
  | cons y t ih =>
    intro x hx
    cases hx with
    | head => exact h.head
    | tail _ hx => exact ih h.tail x hx
theorem NFs_append {l m : List Sp} (hl : NFs l) (hm : NFs m) (h : ∀ x ∈ l, ∀ y ∈ m, x.a + x.n < y.a) : NFs (l ++ m) := by
  induction l with
  | nil => exact hm
  | cons x t ih =>
    refine NFs.cons hl.head (ih hl.tail fun z hz => h z (List.mem_cons_of_mem _ hz)) fun y hy => ?_
    rcases List.mem_append.1 hy with hy | hy
    · exact hl.after y hy
    · exact h x List.mem_cons_self y hy
theorem NFs_of_append {l m : List Sp} (h : NFs (l ++ m)) : NFs l ∧ NFs m ∧ ∀ x ∈ l, ∀ y ∈ m, x.a + x.n < y.a := by
  induction l with
  | nil => exact ⟨trivial, h, fun x hx => by cases hx⟩
  | cons x t ih =>
    obtain ⟨h1, h2, h3⟩ := ih h.tail
    refine ⟨NFs.cons h.head h1 fun y hy => h.after y (List.mem_append_left _ hy), h2, fun z hz y hy => ?_⟩
    cases hz with
    | head => exact h.after y (List.mem_append_right _ hy)
    | tail _ hz => exact h3 z hz y hy

theorem memS_last {L : List Sp} {u : Sp} (h : L.getLast? = some u) : L = L.dropLast ++ [u] := by
  have hne : L ≠ [] := by rintro rfl; simp at h
  have h2 := List.dropLast_concat_getLast hne
  rw [List.getLast?_eq_some_getLast hne] at h
  injection h with h
  rw [h] at h2
  exact h2.symm

end Flag
namespace Flag

/-- One span more behind rising ones: it goes into the last one, if it touches it. -/
def joinStep (out : List Sp) (x : Sp) : List Sp :=
  match out.getLast? with
  | none => [x]
  | some y => if x.a ≤ y.a + y.n then out.dropLast ++ [⟨y.a, max y.n (x.a + x.n - y.a)⟩] else out ++ [x]
def joinS (l : List Sp) : List Sp := l.foldl joinStep []
def risingS (l : List Sp) : Prop := l.Pairwise fun a b => a.a ≤ b.a

theorem joinStep_spec {out : List Sp} {x : Sp} (h : NFs out) (hb : ∀ y ∈ out, y.a ≤ x.a) (hx : 0 < x.n) :
    NFs (joinStep out x) ∧ (∀ i, memS (joinStep out x) i ↔ memS out i ∨ (x.a ≤ i ∧ i < x.a + x.n)) ∧ ∀ y ∈ joinStep out x, y.a ≤ x.a := by
  unfold joinStep
  cases hl : out.getLast? with
  | none =>
    have : out = [] := List.getLast?_eq_none_iff.1 hl
    subst this
    refine ⟨hx, fun i => by simp [memS], fun y hy => ?_⟩
    have : y = x := by simpa using hy
    rw [this]
    exact Int.le_refl _
  | some y =>
    obtain ⟨m, rfl⟩ : ∃ m, out = m ++ [y] := ⟨_, memS_last hl⟩
    obtain ⟨hm, hy, hmy⟩ := NFs_of_append h
    have hy0 : 0 < y.n := hy
    have hyx := hb y (by simp)
    dsimp only
    split
    · rename_i hc
      rw [List.dropLast_concat]
      refine ⟨NFs_append hm (show 0 < max y.n (x.a + x.n - y.a) by omega) fun u hu z hz => ?_, fun i => ?_, fun z hz => ?_⟩
      · have : z = ⟨y.a, max y.n (x.a + x.n - y.a)⟩ := by simpa using hz
        subst this
        exact hmy u hu y (by simp)
      · rw [memS_append, memS_append]
        show memS m i ∨ ((y.a ≤ i ∧ i < y.a + max y.n (x.a + x.n - y.a)) ∨ False) ↔ (memS m i ∨ ((y.a ≤ i ∧ i < y.a + y.n) ∨ False)) ∨ (x.a ≤ i ∧ i < x.a + x.n)
        simp only [or_false]
        constructor
        · rintro (h1 | h1)
          · exact .inl (.inl h1)
          · by_cases h2 : i < y.a + y.n
            · exact .inl (.inr ⟨h1.1, h2⟩)
            · exact .inr (by omega)
        · rintro ((h1 | h1) | h1)
          · exact .inl h1
          · exact .inr (by omega)
          · exact .inr (by omega)
      · rcases List.mem_append.1 hz with hz | hz
        · exact hb z (List.mem_append_left _ hz)
        · have : z = ⟨y.a, max y.n (x.a + x.n - y.a)⟩ := by simpa using hz
          subst this
          exact hyx
    · rename_i hc
      refine ⟨NFs_append h (show NFs [x] from hx) fun u hu z hz => ?_, fun i => ?_, fun z hz => ?_⟩
      · have : z = x := by simpa using hz
        subst this
        rcases List.mem_append.1 hu with hu | hu
        · have := hmy u hu y (by simp)
          omega
        · have : u = y := by simpa using hu
          subst this
          omega
      · rw [memS_append (l := m ++ [y]) (m := [x])]
        show _ ∨ ((x.a ≤ i ∧ i < x.a + x.n) ∨ False) ↔ _
        simp only [or_false]
      · rcases List.mem_append.1 hz with hz | hz
        · exact hb z hz
        · have : z = x := by simpa using hz
          rw [this]
          exact Int.le_refl _

theorem joinS_fold {l : List Sp} : ∀ {out : List Sp}, NFs out → (∀ y ∈ out, ∀ x ∈ l, y.a ≤ x.a) → risingS l → (∀ x ∈ l, 0 < x.n) →
    NFs (l.foldl joinStep out) ∧ ∀ i, memS (l.foldl joinStep out) i ↔ memS out i ∨ memS l i := by
  induction l with
  | nil => intro out h _ _ _; exact ⟨h, fun i => by simp [memS]⟩
  | cons x t ih =>
    intro out h hb hr hp
    have hr2 := List.pairwise_cons.1 hr
    obtain ⟨h1, h2, h3⟩ := joinStep_spec h (fun y hy => hb y hy x List.mem_cons_self) (hp x List.mem_cons_self)
    obtain ⟨h4, h5⟩ := ih h1 (fun y hy z hz => by have := h3 y hy; have := hr2.1 z hz; omega) hr2.2 (fun z hz => hp z (List.mem_cons_of_mem _ hz))
    refine ⟨h4, fun i => ?_⟩
    rw [List.foldl_cons, h5, h2]
    show _ ↔ memS out i ∨ ((x.a ≤ i ∧ i < x.a + x.n) ∨ memS t i)
    exact or_assoc
theorem joinS_spec {l : List Sp} (hr : risingS l) (hp : ∀ x ∈ l, 0 < x.n) : NFs (joinS l) ∧ ∀ i, memS (joinS l) i ↔ memS l i := by
  obtain ⟨h1, h2⟩ := joinS_fold (out := []) trivial (fun y hy => by cases hy) hr hp
  exact ⟨h1, fun i => by rw [joinS, h2]; simp [memS]⟩

theorem memS_perm {l m : List Sp} (h : l.Perm m) (i : Int) : memS l i ↔ memS m i := by
  rw [memS_iff, memS_iff]
  constructor
  · rintro ⟨x, hx, h1⟩; exact ⟨x, h.mem_iff.1 hx, h1⟩
  · rintro ⟨x, hx, h1⟩; exact ⟨x, h.mem_iff.2 hx, h1⟩
/-- However the ties were ordered: one answer. -/
theorem joinS_perm {l m : List Sp} (h : l.Perm m) (hl : risingS l) (hm : risingS m) (hp : ∀ x ∈ l, 0 < x.n) : joinS l = joinS m := by
  obtain ⟨h1, h2⟩ := joinS_spec hl hp
  obtain ⟨h3, h4⟩ := joinS_spec hm (fun x hx => hp x (h.mem_iff.2 hx))
  refine NFs.ext h1 h3 fun i => ?_
  rw [h2, h4]
  exact memS_perm h i

end Flag

end Go.Proofs.Ytkkfkdncddbaeaa.Fn
