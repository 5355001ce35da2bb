-- Told by hand; its numbers filled in by a program of this session.
import Derived.Test.YtkkfkdncddbaeaaFnBase
import Derived.Test.YtkkfkdncddbaeaaHPureS
namespace Go.Proofs.Ytkkfkdncddbaeaa.Fn
open Go.RowKit Go.Proofs.YtkkfkdncddbaeaaW.PrintWords Go.Proofs.YtkkfkdncddbaeaaW.PrintLast Go.Proofs.YtkkfkdncddbaeaaW.PrintMore
attribute [local go_sem] max2_int min2_int max_two min_two max_three min_three max_four min_four   -- for this text's walks alone
set_option linter.unusedVariables false
set_option linter.unusedSimpArgs false

namespace Flag

/-! Taking spans and freeing them, in plain lists. -/
def fullF (size : Int) (l : List Sp) : Int × List Sp × Int := if (l.length : Int) > 1024 then (0, [], 51) else (size, l, 0)
def takeG (size : Int) (l : List Sp) (x : Sp) : Int × List Sp × Int :=
  match behind l x.a with
  | [] => (0, [], 72)
  | y :: R => if y.a > x.a ∨ y.a + y.n < x.a + x.n then (0, [], 72) else fullF size (ahead l x.a ++ restOf y x ++ R)
def freeG (size : Int) (l : List Sp) (x : Sp) : Int × List Sp × Int :=
  match behind l x.a with
  | [] => fullF size (joinTo (ahead l x.a) [] x)
  | y :: R => if y.a < x.a + x.n then (0, [], 6) else fullF size (joinTo (ahead l x.a) (y :: R) x)
def insB (size : Int) (x : Sp) : Bool := decide (0 < x.n ∧ 0 ≤ x.a ∧ x.a + x.n ≤ size)
theorem insB_iff {size : Int} {x : Sp} : insB size x = true ↔ Ins size x := by
  unfold insB
  rw [decide_eq_true_eq]
  exact ⟨fun h => ⟨h.1, h.2.1, h.2.2⟩, fun h => ⟨h.n, h.a, h.e⟩⟩
def takeF (size : Int) (l : List Sp) (x : Sp) : Int × List Sp × Int := if checkF size l = 0 then (if insB size x = true then takeG size l x else (0, [], 4)) else (0, [], checkF size l)
def freeF (size : Int) (l : List Sp) (x : Sp) : Int × List Sp × Int := if checkF size l = 0 then (if insB size x = true then freeG size l x else (0, [], 4)) else (0, [], checkF size l)

theorem split_NFs {l : List Sp} (h : NFs l) (s : Int) : NFs (ahead l s ++ behind l s) := by rw [ahead_behind]; exact h
theorem memS_split (l : List Sp) (s i : Int) : memS l i ↔ memS (ahead l s) i ∨ memS (behind l s) i := by rw [← memS_append, ahead_behind]
theorem ahead_no {l : List Sp} {s i : Int} (h : s ≤ i) : ¬ memS (ahead l s) i := by
  intro hm
  obtain ⟨u, hu, h1, h2⟩ := memS_iff.1 hm
  have := ahead_end u hu
  omega
theorem behind_is {l : List Sp} (h : NFs l) {y : Sp} {s : Int} (hy : y ∈ l) (h1 : y.a ≤ s) (h2 : s < y.a + y.n) : ∃ R, behind l s = y :: R := by
  have hm : y ∈ ahead l s ++ behind l s := by rw [ahead_behind]; exact hy
  rcases List.mem_append.1 hm with hm | hm
  · have := ahead_end y hm; omega
  · cases hb : behind l s with
    | nil => rw [hb] at hm; cases hm
    | cons z R =>
      rw [hb] at hm
      rcases List.mem_cons.1 hm with rfl | hm
      · exact ⟨R, rfl⟩
      · have h3 := (NFs_of_append (split_NFs h s)).2.1
        rw [hb] at h3
        have h4 := h3.after y hm
        have h5 := behind_head hb
        omega
/-- A sector that is not free: the first span behind it begins behind it. -/
theorem behind_out {l : List Sp} {s : Int} (hn : ¬ memS l s) {y : Sp} {R : List Sp} (hb : behind l s = y :: R) : s < y.a := by
  have h1 := behind_head hb
  by_cases h2 : s < y.a
  · exact h2
  · exfalso
    apply hn
    rw [memS_split l s, hb]
    exact .inr (.inl ⟨by omega, h1⟩)
theorem takeG_busy {size : Int} {l : List Sp} {x : Sp} (hn : ¬ memS l x.a) : takeG size l x = (0, [], 72) := by
  unfold takeG
  cases hb : behind l x.a with
  | nil => rfl
  | cons y R =>
    have := behind_out hn hb
    simp only []
    rw [if_pos (.inl (by omega))]
/-- Taking a span that lies in a free one. -/
theorem takeG_in {size : Int} {l : List Sp} {x y : Sp} (h : NFs l) (hx : 0 < x.n) (hy : y ∈ l) (h1 : y.a ≤ x.a) (h2 : x.a + x.n ≤ y.a + y.n) :
    ∃ m, takeG size l x = fullF size m ∧ NFs m ∧ (∀ i, memS m i ↔ memS l i ∧ ¬ (x.a ≤ i ∧ i < x.a + x.n)) ∧ m.length ≤ l.length + 1 ∧ (y.a = x.a → m.length ≤ l.length) := by
  obtain ⟨R, hR⟩ := behind_is h hy h1 (by omega)
  refine ⟨ahead l x.a ++ restOf y x ++ R, ?_, ?_⟩
  · unfold takeG
    rw [hR]
    simp only []
    rw [if_neg (by omega)]
  · have hs := split_NFs h x.a
    rw [hR] at hs
    obtain ⟨a1, a2⟩ := out_spec hs hx h1 h2
    have hl : l.length = (ahead l x.a).length + (R.length + 1) := by
      have := congrArg List.length (ahead_behind l x.a)
      rw [hR, List.length_append, List.length_cons] at this
      omega
    refine ⟨a1, fun i => ?_, ?_, fun he => ?_⟩
    · rw [a2, ← hR, ahead_behind]
    · have : (restOf y x).length ≤ 2 := by unfold restOf; split <;> split <;> simp
      rw [List.length_append, List.length_append]
      omega
    · have : (restOf y x).length ≤ 1 := by unfold restOf; rw [if_neg (by omega)]; split <;> simp
      rw [List.length_append, List.length_append]
      omega
theorem joinR_len (x : Sp) (R : List Sp) : (joinTo.joinR x R).length ≤ R.length + 1 := by
  cases R with
  | nil => simp [joinTo.joinR]
  | cons y R => rw [joinTo.joinR]; split <;> simp
theorem joinTo_len (L R : List Sp) (x : Sp) : (joinTo L R x).length ≤ L.length + R.length + 1 := by
  unfold joinTo
  split
  · split
    · have := joinR_len ⟨‹Sp›.a, ‹Sp›.n + x.n⟩ R
      rw [List.length_append, List.length_dropLast]
      omega
    · have := joinR_len x R
      rw [List.length_append]; omega
  · have := joinR_len x R
    omega
/-- Freeing a span of which no sector is free. -/
theorem freeG_in {size : Int} {l : List Sp} {x : Sp} (h : NFs l) (hx : 0 < x.n) (hn : ∀ i, x.a ≤ i → i < x.a + x.n → ¬ memS l i) :
    ∃ m, freeG size l x = fullF size m ∧ NFs m ∧ (∀ i, memS m i ↔ memS l i ∨ (x.a ≤ i ∧ i < x.a + x.n)) ∧ m.length ≤ l.length + 1 := by
  have hs := split_NFs h x.a
  have hB : ∀ y ∈ behind l x.a, x.a + x.n ≤ y.a := by
    intro y hy
    have hnf := (NFs_of_append hs).2.1
    have h0 : 0 < y.n := hnf.all y hy
    have hyl : memS l y.a := by rw [memS_split l x.a]; exact .inr (memS_iff.2 ⟨y, hy, by omega, by omega⟩)
    have h1 : x.a < y.a := by
      cases hb : behind l x.a with
      | nil => rw [hb] at hy; cases hy
      | cons z R =>
        have h2 := behind_out (hn x.a (by omega) (by omega)) hb
        rw [hb] at hy hnf
        rcases List.mem_cons.1 hy with rfl | hy
        · exact h2
        · have := hnf.after y hy
          have := hnf.head
          omega
    by_cases h3 : y.a < x.a + x.n
    · exact absurd hyl (hn y.a (by omega) h3)
    · omega
  obtain ⟨a1, a2⟩ := in_spec hs hx (fun u hu => ahead_end u hu) hB
  refine ⟨joinTo (ahead l x.a) (behind l x.a) x, ?_, a1, fun i => ?_, ?_⟩
  · unfold freeG
    cases hb : behind l x.a with
    | nil => rfl
    | cons y R =>
      have := hB y (by rw [hb]; exact List.mem_cons_self)
      simp only []
      rw [if_neg (by omega)]
  · rw [a2, ahead_behind]
  · have h1 := joinTo_len (ahead l x.a) (behind l x.a) x
    have h2 := congrArg List.length (ahead_behind l x.a)
    rw [List.length_append] at h2
    omega
theorem freeG_twice {size : Int} {l : List Sp} {x : Sp} (h : NFs l) (hx : 0 < x.n) {i : Int} (h1 : x.a ≤ i) (h2 : i < x.a + x.n) (hm : memS l i) : freeG size l x = (0, [], 6) := by
  rw [memS_split l x.a] at hm
  rcases hm with hm | hm
  · exact absurd hm (ahead_no h1)
  · unfold freeG
    cases hb : behind l x.a with
    | nil => rw [hb] at hm; exact hm.elim
    | cons y R =>
      have hy : y.a ≤ i := by
        rw [hb] at hm
        rcases hm with hm | hm
        · exact hm.1
        · obtain ⟨u, hu, h3, h4⟩ := memS_iff.1 hm
          have hnf := (NFs_of_append (split_NFs h x.a)).2.1
          rw [hb] at hnf
          have := hnf.after u hu
          have := hnf.head
          omega
      simp only []
      rw [if_pos (by omega)]
/-- What is freed is free: spans of a size. -/
theorem Free6.of {size : Int} {l : List Sp} (s0 : 0 ≤ size) (s1 : size ≤ 65536) (hl : l.length ≤ 1024) (hn : NFs l) (hi : ∀ i, memS l i → 0 ≤ i ∧ i < size) : Free6 size l := by
  refine ⟨s0, s1, hl, fun y hy => ?_, hn⟩
  have h0 := hn.all y hy
  have h1 := hi y.a (memS_iff.2 ⟨y, hy, by omega, by omega⟩)
  have h2 := hi (y.a + y.n - 1) (memS_iff.2 ⟨y, hy, by omega, by omega⟩)
  exact ⟨h0, h1.1, by omega⟩
theorem Free6.mem {size : Int} {l : List Sp} (h : Free6 size l) {i : Int} (hi : memS l i) : 0 ≤ i ∧ i < size := by
  obtain ⟨y, hy, h1, h2⟩ := memS_iff.1 hi
  have := h.ins y hy
  have := this.a
  have := (h.ins y hy).e
  omega
theorem takeF_in {size : Int} {l : List Sp} {x y : Sp} (h : Free6 size l) (hx : 0 < x.n) (hy : y ∈ l) (h1 : y.a ≤ x.a) (h2 : x.a + x.n ≤ y.a + y.n) (hl : y.a = x.a ∨ l.length ≤ 1023) :
    ∃ m, takeF size l x = (size, m, 0) ∧ Free6 size m ∧ (∀ i, memS m i ↔ memS l i ∧ ¬ (x.a ≤ i ∧ i < x.a + x.n)) := by
  obtain ⟨m, e, hn, hm, l1, l2⟩ := takeG_in (size := size) h.nf hx hy h1 h2
  have hlen : m.length ≤ 1024 := by
    rcases hl with hl | hl
    · have := l2 hl; have := h.len; omega
    · omega
  have hyi := h.ins y hy
  have hI : insB size x = true := insB_iff.2 ⟨hx, by have := hyi.a; omega, by have := hyi.e; omega⟩
  refine ⟨m, ?_, Free6.of h.s0 h.s1 hlen hn fun i hi => h.mem ((hm i).1 hi).1, hm⟩
  unfold takeF
  rw [if_pos (checkF_ok.2 h), if_pos hI, e]
  unfold fullF
  rw [if_neg (by omega)]
theorem takeF_busy {size : Int} {l : List Sp} {x : Sp} (h : Free6 size l) (hi : Ins size x) (hn : ¬ memS l x.a) : takeF size l x = (0, [], 72) := by
  unfold takeF
  rw [if_pos (checkF_ok.2 h), if_pos (insB_iff.2 hi), takeG_busy hn]
theorem freeF_in {size : Int} {l : List Sp} {x : Sp} (h : Free6 size l) (hi : Ins size x) (hn : ∀ i, x.a ≤ i → i < x.a + x.n → ¬ memS l i) :
    ∃ m, freeF size l x = fullF size m ∧ NFs m ∧ (∀ i, memS m i ↔ memS l i ∨ (x.a ≤ i ∧ i < x.a + x.n)) ∧ m.length ≤ l.length + 1 ∧ (m.length ≤ 1024 → Free6 size m ∧ freeF size l x = (size, m, 0)) := by
  obtain ⟨m, e, h1, h2, h3⟩ := freeG_in (size := size) h.nf hi.n hn
  have e2 : freeF size l x = fullF size m := by
    unfold freeF
    rw [if_pos (checkF_ok.2 h), if_pos (insB_iff.2 hi), e]
  refine ⟨m, e2, h1, h2, h3, fun hl => ⟨Free6.of h.s0 h.s1 hl h1 fun i hm => ?_, ?_⟩⟩
  · rcases (h2 i).1 hm with hm | hm
    · exact h.mem hm
    · have := hi.a; have := hi.e; omega
  · rw [e2]
    unfold fullF
    rw [if_neg (by omega)]
theorem freeF_twice {size : Int} {l : List Sp} {x : Sp} (h : Free6 size l) (hi : Ins size x) {i : Int} (h1 : x.a ≤ i) (h2 : i < x.a + x.n) (hm : memS l i) : freeF size l x = (0, [], 6) := by
  unfold freeF
  rw [if_pos (checkF_ok.2 h), if_pos (insB_iff.2 hi), freeG_twice h.nf hi.n h1 h2 hm]
/-- What the answers may be. -/
theorem freeF_cases (size : Int) (l : List Sp) (x : Sp) : ((freeF size l x).2.1 = [] ∧ (freeF size l x).1 = 0 ∧ (freeF size l x).2.2 ≠ 0) ∨ (Free6 size l ∧ Ins size x ∧ (∀ i, x.a ≤ i → i < x.a + x.n → ¬ memS l i) ∧ (freeF size l x).2.2 = 0) := by
  by_cases h : checkF size l = 0
  · by_cases hI : insB size x = true
    · have h6 := checkF_ok.1 h
      have hi := insB_iff.1 hI
      by_cases hm : ∃ i, (x.a ≤ i ∧ i < x.a + x.n) ∧ memS l i
      · obtain ⟨i, ⟨h1, h2⟩, h3⟩ := hm
        rw [freeF_twice h6 hi h1 h2 h3]
        exact .inl ⟨rfl, rfl, by decide⟩
      · have hn : ∀ i, x.a ≤ i → i < x.a + x.n → ¬ memS l i := fun i h1 h2 h3 => hm ⟨i, ⟨h1, h2⟩, h3⟩
        obtain ⟨m, e, _⟩ := freeF_in h6 hi hn
        rw [e]
        unfold fullF
        split
        · exact .inl ⟨rfl, rfl, by decide⟩
        · exact .inr ⟨h6, hi, hn, rfl⟩
    · left
      unfold freeF
      rw [if_pos h, if_neg hI]
      exact ⟨rfl, rfl, by decide⟩
  · left
    unfold freeF
    rw [if_neg h]
    exact ⟨rfl, rfl, h⟩
/-- P6: what was allocated was free, is not, and is free again when it is freed. -/
theorem back6 {s n line : Int} {l : List Sp} {y : Sp} (h : Free6 s l) (hn : 0 < n) (hb : bestS l n line = some y) :
    ∃ m, takeF s l ⟨y.a, n⟩ = (s, m, 0) ∧ takeF s m ⟨y.a, n⟩ = (0, [], 72) ∧ freeF s m ⟨y.a, n⟩ = (s, l, 0) ∧ freeF s l ⟨y.a, n⟩ = (0, [], 6) ∧ y.a + n ≤ line ∧ 0 ≤ y.a := by
  obtain ⟨b1, b2, b3⟩ := bestS_some h.nf.rising hb
  have hr : n ≤ room line y := b2
  unfold room at hr
  have hy := h.ins y b1
  have hy1 := hy.n; have hy2 := hy.a; have hy3 := hy.e
  obtain ⟨m, e1, h6, hm⟩ := takeF_in (x := ⟨y.a, n⟩) h hn b1 (Int.le_refl _) (by show y.a + n ≤ y.a + y.n; omega) (.inl rfl)
  have hI : Ins s (⟨y.a, n⟩ : Sp) := ⟨hn, hy2, by show y.a + n ≤ s; omega⟩
  have hmem : ∀ i, y.a ≤ i → i < y.a + n → memS l i := fun i h1 h2 => memS_iff.2 ⟨y, b1, h1, by omega⟩
  refine ⟨m, e1, takeF_busy h6 hI fun hx => ((hm y.a).1 hx).2 ⟨Int.le_refl _, by show y.a < y.a + n; omega⟩, ?_, freeF_twice h hI (Int.le_refl _) (by show y.a < y.a + n; omega) (hmem y.a (Int.le_refl _) (by omega)), by omega, hy2⟩
  obtain ⟨m2, e2, g1, g2, g3, g4⟩ := freeF_in (x := ⟨y.a, n⟩) h6 hI fun i h1 h2 hx => ((hm i).1 hx).2 ⟨h1, h2⟩
  have : m2 = l := NFs.ext g1 h.nf fun i => by
    rw [g2, hm]
    constructor
    · rintro (h1 | h1)
      · exact h1.1
      · exact hmem i h1.1 h1.2
    · intro h1
      by_cases h2 : (⟨y.a, n⟩ : Sp).a ≤ i ∧ i < (⟨y.a, n⟩ : Sp).a + (⟨y.a, n⟩ : Sp).n
      · exact .inr h2
      · exact .inl ⟨h1, h2⟩
  subst this
  exact (g4 h.len).2
/-- P6: sectors freed in two parts, the second one first, are free as if freed at once. -/
theorem merges6 {s : Int} {l : List Sp} {x : Sp} {k : Int} (h : Free6 s l) (hi : Ins s x) (hn : ∀ i, x.a ≤ i → i < x.a + x.n → ¬ memS l i) (hl : l.length ≤ 1000) (k0 : 0 < k) (k1 : k < x.n) :
    ∃ m b, freeF s l x = (s, m, 0) ∧ freeF s l ⟨x.a + k, x.n - k⟩ = (s, b, 0) ∧ freeF s b ⟨x.a, k⟩ = (s, m, 0) := by
  have hi1 := hi.n; have hi2 := hi.a; have hi3 := hi.e
  obtain ⟨m, _, m1, m2, m3, m4⟩ := freeF_in h hi hn
  have hI2 : Ins s (⟨x.a + k, x.n - k⟩ : Sp) := ⟨by show 0 < x.n - k; omega, by show 0 ≤ x.a + k; omega, by show x.a + k + (x.n - k) ≤ s; omega⟩
  obtain ⟨b, _, b1, b2, b3, b4⟩ := freeF_in (x := ⟨x.a + k, x.n - k⟩) h hI2 (fun i h1 h2 => by
    dsimp only at h1 h2
    exact hn i (by omega) (by omega))
  obtain ⟨b6, be⟩ := b4 (by omega)
  have hI3 : Ins s (⟨x.a, k⟩ : Sp) := ⟨k0, hi2, by show x.a + k ≤ s; omega⟩
  obtain ⟨c, _, c1, c2, c3, c4⟩ := freeF_in (x := ⟨x.a, k⟩) b6 hI3 (fun i h1 h2 hm => by
    dsimp only at h1 h2
    rcases (b2 i).1 hm with hm | hm
    · exact hn i (by omega) (by omega) hm
    · dsimp only at hm; omega)
  have : c = m := NFs.ext c1 m1 fun i => by
    rw [c2, b2, m2]
    dsimp only
    constructor
    · rintro ((h1 | h1) | h1)
      · exact .inl h1
      · exact .inr (by omega)
      · exact .inr (by omega)
    · rintro (h1 | h1)
      · exact .inl (.inl h1)
      · by_cases h2 : i < x.a + k
        · exact .inr (by omega)
        · exact .inl (.inr (by omega))
  subst this
  exact ⟨c, b, (m4 (by omega)).2, be, (c4 (by omega)).2⟩

end Flag
namespace Flag

/-! Sizes made greater and smaller, in plain lists. -/
def highF (size : Int) (l : List Sp) : Int × Int :=
  if checkF size l = 0 then (match l.getLast? with
    | some u => if u.a + u.n = size then (u.a, 0) else (size, 0)
    | none => (size, 0)) else (0, checkF size l)
def trimS (l : List Sp) (tgt : Int) : List Sp :=
  match l.getLast? with
  | some u => if u.a + u.n > tgt then (if tgt - u.a ≤ 0 then l.dropLast else l.dropLast ++ [⟨u.a, tgt - u.a⟩]) else l
  | none => l
def inS (l : List Sp) (x : Sp) : List Sp := joinTo (ahead l x.a) (behind l x.a) x
def resizeF (size : Int) (l : List Sp) (tgt : Int) : Int × List Sp × Int :=
  if (highF size l).2 = 0 then (if tgt < 0 ∨ tgt > 65536 then (0, [], 4) else if tgt < (highF size l).1 then (0, [], 72) else if tgt > size then fullF tgt (inS l ⟨size, tgt - size⟩) else (tgt, trimS l tgt, 0)) else (0, [], (highF size l).2)
def sumS : List Sp → Int
  | [] => 0
  | x :: t => x.n + sumS t
theorem sumS_append (l m : List Sp) : sumS (l ++ m) = sumS l + sumS m := by
  induction l with
  | nil => simp [sumS]
  | cons x t ih => rw [List.cons_append, sumS, sumS, ih]; omega
theorem sumS_ge {l : List Sp} (h : ∀ x ∈ l, 0 < x.n) : 0 ≤ sumS l := by
  induction l with
  | nil => exact Int.le_refl _
  | cons x t ih =>
    have := h x List.mem_cons_self
    have := ih fun y hy => h y (List.mem_cons_of_mem _ hy)
    rw [sumS]; omega
theorem sumS_le {size : Int} {l : List Sp} : ∀ {e : Int}, e ≤ size → NFs l → (∀ x ∈ l, e ≤ x.a ∧ x.a + x.n ≤ size) → sumS l ≤ size - e := by
  induction l with
  | nil => intro e he _ _; rw [sumS]; omega
  | cons x t ih =>
    intro e he hn h
    have h1 := h x List.mem_cons_self
    have h2 := ih (e := x.a + x.n) h1.2 hn.tail fun y hy => ⟨by have := hn.after y hy; omega, (h y (List.mem_cons_of_mem _ hy)).2⟩
    rw [sumS]; omega
theorem Free6.wide {s t : Int} {l : List Sp} (h : Free6 s l) (h1 : s ≤ t) (h2 : t ≤ 65536) : Free6 t l :=
  ⟨by have := h.s0; omega, h2, h.len, fun y hy => ⟨(h.ins y hy).n, (h.ins y hy).a, by have := (h.ins y hy).e; omega⟩, h.nf⟩
theorem ahead_all {l : List Sp} {s : Int} (h : ∀ x ∈ l, x.a + x.n ≤ s) : ahead l s = l ∧ behind l s = [] := by
  unfold ahead behind
  induction l with
  | nil => exact ⟨rfl, rfl⟩
  | cons x t ih =>
    have h1 := h x List.mem_cons_self
    obtain ⟨h2, h3⟩ := ih fun y hy => h y (List.mem_cons_of_mem _ hy)
    rw [List.takeWhile_cons_of_pos (by simpa using h1), List.dropWhile_cons_of_pos (by simpa using h1), h2, h3]
    exact ⟨rfl, rfl⟩
theorem same6 {s : Int} {l : List Sp} (h : Free6 s l) : resizeF s l s = (s, l, 0) := by
  have hs0 := h.s0; have hs1 := h.s1
  unfold resizeF highF trimS
  rw [if_pos (checkF_ok.2 h)]
  cases hl : l.getLast? with
  | none =>
    simp only [if_true]
    rw [if_neg (by omega), if_neg (by omega), if_neg (by omega)]
  | some u =>
    have hu := h.ins u (by rw [memS_last hl]; simp)
    have hu1 := hu.n; have hu2 := hu.a; have hu3 := hu.e
    simp only []
    by_cases hc : u.a + u.n = s
    · rw [if_pos hc]
      simp only [if_true]
      rw [if_neg (by omega), if_neg (by omega), if_neg (by omega), if_neg (by omega)]
    · rw [if_neg hc]
      simp only [if_true]
      rw [if_neg (by omega), if_neg (by omega), if_neg (by omega), if_neg (by omega)]
theorem grows6 {s more : Int} {l : List Sp} (h : Free6 s l) (hs : s ≤ 60000) (hl : l.length ≤ 1000) (m0 : 0 ≤ more) (m1 : more < 100) :
    ∃ a, resizeF s l (s + more) = (s + more, a, 0) ∧ resizeF (s + more) a s = (s, l, 0) ∧ Free6 (s + more) a ∧ sumS a = sumS l + more := by
  by_cases hz : more = 0
  · subst hz
    rw [Int.add_zero]
    exact ⟨l, same6 h, same6 h, h, by omega⟩
  · have hs0 := h.s0
    have hall : ∀ x ∈ l, x.a + x.n ≤ s := fun x hx => (h.ins x hx).e
    obtain ⟨e1, e2⟩ := ahead_all hall
    have hw := h.wide (t := s + more) (by omega) (by omega)
    have hin : inS l ⟨s, s + more - s⟩ = joinTo l [] ⟨s, more⟩ := by
      unfold inS
      rw [e1, e2]
      congr 2; omega
    obtain ⟨n1, n2⟩ := in_spec (L := l) (R := []) (x := ⟨s, more⟩) (by rw [List.append_nil]; exact h.nf) (by show 0 < more; omega) hall (by intro y hy; cases hy)
    have hlen := joinTo_len l [] ⟨s, more⟩
    rw [List.length_nil] at hlen
    have h6 : Free6 (s + more) (joinTo l [] ⟨s, more⟩) := Free6.of (by omega) (by omega) (by omega) n1 fun i hi => by
      rcases (n2 i).1 hi with hi | hi
      · rw [List.append_nil] at hi
        exact hw.mem hi
      · dsimp only at hi; omega
    have hh : (highF s l).2 = 0 ∧ (highF s l).1 ≤ s := by
      unfold highF
      rw [if_pos (checkF_ok.2 h)]
      cases hg : l.getLast? with
      | none => exact ⟨rfl, Int.le_refl _⟩
      | some u =>
        have hu := h.ins u (by rw [memS_last hg]; simp)
        have := hu.n; have := hu.e
        simp only []
        split
        · exact ⟨rfl, by show u.a ≤ s; omega⟩
        · exact ⟨rfl, Int.le_refl _⟩
    refine ⟨joinTo l [] ⟨s, more⟩, ?_, ?_, h6, ?_⟩
    · unfold resizeF
      rw [if_pos hh.1, if_neg (by omega), if_neg (by omega), if_pos (by omega), hin]
      unfold fullF
      rw [if_neg (by omega)]
    · unfold resizeF highF
      rw [if_pos (checkF_ok.2 h6)]
      unfold joinTo trimS
      cases hg : l.getLast? with
      | none =>
        have hl0 : l = [] := List.getLast?_eq_none_iff.1 hg
        subst hl0
        simp only [joinTo.joinR, List.getLast?_singleton, if_true]
        rw [if_neg (by omega), if_neg (by omega), if_neg (by omega), if_pos (by omega), if_pos (by omega)]
        rfl
      | some u =>
        obtain ⟨M, rfl⟩ : ∃ M, l = M ++ [u] := ⟨_, memS_last hg⟩
        have hu := h.ins u (by simp)
        have hu1 := hu.n; have hu2 := hu.a; have hu3 := hu.e
        by_cases hc : u.a + u.n = s
        · have e3 : (u.a + (u.n + more) = s + more) = True := by simp; omega
          simp only [if_pos hc, joinTo.joinR, List.dropLast_concat, List.getLast?_append, List.getLast?_singleton, Option.or_some, Option.some_or, Option.getD_some, e3, if_true]
          rw [if_neg (by omega), if_neg (by omega), if_neg (by omega), if_pos (by omega), if_neg (by omega)]
          have e4 : (⟨u.a, s - u.a⟩ : Sp) = u := by
            have : s - u.a = u.n := by omega
            rw [this]
          rw [e4]
        · simp only [if_neg hc, joinTo.joinR, List.getLast?_append, List.getLast?_singleton, Option.or_some, Option.some_or, Option.getD_some, if_true]
          rw [if_neg (by omega), if_neg (by omega), if_neg (by omega), if_pos (by omega), if_pos (by omega)]
          rw [show M ++ [u] ++ [(⟨s, more⟩ : Sp)] = (M ++ [u]) ++ [(⟨s, more⟩ : Sp)] from rfl, List.dropLast_concat]
    · unfold joinTo
      cases hg : l.getLast? with
      | none =>
        have hl0 : l = [] := List.getLast?_eq_none_iff.1 hg
        subst hl0
        simp [joinTo.joinR, sumS]
      | some u =>
        obtain ⟨M, rfl⟩ : ∃ M, l = M ++ [u] := ⟨_, memS_last hg⟩
        simp only []
        split
        · simp only [joinTo.joinR, List.dropLast_concat, sumS_append, sumS]; omega
        · simp only [joinTo.joinR, sumS_append, sumS]; omega

end Flag
namespace Flag

/-! What is free without what is used, in plain lists. -/
def newS (size : Int) : List Sp := if size > 0 then [⟨0, size⟩] else []
theorem newS_spec {size : Int} (h : 0 ≤ size) : NFs (newS size) ∧ ∀ i, memS (newS size) i ↔ 0 ≤ i ∧ i < size := by
  unfold newS
  split
  · refine ⟨by show 0 < size; omega, fun i => ?_⟩
    show (0 ≤ i ∧ i < 0 + size) ∨ False ↔ _
    rw [or_false, Int.zero_add]
  · refine ⟨trivial, fun i => ?_⟩
    show False ↔ _
    constructor
    · intro h; exact h.elim
    · intro h; omega
/-- The free spans: of whatever order of the used ones that rises. -/
def wFor (size : Int) (used l : List Sp) : Int × List Sp × Int :=
  if size < 0 ∨ size > 65536 then (0, [], 4) else if (used.length : Int) > 1024 then (0, [], 3) else if used.all (insB size) = true then fullF size (gapS l size) else (0, [], 4)
/-- The page's own answer. -/
def wRef (size : Int) (used : List Sp) : Int × List Sp × Int :=
  if size < 0 ∨ size > 65536 then (0, [], 4) else if (used.length : Int) > 1024 then (0, [], 3) else if used.all (insB size) = true then fullF size (used.foldl cutS6 (newS size)) else (0, [], 4)
theorem wFor_ref {size : Int} {used l : List Sp} (hr : risingS l) (hp : ∀ x, x ∈ l ↔ x ∈ used) : wFor size used l = wRef size used := by
  unfold wFor wRef
  split
  · rfl
  · rename_i h0
    split
    · rfl
    · split
      · rename_i ha
        have hin : ∀ x ∈ used, Ins size x := fun x hx => insB_iff.1 (List.all_eq_true.1 ha x hx)
        obtain ⟨a1, a2⟩ := gapS_spec (size := size) (by omega) hr fun x hx => ⟨(hin x ((hp x).1 hx)).n, (hin x ((hp x).1 hx)).a, (hin x ((hp x).1 hx)).e⟩
        obtain ⟨n1, n2⟩ := newS_spec (size := size) (by omega)
        obtain ⟨b1, b2⟩ := cutFold_spec (used := used) n1 fun x hx => (hin x hx).n
        have : gapS l size = used.foldl cutS6 (newS size) := NFs.ext a1 b1 fun i => by
          rw [a2, b2, n2]
          have : memS l i ↔ memS used i := by
            rw [memS_iff, memS_iff]
            exact ⟨fun ⟨x, hx, h⟩ => ⟨x, (hp x).1 hx, h⟩, fun ⟨x, hx, h⟩ => ⟨x, (hp x).2 hx, h⟩⟩
          rw [this]
        rw [this]
      · rfl
theorem wRef_cases (size : Int) (used : List Sp) :
    ((wRef size used).2.1 = [] ∧ (wRef size used).1 = 0 ∧ (wRef size used).2.2 ≠ 0) ∨
    ∃ m, wRef size used = (size, m, 0) ∧ Free6 size m ∧ (∀ x ∈ used, Ins size x) ∧ ∀ i, memS m i ↔ (0 ≤ i ∧ i < size) ∧ ¬ memS used i := by
  unfold wRef
  split
  · exact .inl ⟨rfl, rfl, by decide⟩
  · rename_i h0
    split
    · exact .inl ⟨rfl, rfl, by decide⟩
    · split
      · rename_i ha
        have hin : ∀ x ∈ used, Ins size x := fun x hx => insB_iff.1 (List.all_eq_true.1 ha x hx)
        obtain ⟨n1, n2⟩ := newS_spec (size := size) (by omega)
        obtain ⟨b1, b2⟩ := cutFold_spec (used := used) n1 fun x hx => (hin x hx).n
        unfold fullF
        split
        · exact .inl ⟨rfl, rfl, by decide⟩
        · rename_i hl
          refine .inr ⟨_, rfl, Free6.of (by omega) (by omega) (by omega) b1 fun i hi => (n2 i).1 ((b2 i).1 hi).1, hin, fun i => ?_⟩
          rw [b2, n2]
      · exact .inl ⟨rfl, rfl, by decide⟩
/-- Taking one sector that is free: only space may be wanting. -/
theorem takeF_one {size : Int} {l : List Sp} {i : Int} (h : Free6 size l) (hm : memS l i) : (takeF size l ⟨i, 1⟩).2.2 = 0 ∨ (takeF size l ⟨i, 1⟩).2.2 = 51 := by
  obtain ⟨y, hy, h1, h2⟩ := memS_iff.1 hm
  obtain ⟨m, e, _⟩ := takeG_in (size := size) (x := ⟨i, 1⟩) h.nf ((by show (0 : Int) < 1; decide)) hy h1 (by show i + 1 ≤ _; omega)
  have hi := h.mem hm
  unfold takeF
  rw [if_pos (checkF_ok.2 h), if_pos (insB_iff.2 ⟨(by show (0 : Int) < 1; decide), hi.1, by show i + 1 ≤ size; omega⟩), e]
  unfold fullF
  split
  · exact .inr rfl
  · exact .inl rfl
theorem takeF_none {size : Int} {l : List Sp} {i : Int} (h : Free6 size l) (h0 : 0 ≤ i) (h1 : i < size) (hm : ¬ memS l i) : (takeF size l ⟨i, 1⟩).2.2 = 72 := by
  rw [takeF_busy h ⟨(by show (0 : Int) < 1; decide), h0, by show i + 1 ≤ size; omega⟩ hm]

end Flag
namespace Flag

/-! A span joined to those that it touches, by places. -/
theorem ahead_take (l : List Sp) (s : Int) : ahead l s = l.take (ahead l s).length ∧ behind l s = l.drop (ahead l s).length := by
  have h := ahead_behind l s
  constructor
  · conv => rhs; rw [← h]
    rw [show ((ahead l s ++ behind l s).take (ahead (ahead l s ++ behind l s) s).length) = (ahead l s ++ behind l s).take (ahead l s).length by rw [h], List.take_left]
  · have h2 : (ahead l s ++ behind l s).drop (ahead l s).length = behind l s := List.drop_left
    rw [h] at h2
    exact h2.symm
theorem joinR_idx (l : List Sp) (i : Nat) (x y : Sp) (hy : i < l.length → l[i]? = some y) :
    joinTo.joinR x (l.drop i) = [if i < l.length ∧ x.a + x.n = y.a then ⟨x.a, x.n + y.n⟩ else x] ++ l.drop (if i < l.length ∧ x.a + x.n = y.a then i + 1 else i) := by
  by_cases hi : i < l.length
  · have h1 := hy hi
    rw [List.getElem?_eq_getElem hi] at h1
    have h2 : l[i] = y := Option.some.inj h1
    have hd : l.drop i = y :: l.drop (i + 1) := by rw [← h2]; exact (List.getElem_cons_drop hi).symm
    rw [hd, joinTo.joinR]
    by_cases hc : x.a + x.n = y.a
    · rw [if_pos hc, if_pos ⟨hi, hc⟩, if_pos ⟨hi, hc⟩]; rfl
    · rw [if_neg hc, if_neg (fun h => hc h.2), if_neg (fun h => hc h.2), hd]; rfl
  · rw [if_neg (fun h => hi h.1), if_neg (fun h => hi h.1), List.drop_eq_nil_of_le (by omega)]; rfl
theorem join_idx (l : List Sp) (i : Nat) (hi : i ≤ l.length) (x x1 u y : Sp) (lo : Nat) (hu : 0 < i → l[i - 1]? = some u) (hy : i < l.length → l[i]? = some y)
    (hx : (0 < i ∧ u.a + u.n = x.a ∧ x1 = ⟨u.a, u.n + x.n⟩ ∧ lo = i - 1) ∨ (¬ (0 < i ∧ u.a + u.n = x.a) ∧ x1 = x ∧ lo = i)) :
    joinTo (l.take i) (l.drop i) x = l.take lo ++ [if i < l.length ∧ x1.a + x1.n = y.a then ⟨x1.a, x1.n + y.n⟩ else x1] ++ l.drop (if i < l.length ∧ x1.a + x1.n = y.a then i + 1 else i) := by
  rw [List.append_assoc, ← joinR_idx l i x1 y hy]
  unfold joinTo
  cases i with
  | zero =>
    rcases hx with ⟨h, _⟩ | ⟨_, rfl, rfl⟩
    · omega
    · rfl
  | succ k =>
    have hk : k < l.length := by omega
    have h1 := hu (by omega)
    rw [Nat.add_sub_cancel] at h1
    have hkl := h1
    rw [List.getElem?_eq_getElem hk] at h1
    have h2 : l[k] = u := Option.some.inj h1
    have ht : l.take (k + 1) = l.take k ++ [u] := by rw [List.take_add_one, hkl]; rfl
    rw [ht, List.getLast?_append, List.getLast?_singleton]
    simp only [Option.some_or]
    rw [List.dropLast_concat]
    rcases hx with ⟨_, h3, rfl, rfl⟩ | ⟨h3, rfl, rfl⟩
    · rw [if_pos h3]
    · rw [if_neg (fun h => h3 ⟨by omega, h⟩), ← ht]

end Flag

end Go.Proofs.Ytkkfkdncddbaeaa.Fn
