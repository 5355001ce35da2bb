/- Part 4 of the walk: printed by programs of this session (by way of the kit's print) or told by hand. -/
import Derived.Test.YtkkfkdncddbaeaaV3
namespace Go.Proofs.Ytkkfkdncddbaeaa.Fn
open Go.RowKit Go.Proofs.YtkkfkdncddbaeaaW.PrintWords Go.Proofs.YtkkfkdncddbaeaaW.PrintLast Go.Proofs.YtkkfkdncddbaeaaW.PrintMore
attribute [local go_sem] max2_int min2_int max_two min_two max_three min_three max_four min_four
set_option linter.unusedVariables false
set_option linter.unusedSimpArgs false
namespace Flag
structure Rf where
  p : Int
  n : Int
  o : Int
  v : Int
def ltR (a b : Rf) : Prop := a.p < b.p ∨ (a.p = b.p ∧ (a.o < b.o ∨ (a.o = b.o ∧ a.v < b.v)))
instance (a b : Rf) : Decidable (ltR a b) := inferInstanceAs (Decidable (_ ∨ _))
def leR (a b : Rf) : Prop := ¬ ltR b a
theorem leR_trans {a b c : Rf} (h : leR a b) (g : leR b c) : leR a c := by unfold leR ltR at *; omega
theorem leR_key {a b : Rf} (h : leR a b) (g : leR b a) : a.p = b.p ∧ a.o = b.o ∧ a.v = b.v := by unfold leR ltR at *; omega
def insR (out : List Rf) (x : Rf) : List Rf := out.takeWhile (fun y => decide (¬ ltR x y)) ++ x :: out.dropWhile (fun y => decide (¬ ltR x y))
def sortR (l : List Rf) : List Rf := l.foldl insR []
theorem insR_perm (out : List Rf) (x : Rf) : (insR out x).Perm (x :: out) := by
  unfold insR
  refine List.perm_middle.trans ?_
  rw [List.takeWhile_append_dropWhile]
theorem insR_sorted {out : List Rf} {x : Rf} (h : out.Pairwise leR) : (insR out x).Pairwise leR := by
  unfold insR
  rw [List.pairwise_append]
  have e := List.takeWhile_append_dropWhile (p := fun y => decide (¬ ltR x y)) (l := out)
  have h2 := h
  rw [← e, List.pairwise_append] at h2
  have ht : ∀ y ∈ out.takeWhile (fun y => decide (¬ ltR x y)), leR y x := by
    intro y hy
    have := List.all_takeWhile (p := fun y => decide (¬ ltR x y)) (l := out)
    have := List.all_eq_true.1 this y hy
    have h3 : ¬ ltR x y := of_decide_eq_true this
    exact h3
  have hd : ∀ y ∈ out.dropWhile (fun y => decide (¬ ltR x y)), leR x y := by
    intro y hy
    cases hdw : out.dropWhile (fun y => decide (¬ ltR x y)) with
    | nil => rw [hdw] at hy; cases hy
    | cons z t =>
      have hz := List.head?_dropWhile_not (fun y => decide (¬ ltR x y)) out
      rw [hdw] at hz hy h2
      have hz' : ltR x z := by simpa using hz
      have hxz : leR x z := by unfold leR ltR at *; omega
      cases hy with
      | head => exact hxz
      | tail _ hy => exact leR_trans hxz ((List.pairwise_cons.1 h2.2.1).1 y hy)
  refine ⟨h2.1, List.pairwise_cons.2 ⟨hd, h2.2.1⟩, fun a ha b hb => ?_⟩
  cases hb with
  | head => exact ht a ha
  | tail _ hb => exact h2.2.2 a ha b hb
theorem sortR_fold {l : List Rf} : ∀ {out : List Rf}, out.Pairwise leR → (l.foldl insR out).Perm (out ++ l) ∧ (l.foldl insR out).Pairwise leR := by
  induction l with
  | nil => intro out h; rw [List.append_nil]; exact ⟨List.Perm.refl _, h⟩
  | cons x t ih =>
    intro out h
    obtain ⟨h1, h2⟩ := ih (insR_sorted (x := x) h)
    refine ⟨h1.trans ?_, h2⟩
    refine ((insR_perm out x).append_right t).trans ?_
    rw [List.cons_append]
    exact List.perm_middle.symm
theorem sortR_perm (l : List Rf) : (sortR l).Perm l := (sortR_fold (l := l) List.Pairwise.nil).1
theorem sortR_sorted (l : List Rf) : (sortR l).Pairwise leR := (sortR_fold (l := l) List.Pairwise.nil).2
def KeyR (l : List Rf) : Prop := ∀ a ∈ l, ∀ b ∈ l, a.p = b.p → a.o = b.o → a.v = b.v → a = b
theorem sorted_one {l m : List Rf} (hk : KeyR m) (hp : l.Perm m) (hl : l.Pairwise leR) : l = sortR m :=
  List.Perm.eq_of_pairwise (le := leR) (fun a b ha hb h g => by
    obtain ⟨k1, k2, k3⟩ := leR_key h g
    exact hk a (hp.mem_iff.1 ha) b ((sortR_perm m).mem_iff.1 hb) k1 k2 k3) hl (sortR_sorted m) (hp.trans (sortR_perm m).symm)
structure Mp where
  o : Int
  l : List Ex
def risM : Int → List Mp → Bool
  | _, [] => true
  | e, x :: t => decide (e < x.o) && decide (x.o ≤ 255) && decide (checkE x.l = 0) && risM x.o t
def checkM (m : List Mp) : Int := if m.length ≤ 9 ∧ risM (-1) m = true then 0 else 9
theorem risM_iff {m : List Mp} : ∀ {e : Int}, risM e m = true ↔ (∀ x ∈ m, e < x.o ∧ x.o ≤ 255 ∧ checkE x.l = 0) ∧ m.Pairwise (fun a b => a.o < b.o) := by
  induction m with
  | nil => intro e; simp [risM]
  | cons x t ih =>
    intro e
    rw [risM, List.pairwise_cons]
    simp only [Bool.and_eq_true, decide_eq_true_eq, ih, List.mem_cons, forall_eq_or_imp]
    constructor
    · rintro ⟨⟨⟨h1, h2⟩, h3⟩, h4, h5⟩
      exact ⟨⟨⟨h1, h2, h3⟩, fun y hy => ⟨by have := (h4 y hy).1; omega, (h4 y hy).2⟩⟩, fun y hy => (h4 y hy).1, h5⟩
    · rintro ⟨⟨⟨h1, h2, h3⟩, h4⟩, h5, h6⟩
      exact ⟨⟨⟨h1, h2⟩, h3⟩, fun y hy => ⟨h5 y hy, (h4 y hy).2⟩, h6⟩
structure Maps9 (m : List Mp) : Prop where
  len : m.length ≤ 9
  each : ∀ x ∈ m, 0 ≤ x.o ∧ x.o ≤ 255 ∧ Map5 x.l
  ris : m.Pairwise fun a b => a.o < b.o
theorem checkM_ok {m : List Mp} : checkM m = 0 ↔ Maps9 m := by
  unfold checkM
  constructor
  · intro h
    split at h
    · rename_i hc
      obtain ⟨h1, h2⟩ := risM_iff.1 hc.2
      exact ⟨hc.1, fun x hx => ⟨by have := (h1 x hx).1; omega, (h1 x hx).2.1, checkE_ok.1 (h1 x hx).2.2⟩, h2⟩
    · cases h
  · intro h
    rw [if_pos ⟨h.len, risM_iff.2 ⟨fun x hx => ⟨by have := (h.each x hx).1; omega, (h.each x hx).2.1, checkE_ok.2 (h.each x hx).2.2⟩, h.ris⟩⟩]
theorem checkM_or (m : List Mp) : checkM m = 0 ∨ checkM m = 9 := by unfold checkM; split <;> simp
def refsM (m : List Mp) : List Rf := m.flatMap fun x => x.l.map fun y => ⟨y.p, y.n, x.o, y.v⟩
theorem mem_refsM {m : List Mp} {r : Rf} : r ∈ refsM m ↔ ∃ x ∈ m, ∃ y ∈ x.l, r = ⟨y.p, y.n, x.o, y.v⟩ := by
  unfold refsM
  rw [List.mem_flatMap]
  constructor
  · rintro ⟨x, hx, h⟩
    obtain ⟨y, hy, rfl⟩ := List.mem_map.1 h
    exact ⟨x, hx, y, hy, rfl⟩
  · rintro ⟨x, hx, y, hy, rfl⟩
    exact ⟨x, hx, List.mem_map.2 ⟨y, hy, rfl⟩⟩
theorem owner_one {m : List Mp} (h : m.Pairwise fun a b => a.o < b.o) : ∀ x ∈ m, ∀ y ∈ m, x.o = y.o → x = y := by
  induction m with
  | nil => intro x hx; cases hx
  | cons z t ih =>
    obtain ⟨h1, h2⟩ := List.pairwise_cons.1 h
    intro x hx y hy e
    cases hx with
    | head =>
      cases hy with
      | head => rfl
      | tail _ hy => have := h1 y hy; omega
    | tail _ hx =>
      cases hy with
      | head => have := h1 x hx; omega
      | tail _ hy => exact ih h2 x hx y hy e
theorem NF.one {l : List Ex} (h : NF l) : ∀ x ∈ l, ∀ y ∈ l, ∀ i : Int, x.v ≤ i → i < x.v + x.n → y.v ≤ i → i < y.v + y.n → x = y := by
  induction l with
  | nil => intro x hx; cases hx
  | cons z t ih =>
    intro x hx y hy i a b c d
    cases hx with
    | head =>
      cases hy with
      | head => rfl
      | tail _ hy => have := h.after y hy; omega
    | tail _ hx =>
      cases hy with
      | head => have := h.after x hx; omega
      | tail _ hy => exact ih h.tail x hx y hy i a b c d
structure Ok9 (l : List Rf) : Prop where
  each : ∀ r ∈ l, 0 < r.n ∧ 0 ≤ r.p ∧ r.p + r.n ≤ 65536 ∧ 0 ≤ r.v ∧ r.v + r.n ≤ 65536 ∧ 0 ≤ r.o ∧ r.o ≤ 255
  one : ∀ r ∈ l, ∀ s ∈ l, ∀ i : Int, r.o = s.o → r.v ≤ i → i < r.v + r.n → s.v ≤ i → i < s.v + s.n → r = s
theorem Ok9.perm {l m : List Rf} (h : Ok9 l) (hp : m.Perm l) : Ok9 m :=
  ⟨fun r hr => h.each r (hp.mem_iff.1 hr), fun r hr s hs => h.one r (hp.mem_iff.1 hr) s (hp.mem_iff.1 hs)⟩
theorem Ok9.key {l : List Rf} (h : Ok9 l) : KeyR l := fun a ha b hb _ e2 e3 => by
  have ha' := (h.each a ha).1
  have hb' := (h.each b hb).1
  exact h.one a ha b hb a.v e2 (by omega) (by omega) (by omega) (by omega)
theorem refsM_ok {m : List Mp} (h : Maps9 m) : Ok9 (refsM m) := by
  constructor
  · intro r hr
    obtain ⟨x, hx, y, hy, rfl⟩ := mem_refsM.1 hr
    obtain ⟨h1, h2, h3⟩ := h.each x hx
    obtain ⟨k1, k2, k3, k4, k5⟩ := h3.ok y hy
    exact ⟨k1, k4, k5, k2, k3, h1, h2⟩
  · intro r hr s hs i e a b c d
    obtain ⟨x, hx, y, hy, rfl⟩ := mem_refsM.1 hr
    obtain ⟨x', hx', y', hy', rfl⟩ := mem_refsM.1 hs
    obtain rfl := owner_one h.ris x hx x' hx' e
    obtain rfl := (h.each x hx).2.2.nf.one y hy y' hy' i a b c d
    rfl
def cover (r : Rf) (i : Int) : Prop := r.p ≤ i ∧ i < r.p + r.n
instance (r : Rf) (i : Int) : Decidable (cover r i) := inferInstanceAs (Decidable (_ ∧ _))
def cnt : List Rf → Int → Int
  | [], _ => 0
  | r :: t, i => (if cover r i then 1 else 0) + cnt t i
theorem cnt_perm {l m : List Rf} (h : l.Perm m) (i : Int) : cnt l i = cnt m i := by
  induction h with
  | nil => rfl
  | cons x _ ih => rw [cnt, cnt, ih]
  | swap x y l => rw [cnt, cnt, cnt, cnt]; omega
  | trans _ _ h1 h2 => rw [h1, h2]
structure Ed where
  a : Int
  b : Int
def edges (l : List Rf) : List Ed := l.flatMap fun r => [⟨r.p, 1⟩, ⟨r.p + r.n, -1⟩]
def sumE : List Ed → Int → Int
  | [], _ => 0
  | e :: t, i => (if e.a ≤ i then e.b else 0) + sumE t i
def totE : List Ed → Int
  | [] => 0
  | e :: t => e.b + totE t
theorem sumE_append (l m : List Ed) (i : Int) : sumE (l ++ m) i = sumE l i + sumE m i := by
  induction l with
  | nil => rw [List.nil_append, sumE]; omega
  | cons e t ih => rw [List.cons_append, sumE, sumE, ih]; omega
theorem sumE_perm {l m : List Ed} (h : l.Perm m) (i : Int) : sumE l i = sumE m i := by
  induction h with
  | nil => rfl
  | cons x _ ih => rw [sumE, sumE, ih]
  | swap x y l => rw [sumE, sumE, sumE, sumE]; omega
  | trans _ _ h1 h2 => rw [h1, h2]
theorem totE_append (l m : List Ed) : totE (l ++ m) = totE l + totE m := by
  induction l with
  | nil => rw [List.nil_append, totE]; omega
  | cons e t ih => rw [List.cons_append, totE, totE, ih]; omega
theorem totE_perm {l m : List Ed} (h : l.Perm m) : totE l = totE m := by
  induction h with
  | nil => rfl
  | cons x _ ih => rw [totE, totE, ih]
  | swap x y l => rw [totE, totE, totE, totE]; omega
  | trans _ _ h1 h2 => rw [h1, h2]
theorem sumE_edges {l : List Rf} (h : ∀ r ∈ l, 0 < r.n) (i : Int) : sumE (edges l) i = cnt l i := by
  induction l with
  | nil => rfl
  | cons r t ih =>
    have h1 := h r List.mem_cons_self
    unfold edges at ih ⊢
    rw [List.flatMap_cons, sumE_append, ih fun s hs => h s (List.mem_cons_of_mem _ hs), cnt]
    have hcv : cover r i ↔ r.p ≤ i ∧ i < r.p + r.n := Iff.rfl
    simp only [sumE]
    by_cases c1 : r.p ≤ i
    · by_cases c2 : r.p + r.n ≤ i
      · rw [if_pos c1, if_pos c2, if_neg (by rw [hcv]; omega)]; omega
      · rw [if_pos c1, if_neg c2, if_pos (hcv.2 (by omega))]; omega
    · rw [if_neg c1, if_neg (by omega), if_neg (by rw [hcv]; omega)]; omega
theorem totE_edges (l : List Rf) : totE (edges l) = 0 := by
  induction l with
  | nil => rfl
  | cons r t ih =>
    unfold edges at ih ⊢
    rw [List.flatMap_cons, totE_append, ih]
    simp [totE]
theorem sumE_all {l : List Ed} {i : Int} (h : ∀ e ∈ l, e.a ≤ i) : sumE l i = totE l := by
  induction l with
  | nil => rfl
  | cons e t ih => rw [sumE, totE, if_pos (h e List.mem_cons_self), ih fun x hx => h x (List.mem_cons_of_mem _ hx)]
theorem sumE_none {l : List Ed} {i : Int} (h : ∀ e ∈ l, i < e.a) : sumE l i = 0 := by
  induction l with
  | nil => rfl
  | cons e t ih =>
    have := h e List.mem_cons_self
    rw [sumE, if_neg (by omega), ih fun x hx => h x (List.mem_cons_of_mem _ hx)]; omega
def stepC (s : List Ex × Int × Int) (e : Ed) : List Ex × Int × Int :=
  (if 0 < s.2.1 ∧ s.2.2 < e.a then addE s.1 ⟨s.2.2, s.2.1 + s.2.2, e.a - s.2.2⟩ else s.1, s.2.1 + e.b, e.a)
def foldC (es : List Ed) : List Ex := (es.foldl stepC ([], 0, 0)).1
def lookC (F : Int → Int) (i : Int) : Option Int := if 0 < F i then some (F i + i) else none
theorem foldC_go {rest : List Ed} : ∀ {done : List Ed} {out : List Ex} {n at_ : Int}, n = totE done → 0 ≤ at_ → (∀ e ∈ done, e.a ≤ at_) → (∀ e ∈ rest, at_ ≤ e.a) → rest.Pairwise (fun a b => a.a ≤ b.a) →
    NF out → endsBy out at_ → (∀ i, lookE out i = if i < at_ then lookC (sumE (done ++ rest)) i else none) →
    NF (rest.foldl stepC (out, n, at_)).1 ∧ ∃ b, totE (done ++ rest) = totE done + totE rest ∧ (∀ e ∈ done ++ rest, e.a ≤ b) ∧ ∀ i, lookE (rest.foldl stepC (out, n, at_)).1 i = if i < b then lookC (sumE (done ++ rest)) i else none := by
  induction rest with
  | nil =>
    intro done out n at_ hn h0 h1 h2 hs hN hE hL
    exact ⟨hN, at_, totE_append _ _, by rw [List.append_nil]; exact h1, hL⟩
  | cons e t ih =>
    intro done out n at_ hn h0 h1 h2 hs hN hE hL
    have ha := h2 e List.mem_cons_self
    obtain ⟨s1, s2⟩ := List.pairwise_cons.1 hs
    have hF : ∀ i, at_ ≤ i → i < e.a → sumE (done ++ e :: t) i = n := by
      intro i h3 h4
      rw [sumE_append, sumE_all fun x hx => by have := h1 x hx; omega, sumE_none (l := e :: t) fun x hx => by
        cases hx with
        | head => exact h4
        | tail _ hx => have := s1 x hx; omega]
      omega
    have e1 : done ++ e :: t = (done ++ [e]) ++ t := by simp
    rw [List.foldl_cons, e1]
    rw [e1] at hL hF
    have hnext : ∀ out', NF out' → endsBy out' e.a → (∀ i, lookE out' i = if i < e.a then lookC (sumE ((done ++ [e]) ++ t)) i else none) →
        NF (t.foldl stepC (out', n + e.b, e.a)).1 ∧ ∃ b, totE ((done ++ [e]) ++ t) = totE done + totE (e :: t) ∧ (∀ x ∈ (done ++ [e]) ++ t, x.a ≤ b) ∧ ∀ i, lookE (t.foldl stepC (out', n + e.b, e.a)).1 i = if i < b then lookC (sumE ((done ++ [e]) ++ t)) i else none := by
      intro out' hN' hE' hL'
      obtain ⟨q1, b, q2, q3, q4⟩ := ih (done := done ++ [e]) (out := out') (n := n + e.b) (at_ := e.a) (by rw [totE_append]; simp [totE]; omega) (by omega) (fun x hx => by
        rcases List.mem_append.1 hx with hx | hx
        · have := h1 x hx; omega
        · have : x = e := by simpa using hx
          rw [this]; omega) s1 s2 hN' hE' hL'
      refine ⟨q1, b, ?_, q3, q4⟩
      rw [totE_append, totE_append]; simp [totE]; omega
    show NF (t.foldl stepC (stepC (out, n, at_) e)).1 ∧ _
    unfold stepC
    dsimp only
    by_cases hc : 0 < n ∧ at_ < e.a
    · rw [if_pos hc]
      obtain ⟨g1, g2, g3⟩ := addE_spec (x := ⟨at_, n + at_, e.a - at_⟩) hN hE
      refine hnext _ g1 (g2.mono (by dsimp only; omega)) fun i => ?_
      rw [g3, hL]
      dsimp only
      by_cases h3 : at_ ≤ i ∧ i < at_ + (e.a - at_)
      · rw [if_pos h3, if_pos (by omega)]
        have hFi := hF i h3.1 (by omega)
        unfold lookC valAt
        rw [hFi, if_pos hc.1]
        dsimp only
        rw [if_neg (by omega)]
        congr 1; omega
      · rw [if_neg h3]
        by_cases h4 : i < at_
        · rw [if_pos h4, if_pos (by omega)]
        · rw [if_neg h4, if_neg (by omega)]
    · rw [if_neg hc]
      refine hnext _ hN (hE.mono ha) fun i => ?_
      rw [hL]
      by_cases h4 : i < at_
      · rw [if_pos h4, if_pos (by omega)]
      · rw [if_neg h4]
        by_cases h5 : i < e.a
        · rw [if_pos h5]
          unfold lookC
          rw [hF i (by omega) h5, if_neg (by omega)]
        · rw [if_neg h5]
theorem foldC_spec {l : List Rf} {es : List Ed} (h : ∀ r ∈ l, 0 < r.n ∧ 0 ≤ r.p) (hp : es.Perm (edges l)) (hs : es.Pairwise fun a b => a.a ≤ b.a) :
    NF (foldC es) ∧ ∀ i, lookE (foldC es) i = lookC (cnt l) i := by
  have h0 : ∀ e ∈ es, 0 ≤ e.a := by
    intro e he
    have he := hp.mem_iff.1 he
    unfold edges at he
    obtain ⟨r, hr, hx⟩ := List.mem_flatMap.1 he
    have := h r hr
    simp at hx
    rcases hx with rfl | rfl
    · exact this.2
    · show 0 ≤ r.p + r.n; omega
  obtain ⟨h1, b, h2, h3, h4⟩ := foldC_go (rest := es) (done := []) (out := []) (n := 0) (at_ := 0) rfl (Int.le_refl _) (by intro e he; cases he) h0 hs trivial (endsBy_nil 0) (fun i => by
    rw [List.nil_append]
    show none = _
    by_cases hi : i < 0
    · rw [if_pos hi]
      unfold lookC
      rw [sumE_none fun e he => by have := h0 e he; omega, if_neg (by omega)]
    · rw [if_neg hi])
  refine ⟨h1, fun i => ?_⟩
  show lookE (es.foldl stepC ([], 0, 0)).1 i = _
  rw [h4, List.nil_append]
  have hc : ∀ i, sumE es i = cnt l i := fun i => by rw [sumE_perm hp, sumE_edges fun r hr => (h r hr).1]
  by_cases hi : i < b
  · rw [if_pos hi]
    unfold lookC
    rw [hc]
  · rw [if_neg hi]
    unfold lookC
    have : cnt l i = 0 := by
      rw [← hc, sumE_all fun e he => by have := h3 e (by simpa using he); omega, totE_perm hp, totE_edges]
    rw [this, if_neg (by omega)]
end Flag
namespace Flag
def CountsOf (l : List Rf) (c : List Ex) : Prop := NF c ∧ ∀ i, lookE c i = lookC (cnt l) i
theorem CountsOf.one {l : List Rf} {c d : List Ex} (h : CountsOf l c) (g : CountsOf l d) : c = d := NF.ext h.1 g.1 fun i => by rw [h.2, g.2]
theorem CountsOf.perm {l m : List Rf} {c : List Ex} (h : CountsOf l c) (hp : l.Perm m) : CountsOf m c := ⟨h.1, fun i => by
  rw [h.2]
  unfold lookC
  rw [cnt_perm hp]⟩
theorem counts_prog {l : List Rf} {es : List Ed} (h : ∀ r ∈ l, 0 < r.n ∧ 0 ≤ r.p) (hp : es.Perm (edges l)) (hs : es.Pairwise fun a b => a.a ≤ b.a) : CountsOf l (foldC es) := foldC_spec h hp hs
end Flag
namespace Flag
theorem CountsOf.some {l : List Rf} {c : List Ex} (h : CountsOf l c) {i : Int} (hi : 0 < cnt l i) : ∃ y ∈ c, y.v ≤ i ∧ i < y.v + y.n ∧ valAt y i = cnt l i + i := by
  have h2 := h.2 i
  unfold lookC at h2
  rw [if_pos hi] at h2
  obtain ⟨y, hy, a, b, e⟩ := lookE_some_mem h2
  exact ⟨y, hy, a, b, e.symm⟩
end Flag
def toR (x : S88) : Flag.Rf := ⟨x.f0, x.f1, x.f2, x.f3⟩
theorem toR_inj {x y : S88} (h : toR x = toR y) : x = y := by
  cases x; cases y
  simp only [toR, Flag.Rf.mk.injEq] at h
  obtain ⟨rfl, rfl, rfl, rfl⟩ := h
  rfl
theorem mapR_inj {a b : List S88} (h : a.map toR = b.map toR) : a = b := by
  induction a generalizing b with
  | nil => cases b with
    | nil => rfl
    | cons y t => cases h
  | cons x t ih =>
    cases b with
    | nil => cases h
    | cons y u =>
      rw [List.map_cons, List.map_cons] at h
      injection h with h1 h2
      rw [ih h2, toR_inj h1]
def refs_Check.l0 : Nat → Int → List (S94) → Int → Int → Option (Int)
 | 0, _, _, _, _ => none
 | k + 1, x3, x9, x10, x11 => if x11 < x10 then (if 0 ≤ x11 then (if x11 < (x9.length : Int) then (if ((rd_T94 x9 x11).f0) ≤ x3 then (some 9) else (if ((rd_T94 x9 x11).f0) > 255 then (some 9) else ((extent_Check.f k ((rd_T94 x9 x11).f1)).bind fun t103 => (if t103 = 0 then (refs_Check.l0 k ((rd_T94 x9 x11).f0) x9 x10 (wrap64 (x11 + 1))) else (some 9))))) else (none)) else (none)) else (some 0)
def refs_Check.f (k : Nat) (l0 : List (S94)) : Option (Int) := if (l0.length : Int) > 9 then (some 9) else (refs_Check.l0 k (-1) l0 (l0.length : Int) 0)
theorem refs_Check.mono_l : ∀ k, (∀ y0 y1 y2 y3, LeO (refs_Check.l0 k y0 y1 y2 y3) (refs_Check.l0 (k + 1) y0 y1 y2 y3))
 | 0 => fun _ _ _ _ r h => by simp [refs_Check.l0] at h
 | k + 1 => by
  have ih0 := refs_Check.mono_l k
  ·intro y0 y1 y2 y3
   unfold refs_Check.l0
   repeat' first
   | (with_reducible exact ih0 _ _ _ _)
   | (with_reducible exact extent_Check.mono _ _)
   | (with_reducible exact LeO.refl _)
   | (with_reducible exact LeO.none _)
   | (with_reducible refine LeO.ite ?_ ?_)
   | (with_reducible refine LeO.bind ?_ (fun _ => ?_))
   | exact ih0 _ _ _ _
   | exact extent_Check.mono _ _
   | exact LeO.none _
   | refine LeO.ite ?_ ?_
   | refine LeO.bind ?_ (fun _ => ?_)
theorem refs_Check.mono : ∀ a0 k, LeO (refs_Check.f k a0) (refs_Check.f (k + 1) a0) := by
 intro a0 k
 have ih0 := refs_Check.mono_l k
 unfold refs_Check.f
 repeat' first
  | (with_reducible exact ih0 _ _ _ _)
  | (with_reducible exact extent_Check.mono _ _)
  | (with_reducible exact LeO.refl _)
  | (with_reducible exact LeO.none _)
  | (with_reducible refine LeO.ite ?_ ?_)
  | (with_reducible refine LeO.bind ?_ (fun _ => ?_))
  | exact ih0 _ _ _ _
  | exact extent_Check.mono _ _
  | exact LeO.none _
  | refine LeO.ite ?_ ?_
  | refine LeO.bind ?_ (fun _ => ?_)
set_option maxHeartbeats 8000000 in
set_option maxRecDepth 100000 in
theorem refs_Check.calls (k : Nat) (A0 : Option Addr) (c0 : Nat) (l0 : List (S94)) (r : Int) (w : World) (hr0 : Kd.C k94 w A0 l0.length l0) (hc0 : l0.length ≤ c0) (h : refs_Check.f k l0 = some r) :
 Calls Try.prog 72 #[.slice A0 l0.length c0] w fun e w' => e = .returned (.int .i64 r) ∧ Below w.heap.size w w' := by
 have hu94 := Try.underlying94
 have HR0 := Aside0.mk hr0
 have HC0 := Aside0.mk hc0
 clear hr0 hc0
 have HB := Aside0.mk (Below.refl w.heap.size w)
 have H : (if (l0.length : Int) > 9 then (some 9) else (refs_Check.l0 k (-1) l0 (l0.length : Int) 0)) = some r := h
 clear h
 by_cases c2 : (l0.length : Int) > 9
 ·rw [if_pos c2] at H
  have c2b0 : decide (9 < (l0.length : Int)) = true := decide_eq_true c2
  have c2b1 : decide (9 < l0.length) = true := decide_eq_true (by omega)
  clear c2
  obtain rfl := Option.some.inj H
  go_enter Try.func72, Try.ntmps72
  go_wp2
  go_ret
  exact ⟨by first | rfl | (simp [errW_none, errW_some] <;> rfl) | (simp [*, errW_none, errW_some] <;> rfl), by repeat (first | (with_reducible first | exact HB.out | apply below_alloc | apply pw_below_drewN | apply below_drew1) | exact HB.out)⟩
 ·rw [if_neg c2] at H
  have c2b0 : decide (9 < (l0.length : Int)) = false := decide_eq_false c2
  have c2b1 : decide (9 < l0.length) = false := decide_eq_false (by omega)
  clear c2
  have H' := Aside0.mk H
  clear H
  go_enter Try.func72, Try.ntmps72
  go_wp2
  go_loopg [3, 11] k (fun kq v3 v11 w' => ∃ (x3_1 : Int) (x11_1 : Int), v3 = .int .i64 x3_1 ∧ v11 = .int .i64 x11_1 ∧ Aside0 (refs_Check.l0 kq x3_1 l0 (l0.length : Int) x11_1 = some r) ∧ Aside0 (kq ≤ k) ∧ Aside0 (Below w.heap.size w w'))
  case atStart => exact ⟨((-1)), (0), (by first | rfl | (simp; done) | (simp [*]; done)), (by first | rfl | (simp; done) | (simp [*]; done)), H', ⟨Nat.le_refl _⟩, ⟨by repeat (first | (with_reducible first | exact HB.out | apply below_alloc | apply pw_below_drewN | apply below_drew1) | exact HB.out)⟩⟩
  case round =>
   clear H'
   try clear c2
   try clear c2b0
   try clear c2b1
   try clear p2
   obtain ⟨x3_1, x11_1, rfl, rfl, HA, HK1, HB⟩ := hrel
   cases gk with
   | zero => exact absurd HA.out (by simp [refs_Check.l0])
   | succ k1 =>
    have H := HA.out
    clear HA
    simp only [refs_Check.l0] at H
    by_cases c3 : x11_1 < (l0.length : Int)
    ·rw [if_pos c3] at H
     have c3b0 : decide (x11_1 < (l0.length : Int)) = true := decide_eq_true c3
     clear c3
     by_cases c4 : 0 ≤ x11_1
     ·rw [if_pos c4] at H
      have c4b0 : decide (0 ≤ x11_1) = true := decide_eq_true c4
      clear c4
      by_cases c5 : x11_1 < (l0.length : Int)
      ·rw [if_pos c5] at H
       have c5b0 : decide (x11_1 < (l0.length : Int)) = true := decide_eq_true c5
       clear c5
       by_cases c6 : ((rd_T94 l0 x11_1).f0) ≤ x3_1
       ·rw [if_pos c6] at H
        have c6b0 : decide (((rd_T94 l0 x11_1).f0) ≤ x3_1) = true := decide_eq_true c6
        clear c6
        obtain rfl := Option.some.inj H
        have p101 : 0 ≤ (x11_1 : Int) := of_decide_eq_true (by first | (with_reducible assumption) | assumption)
        have q101 : x11_1 < (l0.length : Int) := of_decide_eq_true (by first | (with_reducible assumption) | assumption)
        obtain ⟨ad101, A101_1, c101_1, e101, hx101_0, hx101_1, hl101_1, hi101_1⟩ := at_T94 HR0.out x11_1 p101 q101
        cases e101
        replace hx101_0 := (HB.out.cell (World.block_lt_of_cell? w _ hx101_0)).trans hx101_0
        replace hx101_1 := (HB.out.cell (World.block_lt_of_cell? w _ hx101_1)).trans hx101_1
        have HR101_1 := Aside0.mk hi101_1
        have HC101_1 := Aside0.mk hl101_1
        clear hi101_1 hl101_1
        replace p101 := eq_true p101
        replace q101 := eq_true q101
        go_wp2_with (first | ((with_reducible refine gate_dst (N := 5) rfl ?_); refine box_event ?hg (N := 5) ?hd (cs := #[.int .i64 0, .slice none 0 0]) (t := 94) ?hr ?_; (case hd => rfl); (case hg => rfl); (case hr => first | (go_simp; done) | (go_simp; rfl)); intro gb102 hg w7 hbox hb; have n0_ := Aside0.mk (below_step (by repeat (first | (with_reducible first | exact HB.out | apply below_alloc | apply pw_below_drewN | apply below_drew1) | exact HB.out)) hb); have n1_ := Aside0.mk (hbox); have n2_ := Aside0.mk ((by rw [hg]; exact (below_size (by repeat (first | (with_reducible first | exact HB.out | apply below_alloc | apply pw_below_drewN | apply below_drew1) | exact HB.out))) : w.heap.size ≤ gb102)); have n3_ := Aside0.mk ((by rw [hg]; exact (below_size (by repeat (first | (with_reducible first | exact HB.out | apply below_alloc | apply pw_below_drewN | apply below_drew1) | exact HB.out))) : w.heap.size ≤ gb102)); clear HB; have HB := n0_; have BK102 := n1_; have GW102 := n2_; have GE102 := n3_; clear n0_ n1_ n2_ n3_; clear hb hbox hg; have hcz8_0 : w7.cell? ⟨gb102, 0, none⟩ = some (.int .i64 0) := (blk_cell BK102.out 0).trans rfl; have hcz8_1 : w7.cell? ⟨gb102, 1, none⟩ = some (.slice none 0 0) := (blk_cell BK102.out 1).trans rfl; have hfz8_0 := blk_frozen BK102.out 0; have hfz8_1 := blk_frozen BK102.out 1))
        go_ret
        exact ⟨by first | rfl | (simp [errW_none, errW_some] <;> rfl) | (simp [*, errW_none, errW_some] <;> rfl), by repeat (first | (with_reducible first | exact HB.out | apply below_alloc | apply pw_below_drewN | apply below_drew1 | refine below_set ?_ GE102.out) | exact HB.out)⟩
       ·rw [if_neg c6] at H
        have c6b0 : decide (((rd_T94 l0 x11_1).f0) ≤ x3_1) = false := decide_eq_false c6
        clear c6
        by_cases c9 : ((rd_T94 l0 x11_1).f0) > 255
        ·rw [if_pos c9] at H
         have c9b0 : decide (255 < ((rd_T94 l0 x11_1).f0)) = true := decide_eq_true c9
         clear c9
         obtain rfl := Option.some.inj H
         have p101 : 0 ≤ (x11_1 : Int) := of_decide_eq_true (by first | (with_reducible assumption) | assumption)
         have q101 : x11_1 < (l0.length : Int) := of_decide_eq_true (by first | (with_reducible assumption) | assumption)
         obtain ⟨ad101, A101_1, c101_1, e101, hx101_0, hx101_1, hl101_1, hi101_1⟩ := at_T94 HR0.out x11_1 p101 q101
         cases e101
         replace hx101_0 := (HB.out.cell (World.block_lt_of_cell? w _ hx101_0)).trans hx101_0
         replace hx101_1 := (HB.out.cell (World.block_lt_of_cell? w _ hx101_1)).trans hx101_1
         have HR101_1 := Aside0.mk hi101_1
         have HC101_1 := Aside0.mk hl101_1
         clear hi101_1 hl101_1
         replace p101 := eq_true p101
         replace q101 := eq_true q101
         go_wp2_with (first | ((with_reducible refine gate_dst (N := 5) rfl ?_); refine box_event ?hg (N := 5) ?hd (cs := #[.int .i64 0, .slice none 0 0]) (t := 94) ?hr ?_; (case hd => rfl); (case hg => rfl); (case hr => first | (go_simp; done) | (go_simp; rfl)); intro gb102 hg w10 hbox hb; have n0_ := Aside0.mk (below_step (by repeat (first | (with_reducible first | exact HB.out | apply below_alloc | apply pw_below_drewN | apply below_drew1) | exact HB.out)) hb); have n1_ := Aside0.mk (hbox); have n2_ := Aside0.mk ((by rw [hg]; exact (below_size (by repeat (first | (with_reducible first | exact HB.out | apply below_alloc | apply pw_below_drewN | apply below_drew1) | exact HB.out))) : w.heap.size ≤ gb102)); have n3_ := Aside0.mk ((by rw [hg]; exact (below_size (by repeat (first | (with_reducible first | exact HB.out | apply below_alloc | apply pw_below_drewN | apply below_drew1) | exact HB.out))) : w.heap.size ≤ gb102)); clear HB; have HB := n0_; have BK102 := n1_; have GW102 := n2_; have GE102 := n3_; clear n0_ n1_ n2_ n3_; clear hb hbox hg; have hcz11_0 : w10.cell? ⟨gb102, 0, none⟩ = some (.int .i64 0) := (blk_cell BK102.out 0).trans rfl; have hcz11_1 : w10.cell? ⟨gb102, 1, none⟩ = some (.slice none 0 0) := (blk_cell BK102.out 1).trans rfl; have hfz11_0 := blk_frozen BK102.out 0; have hfz11_1 := blk_frozen BK102.out 1))
         go_ret
         exact ⟨by first | rfl | (simp [errW_none, errW_some] <;> rfl) | (simp [*, errW_none, errW_some] <;> rfl), by repeat (first | (with_reducible first | exact HB.out | apply below_alloc | apply pw_below_drewN | apply below_drew1 | refine below_set ?_ GE102.out) | exact HB.out)⟩
        ·rw [if_neg c9] at H
         have c9b0 : decide (255 < ((rd_T94 l0 x11_1).f0)) = false := decide_eq_false c9
         clear c9
         replace H := Option.bind_eq_some_iff.mp H
         obtain ⟨t103, A120, H⟩ := H
         replace H : (if t103 = 0 then (refs_Check.l0 k1 ((rd_T94 l0 x11_1).f0) l0 (l0.length : Int) (wrap64 (x11_1 + 1))) else (some 9)) = some r := H
         have A12 := Aside0.mk A120
         clear A120
         by_cases c13 : t103 = 0
         ·rw [if_pos c13] at H
          have c13b0 : (t103 == 0) = true := beq_iff_eq.mpr c13
          have c13b1 : (t103 != 0) = false := bne_eq_false_iff_eq.mpr c13
          clear c13
          have H' := Aside0.mk H
          clear H
          have p101 : 0 ≤ (x11_1 : Int) := of_decide_eq_true (by first | (with_reducible assumption) | assumption)
          have q101 : x11_1 < (l0.length : Int) := of_decide_eq_true (by first | (with_reducible assumption) | assumption)
          obtain ⟨ad101, A101_1, c101_1, e101, hx101_0, hx101_1, hl101_1, hi101_1⟩ := at_T94 HR0.out x11_1 p101 q101
          cases e101
          replace hx101_0 := (HB.out.cell (World.block_lt_of_cell? w _ hx101_0)).trans hx101_0
          replace hx101_1 := (HB.out.cell (World.block_lt_of_cell? w _ hx101_1)).trans hx101_1
          have HR101_1 := Aside0.mk hi101_1
          have HC101_1 := Aside0.mk hl101_1
          clear hi101_1 hl101_1
          replace p101 := eq_true p101
          replace q101 := eq_true q101
          go_wp2_with (first | ((with_reducible refine gate_dst (N := 5) rfl ?_); refine box_event ?hg (N := 5) ?hd (cs := #[.int .i64 0, .slice none 0 0]) (t := 94) ?hr ?_; (case hd => rfl); (case hg => rfl); (case hr => first | (go_simp; done) | (go_simp; rfl)); intro gb102 hg w14 hbox hb; have n0_ := Aside0.mk (below_step (by repeat (first | (with_reducible first | exact HB.out | apply below_alloc | apply pw_below_drewN | apply below_drew1) | exact HB.out)) hb); have n1_ := Aside0.mk (hbox); have n2_ := Aside0.mk ((by rw [hg]; exact (below_size (by repeat (first | (with_reducible first | exact HB.out | apply below_alloc | apply pw_below_drewN | apply below_drew1) | exact HB.out))) : w.heap.size ≤ gb102)); have n3_ := Aside0.mk ((by rw [hg]; exact (below_size (by repeat (first | (with_reducible first | exact HB.out | apply below_alloc | apply pw_below_drewN | apply below_drew1) | exact HB.out))) : w.heap.size ≤ gb102)); clear HB; have HB := n0_; have BK102 := n1_; have GW102 := n2_; have GE102 := n3_; clear n0_ n1_ n2_ n3_; clear hb hbox hg; have hcz15_0 : w14.cell? ⟨gb102, 0, none⟩ = some (.int .i64 0) := (blk_cell BK102.out 0).trans rfl; have hcz15_1 : w14.cell? ⟨gb102, 1, none⟩ = some (.slice none 0 0) := (blk_cell BK102.out 1).trans rfl; have hfz15_0 := blk_frozen BK102.out 0; have hfz15_1 := blk_frozen BK102.out 1) | (go_at_call 36; (with_reducible refine (extent_Check.calls k1 _ _ ((rd_T94 l0 x11_1).f1) t103 _ ?side1 ?side2 A12.out).mono ?_); (case side1 => exact Kd.C_below HR101_1.out (by repeat (first | (with_reducible first | exact HB.out | apply below_alloc | apply pw_below_drewN | apply below_drew1 | refine below_set ?_ GE102.out) | exact HB.out))); (case side2 => exact HC101_1.out); rintro e w16 ⟨rfl, hb⟩; have n0_ := Aside0.mk (blk_below (g := gb102) (o := .cells #[.int .i64 ((rd_T94 l0 x11_1).f0), .slice A101_1 ((rd_T94 l0 x11_1).f1).length c101_1] 94 (0, 0)) (by (with_reducible repeat (first | refine blk_drewN ?_ _ | refine blk_drew ?_ | refine blk_alloc ?_ _)); refine blk_put (cs := #[.int .i64 ((rd_T94 l0 x11_1).f0), .slice none 0 0]) ?_ 1 _ rfl; (with_reducible repeat (first | refine blk_drewN ?_ _ | refine blk_drew ?_ | refine blk_alloc ?_ _)); refine blk_put (cs := #[.int .i64 0, .slice none 0 0]) ?_ 0 _ rfl; (with_reducible repeat (first | refine blk_drewN ?_ _ | refine blk_drew ?_ | refine blk_alloc ?_ _)); exact BK102.out) hb); have n1_ := Aside0.mk (below_step (by repeat (first | (with_reducible first | exact HB.out | apply below_alloc | apply pw_below_drewN | apply below_drew1 | refine below_set ?_ GE102.out) | exact HB.out)) hb); clear BK102; clear HB; have BK102 := n0_; have HB := n1_; clear n0_ n1_; (try clear hb); (try clear hb2); (try clear hk); (try clear hi); have hcz17_0 : w16.cell? ⟨gb102, 0, none⟩ = some (.int .i64 ((rd_T94 l0 x11_1).f0)) := (blk_cell BK102.out 0).trans rfl; have hcz17_1 : w16.cell? ⟨gb102, 1, none⟩ = some (.slice A101_1 ((rd_T94 l0 x11_1).f1).length c101_1) := (blk_cell BK102.out 1).trans rfl; have hfz17_0 := blk_frozen BK102.out 0; have hfz17_1 := blk_frozen BK102.out 1))
          go_roundg k1
          case measure => have := HK1.out; omega
          case rel => exact ⟨((rd_T94 l0 x11_1).f0), (wrap64 (x11_1 + 1)), (by first | rfl | (simp; done) | (simp [*]; done)), (by first | rfl | (simp; done) | (simp [*]; done)), H', ⟨by have := HK1.out; omega⟩, ⟨by repeat (first | (with_reducible first | exact HB.out | apply below_alloc | apply pw_below_drewN | apply below_drew1 | refine below_set ?_ GE102.out) | exact HB.out)⟩⟩
         ·rw [if_neg c13] at H
          have c13b0 : (t103 == 0) = false := beq_eq_false_iff_ne.mpr c13
          have c13b1 : (t103 != 0) = true := bne_iff_ne.mpr c13
          obtain rfl := Option.some.inj H
          have p101 : 0 ≤ (x11_1 : Int) := of_decide_eq_true (by first | (with_reducible assumption) | assumption)
          have q101 : x11_1 < (l0.length : Int) := of_decide_eq_true (by first | (with_reducible assumption) | assumption)
          obtain ⟨ad101, A101_1, c101_1, e101, hx101_0, hx101_1, hl101_1, hi101_1⟩ := at_T94 HR0.out x11_1 p101 q101
          cases e101
          replace hx101_0 := (HB.out.cell (World.block_lt_of_cell? w _ hx101_0)).trans hx101_0
          replace hx101_1 := (HB.out.cell (World.block_lt_of_cell? w _ hx101_1)).trans hx101_1
          have HR101_1 := Aside0.mk hi101_1
          have HC101_1 := Aside0.mk hl101_1
          clear hi101_1 hl101_1
          replace p101 := eq_true p101
          replace q101 := eq_true q101
          go_wp2_with (first | ((with_reducible refine gate_dst (N := 5) rfl ?_); refine box_event ?hg (N := 5) ?hd (cs := #[.int .i64 0, .slice none 0 0]) (t := 94) ?hr ?_; (case hd => rfl); (case hg => rfl); (case hr => first | (go_simp; done) | (go_simp; rfl)); intro gb102 hg w18 hbox hb; have n0_ := Aside0.mk (below_step (by repeat (first | (with_reducible first | exact HB.out | apply below_alloc | apply pw_below_drewN | apply below_drew1) | exact HB.out)) hb); have n1_ := Aside0.mk (hbox); have n2_ := Aside0.mk ((by rw [hg]; exact (below_size (by repeat (first | (with_reducible first | exact HB.out | apply below_alloc | apply pw_below_drewN | apply below_drew1) | exact HB.out))) : w.heap.size ≤ gb102)); have n3_ := Aside0.mk ((by rw [hg]; exact (below_size (by repeat (first | (with_reducible first | exact HB.out | apply below_alloc | apply pw_below_drewN | apply below_drew1) | exact HB.out))) : w.heap.size ≤ gb102)); clear HB; have HB := n0_; have BK102 := n1_; have GW102 := n2_; have GE102 := n3_; clear n0_ n1_ n2_ n3_; clear hb hbox hg; have hcz19_0 : w18.cell? ⟨gb102, 0, none⟩ = some (.int .i64 0) := (blk_cell BK102.out 0).trans rfl; have hcz19_1 : w18.cell? ⟨gb102, 1, none⟩ = some (.slice none 0 0) := (blk_cell BK102.out 1).trans rfl; have hfz19_0 := blk_frozen BK102.out 0; have hfz19_1 := blk_frozen BK102.out 1) | (go_at_call 36; (with_reducible refine (extent_Check.calls k1 _ _ ((rd_T94 l0 x11_1).f1) t103 _ ?side1 ?side2 A12.out).mono ?_); (case side1 => exact Kd.C_below HR101_1.out (by repeat (first | (with_reducible first | exact HB.out | apply below_alloc | apply pw_below_drewN | apply below_drew1 | refine below_set ?_ GE102.out) | exact HB.out))); (case side2 => exact HC101_1.out); rintro e w20 ⟨rfl, hb⟩; have n0_ := Aside0.mk (blk_below (g := gb102) (o := .cells #[.int .i64 ((rd_T94 l0 x11_1).f0), .slice A101_1 ((rd_T94 l0 x11_1).f1).length c101_1] 94 (0, 0)) (by (with_reducible repeat (first | refine blk_drewN ?_ _ | refine blk_drew ?_ | refine blk_alloc ?_ _)); refine blk_put (cs := #[.int .i64 ((rd_T94 l0 x11_1).f0), .slice none 0 0]) ?_ 1 _ rfl; (with_reducible repeat (first | refine blk_drewN ?_ _ | refine blk_drew ?_ | refine blk_alloc ?_ _)); refine blk_put (cs := #[.int .i64 0, .slice none 0 0]) ?_ 0 _ rfl; (with_reducible repeat (first | refine blk_drewN ?_ _ | refine blk_drew ?_ | refine blk_alloc ?_ _)); exact BK102.out) hb); have n1_ := Aside0.mk (below_step (by repeat (first | (with_reducible first | exact HB.out | apply below_alloc | apply pw_below_drewN | apply below_drew1 | refine below_set ?_ GE102.out) | exact HB.out)) hb); clear BK102; clear HB; have BK102 := n0_; have HB := n1_; clear n0_ n1_; (try clear hb); (try clear hb2); (try clear hk); (try clear hi)))
          go_ret
          exact ⟨by first | rfl | (simp [errW_none, errW_some] <;> rfl) | (simp [*, errW_none, errW_some] <;> rfl), by repeat (first | (with_reducible first | exact HB.out | apply below_alloc | apply pw_below_drewN | apply below_drew1 | refine below_set ?_ GE102.out) | exact HB.out)⟩
      ·rw [if_neg c5] at H
       exact absurd H (by simp)
     ·rw [if_neg c4] at H
      exact absurd H (by simp)
    ·rw [if_neg c3] at H
     have c3b0 : decide (x11_1 < (l0.length : Int)) = false := decide_eq_false c3
     clear c3
     obtain rfl := Option.some.inj H
     go_wp2
     go_ret
     exact ⟨by first | rfl | (simp [errW_none, errW_some] <;> rfl) | (simp [*, errW_none, errW_some] <;> rfl), by repeat (first | (with_reducible first | exact HB.out | apply below_alloc | apply pw_below_drewN | apply below_drew1) | exact HB.out)⟩
def toM (x : S94) : Flag.Mp := ⟨x.f0, x.f1.map toE⟩
theorem rd_map (pre : List S94) (x : S94) (t : List S94) {i : Int} (h : i = pre.length) : rd_T94 (pre ++ x :: t) i = x := by
  unfold rd_T94
  rw [h, Int.toNat_natCast, List.getD_eq_getElem?_getD, List.getElem?_append_right (Nat.le_refl _), Nat.sub_self]; rfl
theorem checkM_l (l : List S94) (hl : l.length ≤ 9) (t : List S94) : ∀ (pre : List S94) (e : Int) (k : Nat), l = pre ++ t → 1100 + t.length < k → refs_Check.l0 k e l (l.length : Int) (pre.length : Int) = some (if Flag.risM e (t.map toM) = true then 0 else 9) := by
  induction t with
  | nil =>
    intro pre e k h hk
    obtain ⟨k, rfl⟩ : ∃ m, k = m + 1 := ⟨k - 1, by omega⟩
    rw [refs_Check.l0, if_neg (by rw [h]; simp)]
    rfl
  | cons x t ih =>
    intro pre e k h hk
    rw [List.length_cons] at hk
    obtain ⟨k, rfl⟩ : ∃ m, k = m + 1 := ⟨k - 1, by omega⟩
    have hlen : l.length = pre.length + t.length + 1 := by rw [h]; simp; omega
    have hr : rd_T94 l (pre.length : Int) = x := by rw [h]; exact rd_map pre x t rfl
    have e1 : wrap64 ((pre.length : Int) + 1) = ((pre ++ [x]).length : Int) := by rw [w64 (by omega)]; simp
    rw [refs_Check.l0, if_pos (by omega), if_pos (by omega), if_pos (by omega), hr, e1, List.map_cons, Flag.risM]
    show _ = some (if (decide (e < x.f0) && decide (x.f0 ≤ 255) && decide (Flag.checkE (x.f1.map toE) = 0) && Flag.risM x.f0 (t.map toM)) = true then 0 else 9)
    by_cases c1 : x.f0 ≤ e
    · rw [if_pos c1, decide_eq_false (show ¬ e < x.f0 by omega)]
      simp
    · rw [if_neg c1, decide_eq_true (show e < x.f0 by omega)]
      by_cases c2 : x.f0 > 255
      · rw [if_pos c2, decide_eq_false (show ¬ x.f0 ≤ 255 by omega)]
        simp
      · rw [if_neg c2, decide_eq_true (show x.f0 ≤ 255 by omega)]
        by_cases c4 : x.f1.length ≤ 1024
        · rw [check_x x.f1 (by omega), Option.bind_some]
          by_cases c3 : Flag.checkE (x.f1.map toE) = 0
          · rw [if_pos c3, decide_eq_true c3, ih (pre ++ [x]) x.f0 k (by rw [h]; simp) (by omega)]
            simp
          · rw [if_neg c3, decide_eq_false c3]
            simp
        · have e9 : Flag.checkE (x.f1.map toE) = 9 := by unfold Flag.checkE; rw [if_neg]; intro hh; apply c4; simpa using hh.1
          have ex : extent_Check.f k x.f1 = some 9 := by unfold extent_Check.f; rw [if_pos (by omega)]
          rw [ex, Option.bind_some, e9, if_neg (by omega)]
          simp
theorem check9 (l : List S94) : refs_Check.f 1200 l = some (Flag.checkM (l.map toM)) := by
  unfold refs_Check.f Flag.checkM
  rw [List.length_map]
  by_cases c : (l.length : Int) > 9
  · rw [if_pos c, if_neg (by omega)]
  · rw [if_neg c]
    have h := checkM_l l (by omega) l [] (-1) 1200 rfl (by omega)
    rw [show (([] : List S94).length : Int) = 0 from rfl] at h
    rw [h]
    by_cases c2 : Flag.risM (-1) (l.map toM) = true
    · rw [if_pos c2, if_pos ⟨by omega, c2⟩]
    · rw [if_neg c2, if_neg (fun hh => c2 hh.2)]
def getM (o : Int) : List S94 → List S24
  | [] => []
  | x :: t => if x.f0 < o then getM o t else if x.f0 = o then x.f1 else []
def putM (o : Int) (m : List S24) : List S94 → List S94
  | [] => [⟨o, m⟩]
  | x :: t => if x.f0 < o then x :: putM o m t else if x.f0 = o then ⟨o, m⟩ :: t else ⟨o, m⟩ :: x :: t
def hasX (l : List S24) : Bool := l.any fun x => x.f1 != -1
def backG : List S88 → List S94 → Bool → List S94 × Int
  | [], o, tw => if tw = true then ([], 6) else if 9 < o.length then ([], 3) else (o, 0)
  | r :: t, o, tw => if r.f2 < 0 ∨ 255 < r.f2 then ([], 4) else
    if (putS (getM r.f2 o) ⟨r.f3, r.f0, r.f1⟩).2 = 0 then backG t (putM r.f2 (putS (getM r.f2 o) ⟨r.f3, r.f0, r.f1⟩).1 o) (tw || hasX (lookS (getM r.f2 o) r.f3 r.f1).1) else ([], 4)
def backF (l : List S88) : List S94 × Int := if 4096 < l.length then ([], 3) else backG l [] false
section
variable {o : Int} {m : List S24} {l pre t : List S94} {x : S94}
theorem getM_pre (h : ∀ y ∈ pre, y.f0 < o) : getM o (pre ++ t) = getM o t := by
  induction pre with
  | nil => rfl
  | cons y p ih => rw [List.cons_append, getM, if_pos (h y List.mem_cons_self)]; exact ih fun z hz => h z (List.mem_cons_of_mem _ hz)
theorem putM_pre (h : ∀ y ∈ pre, y.f0 < o) : putM o m (pre ++ t) = pre ++ putM o m t := by
  induction pre with
  | nil => rfl
  | cons y p ih => rw [List.cons_append, putM, if_pos (h y List.mem_cons_self), ih fun z hz => h z (List.mem_cons_of_mem _ hz)]; rfl
theorem putM_len : (putM o m l).length ≤ l.length + 1 := by
  induction l with
  | nil => exact Nat.le_refl _
  | cons y p ih => unfold putM; split <;> try split
                   all_goals simp only [List.length_cons]; omega
theorem putM_mem (h : x ∈ putM o m l) : x = ⟨o, m⟩ ∨ x ∈ l := by
  induction l with
  | nil => exact .inl (by simpa [putM] using h)
  | cons y p ih =>
    unfold putM at h
    split at h
    · rcases List.mem_cons.1 h with h | h
      · exact .inr (by rw [h]; exact List.mem_cons_self)
      · exact (ih h).imp id (List.mem_cons_of_mem _)
    · split at h
      · rcases List.mem_cons.1 h with h | h
        · exact .inl h
        · exact .inr (List.mem_cons_of_mem _ h)
      · rcases List.mem_cons.1 h with h | h
        · exact .inl h
        · exact .inr h
def SortM (l : List S94) : Prop := l.Pairwise fun a b => a.f0 < b.f0
theorem putM_sort (h : SortM l) : SortM (putM o m l) := by
  unfold SortM at *
  induction l with
  | nil => simp [putM]
  | cons y p ih =>
    obtain ⟨h1, h2⟩ := List.pairwise_cons.1 h
    unfold putM
    split
    · rename_i c
      refine List.pairwise_cons.2 ⟨fun z hz => ?_, ih h2⟩
      rcases putM_mem hz with rfl | hz
      · exact c
      · exact h1 z hz
    · split
      · rename_i c
        exact List.pairwise_cons.2 ⟨fun z hz => by have := h1 z hz; show o < z.f0; omega, h2⟩
      · refine List.pairwise_cons.2 ⟨fun z hz => ?_, h⟩
        show o < z.f0
        rcases List.mem_cons.1 hz with rfl | hz
        · omega
        · have := h1 z hz; omega
structure Maps9 (l : List S94) : Prop where
  sort : SortM l
  own : ∀ x ∈ l, 0 ≤ x.f0 ∧ x.f0 ≤ 255
  map : ∀ x ∈ l, Flag.checkE (x.f1.map toE) = 0
theorem maps9_nil : Maps9 [] := ⟨List.Pairwise.nil, fun _ h => (by cases h), fun _ h => (by cases h)⟩
theorem getM_map (h : Maps9 l) : Flag.checkE ((getM o l).map toE) = 0 := by
  replace h := h.map
  induction l with
  | nil => rfl
  | cons y p ih =>
    unfold getM
    split
    · exact ih fun z hz => h z (List.mem_cons_of_mem _ hz)
    · split
      · exact h y List.mem_cons_self
      · rfl
theorem getM_len (h : Maps9 l) : (getM o l).length ≤ 1024 := by simpa using (Flag.checkE_ok.1 (getM_map (o := o) h)).len
theorem putS_map {l : List S24} {x : S24} (h : (putS l x).2 = 0) : Flag.checkE ((putS l x).1.map toE) = 0 := by
  have hp := putS_ok h
  rw [hp.is]
  exact Flag.checkE_ok.2 hp.map2
theorem Maps9.put (h : Maps9 l) (ho : ¬ (o < 0 ∨ 255 < o)) {x : S24} (hp : (putS (getM o l) x).2 = 0) : Maps9 (putM o (putS (getM o l) x).1 l) := by
  refine ⟨putM_sort h.sort, fun y hy => ?_, fun y hy => ?_⟩
  · rcases putM_mem hy with rfl | hy
    · show 0 ≤ o ∧ o ≤ 255; omega
    · exact h.own y hy
  · rcases putM_mem hy with rfl | hy
    · exact putS_map hp
    · exact h.map y hy
end
structure AtM (o : Int) (l : List S94) (i : Nat) : Prop where
  le : i ≤ l.length
  low : ∀ y ∈ l.take i, y.f0 < o
  up : ∀ y ∈ l.drop i, o ≤ y.f0
section
variable {o : Int} {m : List S24} {l : List S94} {i : Nat}
theorem AtM.hit (h : AtM o l i) (hi : i < l.length) (he : l[i].f0 = o) : getM o l = l[i].f1 ∧ putM o m l = l.set i ⟨o, m⟩ := by
  have e1 : l.drop i = l[i] :: l.drop (i + 1) := (List.getElem_cons_drop hi).symm
  have e2 : l = l.take i ++ (l[i] :: l.drop (i + 1)) := by rw [← e1, List.take_append_drop]
  have g : getM o (l[i] :: l.drop (i + 1)) = l[i].f1 := by rw [getM, if_neg (by omega), if_pos he]
  have p : putM o m (l[i] :: l.drop (i + 1)) = ⟨o, m⟩ :: l.drop (i + 1) := by rw [putM, if_neg (by omega), if_pos he]
  refine ⟨?_, ?_⟩
  · conv => lhs; rw [e2]
    rw [getM_pre h.low, g]
  · conv => lhs; rw [e2]
    rw [putM_pre h.low, p, List.set_eq_take_append_cons_drop, if_pos hi]
theorem AtM.miss (h : AtM o l i) (hm : ∀ hi : i < l.length, l[i].f0 ≠ o) : getM o l = [] ∧ putM o m l = (l.take i ++ [(⟨o, []⟩ : S94)] ++ l.drop i).set i ⟨o, m⟩ := by
  have e2 : l = l.take i ++ l.drop i := (List.take_append_drop i l).symm
  have hl : (l.take i).length = i := by rw [List.length_take]; have := h.le; omega
  have gp : getM o (l.drop i) = [] ∧ putM o m (l.drop i) = ⟨o, m⟩ :: l.drop i := by
    by_cases hi : i < l.length
    · have e1 : l.drop i = l[i] :: l.drop (i + 1) := (List.getElem_cons_drop hi).symm
      have h1 := h.up l[i] (by rw [e1]; exact List.mem_cons_self)
      have h2 := hm hi
      rw [e1]
      exact ⟨by rw [getM, if_neg (by omega), if_neg h2], by rw [putM, if_neg (by omega), if_neg h2]⟩
    · rw [List.drop_of_length_le (by omega)]
      exact ⟨rfl, rfl⟩
  refine ⟨?_, ?_⟩
  · conv => lhs; rw [e2]
    rw [getM_pre h.low, gp.1]
  · conv => lhs; rw [e2]
    rw [putM_pre h.low, gp.2, List.append_assoc, List.set_append_right _ _ (by omega), hl, Nat.sub_self]
    rfl
end
def cmp_isNaN_int.f (a0 : Int) : Option (Bool) := some (a0 != a0)
set_option maxHeartbeats 8000000 in
set_option maxRecDepth 100000 in
theorem cmp_isNaN_int.calls (a0 : Int) (r : Bool) (w : World) (h : cmp_isNaN_int.f a0 = some r) :
 Calls Try.prog 138 #[.int .i64 a0] w fun e w' => e = .returned (.bool r) ∧ Drawn0 w w' := by
 have H : (some (a0 != a0)) = some r := h
 clear h
 obtain rfl := Option.some.inj H
 go_enter Try.func138, Try.ntmps138
 go_wp2
 go_ret
 exact ⟨by first | rfl | (simp; done) | (simp [*]; done), by repeat (first | exact Drawn0.refl _ | apply Drawn0.step)⟩
def cmp_Compare_int.f (a0 : Int) (a1 : Int) : Option (Int) := (cmp_isNaN_int.f a0).bind fun t101 => ((cmp_isNaN_int.f a1).bind fun t102 => (if t101 = true then (if t102 = true then (some 0) else (some (-1))) else (if t102 = true then (some 1) else (if a0 < a1 then (some (-1)) else (if a0 > a1 then (some 1) else (some 0))))))
set_option maxHeartbeats 8000000 in
set_option maxRecDepth 100000 in
theorem cmp_Compare_int.calls (a0 : Int) (a1 : Int) (r : Int) (w : World) (h : cmp_Compare_int.f a0 a1 = some r) :
 Calls Try.prog 97 #[.int .i64 a0, .int .i64 a1] w fun e w' => e = .returned (.int .i64 r) ∧ Drawn0 w w' := by
 have H : ((cmp_isNaN_int.f a0).bind fun t101 => ((cmp_isNaN_int.f a1).bind fun t102 => (if t101 = true then (if t102 = true then (some 0) else (some (-1))) else (if t102 = true then (some 1) else (if a0 < a1 then (some (-1)) else (if a0 > a1 then (some 1) else (some 0))))))) = some r := h
 clear h
 replace H := Option.bind_eq_some_iff.mp H
 obtain ⟨t101, A30, H⟩ := H
 replace H : ((cmp_isNaN_int.f a1).bind fun t102 => (if t101 = true then (if t102 = true then (some 0) else (some (-1))) else (if t102 = true then (some 1) else (if a0 < a1 then (some (-1)) else (if a0 > a1 then (some 1) else (some 0)))))) = some r := H
 have A3 := Aside0.mk A30
 clear A30
 replace H := Option.bind_eq_some_iff.mp H
 obtain ⟨t102, A40, H⟩ := H
 replace H : (if t101 = true then (if t102 = true then (some 0) else (some (-1))) else (if t102 = true then (some 1) else (if a0 < a1 then (some (-1)) else (if a0 > a1 then (some 1) else (some 0))))) = some r := H
 have A4 := Aside0.mk A40
 clear A40
 by_cases c5 : t101 = true
 ·subst c5
  have H1 : (if t102 = true then (some 0) else (some (-1))) = some r := by rw [if_pos rfl] at H; exact H
  clear H
  have H := H1
  clear H1
  by_cases c6 : t102 = true
  ·subst c6
   have H1 : (some 0) = some r := by rw [if_pos rfl] at H; exact H
   clear H
   have H := H1
   clear H1
   obtain rfl := Option.some.inj H
   go_enter Try.func97, Try.ntmps97
   go_wp2_with (first | ((with_reducible refine gate_callee (f := 138) rfl ?_); refine goesL_ (some 8) rfl rfl Try.func138 (by kernel_rfl) rfl #[.int .i64 a0] rfl (by (try simp only [List.map_toArray, List.map_cons, List.map_nil]); first | done | rfl | (simp only [List.length_drop, List.length_take]; rfl)) ?_; (with_reducible refine (cmp_isNaN_int.calls a0 true _ A3.out).mono ?_); rintro e w' ⟨rfl, ⟨nd, rfl⟩⟩; refine ⟨_, rfl, ?_⟩) | ((with_reducible refine gate_callee (f := 138) rfl ?_); refine goesL_ (some 10) rfl rfl Try.func138 (by kernel_rfl) rfl #[.int .i64 a1] rfl (by (try simp only [List.map_toArray, List.map_cons, List.map_nil]); first | done | rfl | (simp only [List.length_drop, List.length_take]; rfl)) ?_; (with_reducible refine (cmp_isNaN_int.calls a1 true _ A4.out).mono ?_); rintro e w' ⟨rfl, ⟨nd, rfl⟩⟩; refine ⟨_, rfl, ?_⟩))
   go_ret
   exact ⟨by first | rfl | (simp; done) | (simp [*]; done), by repeat (first | exact Drawn0.refl _ | apply Drawn0.step)⟩
  ·replace c6 := Bool.eq_false_iff.mpr c6
   subst c6
   have H1 : (some (-1)) = some r := by rw [if_neg (show ¬ (false = true) by decide)] at H; exact H
   clear H
   have H := H1
   clear H1
   obtain rfl := Option.some.inj H
   go_enter Try.func97, Try.ntmps97
   go_wp2_with (first | ((with_reducible refine gate_callee (f := 138) rfl ?_); refine goesL_ (some 8) rfl rfl Try.func138 (by kernel_rfl) rfl #[.int .i64 a0] rfl (by (try simp only [List.map_toArray, List.map_cons, List.map_nil]); first | done | rfl | (simp only [List.length_drop, List.length_take]; rfl)) ?_; (with_reducible refine (cmp_isNaN_int.calls a0 true _ A3.out).mono ?_); rintro e w' ⟨rfl, ⟨nd, rfl⟩⟩; refine ⟨_, rfl, ?_⟩) | ((with_reducible refine gate_callee (f := 138) rfl ?_); refine goesL_ (some 10) rfl rfl Try.func138 (by kernel_rfl) rfl #[.int .i64 a1] rfl (by (try simp only [List.map_toArray, List.map_cons, List.map_nil]); first | done | rfl | (simp only [List.length_drop, List.length_take]; rfl)) ?_; (with_reducible refine (cmp_isNaN_int.calls a1 false _ A4.out).mono ?_); rintro e w' ⟨rfl, ⟨nd, rfl⟩⟩; refine ⟨_, rfl, ?_⟩))
   go_ret
   exact ⟨by first | rfl | (simp; done) | (simp [*]; done), by repeat (first | exact Drawn0.refl _ | apply Drawn0.step)⟩
 ·replace c5 := Bool.eq_false_iff.mpr c5
  subst c5
  have H1 : (if t102 = true then (some 1) else (if a0 < a1 then (some (-1)) else (if a0 > a1 then (some 1) else (some 0)))) = some r := by rw [if_neg (show ¬ (false = true) by decide)] at H; exact H
  clear H
  have H := H1
  clear H1
  by_cases c7 : t102 = true
  ·subst c7
   have H1 : (some 1) = some r := by rw [if_pos rfl] at H; exact H
   clear H
   have H := H1
   clear H1
   obtain rfl := Option.some.inj H
   go_enter Try.func97, Try.ntmps97
   go_wp2_with (first | ((with_reducible refine gate_callee (f := 138) rfl ?_); refine goesL_ (some 8) rfl rfl Try.func138 (by kernel_rfl) rfl #[.int .i64 a0] rfl (by (try simp only [List.map_toArray, List.map_cons, List.map_nil]); first | done | rfl | (simp only [List.length_drop, List.length_take]; rfl)) ?_; (with_reducible refine (cmp_isNaN_int.calls a0 false _ A3.out).mono ?_); rintro e w' ⟨rfl, ⟨nd, rfl⟩⟩; refine ⟨_, rfl, ?_⟩) | ((with_reducible refine gate_callee (f := 138) rfl ?_); refine goesL_ (some 10) rfl rfl Try.func138 (by kernel_rfl) rfl #[.int .i64 a1] rfl (by (try simp only [List.map_toArray, List.map_cons, List.map_nil]); first | done | rfl | (simp only [List.length_drop, List.length_take]; rfl)) ?_; (with_reducible refine (cmp_isNaN_int.calls a1 true _ A4.out).mono ?_); rintro e w' ⟨rfl, ⟨nd, rfl⟩⟩; refine ⟨_, rfl, ?_⟩))
   go_ret
   exact ⟨by first | rfl | (simp; done) | (simp [*]; done), by repeat (first | exact Drawn0.refl _ | apply Drawn0.step)⟩
  ·replace c7 := Bool.eq_false_iff.mpr c7
   subst c7
   have H1 : (if a0 < a1 then (some (-1)) else (if a0 > a1 then (some 1) else (some 0))) = some r := by rw [if_neg (show ¬ (false = true) by decide)] at H; exact H
   clear H
   have H := H1
   clear H1
   by_cases c8 : a0 < a1
   ·rw [if_pos c8] at H
    have c8b0 : decide (a0 < a1) = true := decide_eq_true c8
    clear c8
    obtain rfl := Option.some.inj H
    go_enter Try.func97, Try.ntmps97
    go_wp2_with (first | ((with_reducible refine gate_callee (f := 138) rfl ?_); refine goesL_ (some 8) rfl rfl Try.func138 (by kernel_rfl) rfl #[.int .i64 a0] rfl (by (try simp only [List.map_toArray, List.map_cons, List.map_nil]); first | done | rfl | (simp only [List.length_drop, List.length_take]; rfl)) ?_; (with_reducible refine (cmp_isNaN_int.calls a0 false _ A3.out).mono ?_); rintro e w' ⟨rfl, ⟨nd, rfl⟩⟩; refine ⟨_, rfl, ?_⟩) | ((with_reducible refine gate_callee (f := 138) rfl ?_); refine goesL_ (some 10) rfl rfl Try.func138 (by kernel_rfl) rfl #[.int .i64 a1] rfl (by (try simp only [List.map_toArray, List.map_cons, List.map_nil]); first | done | rfl | (simp only [List.length_drop, List.length_take]; rfl)) ?_; (with_reducible refine (cmp_isNaN_int.calls a1 false _ A4.out).mono ?_); rintro e w' ⟨rfl, ⟨nd, rfl⟩⟩; refine ⟨_, rfl, ?_⟩))
    go_ret
    exact ⟨by first | rfl | (simp; done) | (simp [*]; done), by repeat (first | exact Drawn0.refl _ | apply Drawn0.step)⟩
   ·rw [if_neg c8] at H
    have c8b0 : decide (a0 < a1) = false := decide_eq_false c8
    clear c8
    by_cases c9 : a0 > a1
    ·rw [if_pos c9] at H
     have c9b0 : decide (a1 < a0) = true := decide_eq_true c9
     clear c9
     obtain rfl := Option.some.inj H
     go_enter Try.func97, Try.ntmps97
     go_wp2_with (first | ((with_reducible refine gate_callee (f := 138) rfl ?_); refine goesL_ (some 8) rfl rfl Try.func138 (by kernel_rfl) rfl #[.int .i64 a0] rfl (by (try simp only [List.map_toArray, List.map_cons, List.map_nil]); first | done | rfl | (simp only [List.length_drop, List.length_take]; rfl)) ?_; (with_reducible refine (cmp_isNaN_int.calls a0 false _ A3.out).mono ?_); rintro e w' ⟨rfl, ⟨nd, rfl⟩⟩; refine ⟨_, rfl, ?_⟩) | ((with_reducible refine gate_callee (f := 138) rfl ?_); refine goesL_ (some 10) rfl rfl Try.func138 (by kernel_rfl) rfl #[.int .i64 a1] rfl (by (try simp only [List.map_toArray, List.map_cons, List.map_nil]); first | done | rfl | (simp only [List.length_drop, List.length_take]; rfl)) ?_; (with_reducible refine (cmp_isNaN_int.calls a1 false _ A4.out).mono ?_); rintro e w' ⟨rfl, ⟨nd, rfl⟩⟩; refine ⟨_, rfl, ?_⟩))
     go_ret
     exact ⟨by first | rfl | (simp; done) | (simp [*]; done), by repeat (first | exact Drawn0.refl _ | apply Drawn0.step)⟩
    ·rw [if_neg c9] at H
     have c9b0 : decide (a1 < a0) = false := decide_eq_false c9
     clear c9
     obtain rfl := Option.some.inj H
     go_enter Try.func97, Try.ntmps97
     go_wp2_with (first | ((with_reducible refine gate_callee (f := 138) rfl ?_); refine goesL_ (some 8) rfl rfl Try.func138 (by kernel_rfl) rfl #[.int .i64 a0] rfl (by (try simp only [List.map_toArray, List.map_cons, List.map_nil]); first | done | rfl | (simp only [List.length_drop, List.length_take]; rfl)) ?_; (with_reducible refine (cmp_isNaN_int.calls a0 false _ A3.out).mono ?_); rintro e w' ⟨rfl, ⟨nd, rfl⟩⟩; refine ⟨_, rfl, ?_⟩) | ((with_reducible refine gate_callee (f := 138) rfl ?_); refine goesL_ (some 10) rfl rfl Try.func138 (by kernel_rfl) rfl #[.int .i64 a1] rfl (by (try simp only [List.map_toArray, List.map_cons, List.map_nil]); first | done | rfl | (simp only [List.length_drop, List.length_take]; rfl)) ?_; (with_reducible refine (cmp_isNaN_int.calls a1 false _ A4.out).mono ?_); rintro e w' ⟨rfl, ⟨nd, rfl⟩⟩; refine ⟨_, rfl, ?_⟩))
     go_ret
     exact ⟨by first | rfl | (simp; done) | (simp [*]; done), by repeat (first | exact Drawn0.refl _ | apply Drawn0.step)⟩
def cmp_Or_int.l0 : Nat → Int → List Int → Int → Int → Option (Int)
 | 0, _, _, _, _ => none
 | k + 1, x3, x6, x7, x8 => if x8 < x7 then (if 0 ≤ x8 then (if x8 < (x6.length : Int) then (if (rd x6 x8) = x3 then (cmp_Or_int.l0 k x3 x6 x7 (wrap64 (x8 + 1))) else (some (rd x6 x8))) else (none)) else (none)) else (some x3)
def cmp_Or_int.f (k : Nat) (l0 : List Int) : Option (Int) := cmp_Or_int.l0 k 0 l0 (l0.length : Int) 0
theorem cmp_Or_int.mono_l : ∀ k, (∀ y0 y1 y2 y3, LeO (cmp_Or_int.l0 k y0 y1 y2 y3) (cmp_Or_int.l0 (k + 1) y0 y1 y2 y3))
 | 0 => fun _ _ _ _ r h => by simp [cmp_Or_int.l0] at h
 | k + 1 => by
  have ih0 := cmp_Or_int.mono_l k
  ·intro y0 y1 y2 y3
   unfold cmp_Or_int.l0
   repeat' first
   | (with_reducible exact ih0 _ _ _ _)
   | (with_reducible exact LeO.refl _)
   | (with_reducible exact LeO.none _)
   | (with_reducible refine LeO.ite ?_ ?_)
   | (with_reducible refine LeO.bind ?_ (fun _ => ?_))
   | exact ih0 _ _ _ _
   | exact LeO.none _
   | refine LeO.ite ?_ ?_
   | refine LeO.bind ?_ (fun _ => ?_)
theorem cmp_Or_int.mono : ∀ a0 k, LeO (cmp_Or_int.f k a0) (cmp_Or_int.f (k + 1) a0) := by
 intro a0 k
 have ih0 := cmp_Or_int.mono_l k
 unfold cmp_Or_int.f
 repeat' first
  | (with_reducible exact ih0 _ _ _ _)
  | (with_reducible exact LeO.refl _)
  | (with_reducible exact LeO.none _)
  | (with_reducible refine LeO.ite ?_ ?_)
  | (with_reducible refine LeO.bind ?_ (fun _ => ?_))
  | exact ih0 _ _ _ _
  | exact LeO.none _
  | refine LeO.ite ?_ ?_
  | refine LeO.bind ?_ (fun _ => ?_)
set_option maxHeartbeats 8000000 in
set_option maxRecDepth 100000 in
theorem cmp_Or_int.calls (k : Nat) (A0 : Option Addr) (c0 : Nat) (l0 : List Int) (r : Int) (w : World) (hr0 : Kd.C (Kd.int .i64) w A0 l0.length l0) (hc0 : l0.length ≤ c0) (h : cmp_Or_int.f k l0 = some r) :
 Calls Try.prog 145 #[.slice A0 l0.length c0] w fun e w' => e = .returned (.int .i64 r) ∧ Drawn0 w w' := by
 have HR0 := Aside0.mk hr0
 have HC0 := Aside0.mk hc0
 clear hr0 hc0
 have H : (cmp_Or_int.l0 k 0 l0 (l0.length : Int) 0) = some r := h
 clear h
 have H' := Aside0.mk H
 clear H
 go_enter Try.func145, Try.ntmps145
 go_wp2
 go_loopg [8] k (fun kq v8 w' => ∃ (x8_1 : Int), v8 = .int .i64 x8_1 ∧ Aside0 (cmp_Or_int.l0 kq 0 l0 (l0.length : Int) x8_1 = some r) ∧ Aside0 (kq ≤ k) ∧ Drawn0 w w')
 case atStart => exact ⟨(0), (by first | rfl | (simp; done) | (simp [*]; done)), H', ⟨Nat.le_refl _⟩, by repeat (first | exact Drawn0.refl _ | apply Drawn0.step)⟩
 case round =>
  clear H'
  try clear c1
  obtain ⟨x8_1, rfl, HA, HK1, ⟨m1, rfl⟩⟩ := hrel
  cases gk with
  | zero => exact absurd HA.out (by simp [cmp_Or_int.l0])
  | succ k1 =>
   have H := HA.out
   clear HA
   simp only [cmp_Or_int.l0] at H
   by_cases c2 : x8_1 < (l0.length : Int)
   ·rw [if_pos c2] at H
    have c2b0 : decide (x8_1 < (l0.length : Int)) = true := decide_eq_true c2
    clear c2
    by_cases c3 : 0 ≤ x8_1
    ·rw [if_pos c3] at H
     have c3b0 : decide (0 ≤ x8_1) = true := decide_eq_true c3
     clear c3
     by_cases c4 : x8_1 < (l0.length : Int)
     ·rw [if_pos c4] at H
      have c4b0 : decide (x8_1 < (l0.length : Int)) = true := decide_eq_true c4
      clear c4
      by_cases c5 : (rd l0 x8_1) = 0
      ·rw [if_pos c5] at H
       have c5b0 : ((rd l0 x8_1) == 0) = true := beq_iff_eq.mpr c5
       have c5b1 : ((rd l0 x8_1) != 0) = false := bne_eq_false_iff_eq.mpr c5
       clear c5
       have H' := Aside0.mk H
       clear H
       have p101 : 0 ≤ (x8_1 : Int) := of_decide_eq_true (by first | (with_reducible assumption) | assumption)
       have q101 : x8_1 < (l0.length : Int) := of_decide_eq_true (by first | (with_reducible assumption) | assumption)
       obtain ⟨ad101, e101, hx101_0⟩ := Kd.at_int HR0.out x8_1 p101 q101
       cases e101
       replace p101 := eq_true p101
       replace q101 := eq_true q101
       go_wp2
       go_roundg k1
       case measure => have := HK1.out; omega
       case rel => exact ⟨(wrap64 (x8_1 + 1)), (by first | rfl | (simp; done) | (simp [*]; done)), H', ⟨by have := HK1.out; omega⟩, by repeat (first | exact Drawn0.refl _ | apply Drawn0.step)⟩
      ·rw [if_neg c5] at H
       have c5b0 : ((rd l0 x8_1) == 0) = false := beq_eq_false_iff_ne.mpr c5
       have c5b1 : ((rd l0 x8_1) != 0) = true := bne_iff_ne.mpr c5
       obtain rfl := Option.some.inj H
       have p101 : 0 ≤ (x8_1 : Int) := of_decide_eq_true (by first | (with_reducible assumption) | assumption)
       have q101 : x8_1 < (l0.length : Int) := of_decide_eq_true (by first | (with_reducible assumption) | assumption)
       obtain ⟨ad101, e101, hx101_0⟩ := Kd.at_int HR0.out x8_1 p101 q101
       cases e101
       replace p101 := eq_true p101
       replace q101 := eq_true q101
       go_wp2
       go_ret
       exact ⟨by first | rfl | (simp; done) | (simp [*]; done), by repeat (first | exact Drawn0.refl _ | apply Drawn0.step)⟩
     ·rw [if_neg c4] at H
      exact absurd H (by simp)
    ·rw [if_neg c3] at H
     exact absurd H (by simp)
   ·rw [if_neg c2] at H
    have c2b0 : decide (x8_1 < (l0.length : Int)) = false := decide_eq_false c2
    clear c2
    obtain rfl := Option.some.inj H
    go_wp2
    go_ret
    exact ⟨by first | rfl | (simp; done) | (simp [*]; done), by repeat (first | exact Drawn0.refl _ | apply Drawn0.step)⟩
def flagstonelaw09_Of.l0 : Nat → List (S86) → List (S94) → Int → Option ((List (S94)))
 | 0, _, _, _ => none
 | k + 1, x0, x3, x4 => if x4 < (x0.length : Int) then (if 0 ≤ x4 then ((flagstoneplain_CopyExtents.f ((rd_T86 x0 x4).f1)).bind fun t103 => (if x3.length < 4398046511104 then (flagstonelaw09_Of.l0 k x0 (x3 ++ [(⟨(rd_T86 x0 x4).f0, t103⟩ : S94)]) (wrap64 (x4 + 1))) else (none))) else (none)) else (some x3)
def flagstonelaw09_Of.f (k : Nat) (l0 : List (S86)) : Option ((List (S94))) := flagstonelaw09_Of.l0 k l0 ([] : List (S94)) 0
theorem flagstonelaw09_Of.mono_l : ∀ k, (∀ y0 y1 y2, LeO (flagstonelaw09_Of.l0 k y0 y1 y2) (flagstonelaw09_Of.l0 (k + 1) y0 y1 y2))
 | 0 => fun _ _ _ r h => by simp [flagstonelaw09_Of.l0] at h
 | k + 1 => by
  have ih0 := flagstonelaw09_Of.mono_l k
  ·intro y0 y1 y2
   unfold flagstonelaw09_Of.l0
   repeat' first
   | (with_reducible exact ih0 _ _ _)
   | (with_reducible exact LeO.refl _)
   | (with_reducible exact LeO.none _)
   | (with_reducible refine LeO.ite ?_ ?_)
   | (with_reducible refine LeO.bind ?_ (fun _ => ?_))
   | exact ih0 _ _ _
   | exact LeO.none _
   | refine LeO.ite ?_ ?_
   | refine LeO.bind ?_ (fun _ => ?_)
theorem flagstonelaw09_Of.mono : ∀ a0 k, LeO (flagstonelaw09_Of.f k a0) (flagstonelaw09_Of.f (k + 1) a0) := by
 intro a0 k
 have ih0 := flagstonelaw09_Of.mono_l k
 unfold flagstonelaw09_Of.f
 repeat' first
  | (with_reducible exact ih0 _ _ _)
  | (with_reducible exact LeO.refl _)
  | (with_reducible exact LeO.none _)
  | (with_reducible refine LeO.ite ?_ ?_)
  | (with_reducible refine LeO.bind ?_ (fun _ => ?_))
  | exact ih0 _ _ _
  | exact LeO.none _
  | refine LeO.ite ?_ ?_
  | refine LeO.bind ?_ (fun _ => ?_)
def flagstonelaw09_Of.T5 : Bool × List (List Nat × List Nat) := (true, [([], []), ([], []), ([], []), ([1, 2], [1, 2]), ([3], [3]), ([4], [4]), ([], []), ([], []), ([6, 7], [6, 7]), ([8], [8]), ([9], [9]), ([10], [10]), ([5, 11], [5, 11]), ([12], [12]), ([0, 13, 11], [0, 13]), ([14, 14, 0, 1, 2, 3, 4, 5, 6, 7, 8, 9, 10, 11, 12, 13, 14], [0, 14])])
def flagstonelaw09_Of.B5 : List Nat := [0, 0, 0, 6, 14, 30, 0, 0, 192, 448, 960, 1984, 4094, 8190, 16383, 32767]
theorem flagstonelaw09_Of.tab5 : rtab .any (opsOf Try.f59 5) = flagstonelaw09_Of.T5 := by kernel_rfl
theorem flagstonelaw09_Of.bits5 : waitsOk flagstonelaw09_Of.T5.2 flagstonelaw09_Of.B5 = true := by kernel_rfl
set_option maxHeartbeats 8000000 in
set_option maxRecDepth 100000 in
theorem flagstonelaw09_Of.calls (k : Nat) (A0 : Option Addr) (c0 : Nat) (l0 : List (S86)) (r : List (S94)) (w : World) (hr0 : Kd.C k86 w A0 l0.length l0) (hc0 : l0.length ≤ c0) (h : flagstonelaw09_Of.f k l0 = some r) :
 Calls Try.prog 59 #[.slice A0 l0.length c0] w fun e w' => ∃ v0_ : Value, e = .returned (v0_) ∧ Kd.S k94 94 w' w.heap.size (fun _ => True) v0_ r ∧ Below w.heap.size w w' := by
 have hu94 := Try.underlying94
 have HR0 := Aside0.mk hr0
 have HC0 := Aside0.mk hc0
 clear hr0 hc0
 have HB := Aside0.mk (Below.refl w.heap.size w)
 have H : (flagstonelaw09_Of.l0 k l0 ([] : List (S94)) 0) = some r := h
 clear h
 have H' := Aside0.mk H
 clear H
 go_enter Try.func59, Try.ntmps59
 go_wp2
 go_loopg [3, 4] k (fun kq v3 v4 w' => ∃ (x3_1 : List (S94)) (x4_1 : Int), v4 = .int .i64 x4_1 ∧ Aside0 (flagstonelaw09_Of.l0 kq l0 x3_1 x4_1 = some r) ∧ Aside0 (kq ≤ k) ∧ Aside0 (Kd.S k94 94 w' w.heap.size (fun _ => True) v3 x3_1) ∧ Aside0 (Below w.heap.size w w'))
 case atStart => exact ⟨(([] : List (S94))), (0), (by first | rfl | (simp; done) | (simp [*]; done)), H', ⟨Nat.le_refl _⟩, ⟨by first | exact Kd.S_nil _ _ _ _ _ | exact Kd.N_nil _ _ _ _ _ | exact Kd.V_nil _ _ _ _ _ | exact Kd.Q_nil _ _ _ _ _ | exact Kd.R_nil _ _ _ _ _⟩, ⟨by repeat (first | (with_reducible first | exact HB.out | apply below_alloc | apply pw_below_drewN | apply below_drew1) | exact HB.out)⟩⟩
 case round =>
  clear H'
  obtain ⟨x3_1, x4_1, rfl, HA, HK1, HO_3, HB⟩ := hrel
  cases gk with
  | zero => exact absurd HA.out (by simp [flagstonelaw09_Of.l0])
  | succ k1 =>
   have H := HA.out
   clear HA
   simp only [flagstonelaw09_Of.l0] at H
   by_cases c2 : x4_1 < (l0.length : Int)
   ·rw [if_pos c2] at H
    have c2b0 : decide (x4_1 < (l0.length : Int)) = true := decide_eq_true c2
    clear c2
    by_cases c3 : 0 ≤ x4_1
    ·rw [if_pos c3] at H
     have c3b0 : decide (0 ≤ x4_1) = true := decide_eq_true c3
     clear c3
     replace H := Option.bind_eq_some_iff.mp H
     obtain ⟨t103, A40, H⟩ := H
     try dsimp only at H
     have A4 := Aside0.mk A40
     clear A40
     by_cases c5 : x3_1.length < 4398046511104
     ·rw [if_pos c5] at H
      have LMc5 := Aside0.mk c5
      clear c5
      obtain ⟨y106, hy106⟩ : ∃ y_ : List (S94), y_ = (x3_1 ++ [(⟨(rd_T86 l0 x4_1).f0, t103⟩ : S94)]) := ⟨_, rfl⟩
      replace H : (flagstonelaw09_Of.l0 k1 l0 y106 (wrap64 (x4_1 + 1))) = some r := by first | (rw [hy106]; with_reducible exact H) | (have H2_ := (Option.bind_some _ _).symm.trans H; rw [hy106]; with_reducible exact H2_) | (have H2_ := (Option.bind_some _ _).symm.trans H; with_reducible exact H2_) | with_reducible exact H | (rw [hy106]; exact H) | exact H
      have Ny106 := Aside0.mk hy106
      clear hy106
      have H' := Aside0.mk H
      clear H
      try go_wp2
      have n0_ := Aside0.mk (Kd.S_drew HO_3.out)
      have n1_ := Aside0.mk (below_drew1 HB.out)
      clear HO_3
      clear HB
      have HO_3 := n0_
      have HB := n1_
      clear n0_ n1_
      have p101 : 0 ≤ (x4_1 : Int) := of_decide_eq_true (by first | (with_reducible assumption) | assumption)
      have q101 : x4_1 < (l0.length : Int) := of_decide_eq_true (by first | (with_reducible assumption) | assumption)
      obtain ⟨ad101, A101_1, c101_1, e101, hx101_0, hx101_1, hl101_1, hi101_1⟩ := at_T86 HR0.out x4_1 p101 q101
      have hw101_1 := hx101_1
      have hw101_0 := hx101_0
      cases e101
      replace hx101_0 := (HB.out.cell (World.block_lt_of_cell? w _ hx101_0)).trans hx101_0
      replace hx101_1 := (HB.out.cell (World.block_lt_of_cell? w _ hx101_1)).trans hx101_1
      have HR101_1 := Aside0.mk hi101_1
      have HC101_1 := Aside0.mk hl101_1
      clear hi101_1 hl101_1
      replace p101 := eq_true p101
      replace q101 := eq_true q101
      have p102 : 0 ≤ (x4_1 : Int) := of_decide_eq_true (by first | (with_reducible assumption) | assumption)
      have q102 : x4_1 < (l0.length : Int) := of_decide_eq_true (by first | (with_reducible assumption) | assumption)
      obtain ⟨ad102, A102_1, c102_1, e102, hx102_0, hx102_1, hl102_1, hi102_1⟩ := at_T86 HR0.out x4_1 p102 q102
      have hw102_1 := hx102_1
      have hw102_0 := hx102_0
      obtain rfl : ad101 = ad102 := (by injection e102)
      replace hx102_0 := (HB.out.cell (World.block_lt_of_cell? w _ hx102_0)).trans hx102_0
      replace hx102_1 := (HB.out.cell (World.block_lt_of_cell? w _ hx102_1)).trans hx102_1
      have HR102_1 := Aside0.mk hi102_1
      have HC102_1 := Aside0.mk hl102_1
      clear hi102_1 hl102_1
      replace p102 := eq_true p102
      replace q102 := eq_true q102
      have ea_ := Option.some.inj (hx101_1.symm.trans hx102_1)
      injection ea_ with ea_ en_ ec_
      subst ea_
      subst ec_
      clear en_
      refine start_ (n := 16) (S := fun w' => w'.cell? (ad101.add ((x4_1).toNat * 2)) = some (.int .i64 ((rd_T86 l0 x4_1).f0)) ∧ w'.cell? ⟨(ad101.add ((x4_1).toNat * 2)).block, (ad101.add ((x4_1).toNat * 2)).off + 1, none⟩ = some (.slice A101_1 ((rd_T86 l0 x4_1).f1).length c101_1) ∧ w'.cell? (ad101.add ((x4_1).toNat * 2)) = some (.int .i64 ((rd_T86 l0 x4_1).f0)) ∧ w'.cell? ⟨(ad101.add ((x4_1).toNat * 2)).block, (ad101.add ((x4_1).toNat * 2)).off + 1, none⟩ = some (.slice A101_1 ((rd_T86 l0 x4_1).f1).length c101_1)) (ds := []) #[yF,yF,yF,yF,yF,yF,yF,yF,yF,yF,yF,yF,yF,yF,yF,yF] (by kernel_rfl) rfl rfl ⟨((HB.out.cell (World.block_lt_of_cell? w _ hw101_0)).trans hw101_0), ((HB.out.cell (World.block_lt_of_cell? w _ hw101_1)).trans hw101_1), ((HB.out.cell (World.block_lt_of_cell? w _ hw102_0)).trans hw102_0), ((HB.out.cell (World.block_lt_of_cell? w _ hw102_1)).trans hw102_1)⟩ (fun hHeld => ?_); refine with_tabW flagstonelaw09_Of.tab5 flagstonelaw09_Of.bits5 (fun HT_ HW_ => ?_)
      generalize wr.drew = w6 at HO_3 HB HR101_1 HR102_1 hx101_0 hx101_1 hx102_0 hx102_1 hHeld ⊢
      refine pu_ 0 11 16 1 ?_
      refine pu_ 1 12 16 3 ?_
      refine pu_ 2 13 16 7 ?_
      refine pu_ 3 14 16 15 ?_
      refine pu_ 4 15 16 31 ?_
      refine pu_ 6 17 16 95 ?_
      refine pu_ 7 18 16 223 ?_
      refine pu_ 8 19 16 479 ?_
      refine pu_ 9 20 16 991 ?_
      refine tk_ 5 16 16 1023 ?_
      refine tk_ 10 21 16 2047 ?_
      refine on_ 11 22 16 4095 (fun K hK => ?_)
      refine goes_ Try.func26 (by kernel_rfl) rfl #[.slice A101_1 ((rd_T86 l0 x4_1).f1).length c101_1] (by rfl) rfl rfl (by (try simp only [List.map_toArray, List.map_cons, List.map_nil]); first | done | rfl | (simp only [List.length_drop, List.length_take]; rfl)) ?_
      with_reducible refine (flagstoneplain_CopyExtents.calls _ _ ((rd_T86 l0 x4_1).f1) t103 _ ?side1 ?side2 A4.out).mono ?_
      (case side1 => repeat (first | exact (Kd.C_below HR102_1.out HB.out) | (with_reducible refine Kd.C_alloc ?_ _) | (with_reducible refine Kd.C_drewN ?_ _) | (with_reducible refine Kd.C_drew ?_)))
      (case side2 => exact HC102_1.out)
      rintro e w7 ⟨v104, rfl, ho0, hb⟩
      refine ⟨_, rfl, ?_⟩
      have n0_ := Aside0.mk (Kd.S_elder' (by (with_reducible repeat (first | apply Kd.S_alloc | apply Kd.S_drewN | apply Kd.S_drew)); exact HO_3.out) (Kd.R_base ho0) hb)
      have n1_ := Aside0.mk (Kd.R_lower ho0 (below_size (by repeat (first | (with_reducible first | exact HB.out | apply below_alloc | apply pw_below_drewN | apply below_drew1) | exact HB.out))))
      have n2_ := Aside0.mk (below_step (by repeat (first | (with_reducible first | exact HB.out | apply below_alloc | apply pw_below_drewN | apply below_drew1) | exact HB.out)) hb)
      clear HO_3
      clear HB
      have HO_3 := n0_
      have HO105 := n1_
      have HB := n2_
      clear n0_ n1_ n2_
      (try clear hb)
      (try clear hb2)
      (try clear hk)
      (try clear hi)
      (try clear ho0)
      obtain ⟨Ao8, co8, eo8⟩ := Kd.R_slice HO105.out
      (first | subst eo8 | (injection eo8 with f1_ f2_ f3_; have f4_ := f1_.symm; have f5_ := f3_.symm; clear f1_ f2_ f3_; subst f4_; subst f5_))
      refine hK.out _ _ ⟨((HB.out.cell (World.block_lt_of_cell? w _ hw101_0)).trans hw101_0), ((HB.out.cell (World.block_lt_of_cell? w _ hw101_1)).trans hw101_1), ((HB.out.cell (World.block_lt_of_cell? w _ hw102_0)).trans hw102_0), ((HB.out.cell (World.block_lt_of_cell? w _ hw102_1)).trans hw102_1)⟩ (fun hHeld => ?_)
      clear hK K
      refine nm_ 22 ?_
      refine pu_ 12 23 16 8191 ?_
      refine on_ 13 24 16 16383 (fun K hK => ?_)
      refine value_ (w1 := ?_) (v := ?_) (by rfl) rfl ?_ ?_
      rotate_left 2
      ·go_simp
       constructor
       ·rfl
       ·rfl
      refine hK.out _ _ ⟨(World.cell?_alloc_lt _ _ _ (World.block_lt_of_cell? _ _ (((HB.out.cell (World.block_lt_of_cell? w _ hw101_0)).trans hw101_0)))).trans (((HB.out.cell (World.block_lt_of_cell? w _ hw101_0)).trans hw101_0)), (World.cell?_alloc_lt _ _ _ (World.block_lt_of_cell? _ _ (((HB.out.cell (World.block_lt_of_cell? w _ hw101_1)).trans hw101_1)))).trans (((HB.out.cell (World.block_lt_of_cell? w _ hw101_1)).trans hw101_1)), (World.cell?_alloc_lt _ _ _ (World.block_lt_of_cell? _ _ (((HB.out.cell (World.block_lt_of_cell? w _ hw102_0)).trans hw102_0)))).trans (((HB.out.cell (World.block_lt_of_cell? w _ hw102_0)).trans hw102_0)), (World.cell?_alloc_lt _ _ _ (World.block_lt_of_cell? _ _ (((HB.out.cell (World.block_lt_of_cell? w _ hw102_1)).trans hw102_1)))).trans (((HB.out.cell (World.block_lt_of_cell? w _ hw102_1)).trans hw102_1))⟩ (fun hHeld => ?_)
      clear hK K
      refine nm_ 24 ?_
      refine on_ 14 25 16 32767 (fun K hK => ?_)
      refine Kd.S_append_step k94 (w0 := w) w.heap.size (by rfl) (.tmp 11) (.tmp 24) 83 94 (.agg #[(.int .i64 0), (.slice none 0 0)]) 32 rfl Try.underlying83 info94 rfl (by decide) (by omega) u3 x3_1 (⟨(rd_T86 l0 x4_1).f0, t103⟩ : S94) [.int .i64 ((rd_T86 l0 x4_1).f0), .slice Ao8 t103.length co8] (fun _ => True) (fun k_ => some k_ = (.slice Ao8 t103.length co8 : Value).ownBlock) rfl rfl ?aP (fun k_ hk_ => ((Kd.R_mono (ok' := fun k_ => ((fun _ => True)) k_ ∧ some k_ ≠ (u3 : Value).ownBlock) (Kd.R_apart' (HO105.out) (Kd.S_typed HO_3.out) (by decide)) (fun k_ hk => ⟨trivial, hk.2⟩))).1 k_ hk_.symm) ?aF ?aO ?aB ?aS ?aL ?_
      (case aP => exact k94_mkM _ _ _ (⟨(rd_T86 l0 x4_1).f0, t103⟩ : S94) (Kd.R_mono (Kd.R_tight rfl (Kd.R_mono (ok' := fun k_ => ((fun _ => True)) k_ ∧ some k_ ≠ (u3 : Value).ownBlock) (Kd.R_apart' (HO105.out) (Kd.S_typed HO_3.out) (by decide)) (fun k_ hk => ⟨trivial, hk.2⟩))) (fun _ h_ => h_)))
      (case aB => exact (by repeat (first | (with_reducible first | exact HB.out | apply below_alloc | apply pw_below_drewN | apply below_drew1) | exact HB.out)))
      (case aF => exact (fun _ _ => trivial))
      (case aO => exact (by (with_reducible repeat (first | apply Kd.S_alloc | apply Kd.S_drewN | apply Kd.S_drew)); exact Kd.S_mono HO_3.out (fun k_ hk => ⟨trivial, fun e_ => hk.2 e_⟩)))
      (case aS => exact (below_size (by repeat (first | (with_reducible first | exact HB.out | apply below_alloc | apply pw_below_drewN | apply below_drew1) | exact HB.out))))
      (case aL => have := LMc5.out; omega)
      intro v107 w9 ho hb hg hat
      rw [← Ny106.out] at ho
      have n0_ := Aside0.mk (hb)
      have n1_ := Aside0.mk (ho)
      clear HB
      clear HO_3
      clear HO105
      have HB := n0_
      have HO108 := n1_
      clear n0_ n1_
      clear ho hb hg hat
      refine hK.out _ _ ⟨((HB.out.cell (World.block_lt_of_cell? w _ hw101_0)).trans hw101_0), ((HB.out.cell (World.block_lt_of_cell? w _ hw101_1)).trans hw101_1), ((HB.out.cell (World.block_lt_of_cell? w _ hw102_0)).trans hw102_0), ((HB.out.cell (World.block_lt_of_cell? w _ hw102_1)).trans hw102_1)⟩ (fun hHeld => ?_)
      clear hK K
      refine nm_ 25 ?_
      refine pu_ 15 3 16 65535 ?_
      refine done_ (done_of HT_.out (by kernel_rfl)) ?_
      try go_wp2
      go_roundg k1
      case measure => have := HK1.out; omega
      case rel => exact ⟨(y106), (wrap64 (x4_1 + 1)), (by first | rfl | (simp; done) | (simp [*]; done)), H', ⟨by have := HK1.out; omega⟩, ⟨by (with_reducible repeat (first | apply Kd.S_alloc | apply Kd.S_drewN | apply Kd.S_drew)); exact HO108.out⟩, ⟨by repeat (first | (with_reducible first | exact HB.out | apply below_alloc | apply pw_below_drewN | apply below_drew1) | exact HB.out)⟩⟩
     ·rw [if_neg c5] at H
      exact absurd H (by simp)
    ·rw [if_neg c3] at H
     exact absurd H (by simp)
   ·rw [if_neg c2] at H
    have c2b0 : decide (x4_1 < (l0.length : Int)) = false := decide_eq_false c2
    clear c2
    obtain rfl := Option.some.inj H
    go_wp2
    go_ret
    exact ⟨_, by first | rfl | (simp [errW_none, errW_some] <;> rfl) | (simp [*, errW_none, errW_some] <;> rfl), by (with_reducible repeat (first | apply Kd.S_alloc | apply Kd.S_drewN | apply Kd.S_drew)); exact HO_3.out, by repeat (first | (with_reducible first | exact HB.out | apply below_alloc | apply pw_below_drewN | apply below_drew1) | exact HB.out)⟩
theorem eqA96 (d : Nat) (w : World) (x0 y0 : Int) (x1 y1 : Int) (x2 y2 : Int) :
    (Op.equalIn (d + 2) 96 (.agg #[.int .i64 x0, .int .i64 x1, .int .i64 x2]) (.agg #[.int .i64 y0, .int .i64 y1, .int .i64 y2])).run Try.prog w = .ok (x0 == y0 && (x1 == y1 && (x2 == y2))) w := by
  refine eqA_of Try.underlying96 (by kernel_rfl) ?_
  refine eqf_cons (by rfl) (by go_simp; rfl) (by go_simp; rfl) (by go_simp) ?_
  refine eqf_cons (by rfl) (by go_simp; rfl) (by go_simp; rfl) (by go_simp) ?_
  exact eqf_last (by rfl) (by go_simp; rfl) (by go_simp; rfl) (by go_simp)
def flagstonelaw09_num.f (a0 : Int) : Option (Int) := some a0
set_option maxHeartbeats 8000000 in
set_option maxRecDepth 100000 in
theorem flagstonelaw09_num.calls (a0 : Int) (r : Int) (w : World) (h : flagstonelaw09_num.f a0 = some r) :
 Calls Try.prog 60 #[.int .i64 a0] w fun e w' => e = .returned (.int .i64 r) ∧ Drawn0 w w' := by
 have H : (some a0) = some r := h
 clear h
 obtain rfl := Option.some.inj H
 go_enter Try.func60, Try.ntmps60
 go_wp2
 go_ret
 exact ⟨by first | rfl | (simp; done) | (simp [*]; done), by repeat (first | exact Drawn0.refl _ | apply Drawn0.step)⟩
def flagstonelaw09_Alike.l0 : Nat → List (S94) → List (S86) → Int → Option (Int)
 | 0, _, _, _ => none
 | k + 1, x0, x1, x5 => if x5 < (x0.length : Int) then (if 0 ≤ x5 then (if x5 < (x1.length : Int) then (if ((rd_T94 x0 x5).f0) = ((rd_T86 x1 x5).f0) then ((flagstoneplain_SameExtents.f k ((rd_T94 x0 x5).f1) ((rd_T86 x1 x5).f1)).bind fun t105 => (if t105 = true then (flagstonelaw09_Alike.l0 k x0 x1 (wrap64 (x5 + 1))) else (some 1))) else (some 1)) else (none)) else (none)) else (some 0)
def flagstonelaw09_Alike.f (k : Nat) (l0 : List (S94)) (l1 : List (S86)) : Option (Int) := if (l0.length : Int) = (l1.length : Int) then (flagstonelaw09_Alike.l0 k l0 l1 0) else (some 1)
theorem flagstonelaw09_Alike.mono_l : ∀ k, (∀ y0 y1 y2, LeO (flagstonelaw09_Alike.l0 k y0 y1 y2) (flagstonelaw09_Alike.l0 (k + 1) y0 y1 y2))
 | 0 => fun _ _ _ r h => by simp [flagstonelaw09_Alike.l0] at h
 | k + 1 => by
  have ih0 := flagstonelaw09_Alike.mono_l k
  ·intro y0 y1 y2
   unfold flagstonelaw09_Alike.l0
   repeat' first
   | (with_reducible exact ih0 _ _ _)
   | (with_reducible exact flagstoneplain_SameExtents.mono _ _ _)
   | (with_reducible exact LeO.refl _)
   | (with_reducible exact LeO.none _)
   | (with_reducible refine LeO.ite ?_ ?_)
   | (with_reducible refine LeO.bind ?_ (fun _ => ?_))
   | exact ih0 _ _ _
   | exact flagstoneplain_SameExtents.mono _ _ _
   | exact LeO.none _
   | refine LeO.ite ?_ ?_
   | refine LeO.bind ?_ (fun _ => ?_)
theorem flagstonelaw09_Alike.mono : ∀ a0 a1 k, LeO (flagstonelaw09_Alike.f k a0 a1) (flagstonelaw09_Alike.f (k + 1) a0 a1) := by
 intro a0 a1 k
 have ih0 := flagstonelaw09_Alike.mono_l k
 unfold flagstonelaw09_Alike.f
 repeat' first
  | (with_reducible exact ih0 _ _ _)
  | (with_reducible exact flagstoneplain_SameExtents.mono _ _ _)
  | (with_reducible exact LeO.refl _)
  | (with_reducible exact LeO.none _)
  | (with_reducible refine LeO.ite ?_ ?_)
  | (with_reducible refine LeO.bind ?_ (fun _ => ?_))
  | exact ih0 _ _ _
  | exact flagstoneplain_SameExtents.mono _ _ _
  | exact LeO.none _
  | refine LeO.ite ?_ ?_
  | refine LeO.bind ?_ (fun _ => ?_)
set_option maxHeartbeats 8000000 in
set_option maxRecDepth 100000 in
theorem flagstonelaw09_Alike.calls (k : Nat) (A0 : Option Addr) (c0 : Nat) (l0 : List (S94)) (A1 : Option Addr) (c1 : Nat) (l1 : List (S86)) (r : Int) (w : World) (hr0 : Kd.C k94 w A0 l0.length l0) (hc0 : l0.length ≤ c0) (hr1 : Kd.C k86 w A1 l1.length l1) (hc1 : l1.length ≤ c1) (h : flagstonelaw09_Alike.f k l0 l1 = some r) :
 Calls Try.prog 74 #[.slice A0 l0.length c0, .slice A1 l1.length c1] w fun e w' => e = .returned (.int .i64 r) ∧ Drawn0 w w' := by
 have HR0 := Aside0.mk hr0
 have HC0 := Aside0.mk hc0
 clear hr0 hc0
 have HR1 := Aside0.mk hr1
 have HC1 := Aside0.mk hc1
 clear hr1 hc1
 have H : (if (l0.length : Int) = (l1.length : Int) then (flagstonelaw09_Alike.l0 k l0 l1 0) else (some 1)) = some r := h
 clear h
 by_cases c3 : (l0.length : Int) = (l1.length : Int)
 ·rw [if_pos c3] at H
  have c3b0 : ((l0.length : Int) == (l1.length : Int)) = true := beq_iff_eq.mpr c3
  have c3b1 : ((l0.length : Int) != (l1.length : Int)) = false := bne_eq_false_iff_eq.mpr c3
  have c3b2 : (l0.length == l1.length) = true := by first | simpa using c3 | (simp at c3 ⊢; omega)
  clear c3
  have H' := Aside0.mk H
  clear H
  go_enter Try.func74, Try.ntmps74
  go_wp2
  repeat (go_quiet (fail); try go_wp2)
  go_loopg [5] k (fun kq v5 w' => ∃ (x5_1 : Int), v5 = .int .i64 x5_1 ∧ Aside0 (flagstonelaw09_Alike.l0 kq l0 l1 x5_1 = some r) ∧ Aside0 (kq ≤ k) ∧ Drawn0 w w')
  case atStart => exact ⟨(0), (by first | rfl | (simp; done) | (simp [*]; done)), H', ⟨Nat.le_refl _⟩, by repeat (first | exact Drawn0.refl _ | apply Drawn0.step)⟩
  case round =>
   clear H'
   try clear c1
   try clear p2
   try clear c3
   try clear c3b0
   try clear c3b1
   try clear c3b2
   obtain ⟨x5_1, rfl, HA, HK1, ⟨m1, rfl⟩⟩ := hrel
   cases gk with
   | zero => exact absurd HA.out (by simp [flagstonelaw09_Alike.l0])
   | succ k1 =>
    have H := HA.out
    clear HA
    simp only [flagstonelaw09_Alike.l0] at H
    by_cases c4 : x5_1 < (l0.length : Int)
    ·rw [if_pos c4] at H
     have c4b0 : decide (x5_1 < (l0.length : Int)) = true := decide_eq_true c4
     clear c4
     by_cases c5 : 0 ≤ x5_1
     ·rw [if_pos c5] at H
      have c5b0 : decide (0 ≤ x5_1) = true := decide_eq_true c5
      clear c5
      by_cases c6 : x5_1 < (l1.length : Int)
      ·rw [if_pos c6] at H
       have c6b0 : decide (x5_1 < (l1.length : Int)) = true := decide_eq_true c6
       clear c6
       by_cases c7 : ((rd_T94 l0 x5_1).f0) = ((rd_T86 l1 x5_1).f0)
       ·rw [if_pos c7] at H
        have c7b0 : (((rd_T94 l0 x5_1).f0) == ((rd_T86 l1 x5_1).f0)) = true := beq_iff_eq.mpr c7
        have c7b1 : (((rd_T94 l0 x5_1).f0) != ((rd_T86 l1 x5_1).f0)) = false := bne_eq_false_iff_eq.mpr c7
        clear c7
        replace H := Option.bind_eq_some_iff.mp H
        obtain ⟨t105, A80, H⟩ := H
        replace H : (if t105 = true then (flagstonelaw09_Alike.l0 k1 l0 l1 (wrap64 (x5_1 + 1))) else (some 1)) = some r := H
        have A8 := Aside0.mk A80
        clear A80
        by_cases c9 : t105 = true
        ·subst c9
         have H1 : (flagstonelaw09_Alike.l0 k1 l0 l1 (wrap64 (x5_1 + 1))) = some r := by rw [if_pos rfl] at H; exact H
         clear H
         have H := H1
         clear H1
         have H' := Aside0.mk H
         clear H
         have p101 : 0 ≤ (x5_1 : Int) := of_decide_eq_true (by first | (with_reducible assumption) | assumption)
         have q101 : x5_1 < (l0.length : Int) := of_decide_eq_true (by first | (with_reducible assumption) | assumption)
         obtain ⟨ad101, A101_1, c101_1, e101, hx101_0, hx101_1, hl101_1, hi101_1⟩ := at_T94 HR0.out x5_1 p101 q101
         cases e101
         have HR101_1 := Aside0.mk hi101_1
         have HC101_1 := Aside0.mk hl101_1
         clear hi101_1 hl101_1
         replace p101 := eq_true p101
         replace q101 := eq_true q101
         have p102 : 0 ≤ (x5_1 : Int) := of_decide_eq_true (by first | (with_reducible assumption) | assumption)
         have q102 : x5_1 < (l1.length : Int) := of_decide_eq_true (by first | (with_reducible assumption) | assumption)
         obtain ⟨ad102, A102_1, c102_1, e102, hx102_0, hx102_1, hl102_1, hi102_1⟩ := at_T86 HR1.out x5_1 p102 q102
         cases e102
         have HR102_1 := Aside0.mk hi102_1
         have HC102_1 := Aside0.mk hl102_1
         clear hi102_1 hl102_1
         replace p102 := eq_true p102
         replace q102 := eq_true q102
         have p103 : 0 ≤ (x5_1 : Int) := of_decide_eq_true (by first | (with_reducible assumption) | assumption)
         have q103 : x5_1 < (l0.length : Int) := of_decide_eq_true (by first | (with_reducible assumption) | assumption)
         obtain ⟨ad103, A103_1, c103_1, e103, hx103_0, hx103_1, hl103_1, hi103_1⟩ := at_T94 HR0.out x5_1 p103 q103
         obtain rfl : ad101 = ad103 := (by injection e103)
         have HR103_1 := Aside0.mk hi103_1
         have HC103_1 := Aside0.mk hl103_1
         clear hi103_1 hl103_1
         replace p103 := eq_true p103
         replace q103 := eq_true q103
         have ea_ := Option.some.inj (hx101_1.symm.trans hx103_1)
         injection ea_ with ea_ en_ ec_
         subst ea_
         subst ec_
         clear en_
         have p104 : 0 ≤ (x5_1 : Int) := of_decide_eq_true (by first | (with_reducible assumption) | assumption)
         have q104 : x5_1 < (l1.length : Int) := of_decide_eq_true (by first | (with_reducible assumption) | assumption)
         obtain ⟨ad104, A104_1, c104_1, e104, hx104_0, hx104_1, hl104_1, hi104_1⟩ := at_T86 HR1.out x5_1 p104 q104
         obtain rfl : ad102 = ad104 := (by injection e104)
         have HR104_1 := Aside0.mk hi104_1
         have HC104_1 := Aside0.mk hl104_1
         clear hi104_1 hl104_1
         replace p104 := eq_true p104
         replace q104 := eq_true q104
         have ea_ := Option.some.inj (hx102_1.symm.trans hx104_1)
         injection ea_ with ea_ en_ ec_
         subst ea_
         subst ec_
         clear en_
         go_wp2_with (first | (go_at_call 32; (with_reducible refine (flagstoneplain_SameExtents.calls k1 _ _ ((rd_T94 l0 x5_1).f1) _ _ ((rd_T86 l1 x5_1).f1) true _ ?side1 ?side2 ?side3 ?side4 A8.out).mono ?_); (case side1 => repeat (first | exact HR103_1.out | (with_reducible refine Kd.C_alloc ?_ _) | (with_reducible refine Kd.C_drewN ?_ _) | (with_reducible refine Kd.C_drew ?_))); (case side2 => exact HC103_1.out); (case side3 => repeat (first | exact HR104_1.out | (with_reducible refine Kd.C_alloc ?_ _) | (with_reducible refine Kd.C_drewN ?_ _) | (with_reducible refine Kd.C_drew ?_))); (case side4 => exact HC104_1.out); rintro e w' ⟨rfl, ⟨nd, rfl⟩⟩; (try first | exact ⟨rfl, _, World.drewN_drewN _ _ _⟩ | exact ⟨rfl, _, Eq.trans (World.drewN_drewN _ _ _) (congrArg (World.drewN _) (Nat.add_assoc _ _ _))⟩)))
         repeat (go_quiet (first | (go_at_call 32; (with_reducible refine (flagstoneplain_SameExtents.calls k1 _ _ ((rd_T94 l0 x5_1).f1) _ _ ((rd_T86 l1 x5_1).f1) true _ ?side1 ?side2 ?side3 ?side4 A8.out).mono ?_); (case side1 => repeat (first | exact HR103_1.out | (with_reducible refine Kd.C_alloc ?_ _) | (with_reducible refine Kd.C_drewN ?_ _) | (with_reducible refine Kd.C_drew ?_))); (case side2 => exact HC103_1.out); (case side3 => repeat (first | exact HR104_1.out | (with_reducible refine Kd.C_alloc ?_ _) | (with_reducible refine Kd.C_drewN ?_ _) | (with_reducible refine Kd.C_drew ?_))); (case side4 => exact HC104_1.out); rintro e w' ⟨rfl, ⟨nd, rfl⟩⟩; (try first | exact ⟨rfl, _, World.drewN_drewN _ _ _⟩ | exact ⟨rfl, _, Eq.trans (World.drewN_drewN _ _ _) (congrArg (World.drewN _) (Nat.add_assoc _ _ _))⟩))); try go_wp2_with (first | (go_at_call 32; (with_reducible refine (flagstoneplain_SameExtents.calls k1 _ _ ((rd_T94 l0 x5_1).f1) _ _ ((rd_T86 l1 x5_1).f1) true _ ?side1 ?side2 ?side3 ?side4 A8.out).mono ?_); (case side1 => repeat (first | exact HR103_1.out | (with_reducible refine Kd.C_alloc ?_ _) | (with_reducible refine Kd.C_drewN ?_ _) | (with_reducible refine Kd.C_drew ?_))); (case side2 => exact HC103_1.out); (case side3 => repeat (first | exact HR104_1.out | (with_reducible refine Kd.C_alloc ?_ _) | (with_reducible refine Kd.C_drewN ?_ _) | (with_reducible refine Kd.C_drew ?_))); (case side4 => exact HC104_1.out); rintro e w' ⟨rfl, ⟨nd, rfl⟩⟩; (try first | exact ⟨rfl, _, World.drewN_drewN _ _ _⟩ | exact ⟨rfl, _, Eq.trans (World.drewN_drewN _ _ _) (congrArg (World.drewN _) (Nat.add_assoc _ _ _))⟩))))
         go_roundg k1
         case measure => have := HK1.out; omega
         case rel => exact ⟨(wrap64 (x5_1 + 1)), (by first | rfl | (simp; done) | (simp [*]; done)), H', ⟨by have := HK1.out; omega⟩, by repeat (first | exact Drawn0.refl _ | apply Drawn0.step)⟩
        ·replace c9 := Bool.eq_false_iff.mpr c9
         subst c9
         have H1 : (some 1) = some r := by rw [if_neg (show ¬ (false = true) by decide)] at H; exact H
         clear H
         have H := H1
         clear H1
         obtain rfl := Option.some.inj H
         have p101 : 0 ≤ (x5_1 : Int) := of_decide_eq_true (by first | (with_reducible assumption) | assumption)
         have q101 : x5_1 < (l0.length : Int) := of_decide_eq_true (by first | (with_reducible assumption) | assumption)
         obtain ⟨ad101, A101_1, c101_1, e101, hx101_0, hx101_1, hl101_1, hi101_1⟩ := at_T94 HR0.out x5_1 p101 q101
         cases e101
         have HR101_1 := Aside0.mk hi101_1
         have HC101_1 := Aside0.mk hl101_1
         clear hi101_1 hl101_1
         replace p101 := eq_true p101
         replace q101 := eq_true q101
         have p102 : 0 ≤ (x5_1 : Int) := of_decide_eq_true (by first | (with_reducible assumption) | assumption)
         have q102 : x5_1 < (l1.length : Int) := of_decide_eq_true (by first | (with_reducible assumption) | assumption)
         obtain ⟨ad102, A102_1, c102_1, e102, hx102_0, hx102_1, hl102_1, hi102_1⟩ := at_T86 HR1.out x5_1 p102 q102
         cases e102
         have HR102_1 := Aside0.mk hi102_1
         have HC102_1 := Aside0.mk hl102_1
         clear hi102_1 hl102_1
         replace p102 := eq_true p102
         replace q102 := eq_true q102
         have p103 : 0 ≤ (x5_1 : Int) := of_decide_eq_true (by first | (with_reducible assumption) | assumption)
         have q103 : x5_1 < (l0.length : Int) := of_decide_eq_true (by first | (with_reducible assumption) | assumption)
         obtain ⟨ad103, A103_1, c103_1, e103, hx103_0, hx103_1, hl103_1, hi103_1⟩ := at_T94 HR0.out x5_1 p103 q103
         obtain rfl : ad101 = ad103 := (by injection e103)
         have HR103_1 := Aside0.mk hi103_1
         have HC103_1 := Aside0.mk hl103_1
         clear hi103_1 hl103_1
         replace p103 := eq_true p103
         replace q103 := eq_true q103
         have ea_ := Option.some.inj (hx101_1.symm.trans hx103_1)
         injection ea_ with ea_ en_ ec_
         subst ea_
         subst ec_
         clear en_
         have p104 : 0 ≤ (x5_1 : Int) := of_decide_eq_true (by first | (with_reducible assumption) | assumption)
         have q104 : x5_1 < (l1.length : Int) := of_decide_eq_true (by first | (with_reducible assumption) | assumption)
         obtain ⟨ad104, A104_1, c104_1, e104, hx104_0, hx104_1, hl104_1, hi104_1⟩ := at_T86 HR1.out x5_1 p104 q104
         obtain rfl : ad102 = ad104 := (by injection e104)
         have HR104_1 := Aside0.mk hi104_1
         have HC104_1 := Aside0.mk hl104_1
         clear hi104_1 hl104_1
         replace p104 := eq_true p104
         replace q104 := eq_true q104
         have ea_ := Option.some.inj (hx102_1.symm.trans hx104_1)
         injection ea_ with ea_ en_ ec_
         subst ea_
         subst ec_
         clear en_
         go_wp2_with (first | (go_at_call 32; (with_reducible refine (flagstoneplain_SameExtents.calls k1 _ _ ((rd_T94 l0 x5_1).f1) _ _ ((rd_T86 l1 x5_1).f1) false _ ?side1 ?side2 ?side3 ?side4 A8.out).mono ?_); (case side1 => repeat (first | exact HR103_1.out | (with_reducible refine Kd.C_alloc ?_ _) | (with_reducible refine Kd.C_drewN ?_ _) | (with_reducible refine Kd.C_drew ?_))); (case side2 => exact HC103_1.out); (case side3 => repeat (first | exact HR104_1.out | (with_reducible refine Kd.C_alloc ?_ _) | (with_reducible refine Kd.C_drewN ?_ _) | (with_reducible refine Kd.C_drew ?_))); (case side4 => exact HC104_1.out); rintro e w' ⟨rfl, ⟨nd, rfl⟩⟩; (try first | exact ⟨rfl, _, World.drewN_drewN _ _ _⟩ | exact ⟨rfl, _, Eq.trans (World.drewN_drewN _ _ _) (congrArg (World.drewN _) (Nat.add_assoc _ _ _))⟩)))
         repeat (go_quiet (first | (go_at_call 32; (with_reducible refine (flagstoneplain_SameExtents.calls k1 _ _ ((rd_T94 l0 x5_1).f1) _ _ ((rd_T86 l1 x5_1).f1) false _ ?side1 ?side2 ?side3 ?side4 A8.out).mono ?_); (case side1 => repeat (first | exact HR103_1.out | (with_reducible refine Kd.C_alloc ?_ _) | (with_reducible refine Kd.C_drewN ?_ _) | (with_reducible refine Kd.C_drew ?_))); (case side2 => exact HC103_1.out); (case side3 => repeat (first | exact HR104_1.out | (with_reducible refine Kd.C_alloc ?_ _) | (with_reducible refine Kd.C_drewN ?_ _) | (with_reducible refine Kd.C_drew ?_))); (case side4 => exact HC104_1.out); rintro e w' ⟨rfl, ⟨nd, rfl⟩⟩; (try first | exact ⟨rfl, _, World.drewN_drewN _ _ _⟩ | exact ⟨rfl, _, Eq.trans (World.drewN_drewN _ _ _) (congrArg (World.drewN _) (Nat.add_assoc _ _ _))⟩))); try go_wp2_with (first | (go_at_call 32; (with_reducible refine (flagstoneplain_SameExtents.calls k1 _ _ ((rd_T94 l0 x5_1).f1) _ _ ((rd_T86 l1 x5_1).f1) false _ ?side1 ?side2 ?side3 ?side4 A8.out).mono ?_); (case side1 => repeat (first | exact HR103_1.out | (with_reducible refine Kd.C_alloc ?_ _) | (with_reducible refine Kd.C_drewN ?_ _) | (with_reducible refine Kd.C_drew ?_))); (case side2 => exact HC103_1.out); (case side3 => repeat (first | exact HR104_1.out | (with_reducible refine Kd.C_alloc ?_ _) | (with_reducible refine Kd.C_drewN ?_ _) | (with_reducible refine Kd.C_drew ?_))); (case side4 => exact HC104_1.out); rintro e w' ⟨rfl, ⟨nd, rfl⟩⟩; (try first | exact ⟨rfl, _, World.drewN_drewN _ _ _⟩ | exact ⟨rfl, _, Eq.trans (World.drewN_drewN _ _ _) (congrArg (World.drewN _) (Nat.add_assoc _ _ _))⟩))))
         go_ret
         exact ⟨by first | rfl | (simp; done) | (simp [*]; done), by repeat (first | exact Drawn0.refl _ | apply Drawn0.step)⟩
       ·rw [if_neg c7] at H
        have c7b0 : (((rd_T94 l0 x5_1).f0) == ((rd_T86 l1 x5_1).f0)) = false := beq_eq_false_iff_ne.mpr c7
        have c7b1 : (((rd_T94 l0 x5_1).f0) != ((rd_T86 l1 x5_1).f0)) = true := bne_iff_ne.mpr c7
        obtain rfl := Option.some.inj H
        have p101 : 0 ≤ (x5_1 : Int) := of_decide_eq_true (by first | (with_reducible assumption) | assumption)
        have q101 : x5_1 < (l0.length : Int) := of_decide_eq_true (by first | (with_reducible assumption) | assumption)
        obtain ⟨ad101, A101_1, c101_1, e101, hx101_0, hx101_1, hl101_1, hi101_1⟩ := at_T94 HR0.out x5_1 p101 q101
        cases e101
        have HR101_1 := Aside0.mk hi101_1
        have HC101_1 := Aside0.mk hl101_1
        clear hi101_1 hl101_1
        replace p101 := eq_true p101
        replace q101 := eq_true q101
        have p102 : 0 ≤ (x5_1 : Int) := of_decide_eq_true (by first | (with_reducible assumption) | assumption)
        have q102 : x5_1 < (l1.length : Int) := of_decide_eq_true (by first | (with_reducible assumption) | assumption)
        obtain ⟨ad102, A102_1, c102_1, e102, hx102_0, hx102_1, hl102_1, hi102_1⟩ := at_T86 HR1.out x5_1 p102 q102
        cases e102
        have HR102_1 := Aside0.mk hi102_1
        have HC102_1 := Aside0.mk hl102_1
        clear hi102_1 hl102_1
        replace p102 := eq_true p102
        replace q102 := eq_true q102
        go_wp2
        repeat (go_quiet (fail); try go_wp2)
        go_ret
        exact ⟨by first | rfl | (simp; done) | (simp [*]; done), by repeat (first | exact Drawn0.refl _ | apply Drawn0.step)⟩
      ·rw [if_neg c6] at H
       exact absurd H (by simp)
     ·rw [if_neg c5] at H
      exact absurd H (by simp)
    ·rw [if_neg c4] at H
     have c4b0 : decide (x5_1 < (l0.length : Int)) = false := decide_eq_false c4
     clear c4
     obtain rfl := Option.some.inj H
     go_wp2
     repeat (go_quiet (fail); try go_wp2)
     go_ret
     exact ⟨by first | rfl | (simp; done) | (simp [*]; done), by repeat (first | exact Drawn0.refl _ | apply Drawn0.step)⟩
 ·rw [if_neg c3] at H
  have c3b0 : ((l0.length : Int) == (l1.length : Int)) = false := beq_eq_false_iff_ne.mpr c3
  have c3b1 : ((l0.length : Int) != (l1.length : Int)) = true := bne_iff_ne.mpr c3
  have c3b2 : (l0.length == l1.length) = false := by first | simpa using c3 | (simp at c3 ⊢; omega)
  obtain rfl := Option.some.inj H
  go_enter Try.func74, Try.ntmps74
  go_wp2
  repeat (go_quiet (fail); try go_wp2)
  go_ret
  exact ⟨by first | rfl | (simp; done) | (simp [*]; done), by repeat (first | exact Drawn0.refl _ | apply Drawn0.step)⟩
end Go.Proofs.Ytkkfkdncddbaeaa.Fn
