-- Told by hand; its numbers filled in by a program of this session.
import Derived.Test.YtkkfkdncddbaeaaFnBase
import Derived.Test.YtkkfkdncddbaeaaHNums
import Derived.Test.YtkkfkdncddbaeaaHPure
import Derived.Test.YtkkfkdncddbaeaaFn88
import Derived.Test.YtkkfkdncddbaeaaFn36
import Derived.Test.YtkkfkdncddbaeaaFn87
import Derived.Test.YtkkfkdncddbaeaaFn40
namespace Go.Proofs.Ytkkfkdncddbaeaa.Fn
open Go.RowKit Go.Proofs.YtkkfkdncddbaeaaW.PrintWords Go.Proofs.YtkkfkdncddbaeaaW.PrintLast Go.Proofs.YtkkfkdncddbaeaaW.PrintMore
attribute [local go_sem] max2_int min2_int max_two min_two max_three min_three max_four min_four   -- for this text's walks alone
set_option linter.unusedVariables false
set_option linter.unusedSimpArgs false

/-! What the functions of extents answer, in plain lists (no program in sight). -/
def toE (x : S24) : Flag.Ex := ⟨x.f0, x.f1, x.f2⟩
theorem toE_inj {x y : S24} (h : toE x = toE y) : x = y := by
  cases x; cases y; simp only [toE, Flag.Ex.mk.injEq] at h; simp only [S24.mk.injEq]; exact h
theorem mapE_inj {l m : List S24} (h : l.map toE = m.map toE) : l = m := by
  induction l generalizing m with
  | nil => cases m with
    | nil => rfl
    | cons y t => simp at h
  | cons x t ih => cases m with
    | nil => simp at h
    | cons y u =>
      simp only [List.map_cons, List.cons.injEq] at h
      rw [toE_inj h.1, ih h.2]
/-- A number far from the ends of Go's whole numbers. -/
def near (n : Int) : Prop := -1099511627776 ≤ n ∧ n ≤ 1099511627776
structure Near (x : S24) : Prop where
  v : near x.f0
  p : near x.f1
  n : near x.f2
  q : -1 ≤ x.f1
theorem goesOn_f {a b : S24} (ha : Near a) (hb : Near b) (hn : 0 < a.f2) : extent_goesOn.f a.f0 a.f1 a.f2 b.f0 b.f1 b.f2 = some (decide (Flag.goesOn (toE a) (toE b))) := by
  obtain ⟨⟨a1, a2⟩, ⟨a3, a4⟩, ⟨a5, a6⟩, a7⟩ := ha
  obtain ⟨⟨b1, b2⟩, ⟨b3, b4⟩, ⟨b5, b6⟩, b7⟩ := hb
  unfold extent_goesOn.f Flag.goesOn toE
  dsimp only
  rw [w64 (n := a.f0 + a.f2) (by omega), w64 (n := a.f1 + a.f2) (by omega)]
  congr 1
  by_cases h0 : a.f0 + a.f2 = b.f0
  · by_cases h1 : a.f1 = -1
    · by_cases h2 : b.f1 = -1
      · simp [h0, h1, h2]
      · simp [h0, h1, h2]
    · have h3 : 0 ≤ a.f1 := by omega
      have h4 : ¬ a.f1 < 0 := by omega
      by_cases h2 : b.f1 = -1
      · have h5 : ¬ (-1 = a.f1 + a.f2) := by omega
        simp [h0, h1, h2, h3, h4, h5]
      · by_cases h6 : a.f1 + a.f2 = b.f1
        · have h7 : b.f1 = a.f1 + a.f2 := h6.symm
          have h8 : ¬ (a.f1 + a.f2 = -1) := by omega
          have h9 : (a.f1 == -1) = false := by simp [h1]
          have h10 : (a.f1 + a.f2 == -1) = false := by simp [h8]
          simp [h0, h1, h3, h7, h9, h10]
        · have h7 : ¬ (b.f1 = a.f1 + a.f2) := fun h => h6 h.symm
          simp [h0, h1, h2, h3, h4, h6, h7]
  · simp [h0]
theorem rd_at (pre : List S24) (x : S24) (t : List S24) {i : Int} (h : i = pre.length) : rd_T24 (pre ++ x :: t) i = x := by
  subst h; simp [rd_T24]
theorem addG_toE {xs : List S24} {x : S24} (hs : ∀ y ∈ xs, Near y ∧ 0 < y.f2) (hx : Near x) : (addG xs x).map toE = Flag.addE (xs.map toE) (toE x) := by
  unfold addG
  by_cases h : x.f2 ≤ 0
  · rw [if_pos h, Flag.addE_empty h]
  · rw [if_neg h]
    rcases List.eq_nil_or_concat xs with rfl | ⟨pre, y, rfl⟩
    · simp [Flag.addE, toE, h]
    · rw [List.concat_eq_append] at hs ⊢
      have hr : rd_T24 (pre ++ [y]) (((pre ++ [y]).length : Int) - 1) = y := rd_at pre y [] (by simp)
      rw [hr]
      have hy := hs y (by simp)
      rw [goesOn_f hy.1 hx hy.2]
      by_cases hg : Flag.goesOn (toE y) (toE x)
      · rw [if_pos ⟨by simp, by simp [hg]⟩]
        obtain ⟨⟨b1, b2⟩, ⟨b3, b4⟩, ⟨b5, b6⟩, b7⟩ := hy.1
        obtain ⟨⟨c1, c2⟩, ⟨c3, c4⟩, ⟨c5, c6⟩, c7⟩ := hx
        rw [w64 (n := y.f2 + x.f2) (by omega), List.map_append]
        show _ = Flag.addE (pre.map toE ++ [toE y]) (toE x)
        rw [Flag.addE_split (show 0 < x.f2 by omega) hg]
        have e : (((pre ++ [y]).length : Int) - 1).toNat = pre.length := by simp
        rw [e]
        simp [toE]
      · rw [if_neg (by simp [hg]), Flag.addE_new (show 0 < x.f2 by omega)]
        · simp
        · intro z hz
          have : z = toE y := by simpa using hz.symm
          rw [this]; exact hg
/-- What a list laid holds. -/
structure InM (x : S24) : Prop where
  v : 0 ≤ x.f0
  e : x.f0 + x.f2 ≤ 1099511627776
  p0 : -1 ≤ x.f1
  p1 : x.f1 ≤ 1099511627776
  n : 0 < x.f2
theorem InM.near {x : S24} (h : InM x) : Near x := by
  obtain ⟨h1, h2, h3, h4, h5⟩ := h
  exact ⟨⟨by omega, by omega⟩, ⟨by omega, by omega⟩, ⟨by omega, by omega⟩, h3⟩
theorem addG_in {xs : List S24} {x : S24} (hs : ∀ y ∈ xs, InM y) (hx : x.f2 ≤ 0 ∨ InM x) : (addG xs x).map toE = Flag.addE (xs.map toE) (toE x) ∧ ∀ y ∈ addG xs x, InM y := by
  rcases hx with hx | hx
  · have e : addG xs x = xs := by unfold addG; rw [if_pos hx]
    rw [e]
    exact ⟨(Flag.addE_empty hx).symm, hs⟩
  · refine ⟨addG_toE (fun y hy => ⟨(hs y hy).near, (hs y hy).n⟩) hx.near, ?_⟩
    unfold addG
    have hn := hx.n
    rw [if_neg (by omega)]
    rcases List.eq_nil_or_concat xs with rfl | ⟨pre, y, rfl⟩
    · intro z hz
      have : z = x := by simpa using hz
      rw [this]; exact hx
    · rw [List.concat_eq_append] at hs ⊢
      have hr : rd_T24 (pre ++ [y]) (((pre ++ [y]).length : Int) - 1) = y := rd_at pre y [] (by simp)
      rw [hr]
      have hy := hs y (by simp)
      rw [goesOn_f hy.near hx.near hy.n]
      split
      · rename_i hg
        have hg : Flag.goesOn (toE y) (toE x) := by simpa using hg.2
        have hg1 : y.f0 + y.f2 = x.f0 := hg.1
        obtain ⟨h1, h2, h3, h4, h5⟩ := hy
        obtain ⟨g1, g2, g3, g4, g5⟩ := hx
        have e : (((pre ++ [y]).length : Int) - 1).toNat = pre.length := by simp
        rw [e, w64 (n := y.f2 + x.f2) (by omega)]
        intro z hz
        have hz : z ∈ pre ++ [(⟨y.f0, y.f1, y.f2 + x.f2⟩ : S24)] := by simpa using hz
        rcases List.mem_append.1 hz with hz | hz
        · exact hs z (List.mem_append_left _ hz)
        · have : z = ⟨y.f0, y.f1, y.f2 + x.f2⟩ := by simpa using hz
          rw [this]
          exact ⟨h1, show y.f0 + (y.f2 + x.f2) ≤ _ by omega, h3, h4, show 0 < y.f2 + x.f2 by omega⟩
      · intro z hz
        rcases List.mem_append.1 hz with hz | hz
        · exact hs z hz
        · have : z = x := by simpa using hz
          rw [this]; exact hx
theorem fold_in (ps : List S24) : ∀ xs : List S24, (∀ y ∈ xs, InM y) → (∀ x ∈ ps, x.f2 ≤ 0 ∨ InM x) → (ps.foldl addG xs).map toE = (ps.map toE).foldl Flag.addE (xs.map toE) ∧ ∀ y ∈ ps.foldl addG xs, InM y := by
  induction ps with
  | nil => intro xs hs _; exact ⟨rfl, hs⟩
  | cons x t ih =>
    intro xs hs hp
    obtain ⟨h1, h2⟩ := addG_in hs (hp x List.mem_cons_self)
    obtain ⟨h3, h4⟩ := ih _ h2 (fun y hy => hp y (List.mem_cons_of_mem _ hy))
    refine ⟨?_, h4⟩
    rw [List.foldl_cons, h3, h1]; rfl
theorem fold_join {ps : List S24} (hp : ∀ x ∈ ps, x.f2 ≤ 0 ∨ InM x) : (ps.foldl addG []).map toE = Flag.joinE (ps.map toE) ∧ ∀ y ∈ ps.foldl addG [], InM y :=
  fold_in ps [] (fun y hy => by cases hy) hp
theorem okIn {x : S24} (h : Flag.okMap (toE x)) : InM x := by
  obtain ⟨h1, h2, h3, h4, h5⟩ := h
  simp only [toE] at h1 h2 h3 h4 h5
  exact ⟨h2, by omega, by omega, by omega, h1⟩
theorem partG_toE {x : S24} (hx : Flag.okMap (toE x)) {a b : Int} (ha : near a) (hb : near b) : toE (partG x a b) = Flag.part (toE x) a b := by
  obtain ⟨h1, h2, h3, h4, h5⟩ := hx
  simp only [toE] at h1 h2 h3 h4 h5
  obtain ⟨a1, a2⟩ := ha
  obtain ⟨b1, b2⟩ := hb
  unfold partG toE Flag.part
  dsimp only
  rw [mx_max, mn_min, w64 (n := x.f0 + x.f2) (by omega), w64 (n := max a x.f0 - x.f0) (by omega), w64 (n := x.f1 + (max a x.f0 - x.f0)) (by omega), w64 (n := min b (x.f0 + x.f2) - max a x.f0) (by omega), if_neg (by omega), if_neg (by omega)]
theorem partG_in {x : S24} (hx : Flag.okMap (toE x)) {a b : Int} (ha : near a) (hb : near b) (ha0 : 0 ≤ a) : (partG x a b).f2 ≤ 0 ∨ InM (partG x a b) := by
  have e := partG_toE hx ha hb
  obtain ⟨h1, h2, h3, h4, h5⟩ := hx
  simp only [toE] at h1 h2 h3 h4 h5
  have e0 : (partG x a b).f0 = max a x.f0 := congrArg Flag.Ex.v e
  have e1 : (partG x a b).f1 = x.f1 + (max a x.f0 - x.f0) := (congrArg Flag.Ex.p e).trans (if_neg (show ¬ x.f1 < 0 by omega))
  have e2 : (partG x a b).f2 = min b (x.f0 + x.f2) - max a x.f0 := congrArg Flag.Ex.n e
  by_cases h : (partG x a b).f2 ≤ 0
  · exact .inl h
  · exact .inr ⟨by omega, by omega, by omega, by omega, by omega⟩
/-- What 'replaced' adds, one behind the other. -/
def piecesG (v e : Int) (by_ : List S24) : List S24 → Bool → List S24
  | [], d => if d then [] else by_
  | x :: t, d => partG x 0 v :: ((if !d && decide (v < wrap64 (x.f0 + x.f2)) then by_ else []) ++ partG x e 65536 :: piecesG v e by_ t (d || (!d && decide (v < wrap64 (x.f0 + x.f2)))))
theorem repl_pieces (v n : Int) (by_ : List S24) (l : List S24) : ∀ s : List S24 × Bool,
    (if (l.foldl (replStep v n by_) s).2 then (l.foldl (replStep v n by_) s).1 else by_.foldl addG (l.foldl (replStep v n by_) s).1) = (piecesG v (wrap64 (v + n)) by_ l s.2).foldl addG s.1 := by
  induction l with
  | nil =>
    intro s
    cases h : s.2 <;> simp [piecesG, h]
  | cons x t ih =>
    intro s
    rw [List.foldl_cons, ih, piecesG, List.foldl_cons, List.foldl_append, List.foldl_cons]
    simp only [replStep]
    cases h : (!s.2 && decide (v < wrap64 (x.f0 + x.f2))) <;> simp
theorem replG_pieces (l : List S24) (v n : Int) (by_ : List S24) : replG l v n by_ = (piecesG v (wrap64 (v + n)) by_ l false).foldl addG [] := repl_pieces v n by_ l ([], false)
theorem piecesG_in {v e : Int} {by_ l : List S24} (hv : 0 ≤ v ∧ v ≤ 65536) (he : 0 ≤ e ∧ e ≤ 65536) (hb : ∀ y ∈ by_, y.f2 ≤ 0 ∨ InM y) (hl : ∀ x ∈ l, Flag.okMap (toE x)) (d : Bool) : ∀ y ∈ piecesG v e by_ l d, y.f2 ≤ 0 ∨ InM y := by
  induction l generalizing d with
  | nil =>
    intro y hy
    cases d
    · exact hb y (by simpa [piecesG] using hy)
    · simp [piecesG] at hy
  | cons x t ih =>
    intro y hy
    have hx := hl x List.mem_cons_self
    have ht : ∀ x ∈ t, Flag.okMap (toE x) := fun z hz => hl z (List.mem_cons_of_mem _ hz)
    rw [piecesG] at hy
    rcases List.mem_cons.1 hy with rfl | hy
    · exact partG_in hx ⟨by omega, by omega⟩ ⟨by omega, by omega⟩ (by omega)
    · rcases List.mem_append.1 hy with hy | hy
      · split at hy
        · exact hb y hy
        · cases hy
      · rcases List.mem_cons.1 hy with rfl | hy
        · exact partG_in hx ⟨by omega, by omega⟩ ⟨by omega, by omega⟩ (by omega)
        · exact ih ht _ y hy
def fullP (x : Flag.Ex) : Bool := decide (0 < x.n)
theorem pieces_done {v e : Int} {by_ l : List S24} (hv : 0 ≤ v ∧ v ≤ 65536) (he : 0 ≤ e ∧ e ≤ 65536) (hl : ∀ x ∈ l, Flag.okMap (toE x)) (ha : ∀ x ∈ l, v ≤ x.f0) :
    ((piecesG v e by_ l true).map toE).filter fullP = ((l.map toE).map (Flag.part · e 65536)).filter fullP := by
  induction l with
  | nil => rfl
  | cons x t ih =>
    have hx := hl x List.mem_cons_self
    have ih := ih (fun z hz => hl z (List.mem_cons_of_mem _ hz)) (fun z hz => ha z (List.mem_cons_of_mem _ hz))
    have h0 := ha x List.mem_cons_self
    rw [piecesG]
    simp only [Bool.not_true, Bool.false_and, Bool.or_false, List.map_cons, Bool.false_eq_true, if_false, List.nil_append]
    rw [partG_toE hx ⟨by omega, by omega⟩ ⟨by omega, by omega⟩, partG_toE hx ⟨by omega, by omega⟩ ⟨by omega, by omega⟩]
    have e1 : fullP (Flag.part (toE x) 0 v) = false := by
      unfold fullP Flag.part toE
      apply decide_eq_false
      show ¬ 0 < min v (x.f0 + x.f2) - max 0 x.f0
      omega
    rw [List.filter_cons_of_neg (by simp [e1]), List.filter_cons, List.filter_cons, ih]
theorem pieces_not {v e : Int} {by_ l : List S24} (hve : v ≤ e) (hv : 0 ≤ v ∧ v ≤ 65536) (he : 0 ≤ e ∧ e ≤ 65536) (hl : ∀ x ∈ l, Flag.okMap (toE x)) (hn : Flag.NF (l.map toE)) :
    ((piecesG v e by_ l false).map toE).filter fullP = (((l.map toE).map (Flag.part · 0 v)) ++ (by_.map toE ++ ((l.map toE).map (Flag.part · e 65536)))).filter fullP := by
  induction l with
  | nil => simp [piecesG]
  | cons x t ih =>
    have hx := hl x List.mem_cons_self
    have ht : ∀ x ∈ t, Flag.okMap (toE x) := fun z hz => hl z (List.mem_cons_of_mem _ hz)
    have hnt : Flag.NF (t.map toE) := hn.tail
    have ih := ih ht hnt
    have hx0 := hx
    obtain ⟨h1, h2, h3, h4, h5⟩ := hx0
    simp only [toE] at h1 h2 h3 h4 h5
    rw [piecesG]
    rw [w64 (n := x.f0 + x.f2) (by omega)]
    by_cases hc : v < x.f0 + x.f2
    · simp only [hc, decide_true, Bool.not_false, Bool.true_and, Bool.or_true, if_true, List.map_cons, List.map_append]
      rw [partG_toE hx ⟨by omega, by omega⟩ ⟨by omega, by omega⟩, partG_toE hx ⟨by omega, by omega⟩ ⟨by omega, by omega⟩]
      have hat : ∀ y ∈ t, x.f0 + x.f2 ≤ y.f0 := fun y hy => hn.after (toE y) (List.mem_map_of_mem hy)
      have hd := pieces_done (by_ := by_) hv he ht (fun y hy => by have := hat y hy; omega)
      have hz : ((t.map toE).map (Flag.part · 0 v)).filter fullP = [] := by
        apply List.filter_eq_nil_iff.2
        intro y hy
        obtain ⟨z, hz, rfl⟩ := List.mem_map.1 hy
        obtain ⟨u, hu, rfl⟩ := List.mem_map.1 hz
        have := hat u hu
        have h9 : ¬ 0 < min v (u.f0 + u.f2) - max 0 u.f0 := by omega
        exact fun h => h9 (of_decide_eq_true h)
      simp only [List.cons_append, List.filter_cons, List.filter_append, List.map_cons, hd, hz, List.nil_append]
      try (split <;> simp)
    · have e1 : fullP (Flag.part (toE x) e 65536) = false := by
        unfold fullP Flag.part toE
        apply decide_eq_false
        show ¬ 0 < min 65536 (x.f0 + x.f2) - max e x.f0
        omega
      simp only [hc, decide_false, Bool.not_false, Bool.true_and, Bool.and_false, Bool.or_false, Bool.false_eq_true, if_false, List.map_cons, List.nil_append]
      rw [partG_toE hx ⟨by omega, by omega⟩ ⟨by omega, by omega⟩, partG_toE hx ⟨by omega, by omega⟩ ⟨by omega, by omega⟩]
      simp only [List.cons_append, List.filter_cons, List.filter_append, ih, e1]
      split <;> simp
theorem replG_put {l : List S24} {v n : Int} {by_ : List S24} (hm : Flag.Map5 (l.map toE)) (hv : 0 ≤ v) (hn : 0 ≤ n) (he : v + n ≤ 65536) (hb : ∀ y ∈ by_, y.f2 ≤ 0 ∨ InM y) :
    (replG l v n by_).map toE = Flag.joinE (Flag.put3 (l.map toE) v (v + n) (by_.map toE)) ∧ ∀ y ∈ replG l v n by_, InM y := by
  have hl : ∀ x ∈ l, Flag.okMap (toE x) := fun x hx => hm.ok _ (List.mem_map_of_mem hx)
  rw [replG_pieces, w64 (by omega)]
  obtain ⟨h1, h2⟩ := fold_join (piecesG_in ⟨hv, by omega⟩ ⟨by omega, he⟩ hb hl false)
  refine ⟨?_, h2⟩
  rw [h1, Flag.joinE_filter, Flag.put3, Flag.joinE_filter (_ ++ _)]
  exact congrArg Flag.joinE (pieces_not (by omega) ⟨hv, by omega⟩ ⟨by omega, he⟩ hl hm.nf)
/-! Checks. -/
theorem fits_x {a b : Int} : extent_fits.f a b = some (decide (0 ≤ a) && decide (0 ≤ b) && decide (a + b ≤ 65536)) := by
  unfold extent_fits.f
  rw [mn_min]
  by_cases h : min a b ≥ 0
  · rw [if_pos h]
    by_cases h1 : a ≤ 65536
    · rw [if_pos h1, w64 (by omega)]
      congr 1
      rw [Bool.eq_iff_iff]
      simp only [Bool.and_eq_true, decide_eq_true_eq]
      omega
    · rw [if_neg h1]
      congr 1
      symm
      rw [Bool.eq_false_iff]
      simp only [ne_eq, Bool.and_eq_true, decide_eq_true_eq]
      omega
  · rw [if_neg h]
    congr 1
    symm
    rw [Bool.eq_false_iff]
    simp only [ne_eq, Bool.and_eq_true, decide_eq_true_eq]
    omega
theorem fits_r {a b : Int} : flagstoneref05_fits.f a b = some (decide (0 ≤ a) && decide (0 ≤ b) && decide (a + b ≤ 65536)) := by
  unfold flagstoneref05_fits.f
  by_cases h : a ≥ 0
  · rw [if_pos h]
    by_cases h0 : b ≥ 0
    · rw [if_pos h0]
      by_cases h1 : a ≤ 65536
      · rw [if_pos h1, w64 (by omega)]
        congr 1
        rw [Bool.eq_iff_iff]
        simp only [Bool.and_eq_true, decide_eq_true_eq]
        omega
      · rw [if_neg h1]
        congr 1
        symm
        rw [Bool.eq_false_iff]
        simp only [ne_eq, Bool.and_eq_true, decide_eq_true_eq]
        omega
    · rw [if_neg h0]
      congr 1
      symm
      rw [Bool.eq_false_iff]
      simp only [ne_eq, Bool.and_eq_true, decide_eq_true_eq]
      omega
  · rw [if_neg h]
    congr 1
    symm
    rw [Bool.eq_false_iff]
    simp only [ne_eq, Bool.and_eq_true, decide_eq_true_eq]
    omega
theorem may_x {a b c : Int} : extent_may.f a b c = some (Flag.mayE ⟨a, b, c⟩) := by
  unfold extent_may.f
  rw [fits_x, fits_x]
  unfold Flag.mayE
  by_cases h : c > 0
  · rw [if_pos h]
    have h1 : 0 < c := h
    have h2 : 0 ≤ c := by omega
    simp only [Option.bind_some, h1, h2, decide_true, Bool.true_and, Bool.and_true]
    split
    · rename_i h3; rw [h3]; simp
    · rename_i h3; simp only [Bool.not_eq_true] at h3; rw [h3]; simp
  · rw [if_neg h]
    have h1 : ¬ 0 < c := h
    simp [h1]
/-- What a check still asks of the rest of a map, behind its pieces so far. -/
def chk : Option Flag.Ex → List Flag.Ex → Bool
  | none, t => Flag.mapB t
  | some y, t => Flag.restB y t
def okB (o : Option Flag.Ex) (x : Flag.Ex) : Bool := match o with
  | none => true
  | some y => decide (y.v + y.n ≤ x.v) && !decide (Flag.goesOn y x)
theorem chk_cons (o : Option Flag.Ex) (x : Flag.Ex) (t : List Flag.Ex) : chk o (x :: t) = (Flag.mayE x && okB o x && chk (some x) t) := by
  cases o with
  | none => simp [chk, Flag.mapB, okB]
  | some y => simp [chk, Flag.restB, okB, Bool.and_assoc]
theorem chk_nil (o : Option Flag.Ex) : chk o [] = true := by cases o <;> rfl
theorem check_x_loop (l : List S24) (hl : l.length ≤ 1024) (t : List S24) : ∀ (pre : List S24) (k : Nat), l = pre ++ t → t.length < k → (∀ y, pre.getLast? = some y → Flag.okMap (toE y)) →
    extent_Check.l0 k l l (l.length : Int) (pre.length : Int) = some (if chk (pre.getLast?.map toE) (t.map toE) = true then 0 else 9) := by
  induction t with
  | nil =>
    intro pre k he hk _
    obtain ⟨k, rfl⟩ : ∃ k', k = k' + 1 := ⟨k - 1, by simp at hk; omega⟩
    rw [extent_Check.l0, if_neg (by rw [he]; simp)]
    simp [chk_nil]
  | cons x t ih =>
    intro pre k he hk hp
    obtain ⟨k, rfl⟩ : ∃ k', k = k' + 1 := ⟨k - 1, by simp at hk; omega⟩
    have hlen : l.length = pre.length + t.length + 1 := by rw [he]; simp; omega
    have hx : rd_T24 l (pre.length : Int) = x := by rw [he]; exact rd_at pre x t rfl
    rw [extent_Check.l0, if_pos (by omega), if_pos (by omega), if_pos (by omega), hx, may_x, Option.bind_some, List.map_cons, chk_cons]
    have e0 : Flag.mayE ⟨x.f0, x.f1, x.f2⟩ = Flag.mayE (toE x) := rfl
    rw [e0]
    by_cases hm : Flag.mayE (toE x) = true
    · rw [if_pos hm, hm]
      have hok := Flag.mayE_iff.1 hm
      have hnext := ih (pre ++ [x]) k (by rw [he]; simp) (by simp at hk; omega) (fun y hy => by
        have : y = x := by simpa using hy.symm
        rw [this]; exact hok)
      have e1 : wrap64 ((pre.length : Int) + 1) = ((pre ++ [x]).length : Int) := by rw [w64 (by omega)]; simp
      rw [e1, hnext]
      have e2 : (pre ++ [x]).getLast?.map toE = some (toE x) := by simp
      rw [e2]
      rcases List.eq_nil_or_concat pre with rfl | ⟨q, y, rfl⟩
      · rw [if_neg (by simp)]
        simp [okB]
      · rw [List.concat_eq_append] at *
        have e3 : wrap64 (((q ++ [y]).length : Int) - 1) = (q.length : Int) := by rw [w64 (by omega)]; simp
        have hy : rd_T24 l (q.length : Int) = y := by rw [he, List.append_assoc]; exact rd_at q y (x :: t) rfl
        have hoky := hp y (by simp)
        rw [if_pos (by simp), e3, if_pos (by omega), if_pos (by rw [hlen]; simp; omega), hy]
        have iy := okIn hoky
        have ix := okIn hok
        have n1 := iy.near
        rw [w64 (n := y.f0 + y.f2) (by have := iy.v; have := iy.e; have := iy.n; omega), goesOn_f n1 ix.near iy.n]
        have e4 : (q ++ [y]).getLast?.map toE = some (toE y) := by simp
        rw [e4]
        by_cases hg : y.f0 + y.f2 > x.f0
        · rw [if_pos hg]
          have : ¬ ((toE y).v + (toE y).n ≤ (toE x).v) := by simp only [toE]; omega
          simp [okB, this]
        · rw [if_neg hg, Option.bind_some]
          have : (toE y).v + (toE y).n ≤ (toE x).v := by simp only [toE]; omega
          by_cases hgo : Flag.goesOn (toE y) (toE x)
          · simp [okB, this, hgo]
          · simp [okB, this, hgo]
    · rw [if_neg hm]
      simp only [Bool.not_eq_true] at hm
      simp [hm]
theorem check_x (l : List S24) {k : Nat} (hk : l.length < k) : extent_Check.f k l = some (Flag.checkE (l.map toE)) := by
  unfold extent_Check.f Flag.checkE
  by_cases h : l.length ≤ 1024
  · rw [if_neg (by omega)]
    have := check_x_loop l h l [] k rfl hk (fun y hy => by simp at hy)
    rw [show ((0 : Int) = (([] : List S24).length : Int)) from rfl, this]
    by_cases hb : Flag.mapB (l.map toE) = true <;> simp [chk, h, hb]
  · rw [if_pos (by omega)]
    simp [h]
theorem mayE_f (x : S24) : Flag.mayE (toE x) = (decide (0 < x.f2) && (decide (0 ≤ x.f0) && decide (x.f0 + x.f2 ≤ 65536)) && (decide (0 ≤ x.f1) && decide (x.f1 + x.f2 ≤ 65536))) := rfl
theorem check_r_loop (l : List S24) (hl : l.length ≤ 1024) (t : List S24) : ∀ (pre : List S24) (k : Nat), l = pre ++ t → 2 * t.length < k → (∀ y, pre.getLast? = some y → Flag.okMap (toE y)) →
    flagstoneref05_Check.l0 k l (pre.length : Int) = some (if chk (pre.getLast?.map toE) (t.map toE) = true then 0 else 9) := by
  induction t with
  | nil =>
    intro pre k he hk _
    obtain ⟨k, rfl⟩ : ∃ k', k = k' + 1 := ⟨k - 1, by simp at hk; omega⟩
    rw [flagstoneref05_Check.l0, if_neg (by rw [he]; simp)]
    simp [chk_nil]
  | cons x t ih =>
    intro pre k he hk hp
    obtain ⟨k, rfl⟩ : ∃ k', k = k' + 2 := ⟨k - 2, by simp at hk; omega⟩
    have hlen : l.length = pre.length + t.length + 1 := by rw [he]; simp; omega
    have hx : rd_T24 l (pre.length : Int) = x := by rw [he]; exact rd_at pre x t rfl
    rw [flagstoneref05_Check.l0, if_pos (by omega), if_pos (by omega), hx, fits_r, fits_r, Option.bind_some, Option.bind_some, List.map_cons, chk_cons]
    have hj : ∀ b : Bool, b = !Flag.mayE (toE x) → flagstoneref05_Check.j1 (k + 1) l (pre.length : Int) b x.f0 x.f1 x.f2 = some (if (Flag.mayE (toE x) && okB (pre.getLast?.map toE) (toE x) && chk (some (toE x)) (t.map toE)) = true then 0 else 9) := by
      intro b hb
      rw [flagstoneref05_Check.j1]
      by_cases hm : Flag.mayE (toE x) = true
      · rw [hb, hm, if_neg (by simp)]
        have hok := Flag.mayE_iff.1 hm
        have hnext := ih (pre ++ [x]) k (by rw [he]; simp) (by simp at hk; omega) (fun y hy => by
          have : y = x := by simpa using hy.symm
          rw [this]; exact hok)
        have e1 : wrap64 ((pre.length : Int) + 1) = ((pre ++ [x]).length : Int) := by rw [w64 (by omega)]; simp
        rw [e1, hnext]
        have e2 : (pre ++ [x]).getLast?.map toE = some (toE x) := by simp
        rw [e2]
        rcases List.eq_nil_or_concat pre with rfl | ⟨q, y, rfl⟩
        · rw [if_neg (by simp)]
          simp [okB]
        · rw [List.concat_eq_append] at *
          have e3 : wrap64 (((q ++ [y]).length : Int) - 1) = (q.length : Int) := by rw [w64 (by omega)]; simp
          have hy : rd_T24 l (q.length : Int) = y := by rw [he, List.append_assoc]; exact rd_at q y (x :: t) rfl
          have hoky := hp y (by simp)
          rw [if_pos (by simp), e3, if_pos (by omega), if_pos (by rw [hlen]; simp; omega), hy]
          have iy := okIn hoky
          have ix := okIn hok
          rw [w64 (n := y.f0 + y.f2) (by have := iy.v; have := iy.e; have := iy.n; omega), w64 (n := y.f1 + y.f2) (by obtain ⟨g1, g2, g3, g4, g5⟩ := hoky; simp only [toE] at g1 g2 g3 g4 g5; omega)]
          have e4 : (q ++ [y]).getLast?.map toE = some (toE y) := by simp
          rw [e4]
          obtain ⟨g1, g2, g3, g4, g5⟩ := hoky
          simp only [toE] at g1 g2 g3 g4 g5
          by_cases hg : x.f0 < y.f0 + y.f2
          · rw [if_pos hg]
            have : ¬ ((toE y).v + (toE y).n ≤ (toE x).v) := by simp only [toE]; omega
            simp [okB, this]
          · rw [if_neg hg]
            have h7 : (toE y).v + (toE y).n ≤ (toE x).v := by simp only [toE]; omega
            by_cases h8 : x.f0 = y.f0 + y.f2
            · rw [if_pos h8]
              by_cases h9 : x.f1 = y.f1 + y.f2
              · rw [if_pos h9]
                have hgo : Flag.goesOn (toE y) (toE x) := ⟨h8.symm, .inr ⟨g4, h9⟩⟩
                simp [okB, h7, hgo]
              · rw [if_neg h9]
                have hgo : ¬ Flag.goesOn (toE y) (toE x) := by
                  rintro ⟨_, ⟨a, b⟩ | ⟨a, b⟩⟩
                  · simp only [toE] at a; omega
                  · exact h9 b
                simp [okB, h7, hgo]
            · rw [if_neg h8]
              have hgo : ¬ Flag.goesOn (toE y) (toE x) := fun h => h8 h.1.symm
              simp [okB, h7, hgo]
      · simp only [Bool.not_eq_true] at hm
        rw [hb, hm, if_pos (by simp)]
        simp
    by_cases h1 : x.f2 < 1
    · rw [if_pos h1]
      exact hj _ (by simp only [Flag.mayE, toE]; have : ¬ 0 < x.f2 := by omega
                     simp [this])
    · rw [if_neg h1]
      have h2 : 0 < x.f2 := by omega
      have h3 : 0 ≤ x.f2 := by omega
      split
      · rename_i h4
        refine hj _ ?_
        simp only [h3, decide_true, Bool.and_true] at h4 ⊢
        rw [mayE_f, h4]
        simp only [h2, decide_true, Bool.true_and]
      · rename_i h4
        refine hj _ ?_
        simp only [h3, decide_true, Bool.and_true, Bool.not_eq_true] at h4
        rw [mayE_f, h4]
        simp only [Bool.and_false, Bool.false_and, Bool.not_false]
theorem check_r (l : List S24) {k : Nat} (hk : 2 * l.length < k) : flagstoneref05_Check.f k l = some (Flag.checkE (l.map toE)) := by
  unfold flagstoneref05_Check.f Flag.checkE
  by_cases h : l.length ≤ 1024
  · rw [if_neg (by omega)]
    have := check_r_loop l h l [] k rfl hk (fun y hy => by simp at hy)
    rw [show ((0 : Int) = (([] : List S24).length : Int)) from rfl, this]
    by_cases hb : Flag.mapB (l.map toE) = true <;> simp [chk, h, hb]
  · rw [if_pos (by omega)]
    simp [h]
theorem full_x (l : List S24) : extent_full.f l = some (if l.length > 1024 then ([], 51) else (l, 0)) := by
  unfold extent_full.f
  by_cases h : l.length > 1024
  · rw [if_pos (by omega), if_pos h]
  · rw [if_neg (by omega), if_neg h]
def fullS (l : List S24) : List S24 × Int := if l.length > 1024 then ([], 51) else (l, 0)
def fitsB (v n : Int) : Bool := decide (0 ≤ v) && decide (0 ≤ n) && decide (v + n ≤ 65536)
theorem fits_xB {a b : Int} : extent_fits.f a b = some (fitsB a b) := fits_x
theorem fits_rB {a b : Int} : flagstoneref05_fits.f a b = some (fitsB a b) := fits_r
theorem fitsB_iff {v n : Int} : fitsB v n = true ↔ 0 ≤ v ∧ 0 ≤ n ∧ v + n ≤ 65536 := by
  unfold fitsB; simp only [Bool.and_eq_true, decide_eq_true_eq, and_assoc]

end Go.Proofs.Ytkkfkdncddbaeaa.Fn
