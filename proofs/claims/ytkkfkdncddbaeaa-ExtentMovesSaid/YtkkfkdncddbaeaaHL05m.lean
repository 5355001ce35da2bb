-- Told by hand; its numbers filled in by a program of this session.
import Derived.Test.YtkkfkdncddbaeaaFnBase
import Derived.Test.YtkkfkdncddbaeaaHL05e
import Derived.Test.YtkkfkdncddbaeaaFn34
namespace Go.Proofs.Ytkkfkdncddbaeaa.Fn
open Go.RowKit Go.Proofs.YtkkfkdncddbaeaaW.PrintWords Go.Proofs.YtkkfkdncddbaeaaW.PrintLast Go.Proofs.YtkkfkdncddbaeaaW.PrintMore
attribute [local go_sem] max2_int min2_int max_two min_two max_three min_three max_four min_four   -- for this text's walks alone
set_option linter.unusedVariables false
set_option linter.unusedSimpArgs false

/-! What moves: in plain lists. -/
theorem partG_in2 {x : S24} (hx : Flag.okMap (toE x)) {a b : Int} (ha : near a) (hb : near b) : (partG x a b).f2 ≤ 0 ∨ InM (partG x a b) := by
  have e := partG_toE hx ha hb
  obtain ⟨h1, h2, h3, h4, h5⟩ := hx
  simp only [toE] at h1 h2 h3 h4 h5
  have e0 : (partG x a b).f0 = max a x.f0 := congrArg Flag.Ex.v e
  have e1 : (partG x a b).f1 = x.f1 + (max a x.f0 - x.f0) := (congrArg Flag.Ex.p e).trans (if_neg (show ¬ x.f1 < 0 by omega))
  have e2 : (partG x a b).f2 = min b (x.f0 + x.f2) - max a x.f0 := congrArg Flag.Ex.n e
  by_cases h : (partG x a b).f2 ≤ 0
  · exact .inl h
  · exact .inr ⟨by omega, by omega, by omega, by omega, by omega⟩
/-- What Move adds of one extent. -/
def movesG (a n t : Int) (x : S24) : List S24 :=
  let from_ := wrap64 (a + wrap64 (x.f0 - x.f1))
  let end_ := wrap64 (wrap64 (a + n) + wrap64 (x.f0 - x.f1))
  let p := partG x from_ end_
  [partG x x.f0 from_, ⟨p.f0, wrap64 (p.f1 + wrap64 (t - a)), p.f2⟩, partG x end_ (wrap64 (x.f0 + x.f2))]
theorem moveG_pieces (a n t : Int) (acc : List S24) (x : S24) : moveG a n t acc x = (movesG a n t x).foldl addG acc := by
  simp only [moveG, movesG, List.foldl_cons, List.foldl_nil]
  split
  · rfl
  · rename_i h
    have e : ∀ o : List S24, ∀ y : S24, ¬ y.f2 > 0 → addG o y = o := fun o y hy => by unfold addG; rw [if_pos (by omega)]
    have e2 := e (addG acc (partG x x.f0 (wrap64 (a + wrap64 (x.f0 - x.f1))))) ⟨(partG x (wrap64 (a + wrap64 (x.f0 - x.f1))) (wrap64 (wrap64 (a + n) + wrap64 (x.f0 - x.f1)))).f0, wrap64 ((partG x (wrap64 (a + wrap64 (x.f0 - x.f1))) (wrap64 (wrap64 (a + n) + wrap64 (x.f0 - x.f1)))).f1 + wrap64 (t - a)), (partG x (wrap64 (a + wrap64 (x.f0 - x.f1))) (wrap64 (wrap64 (a + n) + wrap64 (x.f0 - x.f1)))).f2⟩ h
    rw [e2]
theorem moveFold_pieces (a n t : Int) (l : List S24) : ∀ acc : List S24, l.foldl (moveG a n t) acc = (l.flatMap (movesG a n t)).foldl addG acc := by
  induction l with
  | nil => intro acc; rfl
  | cons x u ih => intro acc; rw [List.foldl_cons, ih, List.flatMap_cons, List.foldl_append, moveG_pieces]
structure MoveArg (a n t : Int) : Prop where
  a0 : 0 ≤ a
  n0 : 1 ≤ n
  e : a + n ≤ 65536
  t0 : 0 ≤ t
  te : t + n ≤ 65536
theorem movesG_toE {x : S24} {a n t : Int} (hx : Flag.okMap (toE x)) (h : MoveArg a n t) : (movesG a n t x).map toE = Flag.moved (toE x) a n t := by
  obtain ⟨g1, g2, g3, g4, g5⟩ := h
  have hx0 := hx
  obtain ⟨h1, h2, h3, h4, h5⟩ := hx0
  simp only [toE] at h1 h2 h3 h4 h5
  unfold movesG
  dsimp only
  rw [w64 (n := x.f0 - x.f1) (by omega), w64 (n := a + (x.f0 - x.f1)) (by omega), w64 (n := a + n) (by omega), w64 (n := a + n + (x.f0 - x.f1)) (by omega), w64 (n := t - a) (by omega), w64 (n := x.f0 + x.f2) (by omega)]
  have e := partG_toE hx (a := a + (x.f0 - x.f1)) (b := a + n + (x.f0 - x.f1)) ⟨by omega, by omega⟩ ⟨by omega, by omega⟩
  have e1 : (partG x (a + (x.f0 - x.f1)) (a + n + (x.f0 - x.f1))).f1 = x.f1 + (max (a + (x.f0 - x.f1)) x.f0 - x.f0) := (congrArg Flag.Ex.p e).trans (if_neg (show ¬ x.f1 < 0 by omega))
  rw [w64 (n := _ + (t - a)) (by omega)]
  simp only [List.map_cons, List.map_nil]
  rw [partG_toE hx ⟨by omega, by omega⟩ ⟨by omega, by omega⟩, partG_toE hx ⟨by omega, by omega⟩ ⟨by omega, by omega⟩]
  unfold Flag.moved
  have e9 : toE ⟨(partG x (a + (x.f0 - x.f1)) (a + n + (x.f0 - x.f1))).f0, (partG x (a + (x.f0 - x.f1)) (a + n + (x.f0 - x.f1))).f1 + (t - a), (partG x (a + (x.f0 - x.f1)) (a + n + (x.f0 - x.f1))).f2⟩ = ⟨(toE (partG x (a + (x.f0 - x.f1)) (a + n + (x.f0 - x.f1)))).v, (toE (partG x (a + (x.f0 - x.f1)) (a + n + (x.f0 - x.f1)))).p + (t - a), (toE (partG x (a + (x.f0 - x.f1)) (a + n + (x.f0 - x.f1)))).n⟩ := rfl
  rw [e9, e]
  rfl
theorem movesG_in {x : S24} {a n t : Int} (hx : Flag.okMap (toE x)) (h : MoveArg a n t) : ∀ y ∈ movesG a n t x, y.f2 ≤ 0 ∨ InM y := by
  obtain ⟨g1, g2, g3, g4, g5⟩ := h
  have hx0 := hx
  obtain ⟨h1, h2, h3, h4, h5⟩ := hx0
  simp only [toE] at h1 h2 h3 h4 h5
  intro y hy
  unfold movesG at hy
  dsimp only at hy
  rw [w64 (n := x.f0 - x.f1) (by omega), w64 (n := a + (x.f0 - x.f1)) (by omega), w64 (n := a + n) (by omega), w64 (n := a + n + (x.f0 - x.f1)) (by omega), w64 (n := t - a) (by omega), w64 (n := x.f0 + x.f2) (by omega)] at hy
  have e := partG_toE hx (a := a + (x.f0 - x.f1)) (b := a + n + (x.f0 - x.f1)) ⟨by omega, by omega⟩ ⟨by omega, by omega⟩
  have e0 : (partG x (a + (x.f0 - x.f1)) (a + n + (x.f0 - x.f1))).f0 = max (a + (x.f0 - x.f1)) x.f0 := congrArg Flag.Ex.v e
  have e1 : (partG x (a + (x.f0 - x.f1)) (a + n + (x.f0 - x.f1))).f1 = x.f1 + (max (a + (x.f0 - x.f1)) x.f0 - x.f0) := (congrArg Flag.Ex.p e).trans (if_neg (show ¬ x.f1 < 0 by omega))
  have e2 : (partG x (a + (x.f0 - x.f1)) (a + n + (x.f0 - x.f1))).f2 = min (a + n + (x.f0 - x.f1)) (x.f0 + x.f2) - max (a + (x.f0 - x.f1)) x.f0 := congrArg Flag.Ex.n e
  rw [w64 (n := _ + (t - a)) (by omega)] at hy
  simp only [List.mem_cons, List.not_mem_nil, or_false] at hy
  rcases hy with rfl | rfl | rfl
  · exact partG_in2 hx ⟨by omega, by omega⟩ ⟨by omega, by omega⟩
  · by_cases h9 : (partG x (a + (x.f0 - x.f1)) (a + n + (x.f0 - x.f1))).f2 ≤ 0
    · exact .inl h9
    · refine .inr ⟨?_, ?_, ?_, ?_, ?_⟩ <;> dsimp only <;> omega
  · exact partG_in2 hx ⟨by omega, by omega⟩ ⟨by omega, by omega⟩
theorem map_moves {l : List S24} {a n t : Int} (h : ∀ x ∈ l, Flag.okMap (toE x)) (hm : MoveArg a n t) : (l.flatMap (movesG a n t)).map toE = Flag.moveE (l.map toE) a n t := by
  induction l with
  | nil => rfl
  | cons x u ih =>
    rw [List.flatMap_cons, List.map_append, movesG_toE (h x List.mem_cons_self) hm, ih (fun y hy => h y (List.mem_cons_of_mem _ hy))]
    simp [Flag.moveE]
/-- A number moved. -/
def mvd (a n t r : Int) : Int := if a ≤ r ∧ r < a + n then r - a + t else r
theorem move_spec {l : List S24} {a n t : Int} (hl : Flag.Map5 (l.map toE)) (hm : MoveArg a n t) :
    Flag.NF ((l.foldl (moveG a n t) []).map toE) ∧ (∀ i, Flag.lookE ((l.foldl (moveG a n t) []).map toE) i = (Flag.lookE (l.map toE) i).map (mvd a n t)) ∧ ∀ y ∈ l.foldl (moveG a n t) [], InM y := by
  have ho : ∀ x ∈ l, Flag.okMap (toE x) := fun x hx => hl.ok _ (List.mem_map_of_mem hx)
  rw [moveFold_pieces]
  obtain ⟨h1, h2⟩ := fold_join (ps := l.flatMap (movesG a n t)) (fun y hy => by
    obtain ⟨x, hx, hy⟩ := List.mem_flatMap.1 hy
    exact movesG_in (ho x hx) hm y hy)
  rw [map_moves ho hm] at h1
  obtain ⟨h3, h4⟩ := Flag.moveM_spec hl.nf (fun y hy => (hl.ok y hy).2.2.2.1) (a := a) (n := n) (tgt := t) (by have := hm.n0; omega) hm.t0
  rw [h1]
  exact ⟨h3, h4, h2⟩
/-- What a Move that is done leaves. -/
structure MoveOk (l : List S24) (a n t : Int) : Prop where
  map : Flag.Map5 (l.map toE)
  arg : MoveArg a n t
  len : (l.foldl (moveG a n t) []).length ≤ 1024
  is : moveS l a n t = (l.foldl (moveG a n t) [], 0)
theorem moveS_of {l : List S24} {a n t : Int} (hm : Flag.Map5 (l.map toE)) (ha : MoveArg a n t) (hl : (l.foldl (moveG a n t) []).length ≤ 1024) : moveS l a n t = (l.foldl (moveG a n t) [], 0) := by
  obtain ⟨g1, g2, g3, g4, g5⟩ := ha
  unfold moveS fullS
  rw [if_pos (Flag.checkE_ok.2 hm), if_neg (by omega), if_pos (fitsB_iff.2 ⟨g1, by omega, g3⟩), if_pos (fitsB_iff.2 ⟨g4, by omega, g5⟩), if_neg (by omega)]
theorem moveS_cases (l : List S24) (a n t : Int) : MoveOk l a n t ∨ ((moveS l a n t).2 ≠ 0 ∧ (moveS l a n t).1 = []) := by
  rcases Flag.checkE_or (l.map toE) with hc | hc
  · by_cases h1 : n < 1
    · right; unfold moveS; rw [if_pos hc, if_pos h1]; exact ⟨by decide, rfl⟩
    · by_cases h2 : fitsB a n = true
      · by_cases h3 : fitsB t n = true
        · obtain ⟨a1, a2, a3⟩ := fitsB_iff.1 h2
          obtain ⟨b1, b2, b3⟩ := fitsB_iff.1 h3
          have hm := Flag.checkE_ok.1 hc
          by_cases h4 : (l.foldl (moveG a n t) []).length ≤ 1024
          · exact .inl ⟨hm, ⟨a1, by omega, a3, b1, b3⟩, h4, moveS_of hm ⟨a1, by omega, a3, b1, b3⟩ h4⟩
          · right; unfold moveS fullS; rw [if_pos hc, if_neg h1, if_pos h2, if_pos h3, if_pos (by omega)]; exact ⟨by decide, rfl⟩
        · right; unfold moveS; rw [if_pos hc, if_neg h1, if_pos h2, if_neg h3]; exact ⟨by decide, rfl⟩
      · right; unfold moveS; rw [if_pos hc, if_neg h1, if_neg h2]; exact ⟨by decide, rfl⟩
  · right; unfold moveS; rw [if_neg (by omega)]; exact ⟨by decide, rfl⟩
theorem MoveOk.map2 {l : List S24} {a n t : Int} (h : MoveOk l a n t) : Flag.Map5 ((l.foldl (moveG a n t) []).map toE) := by
  obtain ⟨h1, h2, _⟩ := move_spec h.map h.arg
  obtain ⟨g1, g2, g3, g4, g5⟩ := h.arg
  refine ⟨by have := h.len; simpa using this, Flag.okMap_of h1 (fun i r hi => ?_), h1⟩
  rw [h2] at hi
  cases hq : Flag.lookE (l.map toE) i with
  | none => rw [hq] at hi; cases hi
  | some q =>
    rw [hq] at hi
    have hr := Option.some.inj hi
    have := Flag.okMap_look h.map.ok hq
    unfold mvd at hr
    split at hr <;> omega

end Go.Proofs.Ytkkfkdncddbaeaa.Fn
