-- Told by hand; its numbers filled in by a program of this session.
import Derived.Test.YtkkfkdncddbaeaaFnBase
import Derived.Test.YtkkfkdncddbaeaaHL05m
import Derived.Test.YtkkfkdncddbaeaaHJoinR
import Derived.Test.YtkkfkdncddbaeaaFn54
import Derived.Test.YtkkfkdncddbaeaaFn55
import Derived.Test.YtkkfkdncddbaeaaFn56
import Derived.Test.YtkkfkdncddbaeaaFn49
import Derived.Test.YtkkfkdncddbaeaaFn15
namespace Go.Proofs.Ytkkfkdncddbaeaa.Fn
open Go.RowKit Go.Proofs.YtkkfkdncddbaeaaW.PrintWords Go.Proofs.YtkkfkdncddbaeaaW.PrintLast Go.Proofs.YtkkfkdncddbaeaaW.PrintMore
attribute [local go_sem] max2_int min2_int max_two min_two max_three min_three max_four min_four   -- for this text's walks alone
set_option linter.unusedVariables false
set_option linter.unusedSimpArgs false

/-! The pure statement of ExtentMoves. -/
namespace Flag
/-- The pieces of one extent as the document tells them. -/
def movedR (y : Ex) (a n tgt : Int) : List Ex :=
  if max y.p a ≥ min (y.p + y.n) (a + n) then [y]
  else [⟨y.v, y.p, max y.p a - y.p⟩, ⟨y.v + max y.p a - y.p, tgt + max y.p a - a, min (y.p + y.n) (a + n) - max y.p a⟩, ⟨y.v + min (y.p + y.n) (a + n) - y.p, min (y.p + y.n) (a + n), y.p + y.n - min (y.p + y.n) (a + n)⟩]
theorem filt_one {a0 a1 a2 y : Ex} (h : (a0 = y ∧ a1.n ≤ 0 ∧ a2.n ≤ 0) ∨ (a0.n ≤ 0 ∧ a1.n ≤ 0 ∧ a2 = y)) : [a0, a1, a2].filter fullP = [y].filter fullP := by
  have hn : ∀ z : Ex, z.n ≤ 0 → fullP z = false := fun z hz => decide_eq_false (by omega)
  rcases h with ⟨rfl, h1, h2⟩ | ⟨h0, h1, rfl⟩
  · simp [List.filter_cons, hn _ h1, hn _ h2]
  · simp [List.filter_cons, hn _ h0, hn _ h1]
theorem filt_three {a0 a1 a2 b0 b1 b2 : Ex} (h0 : a0 = b0 ∨ (a0.n ≤ 0 ∧ b0.n ≤ 0)) (h1 : a1 = b1) (h2 : a2 = b2 ∨ (a2.n ≤ 0 ∧ b2.n ≤ 0)) : [a0, a1, a2].filter fullP = [b0, b1, b2].filter fullP := by
  have hn : ∀ z : Ex, z.n ≤ 0 → fullP z = false := fun z hz => decide_eq_false (by omega)
  subst h1
  rcases h0 with rfl | ⟨h3, h4⟩
  · rcases h2 with rfl | ⟨h5, h6⟩
    · rfl
    · simp [List.filter_cons, hn _ h5, hn _ h6]
  · rcases h2 with rfl | ⟨h5, h6⟩
    · simp [List.filter_cons, hn _ h3, hn _ h4]
    · simp [List.filter_cons, hn _ h3, hn _ h4, hn _ h5, hn _ h6]
theorem moved_alike {y : Ex} {a n tgt : Int} (hy : okMap y) (hn : 1 ≤ n) : (movedR y a n tgt).filter fullP = (moved y a n tgt).filter fullP := by
  obtain ⟨g1, g2, g3, g4, g5⟩ := hy
  unfold movedR moved part
  rw [if_neg (show ¬ y.p < 0 by omega), if_neg (show ¬ y.p < 0 by omega), if_neg (show ¬ y.p < 0 by omega)]
  dsimp only
  split
  · rename_i hc
    refine (filt_one ?_).symm
    by_cases c : y.p + y.n ≤ a
    · refine .inl ⟨?_, by dsimp only; omega, by dsimp only; omega⟩
      cases y
      simp only [Ex.mk.injEq]
      dsimp only at *
      omega
    · refine .inr ⟨by dsimp only; omega, by dsimp only; omega, ?_⟩
      cases y
      simp only [Ex.mk.injEq]
      dsimp only at *
      omega
  · rename_i hc
    refine filt_three ?_ ?_ ?_
    · by_cases c : y.p < a
      · left; simp only [Ex.mk.injEq]; omega
      · right; dsimp only; omega
    · simp only [Ex.mk.injEq]; omega
    · by_cases c : a + n < y.p + y.n
      · left; simp only [Ex.mk.injEq]; omega
      · right; dsimp only; omega
theorem moveR_alike {l : List Ex} {a n tgt : Int} (hl : ∀ y ∈ l, okMap y) (hn : 1 ≤ n) : joinE (l.flatMap fun y => movedR y a n tgt) = joinE (moveE l a n tgt) := by
  rw [joinE_filter, joinE_filter (moveE l a n tgt)]
  congr 1
  unfold moveE
  induction l with
  | nil => rfl
  | cons y t ih =>
    have h1 := moved_alike (a := a) (tgt := tgt) (hl y List.mem_cons_self) hn
    have h2 := ih (fun z hz => hl z (List.mem_cons_of_mem _ hz))
    simp only [List.flatMap_cons, List.filter_append]
    rw [h2]
    exact congrArg (· ++ _) h1
end Flag
theorem movesR_toE {x : S24} {a n t : Int} (hx : Flag.okMap (toE x)) (h : MoveArg a n t) : (movesR a n t x).map toE = Flag.movedR (toE x) a n t ∧ ∀ y ∈ movesR a n t x, y.f2 ≤ 0 ∨ InM y := by
  obtain ⟨g1, g2, g3, g4, g5⟩ := h
  obtain ⟨h1, h2, h3, h4, h5⟩ := hx
  simp only [toE] at h1 h2 h3 h4 h5
  unfold movesR Flag.movedR
  rw [mx_max, mn_min, w64 (n := x.f1 + x.f2) (by omega), w64 (n := a + n) (by omega)]
  show List.map toE (if max x.f1 a ≥ min (x.f1 + x.f2) (a + n) then _ else _) = (if max x.f1 a ≥ min (x.f1 + x.f2) (a + n) then _ else _) ∧ _
  by_cases c : max x.f1 a ≥ min (x.f1 + x.f2) (a + n)
  · rw [if_pos c, if_pos c]
    refine ⟨rfl, fun y hy => ?_⟩
    have : y = x := by simpa using hy
    rw [this]
    exact .inr ⟨h2, by omega, by omega, by omega, h1⟩
  · rw [if_neg c, if_neg c, w64 (n := max x.f1 a - x.f1) (by omega), w64 (n := x.f0 + max x.f1 a) (by omega), w64 (n := x.f0 + max x.f1 a - x.f1) (by omega), w64 (n := t + max x.f1 a) (by omega), w64 (n := t + max x.f1 a - a) (by omega), w64 (n := min (x.f1 + x.f2) (a + n) - max x.f1 a) (by omega), w64 (n := x.f0 + min (x.f1 + x.f2) (a + n)) (by omega), w64 (n := x.f0 + min (x.f1 + x.f2) (a + n) - x.f1) (by omega), w64 (n := x.f1 + x.f2 - min (x.f1 + x.f2) (a + n)) (by omega)]
    refine ⟨rfl, fun y hy => ?_⟩
    simp only [List.mem_cons, List.not_mem_nil, or_false] at hy
    rcases hy with rfl | rfl | rfl
    · by_cases d : max x.f1 a - x.f1 ≤ 0
      · exact .inl d
      · exact .inr ⟨h2, by dsimp only; omega, by dsimp only; omega, by dsimp only; omega, by dsimp only; omega⟩
    · exact .inr ⟨by dsimp only; omega, by dsimp only; omega, by dsimp only; omega, by dsimp only; omega, by dsimp only; omega⟩
    · by_cases d : x.f1 + x.f2 - min (x.f1 + x.f2) (a + n) ≤ 0
      · exact .inl d
      · exact .inr ⟨by dsimp only; omega, by dsimp only; omega, by dsimp only; omega, by dsimp only; omega, by dsimp only; omega⟩
theorem moveR_eq {l : List S24} {a n t : Int} (hl : Flag.Map5 (l.map toE)) (hm : MoveArg a n t) : (l.flatMap (movesR a n t)).foldl addG [] = l.foldl (moveG a n t) [] := by
  have ho : ∀ x ∈ l, Flag.okMap (toE x) := fun x hx => hl.ok _ (List.mem_map_of_mem hx)
  have h1 := (fold_join (ps := l.flatMap (movesR a n t)) (fun y hy => by
    obtain ⟨x, hx, hy⟩ := List.mem_flatMap.1 hy
    exact (movesR_toE (ho x hx) hm).2 y hy)).1
  have h2 := (fold_join (ps := l.flatMap (movesG a n t)) (fun y hy => by
    obtain ⟨x, hx, hy⟩ := List.mem_flatMap.1 hy
    exact movesG_in (ho x hx) hm y hy)).1
  rw [moveFold_pieces]
  refine mapE_inj ?_
  rw [h1, h2, map_moves ho hm, ← Flag.moveR_alike (fun y hy => hl.ok y hy) hm.n0]
  congr 1
  clear h1 h2
  have : ∀ l : List S24, (∀ x ∈ l, Flag.okMap (toE x)) → (l.flatMap (movesR a n t)).map toE = (l.map toE).flatMap fun y => Flag.movedR y a n t := by
    intro l
    induction l with
    | nil => intro _; rfl
    | cons x u ih =>
      intro h
      rw [List.flatMap_cons, List.map_append, (movesR_toE (h x List.mem_cons_self) hm).1, ih (fun y hy => h y (List.mem_cons_of_mem _ hy))]
      simp
  exact this l ho
theorem move_r (l : List S24) (a n t : Int) : flagstoneref05_Move.f l a n t = some (moveS l a n t) := by
  unfold flagstoneref05_Move.f
  congr 1
  unfold moveRS moveS
  rcases Flag.checkE_or (l.map toE) with h | h
  · rw [if_pos h, if_pos h]
    by_cases c1 : n < 1
    · rw [if_pos c1, if_pos c1]
    · rw [if_neg c1, if_neg c1]
      by_cases c2 : fitsB a n = true
      · rw [if_pos c2, if_pos c2]
        by_cases c3 : fitsB t n = true
        · rw [if_pos c3, if_pos c3]
          obtain ⟨a1, a2, a3⟩ := fitsB_iff.1 c2
          obtain ⟨b1, b2, b3⟩ := fitsB_iff.1 c3
          rw [moveR_eq (Flag.checkE_ok.1 h) ⟨a1, by omega, a3, b1, b3⟩]
        · rw [if_neg c3, if_neg c3]
      · rw [if_neg c2, if_neg c2]
  · rw [if_neg (by omega), if_neg (by omega)]
/-! What a map stands in. -/
def spansE (l : List S24) : List S40 := l.map fun x => ⟨x.f1, x.f2⟩
def usedS (l : List S24) : List S40 × Int := if Flag.checkE (l.map toE) = 0 then (joinL (spansE l), 0) else ([], 9)
theorem spansE_ok {l : List S24} (hm : Flag.Map5 (l.map toE)) : ∀ x ∈ spansE l, OkSp x := by
  intro x hx
  obtain ⟨y, hy, rfl⟩ := List.mem_map.1 hx
  obtain ⟨h1, h2, h3, h4, h5⟩ := hm.ok _ (List.mem_map_of_mem hy)
  simp only [toE] at h1 h2 h3 h4 h5
  exact ⟨h4, h1, by dsimp only; omega⟩
theorem used_x_loop (l : List S24) (hl : l.length ≤ 1024) (hok : ∀ x ∈ spansE l, OkSp x) (t : List S24) : ∀ (pre : List S24) (acc : List S40) (k : Nat), l = pre ++ t → t.length < k → acc = spansE pre →
    extent_Used.l0 k acc l (l.length : Int) (pre.length : Int) = some (joinL (spansE l), 0) := by
  induction t with
  | nil =>
    intro pre acc k h hk hacc
    obtain ⟨k, rfl⟩ : ∃ k', k = k' + 1 := ⟨k - 1, by simp at hk; omega⟩
    have e : acc = spansE l := by rw [hacc, h]; simp
    rw [extent_Used.l0, if_neg (by rw [h]; simp), e, join_x (by unfold spansE; simp; omega) hok]
    rfl
  | cons x t ih =>
    intro pre acc k h hk hacc
    obtain ⟨k, rfl⟩ : ∃ k', k = k' + 1 := ⟨k - 1, by simp at hk; omega⟩
    have hlen : l.length = pre.length + t.length + 1 := by rw [h]; simp; omega
    have hr : rd_T24 l (pre.length : Int) = x := by rw [h]; exact rd_at pre x t rfl
    have e1 : wrap64 ((pre.length : Int) + 1) = ((pre ++ [x]).length : Int) := by rw [w64 (by omega)]; simp
    have hal : acc.length = pre.length := by rw [hacc]; unfold spansE; simp
    rw [extent_Used.l0, if_pos (by omega), if_pos (by omega), if_pos (by omega), if_pos (by omega), hr, e1]
    exact ih (pre ++ [x]) _ k (by rw [h]; simp) (by simp at hk; omega) (by rw [hacc]; simp [spansE])
theorem used_x (l : List S24) {k : Nat} (hk : l.length < k) : extent_Used.f k l = some (usedS l) := by
  unfold extent_Used.f usedS
  rw [check_x l hk, Option.bind_some]
  rcases Flag.checkE_or (l.map toE) with h | h
  · rw [if_pos h, if_pos h]
    have hm := Flag.checkE_ok.1 h
    have hl : l.length ≤ 1024 := by simpa using hm.len
    exact used_x_loop l hl (spansE_ok hm) l [] [] k rfl (by omega) rfl
  · rw [if_neg (by omega), if_neg (by omega), h]
theorem used_r_loop (l : List S24) (hl : l.length ≤ 1024) (hok : ∀ x ∈ spansE l, OkSp x) (t : List S24) : ∀ (pre : List S24) (acc : List S40), l = pre ++ t → acc = spansE pre →
    Ev (fun k => flagstoneref05_Used.l0 k l acc (pre.length : Int)) (joinL (spansE l), 0) := by
  induction t with
  | nil =>
    intro pre acc h hacc
    have e : acc = spansE l := by rw [hacc, h]; simp
    have hj := Ev.bind (f := fun _ z => some (z, (0 : Int))) (join_r (l := spansE l) (by unfold spansE; simp; omega) hok) (Ev.now _)
    refine Ev.step (fun k => ?_) hj
    rw [flagstoneref05_Used.l0, if_neg (by rw [h]; simp), e]
  | cons x t ih =>
    intro pre acc h hacc
    have hlen : l.length = pre.length + t.length + 1 := by rw [h]; simp; omega
    have hr : rd_T24 l (pre.length : Int) = x := by rw [h]; exact rd_at pre x t rfl
    have e1 : wrap64 ((pre.length : Int) + 1) = ((pre ++ [x]).length : Int) := by rw [w64 (by omega)]; simp
    have hal : acc.length = pre.length := by rw [hacc]; unfold spansE; simp
    refine Ev.step (fun k => ?_) (ih (pre ++ [x]) (acc ++ [⟨x.f1, x.f2⟩]) (by rw [h]; simp) (by rw [hacc]; simp [spansE]))
    rw [flagstoneref05_Used.l0, if_pos (by omega), if_pos (by omega), if_pos (by omega), hr, e1]
theorem used_r (l : List S24) : Ev (fun k => flagstoneref05_Used.f k l) (usedS l) := by
  have hc : Ev (fun k => flagstoneref05_Check.f k l) (Flag.checkE (l.map toE)) := ⟨2 * l.length + 1, fun k hk => check_r l (by omega)⟩
  unfold flagstoneref05_Used.f usedS
  refine Ev.bind hc ?_
  rcases Flag.checkE_or (l.map toE) with h | h
  · have hm := Flag.checkE_ok.1 h
    have hl : l.length ≤ 1024 := by simpa using hm.len
    have := used_r_loop l hl (spansE_ok hm) l [] [] rfl rfl
    refine Ev.congr (fun k => ?_) (by rw [if_pos h]; exact this)
    rw [if_pos h]
    rfl
  · refine Ev.congr (fun k => ?_) (Ev.now _)
    rw [if_neg (by omega), if_neg (by omega)]
theorem same40_loop (a : List S40) (hl : a.length < 1099511627776) (t : List S40) : ∀ (pre : List S40) (k : Nat), a = pre ++ t → t.length < k → flagstoneplain_SameSpans.l0 k a a (pre.length : Int) = some true := by
  induction t with
  | nil =>
    intro pre k he hk
    obtain ⟨k, rfl⟩ : ∃ k', k = k' + 1 := ⟨k - 1, by simp at hk; omega⟩
    rw [flagstoneplain_SameSpans.l0, if_neg (by rw [he]; simp)]
  | cons x t ih =>
    intro pre k he hk
    obtain ⟨k, rfl⟩ : ∃ k', k = k' + 1 := ⟨k - 1, by simp at hk; omega⟩
    have hlen : a.length = pre.length + t.length + 1 := by rw [he]; simp; omega
    have e1 : wrap64 ((pre.length : Int) + 1) = ((pre ++ [x]).length : Int) := by rw [w64 (by omega)]; simp
    rw [flagstoneplain_SameSpans.l0, if_pos (by omega), if_pos (by omega), if_pos (by omega), if_neg (by simp), e1]
    exact ih (pre ++ [x]) k (by rw [he]; simp) (by simp at hk; omega)
theorem same40_x {a : List S40} (hl : a.length < 1099511627776) {k : Nat} (hk : a.length < k) : flagstoneplain_SameSpans.f k a a = some true := by
  unfold flagstoneplain_SameSpans.f
  rw [if_pos rfl]
  exact same40_loop a hl a [] k rfl hk
theorem moveS_len (l : List S24) (a n t : Int) : (moveS l a n t).1.length ≤ 1024 := by
  rcases moveS_cases l a n t with h | ⟨_, h⟩
  · rw [h.is]; exact h.len
  · rw [h]; simp
theorem usedS_len (l : List S24) : (usedS l).1.length ≤ 1024 := by
  unfold usedS
  split
  · rename_i h
    have hl : l.length ≤ 1024 := by simpa using (Flag.checkE_ok.1 h).len
    have h1 := joinFold_length (sortL (spansE l)) []
    have h2 := (sortL_perm (spansE l)).length_eq
    unfold spansE at h1 h2
    show (joinL (spansE l)).length ≤ 1024
    unfold joinL spansE
    simp only [List.length_nil, List.length_map] at h1 h2
    omega
  · simp
theorem moves_ev (l : List S24) (x : S40) (t : Int) (hl : l.length < 5864062014805) : Ev (fun k => flagstonelaw05_ExtentMoves.f k l x.f0 x.f1 t) true := by
  have u := used_r l
  obtain ⟨K, u⟩ := u
  refine ⟨K + 8 * l.length + 20000, fun k hk => ?_⟩
  have s1 : flagstoneplain_SameExtents.f k (moveS l x.f0 x.f1 t).1 (moveS l x.f0 x.f1 t).1 = some true := same_x (by have := moveS_len l x.f0 x.f1 t; omega) (by have := moveS_len l x.f0 x.f1 t; omega)
  have s2 : flagstoneplain_SameSpans.f k (usedS l).1 (usedS l).1 = some true := same40_x (by have := usedS_len l; omega) (by have := usedS_len l; omega)
  show flagstonelaw05_ExtentMoves.f k l x.f0 x.f1 t = some true
  unfold flagstonelaw05_ExtentMoves.f extent_Move.f flagstonelaw05_num.f
  rw [copy_x hl, Option.bind_some, Option.bind_some, move_r, Option.bind_some, used_x l (by omega), Option.bind_some, (show flagstoneref05_Used.f k l = some (usedS l) from u k (by omega)), Option.bind_some, s1, Option.bind_some, if_pos rfl, Option.bind_some, if_pos rfl, s2, Option.bind_some, if_pos rfl, Option.bind_some, if_pos rfl, same_x hl (by omega), Option.bind_some, if_pos rfl, alive_x (by omega)]
  rfl
theorem moves_pure (l : List S24) (x : S40) (t : Int) (h : l.length * 24 ≤ 140737488351232) : ∃ k, flagstonelaw05_ExtentMoves.f k l x.f0 x.f1 t = some true := by
  obtain ⟨K, h⟩ := moves_ev l x t (by omega)
  exact ⟨K, h K (Nat.le_refl _)⟩

end Go.Proofs.Ytkkfkdncddbaeaa.Fn
