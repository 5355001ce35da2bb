-- Told by hand; its numbers filled in by a program of this session.
import Derived.Test.YtemeekgdblichaaFnBase
import Derived.Test.YtemeekgdblichaaHL05m
import Derived.Test.YtemeekgdblichaaFn5
namespace Go.Proofs.Ytemeekgdblichaa.Fn
open Go.RowKit Go.Proofs.YtemeekgdblichaaW.PrintWords Go.Proofs.YtemeekgdblichaaW.PrintLast Go.Proofs.YtemeekgdblichaaW.PrintMore
attribute [local go_sem] max2_int min2_int max_two min_two max_three min_three max_four min_four   -- for this text's walks alone
set_option linter.unusedVariables false
set_option linter.unusedSimpArgs false

/-! The pure statement of ExtentBack. -/
theorem back_loop (l m : List S24) (a n t : Int) (hl : l.length ≤ 1024) (hlo : ∀ x ∈ l, Flag.okMap (toE x)) (hm : MoveArg a n t) (kk : Nat) (hk : kk > 2000)
    (tail : (∀ x ∈ l, ¬ (x.f1 < t + n ∧ t < x.f1 + x.f2)) → ∃ b, moveS m t n a = (l, 0) ∧ b = true) (u : List S24) : ∀ (pre : List S24) (k : Nat), l = pre ++ u → u.length + 1500 < k → (∀ x ∈ pre, ¬ (x.f1 < t + n ∧ t < x.f1 + x.f2)) →
    flagstonelaw05_ExtentBack.l0 k l t m (pre.length : Int) a n = some true := by
  obtain ⟨g1, g2, g3, g4, g5⟩ := hm
  induction u with
  | nil =>
    intro pre k he hk2 hp
    obtain ⟨k, rfl⟩ : ∃ k', k = k' + 1 := ⟨k - 1, by simp at hk2; omega⟩
    simp only [List.append_nil] at he
    subst he
    obtain ⟨_, hb, _⟩ := tail hp
    rw [flagstonelaw05_ExtentBack.l0, if_neg (by simp)]
    unfold extent_Move.f flagstonelaw05_num.f
    rw [hb, Option.bind_some, Option.bind_some]
    dsimp only
    rw [if_pos rfl, same_x (by omega) (by simp at hk2; omega)]
    rfl
  | cons x u ih =>
    intro pre k he hk2 hp
    obtain ⟨k, rfl⟩ : ∃ k', k = k' + 1 := ⟨k - 1, by simp at hk2; omega⟩
    have hlen : l.length = pre.length + u.length + 1 := by rw [he]; simp; omega
    have hx : rd_T24 l (pre.length : Int) = x := by rw [he]; exact rd_at pre x u rfl
    have e1 : wrap64 ((pre.length : Int) + 1) = ((pre ++ [x]).length : Int) := by rw [w64 (by omega)]; simp
    have hxo := hlo x (by rw [he]; simp)
    obtain ⟨h1, h2, h3, h4, h5⟩ := hxo
    simp only [toE] at h1 h2 h3 h4 h5
    have hnext := fun h => ih (pre ++ [x]) k (by rw [he]; simp) (by simp at hk2; omega) h
    rw [flagstonelaw05_ExtentBack.l0, if_pos (by omega), if_pos (by omega), hx, w64 (n := t + n) (by omega), w64 (n := x.f1 + x.f2) (by omega), e1]
    by_cases c1 : x.f1 < t + n
    · rw [if_pos c1]
      by_cases c2 : t < x.f1 + x.f2
      · rw [if_pos c2]
      · rw [if_neg c2]
        refine hnext (fun y hy => ?_)
        rcases List.mem_append.1 hy with hy | hy
        · exact hp y hy
        · have : y = x := by simpa using hy
          rw [this]; exact fun h => c2 h.2
    · rw [if_neg c1]
      refine hnext (fun y hy => ?_)
      rcases List.mem_append.1 hy with hy | hy
      · exact hp y hy
      · have : y = x := by simpa using hy
        rw [this]; exact fun h => c1 h.1
theorem back_f (l : List S24) (x : S40) (t : Int) {k : Nat} (hk : l.length + 10000 < k) : flagstonelaw05_ExtentBack.f k l x.f0 x.f1 t = some true := by
  unfold flagstonelaw05_ExtentBack.f
  rw [alive_x (by omega), Option.bind_some, if_pos rfl]
  unfold extent_Move.f flagstonelaw05_num.f
  rw [Option.bind_some, Option.bind_some]
  rcases moveS_cases l x.f0 x.f1 t with h | ⟨h1, h2⟩
  · rw [h.is]
    dsimp only
    rw [if_pos rfl]
    have hl : l.length ≤ 1024 := by have := h.map.len; simpa using this
    have hlo : ∀ y ∈ l, Flag.okMap (toE y) := fun y hy => h.map.ok _ (List.mem_map_of_mem hy)
    refine back_loop l (l.foldl (moveG x.f0 x.f1 t) []) x.f0 x.f1 t hl hlo h.arg 3000 (by omega) (fun hno => ⟨true, ?_, rfl⟩) l [] k rfl (by omega) (fun y hy => by cases hy)
    have ha2 : MoveArg t x.f1 x.f0 := by
      obtain ⟨g1, g2, g3, g4, g5⟩ := h.arg
      exact ⟨g4, g2, g5, g1, g3⟩
    obtain ⟨s1, s2, _⟩ := move_spec h.map h.arg
    obtain ⟨s3, s4, _⟩ := move_spec h.map2 ha2
    have hback : (l.foldl (moveG x.f0 x.f1 t) []).foldl (moveG t x.f1 x.f0) [] = l := by
      refine mapE_inj (Flag.NF.ext s3 h.map.nf (fun i => ?_))
      rw [s4, s2]
      cases hq : Flag.lookE (l.map toE) i with
      | none => rfl
      | some q =>
        obtain ⟨z, hz, z1, z2, z3⟩ := Flag.lookE_some_mem hq
        obtain ⟨y, hy, rfl⟩ := List.mem_map.1 hz
        have hny := hno y hy
        obtain ⟨h1, h2, h3, h4, h5⟩ := hlo y hy
        simp only [toE] at h1 h2 h3 h4 h5 z1 z2
        have hval : q = y.f1 + (i - y.f0) := by rw [z3]; unfold Flag.valAt toE; rw [if_neg (show ¬ y.f1 < 0 by omega)]
        have hn := h.arg.n0
        show some (mvd t x.f1 x.f0 (mvd x.f0 x.f1 t q)) = some q
        congr 1
        unfold mvd
        by_cases c1 : x.f0 ≤ q ∧ q < x.f0 + x.f1
        · rw [if_pos c1, if_pos (by omega)]; omega
        · rw [if_neg c1, if_neg (by omega)]
    rw [moveS_of h.map2 ha2 (by rw [hback]; exact hl), hback]
  · rw [if_neg h1, h2]
    rfl
theorem back_pure (l : List S24) (x : S40) (t : Int) (h : l.length * 24 ≤ 140737488351232) : ∃ k, flagstonelaw05_ExtentBack.f k l x.f0 x.f1 t = some true :=
  ⟨l.length + 10001, back_f l x t (by omega)⟩

end Go.Proofs.Ytemeekgdblichaa.Fn
