-- Told by hand; its numbers filled in by a program of this session.
import Derived.Test.YtkkfkdncddbaeaaFnBase
import Derived.Test.YtkkfkdncddbaeaaHL05k
import Derived.Test.YtkkfkdncddbaeaaHL05p3
import Derived.Test.YtkkfkdncddbaeaaFn38
import Derived.Test.YtkkfkdncddbaeaaFn10
namespace Go.Proofs.Ytkkfkdncddbaeaa.Fn
open Go.RowKit Go.Proofs.YtkkfkdncddbaeaaW.PrintWords Go.Proofs.YtkkfkdncddbaeaaW.PrintLast Go.Proofs.YtkkfkdncddbaeaaW.PrintMore
attribute [local go_sem] max2_int min2_int max_two min_two max_three min_three max_four min_four   -- for this text's walks alone
set_option linter.unusedVariables false
set_option linter.unusedSimpArgs false

/-! The pure statement of ExtentTells. -/
theorem at_r_loop (l : List S24) (hl : l.length ≤ 1024) (hok : ∀ x ∈ l, Flag.okMap (toE x)) (v : Int) (hv : 0 ≤ v ∧ v < 65536) (t : List S24) : ∀ (pre : List S24) (k : Nat), l = pre ++ t → t.length < k →
    flagstoneref05_At.l0 k l v (pre.length : Int) = some ((Flag.lookE (t.map toE) v).getD (-1)) := by
  induction t with
  | nil =>
    intro pre k h hk
    obtain ⟨k, rfl⟩ : ∃ k', k = k' + 1 := ⟨k - 1, by simp at hk; omega⟩
    rw [flagstoneref05_At.l0, if_neg (by rw [h]; simp)]
    rfl
  | cons x t ih =>
    intro pre k h hk
    obtain ⟨k, rfl⟩ : ∃ k', k = k' + 1 := ⟨k - 1, by simp at hk; omega⟩
    have hlen : l.length = pre.length + t.length + 1 := by rw [h]; simp; omega
    have hr : rd_T24 l (pre.length : Int) = x := by rw [h]; exact rd_at pre x t rfl
    have e1 : wrap64 ((pre.length : Int) + 1) = ((pre ++ [x]).length : Int) := by rw [w64 (by omega)]; simp
    have hx := hok x (by rw [h]; simp)
    obtain ⟨g1, g2, g3, g4, g5⟩ := hx
    simp only [toE] at g1 g2 g3 g4 g5
    have hnext := ih (pre ++ [x]) k (by rw [h]; simp) (by simp at hk; omega)
    have hval : Flag.valAt (toE x) v = x.f1 + v - x.f0 := by unfold Flag.valAt toE; dsimp only; rw [if_neg (by omega)]; omega
    rw [flagstoneref05_At.l0, if_pos (by omega), if_pos (by omega), hr, e1, hnext, List.map_cons, Flag.lookE, hval]
    show (if v ≥ x.f0 then _ else _) = some ((if x.f0 ≤ v ∧ v < x.f0 + x.f2 then _ else _ : Option Int).getD (-1))
    by_cases c1 : v ≥ x.f0
    · rw [if_pos c1, w64 (n := v - x.f0) (by omega)]
      by_cases c2 : v - x.f0 < x.f2
      · rw [if_pos c2, if_pos (by omega), w64 (n := x.f1 + v) (by omega), w64 (n := x.f1 + v - x.f0) (by omega)]
        rfl
      · rw [if_neg c2, if_neg (by omega)]
    · rw [if_neg c1, if_neg (by omega)]
theorem find_r {l : List S24} {v : Int} {k : Nat} (hk : 2 * l.length + 1 < k) : flagstoneref05_Find.f k l v = some (findS l v) := by
  unfold flagstoneref05_Find.f findS
  rw [check_r l (by omega), Option.bind_some]
  rcases Flag.checkE_or (l.map toE) with h | h
  · rw [if_pos h, if_pos h]
    have hm := Flag.checkE_ok.1 h
    have hl : l.length ≤ 1024 := by simpa using hm.len
    by_cases c1 : v < 0
    · rw [if_pos c1, if_pos c1]
    · by_cases c2 : v ≥ 65536
      · rw [if_neg c1, if_neg c1, if_pos c2, if_pos c2]
      · rw [if_neg c1, if_neg c1, if_neg c2, if_neg c2]
        have := at_r_loop l hl (fun x hx => hm.ok _ (List.mem_map_of_mem hx)) v ⟨by omega, by omega⟩ l [] k rfl (by omega)
        unfold flagstoneref05_At.f
        rw [show ((0 : Int) = (([] : List S24).length : Int)) from rfl, this]
        rfl
  · rw [if_neg (by omega), if_neg (by omega)]
theorem tells_f (l : List S24) (v n : Int) (x : S24) (hl : l.length < 5864062014805) {k : Nat} (hk : 8 * l.length + 20000 < k) : flagstonelaw05_ExtentTells.f k l v n x.f0 x.f1 x.f2 = some true := by
  unfold flagstonelaw05_ExtentTells.f
  have len2 := fun y : List S24 × Int => (fun h : y.1.length ≤ 4096 => same_x (a := y.1) (by omega) (k := k) (by omega))
  have s1 : flagstoneplain_SameExtents.f k (lookS l v n).1 (lookS l v n).1 = some true := len2 _ (lookS_len l v n (by
    by_cases c : l.length ≤ 1024
    · exact .inl c
    · exact .inr (by unfold Flag.checkE; rw [if_neg (by simp; omega)]; decide)))
  have s2 : flagstoneplain_SameExtents.f k (cutS l v n).1 (cutS l v n).1 = some true := len2 _ (by have := cutS_len l v n; omega)
  have s3 : flagstoneplain_SameExtents.f k (putS l x).1 (putS l x).1 = some true := len2 _ (by have := putS_len l x; omega)
  rw [copy_x hl, Option.bind_some]
  unfold extent_Find.f extent_Look.f flagstonelaw05_num.f
  rw [Option.bind_some, find_r (by omega), Option.bind_some, Option.bind_some, look_r (by omega), Option.bind_some, cut_x (by omega), Option.bind_some, cut_r (by omega), Option.bind_some, put_x (by omega), Option.bind_some, put_r (by omega), Option.bind_some]
  rw [if_pos rfl, Option.bind_some, if_pos rfl, s1, Option.bind_some, if_pos rfl, Option.bind_some, if_pos rfl, s2, Option.bind_some, if_pos rfl, Option.bind_some, if_pos rfl, s3, Option.bind_some, if_pos rfl, Option.bind_some]
  obtain ⟨k, rfl⟩ : ∃ k', k = k' + 1 := ⟨k - 1, by omega⟩
  rw [flagstonelaw05_ExtentTells.j0, if_neg (by simp), check_x l (by omega), Option.bind_some]
  unfold flagstonelaw05_num.f
  rw [Option.bind_some, check_r l (by omega), Option.bind_some, if_pos rfl, same_x hl (by omega), Option.bind_some, if_pos rfl, alive_x (by omega)]
  rfl
theorem tells_pure (l : List S24) (v n : Int) (x : S24) (h : l.length * 24 ≤ 140737488351232) : ∃ k, flagstonelaw05_ExtentTells.f k l v n x.f0 x.f1 x.f2 = some true :=
  ⟨8 * l.length + 20001, tells_f l v n x (by omega) (by omega)⟩

end Go.Proofs.Ytkkfkdncddbaeaa.Fn
