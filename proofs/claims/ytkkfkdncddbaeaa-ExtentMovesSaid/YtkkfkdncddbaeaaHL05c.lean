-- Told by hand; its numbers filled in by a program of this session.
import Derived.Test.YtkkfkdncddbaeaaFnBase
import Derived.Test.YtkkfkdncddbaeaaHL05b
import Derived.Test.YtkkfkdncddbaeaaFn91
import Derived.Test.YtkkfkdncddbaeaaFn90
namespace Go.Proofs.Ytkkfkdncddbaeaa.Fn
open Go.RowKit Go.Proofs.YtkkfkdncddbaeaaW.PrintWords Go.Proofs.YtkkfkdncddbaeaaW.PrintLast Go.Proofs.YtkkfkdncddbaeaaW.PrintMore
attribute [local go_sem] max2_int min2_int max_two min_two max_three min_three max_four min_four   -- for this text's walks alone
set_option linter.unusedVariables false
set_option linter.unusedSimpArgs false

/-! What is put and cut, joined: program and document. -/
/-- What is left of an extent where sectors are cut, as Go reckons. -/
def withG (v n : Int) (x : S24) : List S24 :=
  if (mn (wrap64 (x.f0 + x.f2)) (mx x.f0 v)) ≥ (mx x.f0 (mn (wrap64 (x.f0 + x.f2)) (wrap64 (v + n)))) then [x] else
    [⟨x.f0, x.f1, wrap64 ((mn (wrap64 (x.f0 + x.f2)) (mx x.f0 v)) - x.f0)⟩, ⟨mx x.f0 (mn (wrap64 (x.f0 + x.f2)) (wrap64 (v + n))), wrap64 ((wrap64 (x.f1 + (mx x.f0 (mn (wrap64 (x.f0 + x.f2)) (wrap64 (v + n)))))) - x.f0), wrap64 ((wrap64 (x.f0 + x.f2)) - (mx x.f0 (mn (wrap64 (x.f0 + x.f2)) (wrap64 (v + n)))))⟩]
theorem withG_len (v n : Int) (x : S24) : (withG v n x).length ≤ 2 := by unfold withG; split <;> simp
theorem withG_toE {x : S24} {v n : Int} (hx : Flag.okMap (toE x)) (hv : 0 ≤ v) (hn : 0 ≤ n) (he : v + n ≤ 65536) : (withG v n x).map toE = Flag.withE v n (toE x) := by
  obtain ⟨h1, h2, h3, h4, h5⟩ := hx
  simp only [toE] at h1 h2 h3 h4 h5
  unfold withG Flag.withE
  simp only [mx_max, mn_min]
  rw [w64 (n := x.f0 + x.f2) (by omega), w64 (n := v + n) (by omega)]
  have e : (toE x) = ⟨x.f0, x.f1, x.f2⟩ := rfl
  rw [e]
  dsimp only
  split
  · rfl
  · rw [w64 (n := min (x.f0 + x.f2) (max x.f0 v) - x.f0) (by omega), w64 (n := x.f1 + max x.f0 (min (x.f0 + x.f2) (v + n))) (by omega), w64 (n := x.f1 + max x.f0 (min (x.f0 + x.f2) (v + n)) - x.f0) (by omega), w64 (n := x.f0 + x.f2 - max x.f0 (min (x.f0 + x.f2) (v + n))) (by omega)]
    rfl
theorem withG_in {x : S24} {v n : Int} (hx : Flag.okMap (toE x)) (hv : 0 ≤ v) (hn : 0 ≤ n) (he : v + n ≤ 65536) : ∀ y ∈ withG v n x, y.f2 ≤ 0 ∨ InM y := by
  intro y hy
  have h := withG_toE hx hv hn he
  have hm : toE y ∈ Flag.withE v n (toE x) := by rw [← h]; exact List.mem_map_of_mem hy
  obtain ⟨h1, h2, h3, h4, h5⟩ := hx
  simp only [toE] at h1 h2 h3 h4 h5
  by_cases h0 : y.f2 ≤ 0
  · exact .inl h0
  · right
    unfold Flag.withE at hm
    split at hm
    · have e : toE y = toE x := by simpa using hm
      rw [toE_inj e]
      exact ⟨h2, by omega, by omega, by omega, h1⟩
    · simp only [List.mem_cons, List.not_mem_nil, or_false, toE, Flag.Ex.mk.injEq] at hm
      rcases hm with ⟨a, b, c⟩ | ⟨a, b, c⟩
      · exact ⟨by omega, by omega, by omega, by omega, by omega⟩
      · exact ⟨by omega, by omega, by omega, by omega, by omega⟩
theorem add_r {l : List S24} {x : S24} (h : l.length < 2147483648) : flagstoneref05_Add.f l x.f0 x.f1 x.f2 = some (addG l x) := by unfold flagstoneref05_Add.f; rw [if_pos h]
theorem without_loop (l : List S24) (hl : l.length ≤ 1024) (v n : Int) (t : List S24) : ∀ (pre acc : List S24) (k : Nat), l = pre ++ t → t.length < k → acc.length ≤ 2 * pre.length →
    flagstoneref05_without.l0 k l v n acc (pre.length : Int) = some ((t.flatMap (withG v n)).foldl addG acc) := by
  induction t with
  | nil =>
    intro pre acc k he hk _
    obtain ⟨k, rfl⟩ : ∃ k', k = k' + 1 := ⟨k - 1, by simp at hk; omega⟩
    rw [flagstoneref05_without.l0, if_neg (by rw [he]; simp)]
    rfl
  | cons x t ih =>
    intro pre acc k he hk ha
    obtain ⟨k, rfl⟩ : ∃ k', k = k' + 1 := ⟨k - 1, by simp at hk; omega⟩
    have hlen : l.length = pre.length + t.length + 1 := by rw [he]; simp; omega
    have hx : rd_T24 l (pre.length : Int) = x := by rw [he]; exact rd_at pre x t rfl
    have e1 : wrap64 ((pre.length : Int) + 1) = ((pre ++ [x]).length : Int) := by rw [w64 (by omega)]; simp
    have hnext := fun acc' h => ih (pre ++ [x]) acc' k (by rw [he]; simp) (by simp at hk; omega) h
    rw [flagstoneref05_without.l0, if_pos (by omega), if_pos (by omega), hx, e1, List.flatMap_cons, List.foldl_append, withG]
    split
    · rw [add_r (by omega), Option.bind_some, hnext _ (by have := addG_length acc x; simp; omega)]
      rfl
    · have h1 := addG_length acc ⟨x.f0, x.f1, wrap64 ((mn (wrap64 (x.f0 + x.f2)) (mx x.f0 v)) - x.f0)⟩
      rw [add_r (x := ⟨x.f0, x.f1, wrap64 ((mn (wrap64 (x.f0 + x.f2)) (mx x.f0 v)) - x.f0)⟩) (by omega), Option.bind_some]
      rw [add_r (x := ⟨mx x.f0 (mn (wrap64 (x.f0 + x.f2)) (wrap64 (v + n))), wrap64 ((wrap64 (x.f1 + (mx x.f0 (mn (wrap64 (x.f0 + x.f2)) (wrap64 (v + n)))))) - x.f0), wrap64 ((wrap64 (x.f0 + x.f2)) - (mx x.f0 (mn (wrap64 (x.f0 + x.f2)) (wrap64 (v + n)))))⟩) (by omega), Option.bind_some]
      rw [hnext _ (by have := addG_length (addG acc ⟨x.f0, x.f1, wrap64 ((mn (wrap64 (x.f0 + x.f2)) (mx x.f0 v)) - x.f0)⟩) ⟨mx x.f0 (mn (wrap64 (x.f0 + x.f2)) (wrap64 (v + n))), wrap64 ((wrap64 (x.f1 + (mx x.f0 (mn (wrap64 (x.f0 + x.f2)) (wrap64 (v + n)))))) - x.f0), wrap64 ((wrap64 (x.f0 + x.f2)) - (mx x.f0 (mn (wrap64 (x.f0 + x.f2)) (wrap64 (v + n)))))⟩; simp; omega)]
      rfl
/-- What the document leaves of a map where sectors are cut. -/
def cutG (l : List S24) (v n : Int) : List S24 := (l.flatMap (withG v n)).foldl addG []
theorem without_x {l : List S24} (hl : l.length ≤ 1024) (v n : Int) {k : Nat} (hk : l.length < k) : flagstoneref05_without.f k l v n = some (cutG l v n) := by
  unfold flagstoneref05_without.f
  exact without_loop l hl v n l [] [] k rfl hk (by simp)
theorem flatMap_len (v n : Int) (l : List S24) : (l.flatMap (withG v n)).length ≤ 2 * l.length := by
  induction l with
  | nil => simp
  | cons x t ih => have := withG_len v n x; simp only [List.flatMap_cons, List.length_append, List.length_cons]; omega
theorem cutG_len (l : List S24) (v n : Int) : (cutG l v n).length ≤ 2 * l.length := by
  have h1 := addG_fold_length (l.flatMap (withG v n)) []
  have h2 := flatMap_len v n l
  simp only [List.length_nil] at h1
  unfold cutG
  omega
theorem map_flatMap_toE {l : List S24} {v n : Int} (h : ∀ x ∈ l, Flag.okMap (toE x)) (hv : 0 ≤ v) (hn : 0 ≤ n) (he : v + n ≤ 65536) : (l.flatMap (withG v n)).map toE = Flag.cutE (l.map toE) v n := by
  induction l with
  | nil => rfl
  | cons x t ih =>
    rw [List.flatMap_cons, List.map_append, withG_toE (h x List.mem_cons_self) hv hn he, ih (fun y hy => h y (List.mem_cons_of_mem _ hy))]
    simp [Flag.cutE]
theorem cutG_spec {l : List S24} (hm : Flag.Map5 (l.map toE)) {v n : Int} (hv : 0 ≤ v) (hn : 0 ≤ n) (he : v + n ≤ 65536) :
    Flag.NF ((cutG l v n).map toE) ∧ (∀ i, Flag.lookE ((cutG l v n).map toE) i = if v ≤ i ∧ i < v + n then none else Flag.lookE (l.map toE) i) ∧ ∀ y ∈ cutG l v n, InM y := by
  have hl : ∀ x ∈ l, Flag.okMap (toE x) := fun x hx => hm.ok _ (List.mem_map_of_mem hx)
  obtain ⟨h1, h2⟩ := fold_join (ps := l.flatMap (withG v n)) (fun y hy => by
    obtain ⟨x, hx, hy⟩ := List.mem_flatMap.1 hy
    exact withG_in (hl x hx) hv hn he y hy)
  rw [map_flatMap_toE hl hv hn he] at h1
  obtain ⟨h3, h4⟩ := Flag.joinE_spec (Flag.cutE_rising hm.ok hm.nf v n)
  unfold cutG
  rw [h1]
  exact ⟨h3, fun i => by rw [h4, Flag.cutE_look hm.ok v n i hm.nf], h2⟩
/-- Two maps, as their places are. -/
def mergeS : List S24 → List S24 → List S24
  | [], b => b
  | x :: a, [] => x :: a
  | x :: a, y :: b => if x.f0 < y.f0 then x :: mergeS a (y :: b) else y :: mergeS (x :: a) b
termination_by a b => a.length + b.length
theorem mergeS_toE : ∀ a b : List S24, (mergeS a b).map toE = Flag.mergeE (a.map toE) (b.map toE)
  | [], b => by rw [mergeS]; simp [Flag.mergeE]
  | x :: a, [] => by rw [mergeS]; simp [Flag.mergeE]
  | x :: a, y :: b => by
    rw [mergeS, List.map_cons, List.map_cons, Flag.mergeE]
    by_cases h : x.f0 < y.f0
    · rw [if_pos h, if_pos (show (toE x).v < (toE y).v from h), List.map_cons, mergeS_toE a (y :: b)]; rfl
    · rw [if_neg h, if_neg (show ¬ (toE x).v < (toE y).v from h), List.map_cons, mergeS_toE (x :: a) b]; rfl
termination_by a b => a.length + b.length
theorem mergeS_mem {z : S24} : ∀ {a b : List S24}, z ∈ mergeS a b → z ∈ a ∨ z ∈ b
  | [], b, h => by rw [mergeS] at h; exact .inr h
  | x :: a, [], h => by rw [mergeS] at h; exact .inl h
  | x :: a, y :: b, h => by
    rw [mergeS] at h
    split at h
    · rcases List.mem_cons.1 h with rfl | h
      · exact .inl List.mem_cons_self
      · rcases mergeS_mem h with h | h
        · exact .inl (List.mem_cons_of_mem _ h)
        · exact .inr h
    · rcases List.mem_cons.1 h with rfl | h
      · exact .inr List.mem_cons_self
      · rcases mergeS_mem h with h | h
        · exact .inl h
        · exact .inr (List.mem_cons_of_mem _ h)
termination_by a b => a.length + b.length
theorem merged_loop (a b : List S24) (hb : a.length + b.length < 1048576) (m : Nat) : ∀ (ta tb pa pb acc : List S24) (k : Nat), m = ta.length + tb.length → a = pa ++ ta → b = pb ++ tb → 3 * m + 1 < k → acc.length ≤ pa.length + pb.length →
    flagstoneref05_merged.l0 k a b acc (pa.length : Int) (pb.length : Int) = some ((mergeS ta tb).foldl addG acc) := by
  induction m with
  | zero =>
    intro ta tb pa pb acc k hm ha hb' hk _
    have e1 : ta = [] := List.length_eq_zero_iff.1 (by omega)
    have e2 : tb = [] := List.length_eq_zero_iff.1 (by omega)
    subst e1 e2
    simp only [List.append_nil] at ha hb'
    subst ha hb'
    obtain ⟨k, rfl⟩ : ∃ k', k = k' + 1 := ⟨k - 1, by omega⟩
    rw [flagstoneref05_merged.l0, if_neg (by simp)]
    cases k with
    | zero => omega
    | succ k =>
    rw [flagstoneref05_merged.j1, if_neg (by simp)]
    rw [mergeS]; rfl
  | succ m ih =>
    intro ta tb pa pb acc k hm ha hb' hk hacc
    obtain ⟨k, rfl⟩ : ∃ k', k = k' + 3 := ⟨k - 3, by omega⟩
    have la : a.length = pa.length + ta.length := by rw [ha]; simp
    have lb : b.length = pb.length + tb.length := by rw [hb']; simp
    have takeA : ∀ (x : S24) (t : List S24), ta = x :: t → flagstoneref05_merged.j2 (k + 1) a b acc (pa.length : Int) (pb.length : Int) true = some ((mergeS t tb).foldl addG (addG acc x)) := by
      intro x t e
      subst e
      have hx : rd_T24 a (pa.length : Int) = x := by rw [ha]; exact rd_at pa x t rfl
      have e1 : wrap64 ((pa.length : Int) + 1) = ((pa ++ [x]).length : Int) := by rw [w64 (by omega)]; simp
      rw [flagstoneref05_merged.j2, if_pos rfl, if_pos (by omega), if_pos (by simp at la; omega), hx, add_r (by omega), Option.bind_some, e1]
      exact ih t tb (pa ++ [x]) pb _ k (by simp at hm; omega) (by rw [ha]; simp) hb' (by omega) (by have := addG_length acc x; simp; omega)
    have takeB : ∀ (y : S24) (t : List S24), tb = y :: t → flagstoneref05_merged.j2 (k + 1) a b acc (pa.length : Int) (pb.length : Int) false = some ((mergeS ta t).foldl addG (addG acc y)) := by
      intro y t e
      subst e
      have hx : rd_T24 b (pb.length : Int) = y := by rw [hb']; exact rd_at pb y t rfl
      have e1 : wrap64 ((pb.length : Int) + 1) = ((pb ++ [y]).length : Int) := by rw [w64 (by omega)]; simp
      rw [flagstoneref05_merged.j2, if_neg (by simp), if_pos (by omega), if_pos (by simp at lb; omega), hx, add_r (by omega), Option.bind_some, e1]
      exact ih ta t pa (pb ++ [y]) _ k (by simp at hm; omega) ha (by rw [hb']; simp) (by omega) (by have := addG_length acc y; simp; omega)
    cases ta with
    | nil =>
      cases tb with
      | nil => simp at hm
      | cons y t =>
        simp only [List.length_nil, List.length_cons, Nat.add_zero] at la lb
        rw [flagstoneref05_merged.l0, if_neg (by omega), flagstoneref05_merged.j1]
        rw [if_pos (by apply decide_eq_true; omega), if_neg (by omega), if_neg (by omega), takeB y t rfl, mergeS, mergeS]
        rfl
    | cons x s =>
      simp only [List.length_cons] at la
      rw [flagstoneref05_merged.l0, if_pos (by omega), flagstoneref05_merged.j1, if_pos rfl]
      cases tb with
      | nil =>
        simp only [List.length_nil, Nat.add_zero] at lb
        rw [if_pos (by omega), takeA x s rfl, mergeS]
        cases s with
        | nil => rw [mergeS]; rfl
        | cons => rw [mergeS]; rfl
      | cons y t =>
        simp only [List.length_cons] at lb
        have hx : rd_T24 a (pa.length : Int) = x := by rw [ha]; exact rd_at pa x s rfl
        have hy : rd_T24 b (pb.length : Int) = y := by rw [hb']; exact rd_at pb y t rfl
        rw [if_neg (by omega), if_pos (by omega), if_pos (by omega), if_pos (by omega), if_pos (by omega), hx, hy, mergeS]
        by_cases h : x.f0 < y.f0
        · rw [decide_eq_true h, if_pos h, takeA x s rfl]; rfl
        · rw [decide_eq_false h, if_neg h, takeB y t rfl]; rfl
theorem merged_x (a b : List S24) (hb : a.length + b.length < 1048576) {k : Nat} (hk : 3 * (a.length + b.length) + 1 < k) : flagstoneref05_merged.f k a b = some ((mergeS a b).foldl addG []) := by
  unfold flagstoneref05_merged.f
  exact merged_loop a b hb _ a b [] [] [] k rfl rfl rfl hk (by simp)

end Go.Proofs.Ytkkfkdncddbaeaa.Fn
