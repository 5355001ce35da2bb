-- Told by hand; its numbers filled in by a program of this session.
import Derived.Test.YtkkfkdncddbaeaaFnBase
import Derived.Test.YtkkfkdncddbaeaaHL05d
import Derived.Test.YtkkfkdncddbaeaaFn25
import Derived.Test.YtkkfkdncddbaeaaFn32
import Derived.Test.YtkkfkdncddbaeaaFn26
import Derived.Test.YtkkfkdncddbaeaaFn31
namespace Go.Proofs.Ytkkfkdncddbaeaa.Fn
open Go.RowKit Go.Proofs.YtkkfkdncddbaeaaW.PrintWords Go.Proofs.YtkkfkdncddbaeaaW.PrintLast Go.Proofs.YtkkfkdncddbaeaaW.PrintMore
attribute [local go_sem] max2_int min2_int max_two min_two max_three min_three max_four min_four   -- for this text's walks alone
set_option linter.unusedVariables false
set_option linter.unusedSimpArgs false

/-! The laws ExtentOwn and ExtentTwice, in plain lists. -/
theorem same_loop (a : List S24) (hl : a.length < 5864062014805) (t : List S24) : ∀ (pre : List S24) (k : Nat), a = pre ++ t → t.length < k → flagstoneplain_SameExtents.l0 k a a (pre.length : Int) = some true := by
  induction t with
  | nil =>
    intro pre k he hk
    obtain ⟨k, rfl⟩ : ∃ k', k = k' + 1 := ⟨k - 1, by simp at hk; omega⟩
    rw [flagstoneplain_SameExtents.l0, if_neg (by rw [he]; simp)]
  | cons x t ih =>
    intro pre k he hk
    obtain ⟨k, rfl⟩ : ∃ k', k = k' + 1 := ⟨k - 1, by simp at hk; omega⟩
    have hlen : a.length = pre.length + t.length + 1 := by rw [he]; simp; omega
    have e1 : wrap64 ((pre.length : Int) + 1) = ((pre ++ [x]).length : Int) := by rw [w64 (by omega)]; simp
    rw [flagstoneplain_SameExtents.l0, if_pos (by omega), if_pos (by omega), if_pos (by omega), if_neg (by simp), e1]
    exact ih (pre ++ [x]) k (by rw [he]; simp) (by simp at hk; omega)
theorem same_x {a : List S24} (hl : a.length < 5864062014805) {k : Nat} (hk : a.length < k) : flagstoneplain_SameExtents.f k a a = some true := by
  unfold flagstoneplain_SameExtents.f
  rw [if_pos rfl]
  exact same_loop a hl a [] k rfl hk
theorem spoil_loop (m : Nat) : ∀ (l : List S24) (i k : Nat), l.length < 5864062014805 → l.length = i + m → m < k → ∃ r, flagstoneplain_SpoilExtents.l0 k l (i : Int) = some r := by
  induction m with
  | zero =>
    intro l i k _ h hk
    obtain ⟨k, rfl⟩ : ∃ k', k = k' + 1 := ⟨k - 1, by omega⟩
    rw [flagstoneplain_SpoilExtents.l0, if_neg (by omega)]
    exact ⟨_, rfl⟩
  | succ m ih =>
    intro l i k hl h hk
    obtain ⟨k, rfl⟩ : ∃ k', k = k' + 1 := ⟨k - 1, by omega⟩
    rw [flagstoneplain_SpoilExtents.l0, if_pos (by omega), if_pos (by omega), w64 (by omega)]
    exact ih _ (i + 1) k (by simpa using hl) (by simp; omega) (by omega)
theorem spoil_x {l : List S24} (hl : l.length < 5864062014805) {k : Nat} (hk : l.length < k) : ∃ r, flagstoneplain_SpoilExtents.f k l = some r := spoil_loop l.length l 0 k hl (by simp) hk
theorem copy_x {l : List S24} (hl : l.length < 5864062014805) : flagstoneplain_CopyExtents.f l = some l := by
  unfold flagstoneplain_CopyExtents.f
  rw [if_pos (by simp; omega), List.nil_append]
theorem alive_x {k : Nat} (hk : 1 < k) : flagstonelaw05_alive.f k = some true := by
  unfold flagstonelaw05_alive.f
  rw [cut_x (l := [(⟨0, 100, 10⟩ : S24)]) hk]
  have e : cutS [(⟨0, 100, 10⟩ : S24)] 4 2 = ([⟨0, 100, 4⟩, ⟨6, 106, 4⟩], 0) := by kernel_rfl
  rw [e]
  rfl
theorem fullS_len (l : List S24) : (fullS l).1.length ≤ 1024 := by unfold fullS; split <;> simp; omega
theorem putS_len (l : List S24) (x : S24) : (putS l x).1.length ≤ 1024 := by
  unfold putS; split
  · split
    · exact fullS_len _
    · simp
  · simp
theorem cutS_len (l : List S24) (v n : Int) : (cutS l v n).1.length ≤ 1024 := by
  unfold cutS; split
  · split
    · exact fullS_len _
    · simp
  · simp
/-- What a Put that is done leaves. -/
structure PutOk (l : List S24) (x : S24) : Prop where
  map : Flag.Map5 (l.map toE)
  ok : Flag.okMap (toE x)
  len : (replG l x.f0 x.f2 [x]).length ≤ 1024
  is : putS l x = (replG l x.f0 x.f2 [x], 0)
theorem putS_ok {l : List S24} {x : S24} (h : (putS l x).2 = 0) : PutOk l x := by
  unfold putS at h
  split at h
  · rename_i hc
    split at h
    · rename_i hm
      unfold fullS at h
      split at h
      · cases h
      · rename_i hf
        refine ⟨Flag.checkE_ok.1 hc, Flag.mayE_iff.1 hm, by omega, ?_⟩
        unfold putS fullS
        rw [if_pos hc, if_pos hm, if_neg hf]
    · cases h
  · cases h
theorem putS_bad {l : List S24} {x : S24} (h : (putS l x).2 ≠ 0) : (putS l x).1 = [] := by
  unfold putS at h ⊢
  split at h
  · rename_i hc
    split at h
    · rename_i hm
      rw [if_pos hc, if_pos hm]
      unfold fullS at h ⊢
      split at h
      · rename_i hf; rw [if_pos hf]
      · exact absurd rfl h
    · rename_i hm; rw [if_pos hc, if_neg hm]
  · rename_i hc; rw [if_neg hc]
structure CutOk (l : List S24) (v n : Int) : Prop where
  map : Flag.Map5 (l.map toE)
  v0 : 0 ≤ v
  n0 : 0 ≤ n
  e : v + n ≤ 65536
  len : (replG l v n []).length ≤ 1024
  is : cutS l v n = (replG l v n [], 0)
theorem cutS_ok {l : List S24} {v n : Int} (h : (cutS l v n).2 = 0) : CutOk l v n := by
  unfold cutS at h
  split at h
  · rename_i hc
    split at h
    · rename_i hm
      unfold fullS at h
      split at h
      · cases h
      · rename_i hf
        obtain ⟨f1, f2, f3⟩ := fitsB_iff.1 hm
        refine ⟨Flag.checkE_ok.1 hc, f1, f2, f3, by omega, ?_⟩
        unfold cutS fullS
        rw [if_pos hc, if_pos hm, if_neg hf]
    · cases h
  · cases h
theorem cutS_bad {l : List S24} {v n : Int} (h : (cutS l v n).2 ≠ 0) : (cutS l v n).1 = [] := by
  unfold cutS at h ⊢
  split at h
  · rename_i hc
    split at h
    · rename_i hm
      rw [if_pos hc, if_pos hm]
      unfold fullS at h ⊢
      split at h
      · rename_i hf; rw [if_pos hf]
      · exact absurd rfl h
    · rename_i hm; rw [if_pos hc, if_neg hm]
  · rename_i hc; rw [if_neg hc]
theorem PutOk.map2 {l : List S24} {x : S24} (h : PutOk l x) : Flag.Map5 ((replG l x.f0 x.f2 [x]).map toE) := by
  obtain ⟨h1, h2⟩ := replG_one h.map h.ok
  refine ⟨by have := h.len; simpa using this, Flag.okMap_of h1 (fun i r hi => ?_), h1⟩
  rw [h2] at hi
  obtain ⟨g1, g2, g3, g4, g5⟩ := h.ok
  simp only [toE] at g1 g2 g3 g4 g5
  split at hi
  · have hr := Option.some.inj hi
    unfold Flag.valAt toE at hr
    rw [if_neg (show ¬ x.f1 < 0 by omega)] at hr
    dsimp only at hr
    omega
  · exact Flag.okMap_look h.map.ok hi
theorem CutOk.map2 {l : List S24} {v n : Int} (h : CutOk l v n) : Flag.Map5 ((replG l v n []).map toE) := by
  obtain ⟨h1, h2⟩ := replG_cut h.map h.v0 h.n0 h.e
  refine ⟨by have := h.len; simpa using this, Flag.okMap_of h1 (fun i r hi => ?_), h1⟩
  rw [h2] at hi
  split at hi
  · cases hi
  · exact Flag.okMap_look h.map.ok hi
theorem putS_of {l : List S24} {x : S24} (hm : Flag.Map5 (l.map toE)) (hx : Flag.okMap (toE x)) (hl : (replG l x.f0 x.f2 [x]).length ≤ 1024) : putS l x = (replG l x.f0 x.f2 [x], 0) := by
  unfold putS fullS
  rw [if_pos (Flag.checkE_ok.2 hm), if_pos (Flag.mayE_iff.2 hx), if_neg (by omega)]
theorem cutS_of {l : List S24} {v n : Int} (hm : Flag.Map5 (l.map toE)) (hv : 0 ≤ v) (hn : 0 ≤ n) (he : v + n ≤ 65536) (hl : (replG l v n []).length ≤ 1024) : cutS l v n = (replG l v n [], 0) := by
  unfold cutS fullS
  rw [if_pos (Flag.checkE_ok.2 hm), if_pos (fitsB_iff.2 ⟨hv, hn, he⟩), if_neg (by omega)]
theorem put_twice {l : List S24} {x : S24} (h : PutOk l x) : replG (replG l x.f0 x.f2 [x]) x.f0 x.f2 [x] = replG l x.f0 x.f2 [x] := by
  obtain ⟨h1, h2⟩ := replG_one h.map h.ok
  obtain ⟨h3, h4⟩ := replG_one h.map2 h.ok
  refine mapE_inj (Flag.NF.ext h3 h1 (fun i => ?_))
  rw [h4, h2]
  split
  · rfl
  · rfl
theorem put_cut {l : List S24} {x : S24} (h : PutOk l x) : replG (replG l x.f0 x.f2 [x]) x.f0 x.f2 [] = replG l x.f0 x.f2 [] := by
  obtain ⟨g1, g2, g3, g4, g5⟩ := h.ok
  simp only [toE] at g1 g2 g3 g4 g5
  obtain ⟨h1, h2⟩ := replG_one h.map h.ok
  obtain ⟨h3, h4⟩ := replG_cut h.map2 g2 (by omega) g3
  obtain ⟨h5, h6⟩ := replG_cut h.map g2 (by omega) g3
  refine mapE_inj (Flag.NF.ext h3 h5 (fun i => ?_))
  rw [h4, h6]
  split
  · rfl
  · rename_i hi
    rw [h2, if_neg hi]
theorem cut_twice {l : List S24} {v n : Int} (h : CutOk l v n) : replG (replG l v n []) v n [] = replG l v n [] := by
  obtain ⟨h1, h2⟩ := replG_cut h.map h.v0 h.n0 h.e
  obtain ⟨h3, h4⟩ := replG_cut h.map2 h.v0 h.n0 h.e
  refine mapE_inj (Flag.NF.ext h3 h1 (fun i => ?_))
  rw [h4, h2]
  split
  · rfl
  · rfl

end Go.Proofs.Ytkkfkdncddbaeaa.Fn
