-- Told by hand; its numbers filled in by a program of this session.
import Derived.Test.YtkkfkdncddbaeaaFnBase
import Derived.Test.YtkkfkdncddbaeaaHL05c
import Derived.Test.YtkkfkdncddbaeaaFn27
import Derived.Test.YtkkfkdncddbaeaaFn29
import Derived.Test.YtkkfkdncddbaeaaFn28
import Derived.Test.YtkkfkdncddbaeaaFn30
namespace Go.Proofs.Ytkkfkdncddbaeaa.Fn
open Go.RowKit Go.Proofs.YtkkfkdncddbaeaaW.PrintWords Go.Proofs.YtkkfkdncddbaeaaW.PrintLast Go.Proofs.YtkkfkdncddbaeaaW.PrintMore
attribute [local go_sem] max2_int min2_int max_two min_two max_three min_three max_four min_four   -- for this text's walks alone
set_option linter.unusedVariables false
set_option linter.unusedSimpArgs false

/-! Put and Cut of extents: one answer of program and document, and what it is. -/
theorem repl_x {l : List S24} {v n : Int} {by_ : List S24} (h : l.length ≤ 1024) (hb : by_.length ≤ 1024) : extent_replaced.f l v n by_ = some (replG l v n by_) := by
  unfold extent_replaced.f; rw [if_pos ⟨h, hb⟩]
def putS (l : List S24) (x : S24) : List S24 × Int :=
  if Flag.checkE (l.map toE) = 0 then (if Flag.mayE (toE x) = true then fullS (replG l x.f0 x.f2 [x]) else ([], 4)) else ([], 9)
def cutS (l : List S24) (v n : Int) : List S24 × Int :=
  if Flag.checkE (l.map toE) = 0 then (if fitsB v n = true then fullS (replG l v n []) else ([], 4)) else ([], 9)
theorem put_x {l : List S24} {x : S24} {k : Nat} (hk : l.length < k) : extent_Put.f k l x.f0 x.f1 x.f2 = some (putS l x) := by
  unfold extent_Put.f putS
  rw [check_x l hk, Option.bind_some, may_x]
  have e : (⟨x.f0, x.f1, x.f2⟩ : Flag.Ex) = toE x := rfl
  rw [e, Option.bind_some]
  rcases Flag.checkE_or (l.map toE) with h | h
  · have hm := Flag.checkE_ok.1 h
    have hl : l.length ≤ 1024 := by have := hm.len; simpa using this
    rw [if_pos h, if_pos h]
    by_cases h1 : Flag.mayE (toE x) = true
    · rw [if_pos h1, if_pos h1, repl_x hl (by simp), Option.bind_some, full_x, Option.bind_some]
      rfl
    · rw [if_neg h1, if_neg h1]
  · rw [h]; rfl
theorem cut_x {l : List S24} {v n : Int} {k : Nat} (hk : l.length < k) : extent_Cut.f k l v n = some (cutS l v n) := by
  unfold extent_Cut.f cutS
  rw [check_x l hk, Option.bind_some, fits_xB, Option.bind_some]
  rcases Flag.checkE_or (l.map toE) with h | h
  · have hm := Flag.checkE_ok.1 h
    have hl : l.length ≤ 1024 := by have := hm.len; simpa using this
    rw [if_pos h, if_pos h]
    by_cases h1 : fitsB v n = true
    · rw [if_pos h1, if_pos h1, repl_x hl (by simp), Option.bind_some, full_x, Option.bind_some]
      rfl
    · rw [if_neg h1, if_neg h1]
  · rw [h]; rfl
/-- What 'replaced' leaves of a map, told by what stands where. -/
theorem replG_look {l : List S24} {v n : Int} {by_ : List S24} (hm : Flag.Map5 (l.map toE)) (hv : 0 ≤ v) (hn : 0 ≤ n) (he : v + n ≤ 65536) (hb : ∀ y ∈ by_, y.f2 ≤ 0 ∨ InM y)
    (hr : Flag.Rising (by_.map toE)) (hin : ∀ x ∈ by_.map toE, v ≤ x.v ∧ x.v + x.n ≤ v + n) :
    Flag.NF ((replG l v n by_).map toE) ∧ ∀ i, Flag.lookE ((replG l v n by_).map toE) i = if v ≤ i ∧ i < v + n then Flag.lookE (by_.map toE) i else Flag.lookE (l.map toE) i := by
  obtain ⟨h1, h2⟩ := replG_put hm hv hn he hb
  rw [h1]
  exact Flag.put3_spec hm (by omega) hr hin
theorem replG_cut {l : List S24} {v n : Int} (hm : Flag.Map5 (l.map toE)) (hv : 0 ≤ v) (hn : 0 ≤ n) (he : v + n ≤ 65536) :
    Flag.NF ((replG l v n []).map toE) ∧ ∀ i, Flag.lookE ((replG l v n []).map toE) i = if v ≤ i ∧ i < v + n then none else Flag.lookE (l.map toE) i :=
  replG_look hm hv hn he (fun y hy => by cases hy) trivial (fun y hy => by cases hy)
theorem look_one (x : Flag.Ex) (i : Int) : Flag.lookE [x] i = if x.v ≤ i ∧ i < x.v + x.n then some (Flag.valAt x i) else none := rfl
theorem replG_one {l : List S24} {x : S24} (hm : Flag.Map5 (l.map toE)) (hx : Flag.okMap (toE x)) :
    Flag.NF ((replG l x.f0 x.f2 [x]).map toE) ∧ ∀ i, Flag.lookE ((replG l x.f0 x.f2 [x]).map toE) i = if x.f0 ≤ i ∧ i < x.f0 + x.f2 then some (Flag.valAt (toE x) i) else Flag.lookE (l.map toE) i := by
  have hin := okIn hx
  obtain ⟨h1, h2, h3, h4, h5⟩ := hx
  simp only [toE] at h1 h2 h3 h4 h5
  obtain ⟨g1, g2⟩ := replG_look (by_ := [x]) hm h2 (by omega) h3 (fun y hy => by
    have : y = x := by simpa using hy
    rw [this]; exact .inr hin) ⟨fun _ y hy => (by cases hy), trivial⟩ (fun y hy => by
    have : y = toE x := by simpa using hy
    rw [this]; exact ⟨Int.le_refl _, Int.le_refl _⟩)
  refine ⟨g1, fun i => ?_⟩
  rw [g2]
  split
  · rename_i h
    exact (look_one (toE x) i).trans (if_pos h)
  · rfl
/-- The document's cut is the program's. -/
theorem cutG_eq {l : List S24} {v n : Int} (hm : Flag.Map5 (l.map toE)) (hv : 0 ≤ v) (hn : 0 ≤ n) (he : v + n ≤ 65536) : cutG l v n = replG l v n [] := by
  obtain ⟨h1, h2, _⟩ := cutG_spec hm hv hn he
  obtain ⟨h3, h4⟩ := replG_cut hm hv hn he
  exact mapE_inj (Flag.NF.ext h1 h3 (fun i => by rw [h2, h4]))
/-- Two maps apart from one another, joined by the document. -/
theorem merge_spec {a b : List S24} (ha : Flag.NF (a.map toE)) (hb : Flag.NF (b.map toE)) (ia : ∀ y ∈ a, InM y) (ib : ∀ y ∈ b, InM y) (h : Flag.Apart (a.map toE) (b.map toE)) :
    Flag.NF (((mergeS a b).foldl addG []).map toE) ∧ (∀ i, Flag.lookE (((mergeS a b).foldl addG []).map toE) i = match Flag.lookE (a.map toE) i with | some r => some r | none => Flag.lookE (b.map toE) i) ∧ ∀ y ∈ (mergeS a b).foldl addG [], InM y := by
  obtain ⟨h1, h2⟩ := fold_join (ps := mergeS a b) (fun y hy => by
    rcases mergeS_mem hy with hy | hy
    · exact .inr (ia y hy)
    · exact .inr (ib y hy))
  rw [mergeS_toE] at h1
  obtain ⟨h3, h4⟩ := Flag.joinE_spec (Flag.mergeE_rising ha.rising hb.rising ha.all hb.all h)
  rw [h1]
  exact ⟨h3, fun i => by rw [h4, Flag.mergeE_look i h]; cases Flag.lookE (a.map toE) i <;> rfl, h2⟩
theorem putG_eq {l : List S24} {x : S24} (hm : Flag.Map5 (l.map toE)) (hx : Flag.okMap (toE x)) : (mergeS (cutG l x.f0 x.f2) [x]).foldl addG [] = replG l x.f0 x.f2 [x] := by
  have hin := okIn hx
  have hx0 := hx
  obtain ⟨h1, h2, h3, h4, h5⟩ := hx0
  simp only [toE] at h1 h2 h3 h4 h5
  obtain ⟨c1, c2, c3⟩ := cutG_spec hm h2 (by omega) h3
  have hap : Flag.Apart ((cutG l x.f0 x.f2).map toE) ([x].map toE) := Flag.apart_of c1 (fun y hy => by
    have : y = toE x := by simpa using hy
    rw [this]; exact h1) (fun y hy i a b => by
    have : y = toE x := by simpa using hy
    subst this
    rw [c2, if_pos ⟨a, b⟩])
  obtain ⟨m1, m2, _⟩ := merge_spec (b := [x]) c1 h1 c3 (fun y hy => by
    have : y = x := by simpa using hy
    rw [this]; exact hin) hap
  obtain ⟨r1, r2⟩ := replG_one hm hx
  refine mapE_inj (Flag.NF.ext m1 r1 (fun i => ?_))
  rw [m2, r2, c2, List.map_cons, List.map_nil, look_one]
  show (match (if x.f0 ≤ i ∧ i < x.f0 + x.f2 then none else Flag.lookE (l.map toE) i) with | some r => some r | none => if x.f0 ≤ i ∧ i < x.f0 + x.f2 then some (Flag.valAt (toE x) i) else none) = _
  by_cases h0 : x.f0 ≤ i ∧ i < x.f0 + x.f2
  · simp only [if_pos h0]
  · simp only [if_neg h0]
    cases Flag.lookE (l.map toE) i <;> rfl
theorem cut_r {l : List S24} {v n : Int} {k : Nat} (hk : 4 * l.length + 10000 < k) : flagstoneref05_Cut.f k l v n = some (cutS l v n) := by
  unfold flagstoneref05_Cut.f cutS
  rw [check_r l (by omega), Option.bind_some, fits_rB, Option.bind_some]
  rcases Flag.checkE_or (l.map toE) with h | h
  · have hm := Flag.checkE_ok.1 h
    have hl : l.length ≤ 1024 := by have := hm.len; simpa using this
    rw [if_pos h, if_pos h]
    by_cases h1 : fitsB v n = true
    · rw [if_pos h1, if_pos h1, without_x hl v n (by omega), Option.bind_some]
      obtain ⟨f1, f2, f3⟩ := fitsB_iff.1 h1
      rw [cutG_eq hm f1 f2 f3]
      unfold fullS
      by_cases h2 : (replG l v n []).length > 1024
      · rw [if_pos (by omega), if_pos h2]
      · rw [if_neg (by omega), if_neg h2]
    · rw [if_neg h1, if_neg h1]
  · rw [h]; rfl
theorem put_r {l : List S24} {x : S24} {k : Nat} (hk : 4 * l.length + 10000 < k) : flagstoneref05_Put.f k l x.f0 x.f1 x.f2 = some (putS l x) := by
  unfold flagstoneref05_Put.f putS
  rw [check_r l (by omega), Option.bind_some, fits_rB, Option.bind_some, fits_rB, Option.bind_some]
  rcases Flag.checkE_or (l.map toE) with h | h
  · have hm := Flag.checkE_ok.1 h
    have hl : l.length ≤ 1024 := by have := hm.len; simpa using this
    rw [if_pos h, if_pos h]
    by_cases h1 : Flag.mayE (toE x) = true
    · rw [if_pos h1]
      have hx := Flag.mayE_iff.1 h1
      have hx0 := hx
      obtain ⟨g1, g2, g3, g4, g5⟩ := hx0
      simp only [toE] at g1 g2 g3 g4 g5
      rw [if_neg (by omega), if_pos (fitsB_iff.2 ⟨g2, by omega, g3⟩), if_pos (fitsB_iff.2 ⟨g4, by omega, g5⟩), without_x hl _ _ (by omega), Option.bind_some]
      have hc := cutG_len l x.f0 x.f2
      rw [merged_x (cutG l x.f0 x.f2) [x] (by simp; omega) (by simp; omega), Option.bind_some, putG_eq hm hx]
      unfold fullS
      by_cases h2 : (replG l x.f0 x.f2 [x]).length > 1024
      · rw [if_pos (by omega), if_pos h2]
      · rw [if_neg (by omega), if_neg h2]
    · rw [if_neg h1]
      by_cases a1 : x.f2 < 1
      · rw [if_pos a1]
      · rw [if_neg a1]
        by_cases a2 : fitsB x.f0 x.f2 = true
        · rw [if_pos a2]
          by_cases a3 : fitsB x.f1 x.f2 = true
          · exact absurd (by
              obtain ⟨b1, b2, b3⟩ := fitsB_iff.1 a2
              obtain ⟨c1, c2, c3⟩ := fitsB_iff.1 a3
              exact Flag.mayE_iff.2 ⟨show 0 < x.f2 by omega, b1, b3, c1, c3⟩) h1
          · rw [if_neg a3]
        · rw [if_neg a2]
  · rw [h]; rfl

end Go.Proofs.Ytkkfkdncddbaeaa.Fn
