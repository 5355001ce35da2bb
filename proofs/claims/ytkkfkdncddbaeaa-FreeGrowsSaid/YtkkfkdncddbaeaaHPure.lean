-- Told by hand; its numbers filled in by a program of this session.
import Derived.Test.YtkkfkdncddbaeaaFnBase
namespace Go.Proofs.Ytkkfkdncddbaeaa.Fn
open Go.RowKit Go.Proofs.YtkkfkdncddbaeaaW.PrintWords Go.Proofs.YtkkfkdncddbaeaaW.PrintLast Go.Proofs.YtkkfkdncddbaeaaW.PrintMore
attribute [local go_sem] max2_int min2_int max_two min_two max_three min_three max_four min_four   -- for this text's walks alone
set_option linter.unusedVariables false
set_option linter.unusedSimpArgs false

/-! Pieces of a line, in normal form: what they are at each place says all. -/
namespace Flag

structure Ex where
  v : Int
  p : Int
  n : Int

/-- What stands at a place: below 0: the same at each place (a hole that is told: -1). -/
def valAt (x : Ex) (i : Int) : Int := if x.p < 0 then x.p else x.p + (i - x.v)

def lookE : List Ex → Int → Option Int
  | [], _ => none
  | x :: t, i => if x.v ≤ i ∧ i < x.v + x.n then some (valAt x i) else lookE t i

def goesOn (a b : Ex) : Prop := a.v + a.n = b.v ∧ ((a.p < 0 ∧ b.p = a.p) ∨ (0 ≤ a.p ∧ b.p = a.p + a.n))
instance (a b : Ex) : Decidable (goesOn a b) := inferInstanceAs (Decidable (_ ∧ _))

abbrev okE (x : Ex) : Prop := 0 < x.n

/-- Normal form: rising, none empty, none goes on with the one ahead. -/
def NF : List Ex → Prop
  | [] => True
  | [x] => okE x
  | x :: y :: t => okE x ∧ x.v + x.n ≤ y.v ∧ ¬ goesOn x y ∧ NF (y :: t)

theorem NF.head {x : Ex} {t : List Ex} (h : NF (x :: t)) : okE x := by
  cases t with
  | nil => exact h
  | cons y t => exact h.1
theorem NF.tail {x : Ex} {t : List Ex} (h : NF (x :: t)) : NF t := by
  cases t with
  | nil => trivial
  | cons y t => exact h.2.2.2
theorem NF.all {l : List Ex} (h : NF l) : ∀ x ∈ l, okE x := by
  induction l with
  | nil => intro x hx; cases hx
  | cons y t ih =>
    intro x hx
    cases hx with
    | head => exact h.head
    | tail _ hx => exact ih h.tail x hx
/-- All behind the first one begin behind its end. -/
theorem NF.after {x : Ex} {t : List Ex} (h : NF (x :: t)) : ∀ y ∈ t, x.v + x.n ≤ y.v := by
  induction t generalizing x with
  | nil => intro y hy; cases hy
  | cons z t ih =>
    intro y hy
    cases hy with
    | head => exact h.2.1
    | tail _ hy =>
      have h1 := ih h.tail y hy
      have h2 := h.2.1
      have h3 := h.tail.head
      omega

theorem lookE_none {l : List Ex} {i : Int} (h : ∀ x ∈ l, i < x.v) : lookE l i = none := by
  induction l with
  | nil => rfl
  | cons x t ih =>
    have h1 := h x List.mem_cons_self
    rw [lookE, if_neg (by omega)]
    exact ih (fun y hy => h y (List.mem_cons_of_mem _ hy))
theorem lookE_some_mem {l : List Ex} {i r : Int} (h : lookE l i = some r) : ∃ x ∈ l, x.v ≤ i ∧ i < x.v + x.n ∧ r = valAt x i := by
  induction l with
  | nil => simp [lookE] at h
  | cons x t ih =>
    rw [lookE] at h
    split at h
    · rename_i hx
      exact ⟨x, List.mem_cons_self, hx.1, hx.2, (Option.some.inj h).symm⟩
    · obtain ⟨y, hy, r⟩ := ih h
      exact ⟨y, List.mem_cons_of_mem _ hy, r⟩
theorem lookE_head {x : Ex} {t : List Ex} {i : Int} (h1 : x.v ≤ i) (h2 : i < x.v + x.n) : lookE (x :: t) i = some (valAt x i) := by rw [lookE, if_pos ⟨h1, h2⟩]
theorem lookE_before {x : Ex} {t : List Ex} {i : Int} (h : NF (x :: t)) (h1 : i < x.v) : lookE (x :: t) i = none := by
  apply lookE_none
  intro y hy
  cases hy with
  | head => exact h1
  | tail _ hy =>
    have := h.after y hy
    have := h.head
    unfold okE at this
    omega
theorem lookE_tail {x : Ex} {t : List Ex} {i : Int} (h1 : ¬ (x.v ≤ i ∧ i < x.v + x.n)) : lookE (x :: t) i = lookE t i := by rw [lookE, if_neg h1]

theorem valAt_start (x : Ex) : valAt x x.v = x.p := by unfold valAt; split <;> omega

/-- One normal form for one function. -/
theorem NF.ext {l m : List Ex} (hl : NF l) (hm : NF m) (h : ∀ i, lookE l i = lookE m i) : l = m := by
  induction l generalizing m with
  | nil =>
    cases m with
    | nil => rfl
    | cons y t =>
      have h1 := h y.v
      have := hm.head
      rw [lookE_head (Int.le_refl _) (by omega)] at h1
      simp [lookE] at h1
  | cons x t ih =>
    cases m with
    | nil =>
      have h1 := h x.v
      have := hl.head
      rw [lookE_head (Int.le_refl _) (by omega)] at h1
      simp [lookE] at h1
    | cons y u =>
      have ox := hl.head
      have oy := hm.head
      have hx0 := ox
      have hy0 := oy
      have hv : x.v = y.v := by
        rcases Int.lt_trichotomy x.v y.v with h1 | h1 | h1
        · have h2 := h x.v
          rw [lookE_head (Int.le_refl _) (by omega), lookE_before hm h1] at h2
          cases h2
        · exact h1
        · have h2 := h y.v
          rw [lookE_before hl h1, lookE_head (Int.le_refl _) (by omega)] at h2
          cases h2
      have hp : x.p = y.p := by
        have h2 := h x.v
        rw [lookE_head (Int.le_refl _) (by omega), lookE_head (by omega) (by omega), valAt_start, hv, valAt_start] at h2
        exact Option.some.inj h2
      -- the ends
      have key : ∀ {x y : Ex} {t u : List Ex}, NF (x :: t) → NF (y :: u) → (∀ i, lookE (x :: t) i = lookE (y :: u) i) → x.v = y.v → x.p = y.p → ¬ x.n < y.n := by
        intro x y t u hl hm h hv hp hn
        have ox := hl.head
        have oy := hm.head
        have hx0 := ox
        have h2 := h (x.v + x.n)
        rw [lookE_head (x := y) (by omega) (by omega), lookE_tail (by omega)] at h2
        obtain ⟨z, hz, hz1, hz2, hz3⟩ := lookE_some_mem h2
        cases t with
        | nil => cases hz
        | cons z0 t =>
          have a1 := hl.2.1
          have hz0 : z = z0 := by
            cases hz with
            | head => rfl
            | tail _ hz =>
              have := hl.tail.after z hz
              have := hl.tail.head
              omega
          subst hz0
          have hzv : z.v = x.v + x.n := by omega
          apply hl.2.2.1
          refine ⟨hzv.symm, ?_⟩
          rw [← hzv, valAt_start] at hz3
          unfold valAt at hz3
          by_cases hxp : x.p < 0
          · rw [if_pos (by omega)] at hz3
            exact .inl ⟨hxp, by omega⟩
          · rw [if_neg (by omega)] at hz3
            exact .inr ⟨by omega, by omega⟩
      have hn : x.n = y.n := by
        have k1 := key hl hm h hv hp
        have k2 := key hm hl (fun i => (h i).symm) hv.symm hp.symm
        omega
      have hxy : x = y := by
        cases x
        cases y
        simp_all
      subst hxy
      congr 1
      refine ih hl.tail hm.tail fun i => ?_
      by_cases hi : x.v ≤ i ∧ i < x.v + x.n
      · have e1 : ∀ {t : List Ex}, NF (x :: t) → lookE t i = none := by
          intro t ht
          apply lookE_none
          intro z hz
          have := ht.after z hz
          omega
        rw [e1 hl, e1 hm]
      · have h2 := h i
        rwa [lookE_tail hi, lookE_tail hi] at h2

theorem lookE_append (l m : List Ex) (i : Int) : lookE (l ++ m) i = match lookE l i with | some r => some r | none => lookE m i := by
  induction l with
  | nil => rfl
  | cons x t ih =>
    rw [List.cons_append, lookE, lookE]
    split
    · rfl
    · exact ih

/-- The last one, or none. -/
def lastOk (l : List Ex) (x : Ex) : Prop := ∀ y, l.getLast? = some y → y.v + y.n ≤ x.v ∧ ¬ goesOn y x

theorem NF_snoc {l : List Ex} {x : Ex} : NF (l ++ [x]) ↔ NF l ∧ okE x ∧ lastOk l x := by
  induction l with
  | nil => simp [NF, lastOk]
  | cons y t ih =>
    cases t with
    | nil => simp [NF, lastOk]; intros; constructor <;> intro h <;> simp_all
    | cons z t =>
      have e : lastOk (y :: z :: t) x ↔ lastOk (z :: t) x := by simp [lastOk]
      rw [e]
      have e2 : y :: z :: t ++ [x] = y :: z :: (t ++ [x]) := rfl
      have e3 : z :: t ++ [x] = z :: (t ++ [x]) := rfl
      rw [e3] at ih
      rw [e2]
      simp only [NF, ih]
      constructor <;> intro h <;> simp_all

/-- An extent behind others: it goes on with the last one, or it is a new one. -/
def addE (l : List Ex) (x : Ex) : List Ex :=
  if x.n ≤ 0 then l else
    match l.getLast? with
    | none => [x]
    | some y => if goesOn y x then l.dropLast ++ [⟨y.v, y.p, y.n + x.n⟩] else l ++ [x]

theorem getLast?_split {l : List Ex} {y : Ex} (h : l.getLast? = some y) : l = l.dropLast ++ [y] := by
  have hne : l ≠ [] := by rintro rfl; simp at h
  have h2 := List.dropLast_concat_getLast hne
  rw [List.getLast?_eq_some_getLast hne] at h
  injection h with h
  rw [h] at h2
  exact h2.symm

theorem addE_split {l : List Ex} {y x : Ex} (hx : 0 < x.n) (hg : goesOn y x) : addE (l ++ [y]) x = l ++ [⟨y.v, y.p, y.n + x.n⟩] := by
  unfold addE
  rw [if_neg (by omega)]
  simp [hg]
theorem addE_empty {l : List Ex} {x : Ex} (hx : x.n ≤ 0) : addE l x = l := by unfold addE; rw [if_pos hx]
theorem addE_new {l : List Ex} {x : Ex} (hx : 0 < x.n) (h : ∀ y, l.getLast? = some y → ¬ goesOn y x) : addE l x = l ++ [x] := by
  unfold addE
  rw [if_neg (by omega)]
  cases hl : l.getLast? with
  | none =>
    have : l = [] := List.getLast?_eq_none_iff.1 hl
    simp [this]
  | some y => simp [h y hl]

theorem goesOn_val {y x : Ex} (hg : goesOn y x) (hy : okE y) (i : Int) : valAt ⟨y.v, y.p, y.n + x.n⟩ i = valAt x i := by
  obtain ⟨h1, h2⟩ := hg
  unfold valAt
  dsimp only
  rcases h2 with ⟨a, b⟩ | ⟨a, b⟩
  · rw [if_pos a, if_pos (by omega), b]
  · by_cases hn : x.p < 0
    · exact absurd hy (by unfold okE; omega)
    · rw [if_neg (by omega), if_neg hn]; omega

def endsBy (l : List Ex) (b : Int) : Prop := ∀ x ∈ l, x.v + x.n ≤ b
theorem endsBy.last {l : List Ex} {b : Int} (h : endsBy l b) {y : Ex} (hy : l.getLast? = some y) : y.v + y.n ≤ b := h y (List.mem_of_getLast? hy)
theorem endsBy.mono {l : List Ex} {a b : Int} (h : endsBy l a) (hab : a ≤ b) : endsBy l b := fun x hx => Int.le_trans (h x hx) hab
theorem endsBy_nil (b : Int) : endsBy [] b := fun x hx => by cases hx

/-- What add leaves. -/
theorem addE_spec {l : List Ex} {x : Ex} (hl : NF l) (he : endsBy l x.v) :
    NF (addE l x) ∧ endsBy (addE l x) (max x.v (x.v + x.n)) ∧ ∀ i, lookE (addE l x) i = if x.v ≤ i ∧ i < x.v + x.n then some (valAt x i) else lookE l i := by
  by_cases hx : x.n ≤ 0
  · rw [addE_empty hx]
    refine ⟨hl, he.mono (by omega), fun i => ?_⟩
    rw [if_neg (by omega)]
  have hx : 0 < x.n := by omega
  have okx : okE x := hx
  by_cases hg : ∃ y, l.getLast? = some y ∧ goesOn y x
  · obtain ⟨y, hy, hg⟩ := hg
    obtain ⟨m, rfl⟩ : ∃ m, l = m ++ [y] := ⟨_, getLast?_split hy⟩
    rw [addE_split hx hg]
    obtain ⟨hm, hyo, hlast⟩ := NF_snoc.1 hl
    have hend : y.v + y.n = x.v := hg.1
    refine ⟨NF_snoc.2 ⟨hm, (by unfold okE at *; show 0 < y.n + x.n; omega), fun z hz => ?_⟩, ?_, fun i => ?_⟩
    · obtain ⟨h1, h2⟩ := hlast z hz
      exact ⟨h1, h2⟩
    · intro z hz
      rcases List.mem_append.1 hz with hz | hz
      · have := he z (List.mem_append_left _ hz)
        omega
      · have : z = ⟨y.v, y.p, y.n + x.n⟩ := by simpa using hz
        subst this
        show y.v + (y.n + x.n) ≤ _
        omega
    · rw [lookE_append, lookE_append]
      cases hm' : lookE m i with
      | some r =>
        obtain ⟨z, hz, hz1, hz2, _⟩ := lookE_some_mem hm'
        have := he z (List.mem_append_left _ hz)
        simp only
        rw [if_neg (by omega)]
      | none =>
        simp only [lookE]
        by_cases h1 : x.v ≤ i ∧ i < x.v + x.n
        · rw [if_pos (by unfold okE at *; omega), if_pos h1, goesOn_val hg hyo i]
        · rw [if_neg h1]
          by_cases h2 : y.v ≤ i ∧ i < y.v + y.n
          · rw [if_pos (by omega), if_pos h2]; rfl
          · rw [if_neg (by omega), if_neg h2]
  · have hg' : ∀ y, l.getLast? = some y → ¬ goesOn y x := fun y hy hgo => hg ⟨y, hy, hgo⟩
    rw [addE_new hx hg']
    refine ⟨NF_snoc.2 ⟨hl, okx, fun y hy => ⟨he.last hy, hg' y hy⟩⟩, ?_, fun i => ?_⟩
    · intro z hz
      rcases List.mem_append.1 hz with hz | hz
      · have := he z hz
        omega
      · have : z = x := by simpa using hz
        subst this
        omega
    · rw [lookE_append]
      cases hm' : lookE l i with
      | some r =>
        obtain ⟨z, hz, hz1, hz2, _⟩ := lookE_some_mem hm'
        have := he z hz
        simp only
        rw [if_neg (by omega)]
      | none =>
        simp only [lookE]

end Flag
namespace Flag

/-- Pieces one behind the other; empty ones count for nothing. -/
def Rising : List Ex → Prop
  | [] => True
  | x :: t => (0 < x.n → ∀ y ∈ t, 0 < y.n → x.v + x.n ≤ y.v) ∧ Rising t

def joinE (l : List Ex) : List Ex := l.foldl addE []

theorem lookE_skip {x : Ex} (h : x.n ≤ 0) (t : List Ex) (i : Int) : lookE (x :: t) i = lookE t i := by rw [lookE, if_neg (by omega)]

theorem fold_spec {ps : List Ex} : ∀ {acc : List Ex} {b : Int}, NF acc → endsBy acc b → Rising ps → (∀ y ∈ ps, 0 < y.n → b ≤ y.v) →
    NF (ps.foldl addE acc) ∧ ∀ i, lookE (ps.foldl addE acc) i = match lookE acc i with | some r => some r | none => lookE ps i := by
  induction ps with
  | nil =>
    intro acc b ha _ _ _
    refine ⟨ha, fun i => ?_⟩
    show lookE acc i = _
    cases lookE acc i <;> rfl
  | cons x t ih =>
    intro acc b ha he hr hb
    rw [List.foldl_cons]
    by_cases hx : x.n ≤ 0
    · rw [addE_empty hx]
      obtain ⟨h1, h2⟩ := ih ha he hr.2 (fun y hy => hb y (List.mem_cons_of_mem _ hy))
      refine ⟨h1, fun i => ?_⟩
      rw [h2, lookE_skip hx]
    · have hx : 0 < x.n := by omega
      have hxy := hr.1 hx
      have hbx := hb x List.mem_cons_self hx
      obtain ⟨g1, g2, g3⟩ := addE_spec ha (he.mono hbx)
      obtain ⟨h1, h2⟩ := ih g1 g2 hr.2 (fun y hy hy0 => by have := hxy y hy hy0; omega)
      refine ⟨h1, fun i => ?_⟩
      rw [h2, g3, lookE]
      by_cases hi : x.v ≤ i ∧ i < x.v + x.n
      · rw [if_pos hi, if_pos hi]
        cases hl : lookE acc i with
        | none => rfl
        | some r =>
          obtain ⟨z, hz, h3, h4, _⟩ := lookE_some_mem hl
          have := he z hz
          omega
      · rw [if_neg hi, if_neg hi]

theorem lower (ps : List Ex) : ∃ b, ∀ y ∈ ps, b ≤ y.v := by
  induction ps with
  | nil => exact ⟨0, fun y hy => by cases hy⟩
  | cons x t ih =>
    obtain ⟨b, hb⟩ := ih
    refine ⟨min b x.v, fun y hy => ?_⟩
    cases hy with
    | head => omega
    | tail _ hy => have := hb y hy; omega

theorem joinE_spec {ps : List Ex} (h : Rising ps) : NF (joinE ps) ∧ ∀ i, lookE (joinE ps) i = lookE ps i := by
  obtain ⟨b, hb⟩ := lower ps
  obtain ⟨h1, h2⟩ := fold_spec (ps := ps) (acc := []) (b := b) trivial (endsBy_nil _) h (fun y hy _ => hb y hy)
  exact ⟨h1, fun i => by rw [joinE, h2]; rfl⟩

/-- Sectors of an extent from one on, below another one. -/
def part (x : Ex) (a b : Int) : Ex := ⟨max a x.v, if x.p < 0 then x.p else x.p + (max a x.v - x.v), min b (x.v + x.n) - max a x.v⟩

theorem part_val (x : Ex) (a b i : Int) : valAt (part x a b) i = valAt x i := by
  unfold valAt part
  dsimp only
  by_cases h : x.p < 0
  · rw [if_pos h, if_pos h, if_pos h]
  · rw [if_neg h, if_neg h, if_neg (by omega)]
    omega

theorem lookE_part (l : List Ex) (a b i : Int) : lookE (l.map (part · a b)) i = if a ≤ i ∧ i < b then lookE l i else none := by
  induction l with
  | nil => simp [lookE]
  | cons x t ih =>
    rw [List.map_cons, lookE, lookE, ih, part_val x a b i]
    by_cases h1 : a ≤ i ∧ i < b
    · rw [if_pos h1, if_pos h1]
      by_cases h2 : x.v ≤ i ∧ i < x.v + x.n
      · rw [if_pos h2, if_pos (by dsimp only [part]; omega)]
      · rw [if_neg h2, if_neg (by dsimp only [part]; omega)]
    · rw [if_neg h1, if_neg h1, if_neg (by dsimp only [part]; omega)]

theorem Rising_part {l : List Ex} (h : Rising l) (a b : Int) (hp : ∀ x ∈ l, 0 < x.n) : Rising (l.map (part · a b)) := by
  induction l with
  | nil => trivial
  | cons x t ih =>
    have ih := ih h.2 (fun y hy => hp y (List.mem_cons_of_mem _ hy))
    have hx := hp x List.mem_cons_self
    refine ⟨fun hn y hy hy0 => ?_, ih⟩
    obtain ⟨z, hz, rfl⟩ := List.mem_map.1 hy
    have h1 := h.1 hx z hz (hp z (List.mem_cons_of_mem _ hz))
    dsimp only [part] at hn hy0 ⊢
    omega

theorem NF.rising {l : List Ex} (h : NF l) : Rising l := by
  induction l with
  | nil => trivial
  | cons x t ih => exact ⟨fun _ y hy _ => h.after y hy, ih h.tail⟩

theorem Rising_append {l m : List Ex} (hl : Rising l) (hm : Rising m) (h : ∀ x ∈ l, 0 < x.n → ∀ y ∈ m, 0 < y.n → x.v + x.n ≤ y.v) : Rising (l ++ m) := by
  induction l with
  | nil => exact hm
  | cons x t ih =>
    refine ⟨fun hx y hy hy0 => ?_, ih hl.2 (fun z hz => h z (List.mem_cons_of_mem _ hz))⟩
    rcases List.mem_append.1 hy with hy | hy
    · exact hl.1 hx y hy hy0
    · exact h x List.mem_cons_self hx y hy hy0

/-- Empty pieces count for nothing. -/
theorem joinE_filter (ps : List Ex) : joinE ps = joinE (ps.filter fun x => decide (0 < x.n)) := by
  unfold joinE
  suffices h : ∀ acc : List Ex, ps.foldl addE acc = (ps.filter fun x => decide (0 < x.n)).foldl addE acc from h []
  induction ps with
  | nil => intro acc; rfl
  | cons x t ih =>
    intro acc
    rw [List.foldl_cons, List.filter_cons]
    by_cases hx : 0 < x.n
    · rw [if_pos (by simpa using hx), List.foldl_cons]; exact ih _
    · rw [if_neg (by simpa using hx), addE_empty (by omega)]; exact ih _

/-- A list in normal form stays as it is. -/
theorem joinE_NF {l : List Ex} (h : NF l) : joinE l = l := by
  obtain ⟨h1, h2⟩ := joinE_spec h.rising
  exact NF.ext h1 h h2

/-- What may be told of a map (P5). -/
def okMap (x : Ex) : Prop := 0 < x.n ∧ 0 ≤ x.v ∧ x.v + x.n ≤ 65536 ∧ 0 ≤ x.p ∧ x.p + x.n ≤ 65536
structure Map5 (l : List Ex) : Prop where
  len : l.length ≤ 1024
  ok : ∀ x ∈ l, okMap x
  nf : NF l

/-- Pieces of a map whose sectors from a on, below b, are others. -/
def put3 (l : List Ex) (a b : Int) (by_ : List Ex) : List Ex := l.map (part · 0 a) ++ (by_ ++ l.map (part · b 65536))

theorem put3_spec {l : List Ex} {by_ : List Ex} {a b : Int} (hl : Map5 l) (hab : a ≤ b) (hby : Rising by_) (hin : ∀ x ∈ by_, a ≤ x.v ∧ x.v + x.n ≤ b) :
    NF (joinE (put3 l a b by_)) ∧ ∀ i, lookE (joinE (put3 l a b by_)) i = if a ≤ i ∧ i < b then lookE by_ i else lookE l i := by
  have hnp : ∀ x ∈ l, 0 < x.n := fun x hx => (hl.ok x hx).1
  have hr : Rising (put3 l a b by_) := by
    refine Rising_append (Rising_part hl.nf.rising 0 a hnp) (Rising_append hby (Rising_part hl.nf.rising b 65536 hnp) ?_) ?_
    · intro x hx _ y hy _
      obtain ⟨z, hz, rfl⟩ := List.mem_map.1 hy
      have := (hin x hx).2
      dsimp only [part]
      omega
    · intro x hx hx0 y hy hy0
      obtain ⟨z, hz, rfl⟩ := List.mem_map.1 hx
      rcases List.mem_append.1 hy with hy | hy
      · have := (hin y hy).1
        dsimp only [part] at hx0 ⊢
        omega
      · obtain ⟨u, hu, rfl⟩ := List.mem_map.1 hy
        dsimp only [part] at hx0 hy0 ⊢
        omega
  obtain ⟨h1, h2⟩ := joinE_spec hr
  refine ⟨h1, fun i => ?_⟩
  rw [h2, put3, lookE_append, lookE_append, lookE_part l 0 a i, lookE_part l b 65536 i]
  have hout : ∀ r, lookE by_ i = some r → a ≤ i ∧ i < b := by
    intro r hr
    obtain ⟨x, hx, h3, h4, _⟩ := lookE_some_mem hr
    have := hin x hx
    omega
  have hl65 : ∀ r, lookE l i = some r → 0 ≤ i ∧ i < 65536 := by
    intro r hr
    obtain ⟨x, hx, h3, h4, _⟩ := lookE_some_mem hr
    obtain ⟨_, h5, h6, _⟩ := hl.ok x hx
    omega
  by_cases hi : a ≤ i ∧ i < b
  · rw [if_neg (by omega), if_pos hi, if_neg (by omega)]
    cases lookE by_ i <;> rfl
  · rw [if_neg hi]
    have hby0 : lookE by_ i = none := by
      cases hc : lookE by_ i with
      | none => rfl
      | some r => exact absurd (hout r hc) hi
    rw [hby0]
    cases hc : lookE l i with
    | none => simp
    | some r =>
      have := hl65 r hc
      by_cases h3 : i < a
      · rw [if_pos (by omega)]
      · rw [if_neg (by omega), if_pos (by omega)]

end Flag
namespace Flag

/-- What some sectors are, piece by piece: holes are told. -/
def looks : List Ex → Int → Int → List Ex
  | [], at_, e => [⟨at_, -1, e - at_⟩]
  | x :: t, at_, e => if (part x at_ e).n ≤ 0 then looks t at_ e else ⟨at_, -1, (part x at_ e).v - at_⟩ :: part x at_ e :: looks t ((part x at_ e).v + (part x at_ e).n) e

theorem looks_from (l : List Ex) : ∀ (at_ e : Int), ∀ y ∈ looks l at_ e, at_ ≤ y.v := by
  induction l with
  | nil =>
    intro at_ e y hy
    have : y = ⟨at_, -1, e - at_⟩ := by simpa [looks] using hy
    rw [this]
    exact Int.le_refl _
  | cons x t ih =>
    intro at_ e y hy
    rw [looks] at hy
    split at hy
    · exact ih at_ e y hy
    · rename_i hn
      rcases List.mem_cons.1 hy with rfl | hy
      · exact Int.le_refl _
      · rcases List.mem_cons.1 hy with rfl | hy
        · dsimp only [part]
          omega
        · have := ih _ e y hy
          dsimp only [part] at this hn
          omega

theorem looks_rising (l : List Ex) : ∀ (at_ e : Int), Rising (looks l at_ e) := by
  induction l with
  | nil =>
    intro at_ e
    exact ⟨fun _ y hy => (by cases hy), trivial⟩
  | cons x t ih =>
    intro at_ e
    rw [looks]
    split
    · exact ih at_ e
    · rename_i hn
      refine ⟨fun _ y hy _ => ?_, fun _ y hy _ => ?_, ih _ e⟩
      · rcases List.mem_cons.1 hy with rfl | hy
        · dsimp only
          omega
        · have := looks_from t _ e y hy
          dsimp only [part] at this hn ⊢
          omega
      · exact looks_from t _ e y hy

theorem looks_look (l : List Ex) : ∀ (at_ e i : Int), Rising l → (∀ x ∈ l, 0 < x.n) →
    lookE (looks l at_ e) i = if at_ ≤ i ∧ i < e then some ((lookE l i).getD (-1)) else none := by
  induction l with
  | nil =>
    intro at_ e i _ _
    simp only [looks, lookE]
    by_cases h : at_ ≤ i ∧ i < e
    · rw [if_pos (by omega), if_pos h]
      rfl
    · rw [if_neg (by omega), if_neg h]
  | cons x t ih =>
    intro at_ e i hr hp
    have hr2 := hr.2
    have hp2 : ∀ y ∈ t, 0 < y.n := fun y hy => hp y (List.mem_cons_of_mem _ hy)
    have hx := hp x List.mem_cons_self
    have hxt := hr.1 hx
    rw [looks]
    split
    · rename_i hn
      rw [ih at_ e i hr2 hp2]
      by_cases h : at_ ≤ i ∧ i < e
      · rw [if_pos h, if_pos h, lookE, if_neg]
        dsimp only [part] at hn
        omega
      · rw [if_neg h, if_neg h]
    · rename_i hn
      rw [lookE, lookE, ih _ e i hr2 hp2, part_val]
      by_cases h : at_ ≤ i ∧ i < e
      · rw [if_pos h]
        by_cases h1 : i < (part x at_ e).v
        · have hl : lookE (x :: t) i = none := by
            apply lookE_none
            intro y hy
            rcases List.mem_cons.1 hy with rfl | hy
            · dsimp only [part] at h1
              omega
            · have := hxt y hy (hp2 y hy)
              dsimp only [part] at h1
              omega
          rw [if_pos (by dsimp only; omega), hl]
          simp [valAt]
        · rw [if_neg (by dsimp only; omega)]
          by_cases h2 : i < (part x at_ e).v + (part x at_ e).n
          · rw [if_pos (by omega), lookE, if_pos (by dsimp only [part] at h1 h2; omega)]
            rfl
          · rw [if_neg (by omega), if_pos (by omega), lookE, if_neg (by dsimp only [part] at h1 h2; omega)]
      · rw [if_neg h, if_neg (by dsimp only [part] at hn ⊢; omega), if_neg (by dsimp only [part] at hn ⊢; omega), if_neg (by dsimp only [part] at hn ⊢; omega)]

theorem lookM_spec {l : List Ex} (h : NF l) (at_ e : Int) : NF (joinE (looks l at_ e)) ∧ ∀ i, lookE (joinE (looks l at_ e)) i = if at_ ≤ i ∧ i < e then some ((lookE l i).getD (-1)) else none := by
  obtain ⟨h1, h2⟩ := joinE_spec (looks_rising l at_ e)
  exact ⟨h1, fun i => by rw [h2, looks_look l at_ e i h.rising h.all]⟩

/-- What stands in a span of sectors stands somewhere else: the pieces of one extent. -/
def moved (y : Ex) (a n tgt : Int) : List Ex :=
  [part y y.v (a + (y.v - y.p)), ⟨(part y (a + (y.v - y.p)) (a + n + (y.v - y.p))).v, (part y (a + (y.v - y.p)) (a + n + (y.v - y.p))).p + (tgt - a), (part y (a + (y.v - y.p)) (a + n + (y.v - y.p))).n⟩, part y (a + n + (y.v - y.p)) (y.v + y.n)]
def moveE (l : List Ex) (a n tgt : Int) : List Ex := l.flatMap fun y => moved y a n tgt

theorem moved_look {y : Ex} {a n tgt : Int} (hp : 0 ≤ y.p) (ht : 0 ≤ tgt) (t : List Ex) (i : Int) :
    lookE (moved y a n tgt ++ t) i = if y.v ≤ i ∧ i < y.v + y.n then some (if a ≤ valAt y i ∧ valAt y i < a + n then valAt y i - a + tgt else valAt y i) else lookE t i := by
  have hv : valAt y i = y.p + (i - y.v) := by unfold valAt; rw [if_neg (by omega)]
  simp only [moved, List.cons_append, List.nil_append, lookE, part_val]
  rw [hv]
  by_cases h : y.v ≤ i ∧ i < y.v + y.n
  · rw [if_pos h]
    by_cases h1 : i < a + (y.v - y.p)
    · rw [if_pos (by dsimp only [part]; omega), if_neg (by omega)]
    · rw [if_neg (by dsimp only [part]; omega)]
      by_cases h2 : i < a + n + (y.v - y.p)
      · rw [if_pos (by dsimp only [part]; omega), if_pos (by omega)]
        dsimp only [valAt, part]
        rw [if_neg (show ¬ y.p < 0 by omega), if_neg (by omega)]
        congr 1
        omega
      · rw [if_neg (by dsimp only [part]; omega), if_pos (by dsimp only [part]; omega), if_neg (by omega)]
  · rw [if_neg h, if_neg (by dsimp only [part]; omega), if_neg (by dsimp only [part]; omega), if_neg (by dsimp only [part]; omega)]

theorem moveE_look {l : List Ex} {a n tgt : Int} (hp : ∀ y ∈ l, 0 ≤ y.p) (ht : 0 ≤ tgt) (i : Int) :
    lookE (moveE l a n tgt) i = (lookE l i).map fun r => if a ≤ r ∧ r < a + n then r - a + tgt else r := by
  induction l with
  | nil => rfl
  | cons y t ih =>
    have e : moveE (y :: t) a n tgt = moved y a n tgt ++ moveE t a n tgt := by simp [moveE]
    rw [e, moved_look (hp y List.mem_cons_self) ht, ih (fun z hz => hp z (List.mem_cons_of_mem _ hz)), lookE]
    by_cases h : y.v ≤ i ∧ i < y.v + y.n
    · rw [if_pos h, if_pos h]
      rfl
    · rw [if_neg h, if_neg h]

theorem moved_in {y : Ex} {a n tgt : Int} : ∀ z ∈ moved y a n tgt, 0 < z.n → y.v ≤ z.v ∧ z.v + z.n ≤ y.v + y.n := by
  intro z hz hz0
  simp only [moved, List.mem_cons, List.not_mem_nil, or_false] at hz
  rcases hz with rfl | rfl | rfl <;> dsimp only [part] at hz0 ⊢ <;> omega

theorem moveE_rising {l : List Ex} (h : Rising l) (h0 : ∀ y ∈ l, 0 < y.n) (a n tgt : Int) (hn : 0 ≤ n) : Rising (moveE l a n tgt) := by
  induction l with
  | nil => trivial
  | cons y t ih =>
    have e : moveE (y :: t) a n tgt = moved y a n tgt ++ moveE t a n tgt := by simp [moveE]
    rw [e]
    refine Rising_append ?_ (ih h.2 fun z hz => h0 z (List.mem_cons_of_mem _ hz)) ?_
    · refine ⟨fun h1 z hz hz0 => ?_, fun h1 z hz hz0 => ?_, fun h1 z hz => (by cases hz), trivial⟩
      · simp only [List.mem_cons, List.not_mem_nil, or_false] at hz
        rcases hz with rfl | rfl <;> dsimp only [part] at h1 hz0 ⊢ <;> omega
      · simp only [List.mem_cons, List.not_mem_nil, or_false] at hz
        rcases hz with rfl
        dsimp only [part] at h1 hz0 ⊢
        omega
    · intro x hx hx0 z hz hz0
      have h1 := (moved_in x hx hx0).2
      simp only [moveE, List.mem_flatMap] at hz
      obtain ⟨u, hu, hzu⟩ := hz
      have h2 := (moved_in z hzu hz0).1
      have h3 := h.1 (h0 y List.mem_cons_self) u hu (h0 u (List.mem_cons_of_mem _ hu))
      omega

theorem moveM_spec {l : List Ex} (h : NF l) (hp : ∀ y ∈ l, 0 ≤ y.p) {a n tgt : Int} (hn : 0 ≤ n) (ht : 0 ≤ tgt) :
    NF (joinE (moveE l a n tgt)) ∧ ∀ i, lookE (joinE (moveE l a n tgt)) i = (lookE l i).map fun r => if a ≤ r ∧ r < a + n then r - a + tgt else r := by
  obtain ⟨h1, h2⟩ := joinE_spec (moveE_rising h.rising h.all a n tgt hn)
  exact ⟨h1, fun i => by rw [h2, moveE_look hp ht]⟩

end Flag
namespace Flag

theorem lookE_mem {l : List Ex} (h : NF l) {z : Ex} (hz : z ∈ l) {i : Int} (h1 : z.v ≤ i) (h2 : i < z.v + z.n) : lookE l i = some (valAt z i) := by
  induction l with
  | nil => cases hz
  | cons x t ih =>
    rcases List.mem_cons.1 hz with rfl | hz
    · exact lookE_head h1 h2
    · have h3 := h.after z hz
      rw [lookE_tail (by omega)]
      exact ih h.tail hz

/-- Of a list in normal form what each sector is says whether it may be a map. -/
theorem okMap_of {m : List Ex} (h : NF m) (hr : ∀ i r, lookE m i = some r → 0 ≤ i ∧ i < 65536 ∧ 0 ≤ r ∧ r < 65536) : ∀ z ∈ m, okMap z := by
  intro z hz
  have h0 := h.all z hz
  have a := hr z.v _ (lookE_mem h hz (Int.le_refl _) (by omega))
  have b := hr (z.v + z.n - 1) _ (lookE_mem h hz (by omega) (by omega))
  rw [valAt_start] at a
  unfold valAt at b
  rw [if_neg (by omega)] at b
  exact ⟨h0, by omega, by omega, by omega, by omega⟩

theorem okMap_look {l : List Ex} (h : ∀ x ∈ l, okMap x) {i r : Int} (hl : lookE l i = some r) : 0 ≤ i ∧ i < 65536 ∧ 0 ≤ r ∧ r < 65536 := by
  obtain ⟨x, hx, h1, h2, rfl⟩ := lookE_some_mem hl
  obtain ⟨a, b, c, d, e⟩ := h x hx
  unfold valAt
  rw [if_neg (by omega)]
  omega

/-- May extents be a map? -/
def mayE (x : Ex) : Bool := decide (0 < x.n) && (decide (0 ≤ x.v) && decide (x.v + x.n ≤ 65536)) && (decide (0 ≤ x.p) && decide (x.p + x.n ≤ 65536))
theorem mayE_iff {x : Ex} : mayE x = true ↔ okMap x := by simp [mayE, okMap, and_assoc]

/-- Behind an extent that may be: the rest of a map. -/
def restB : Ex → List Ex → Bool
  | _, [] => true
  | x, y :: t => mayE y && decide (x.v + x.n ≤ y.v) && !decide (goesOn x y) && restB y t
def mapB : List Ex → Bool
  | [] => true
  | x :: t => mayE x && restB x t
theorem restB_iff {x : Ex} {t : List Ex} (hx : okMap x) : restB x t = true ↔ (∀ y ∈ t, okMap y) ∧ NF (x :: t) := by
  induction t generalizing x with
  | nil => simp [restB, NF, okE, hx.1]
  | cons y t ih =>
    simp only [restB, Bool.and_eq_true, Bool.not_eq_true', decide_eq_true_eq, decide_eq_false_iff_not, mayE_iff, NF]
    constructor
    · rintro ⟨⟨⟨h1, h2⟩, h3⟩, h4⟩
      obtain ⟨h5, h6⟩ := (ih h1).1 h4
      refine ⟨fun z hz => ?_, hx.1, h2, h3, h6⟩
      rcases List.mem_cons.1 hz with rfl | hz
      · exact h1
      · exact h5 z hz
    · rintro ⟨h1, _, h2, h3, h4⟩
      have hy := h1 y List.mem_cons_self
      exact ⟨⟨⟨hy, h2⟩, h3⟩, (ih hy).2 ⟨fun z hz => h1 z (List.mem_cons_of_mem _ hz), h4⟩⟩
theorem mapB_iff {l : List Ex} : mapB l = true ↔ (∀ y ∈ l, okMap y) ∧ NF l := by
  cases l with
  | nil => simp [mapB, NF]
  | cons x t =>
    simp only [mapB, Bool.and_eq_true, mayE_iff]
    constructor
    · rintro ⟨h1, h2⟩
      obtain ⟨h3, h4⟩ := (restB_iff h1).1 h2
      refine ⟨fun z hz => ?_, h4⟩
      rcases List.mem_cons.1 hz with rfl | hz
      · exact h1
      · exact h3 z hz
    · rintro ⟨h1, h2⟩
      have hx := h1 x List.mem_cons_self
      exact ⟨hx, (restB_iff hx).2 ⟨fun z hz => h1 z (List.mem_cons_of_mem _ hz), h2⟩⟩
/-- P5.1: Check. -/
def checkE (l : List Ex) : Int := if l.length ≤ 1024 ∧ mapB l = true then 0 else 9
theorem checkE_ok {l : List Ex} : checkE l = 0 ↔ Map5 l := by
  unfold checkE
  split
  · rename_i h
    exact ⟨fun _ => ⟨h.1, (mapB_iff.1 h.2).1, (mapB_iff.1 h.2).2⟩, fun _ => rfl⟩
  · rename_i h
    refine ⟨fun h1 => by simp at h1, fun h1 => absurd ⟨h1.len, mapB_iff.2 ⟨h1.ok, h1.nf⟩⟩ h⟩
theorem checkE_or (l : List Ex) : checkE l = 0 ∨ checkE l = 9 := by unfold checkE; split <;> simp

end Flag

end Go.Proofs.Ytkkfkdncddbaeaa.Fn
