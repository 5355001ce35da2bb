-- Told by hand; its numbers filled in by a program of this session.
import Derived.Test.YtkkfkdncddbaeaaFnBase
import Derived.Test.YtkkfkdncddbaeaaHNums
import Derived.Test.YtkkfkdncddbaeaaHPureJ
import Derived.Test.YtkkfkdncddbaeaaHSortSpan
import Derived.Test.YtkkfkdncddbaeaaFn101
import Derived.Deep.RegionLaw
import Derived.StillTailTactics
import Derived.IntWalk
namespace Go.Proofs.Ytkkfkdncddbaeaa.Fn
open Go.RowKit Go.Proofs.YtkkfkdncddbaeaaW.PrintWords Go.Proofs.YtkkfkdncddbaeaaW.PrintLast Go.Proofs.YtkkfkdncddbaeaaW.PrintMore
attribute [local go_sem] max2_int min2_int max_two min_two max_three min_three max_four min_four   -- for this text's walks alone
set_option linter.unusedVariables false
set_option linter.unusedSimpArgs false

/-! Spans joined. -/
def toP (x : S40) : Flag.Sp := ⟨x.f0, x.f1⟩
def ofP (x : Flag.Sp) : S40 := ⟨x.a, x.n⟩
theorem ofP_toP (x : S40) : ofP (toP x) = x := rfl
theorem map_ofP (l : List S40) : (l.map toP).map ofP = l := by
  induction l with
  | nil => rfl
  | cons x t ih => rw [List.map_cons, List.map_cons, ih]; rfl
/-- A span far from the ends of Go's whole numbers. -/
structure OkSp (x : S40) : Prop where
  a : 0 ≤ x.f0
  n : 0 < x.f1
  e : x.f0 + x.f1 ≤ 1099511627776
instance okSp_dec (x : S40) : Decidable (OkSp x) := decidable_of_iff (0 ≤ x.f0 ∧ 0 < x.f1 ∧ x.f0 + x.f1 ≤ 1099511627776) ⟨fun h => ⟨h.1, h.2.1, h.2.2⟩, fun h => ⟨h.a, h.n, h.e⟩⟩
/-- One span more, as Go reckons. -/
def joinG (o : List S40) (x : S40) : List S40 :=
  if 0 < o.length ∧ x.f0 ≤ wrap64 ((rd_T40 o (o.length - 1)).f0 + (rd_T40 o (o.length - 1)).f1) then
    o.set ((o.length : Int) - 1).toNat ⟨(rd_T40 o (o.length - 1)).f0, mx (rd_T40 o (o.length - 1)).f1 (wrap64 (wrap64 (x.f0 + x.f1) - (rd_T40 o (o.length - 1)).f0))⟩
  else o ++ [x]
theorem joinG_length (o : List S40) (x : S40) : (joinG o x).length ≤ o.length + 1 := by
  unfold joinG
  split
  · rw [List.length_set]; omega
  · simp
theorem joinFold_length (l : List S40) : ∀ o : List S40, (l.foldl joinG o).length ≤ o.length + l.length := by
  induction l with
  | nil => intro o; simp
  | cons x t ih =>
    intro o
    have h1 := ih (joinG o x)
    have h2 := joinG_length o x
    simp only [List.foldl_cons, List.length_cons]
    omega
theorem joinG_toP {o : List S40} {x : S40} (ho : ∀ y ∈ o, OkSp y) (hx : OkSp x) : (joinG o x).map toP = Flag.joinStep (o.map toP) (toP x) ∧ ∀ y ∈ joinG o x, OkSp y := by
  obtain ⟨x1, x2, x3⟩ := hx
  unfold joinG
  rcases List.eq_nil_or_concat o with rfl | ⟨m, y, rfl⟩
  · rw [if_neg (by simp)]
    refine ⟨rfl, fun z hz => ?_⟩
    have : z = x := by simpa using hz
    rw [this]; exact ⟨x1, x2, x3⟩
  · rw [List.concat_eq_append] at ho ⊢
    have hr : rd_T40 (m ++ [y]) (((m ++ [y]).length : Int) - 1) = y := by simp [rd_T40]
    obtain ⟨y1, y2, y3⟩ := ho y (by simp)
    rw [hr, w64 (n := y.f0 + y.f1) (by omega), w64 (n := x.f0 + x.f1) (by omega), w64 (n := x.f0 + x.f1 - y.f0) (by omega), mx_max]
    have hl : (m ++ [y]).map toP = m.map toP ++ [toP y] := by simp
    have hj : Flag.joinStep (m.map toP ++ [toP y]) (toP x) = if x.f0 ≤ y.f0 + y.f1 then m.map toP ++ [⟨y.f0, max y.f1 (x.f0 + x.f1 - y.f0)⟩] else m.map toP ++ [toP y] ++ [toP x] := by
      unfold Flag.joinStep
      simp only [List.getLast?_append, List.getLast?_singleton, Option.some_or, List.dropLast_concat]
      rfl
    rw [hl, hj]
    by_cases hc : x.f0 ≤ y.f0 + y.f1
    · rw [if_pos ⟨by simp, hc⟩, if_pos hc]
      have e : (((m ++ [y]).length : Int) - 1).toNat = m.length := by simp
      rw [e]
      have e2 : (m ++ [y]).set m.length (⟨y.f0, max y.f1 (x.f0 + x.f1 - y.f0)⟩ : S40) = m ++ [⟨y.f0, max y.f1 (x.f0 + x.f1 - y.f0)⟩] := by simp
      rw [e2]
      refine ⟨by simp [toP], fun z hz => ?_⟩
      rcases List.mem_append.1 hz with hz | hz
      · exact ho z (List.mem_append_left _ hz)
      · have : z = ⟨y.f0, max y.f1 (x.f0 + x.f1 - y.f0)⟩ := by simpa using hz
        rw [this]
        exact ⟨y1, show 0 < max y.f1 (x.f0 + x.f1 - y.f0) by omega, show y.f0 + max y.f1 (x.f0 + x.f1 - y.f0) ≤ _ by omega⟩
    · rw [if_neg (fun h => hc h.2), if_neg hc]
      refine ⟨by simp, fun z hz => ?_⟩
      rcases List.mem_append.1 hz with hz | hz
      · exact ho z hz
      · have : z = x := by simpa using hz
        rw [this]; exact ⟨x1, x2, x3⟩
theorem joinFold_toP (l : List S40) : ∀ o : List S40, (∀ y ∈ o, OkSp y) → (∀ x ∈ l, OkSp x) → (l.foldl joinG o).map toP = (l.map toP).foldl Flag.joinStep (o.map toP) ∧ ∀ y ∈ l.foldl joinG o, OkSp y := by
  induction l with
  | nil => intro o ho _; exact ⟨rfl, ho⟩
  | cons x t ih =>
    intro o ho hl
    obtain ⟨h1, h2⟩ := joinG_toP ho (hl x List.mem_cons_self)
    obtain ⟨h3, h4⟩ := ih _ h2 (fun y hy => hl y (List.mem_cons_of_mem _ hy))
    refine ⟨?_, h4⟩
    rw [List.foldl_cons, h3, h1]
    rfl
/-- Spans in order. -/
def sortL (l : List S40) : List S40 := l.mergeSort fun a b => decide (a.f0 ≤ b.f0)
theorem sortL_perm (l : List S40) : (sortL l).Perm l := List.mergeSort_perm l _
theorem sortL_sorted (l : List S40) : (sortL l).Pairwise fun a b => a.f0 ≤ b.f0 := by
  have h := List.pairwise_mergeSort (le := fun a b : S40 => decide (a.f0 ≤ b.f0)) (fun a b c h1 h2 => by simp at *; omega) (fun a b => by simp; omega) l
  exact h.imp (fun {a b} h => by simpa using h)
def joinL (l : List S40) : List S40 := (sortL l).foldl joinG []
theorem joinL_toP {l : List S40} (h : ∀ x ∈ l, OkSp x) : (joinL l).map toP = Flag.joinS ((sortL l).map toP) :=
  (joinFold_toP (sortL l) [] (fun y hy => by cases hy) (fun x hx => h x ((sortL_perm l).mem_iff.1 hx))).1
theorem rising_toP {l : List S40} (h : l.Pairwise fun a b => a.f0 ≤ b.f0) : Flag.risingS (l.map toP) := List.pairwise_map.2 h
/-- Whatever order the ties came in: one answer. -/
theorem joinL_of {l ys : List S40} (h : ∀ x ∈ l, OkSp x) (hp : ys.Perm l) (hs : ys.Pairwise fun a b => a.f0 ≤ b.f0) : ys.foldl joinG [] = joinL l := by
  have hy : ∀ x ∈ ys, OkSp x := fun x hx => h x (hp.mem_iff.1 hx)
  have h1 := (joinFold_toP ys [] (fun y hy => by cases hy) hy).1
  have h2 := joinL_toP h
  have h3 : Flag.joinS (ys.map toP) = Flag.joinS ((sortL l).map toP) :=
    Flag.joinS_perm ((hp.trans (sortL_perm l).symm).map toP) (rising_toP hs) (rising_toP (sortL_sorted l)) (fun x hx => by
      obtain ⟨z, hz, rfl⟩ := List.mem_map.1 hx
      exact (hy z hz).n)
  have h4 : (ys.foldl joinG []).map toP = (joinL l).map toP := by rw [h1, h2]; exact h3
  rw [← map_ofP (ys.foldl joinG []), h4, map_ofP]
def extent_Join.f (l0 : List (S40)) : Option (List (S40)) := if l0.length < 1099511627776 ∧ ∀ x ∈ l0, OkSp x then some (joinL l0) else none
set_option maxHeartbeats 4000000 in
set_option maxRecDepth 100000 in
theorem extent_Join.calls (A0 : Option Addr) (c0 : Nat) (l0 : List (S40)) (r : List (S40)) (w : World) (hr0 : Kd.C k40 w A0 l0.length l0) (hc0 : l0.length ≤ c0) (h : extent_Join.f l0 = some r) :
    Calls Try.prog 111 #[.slice A0 l0.length c0] w fun e w' => ∃ v0_ : Value, e = .returned (v0_) ∧ Kd.R k40 40 w' w.heap.size (fun _ => True) v0_ r ∧ Below w.heap.size w w' := by
  have hu40 := Try.underlying40
  unfold extent_Join.f at h
  split at h
  · rename_i hl
    obtain rfl := Option.some.inj h
    have hcl : api_Span_101.f l0 = some l0 := by unfold api_Span_101.f; rw [if_pos (by omega)]
    have HR0 := Aside0.mk hr0
    have HC0 := Aside0.mk hc0
    have HL := Aside0.mk hl
    clear hr0 hc0 hl h
    go_enter Try.func111, Try.ntmps111
    go_wp2_with fail
    refine (api_Span_101.calls A0 c0 l0 _ w HR0.out HC0.out hcl).mono ?_
    rintro e w1 ⟨v1, rfl, hR1, hb1⟩
    have HR1 := Aside0.mk hR1
    have HB1 := Aside0.mk hb1
    obtain ⟨A1, c1, rfl⟩ := Kd.R_slice hR1
    clear hR1 hb1 hcl
    go_wp2_with fail
    refine (sort_span 143 (enters_of Try.func143 (by kernel_rfl) rfl) join_cmp HR1.out HB1.out HB1.out.size (by have := HL.out.1; omega)).mono ?_
    rintro e w2 ⟨rfl, ys, hperm, hsort, hR2, hb2, hs2, hk2⟩
    have hlen : ys.length = l0.length := hperm.length_eq
    have hres : ys.foldl joinG [] = joinL l0 := joinL_of HL.out.2 hperm hsort
    have hysz : ys.length < 1099511627776 := by have := HL.out.1; omega
    rw [← hlen] at hR2
    have HR2 := Aside0.mk hR2
    have HB2 := Aside0.mk hb2
    have HRES := Aside0.mk hres
    rw [← hlen]
    clear hperm hsort hR2 hb2 hs2 hk2 hres HR1 hlen
    go_wp2_with fail
    go_loopg [3, 13] ys.length (fun gk v3 v13 W => ∃ i : Int, v13 = .int .i64 i ∧ Aside0 (0 ≤ i ∧ i + gk = ys.length) ∧ Aside0 (Kd.R k40 40 W w.heap.size (fun k => some k ≠ (Value.slice A1 ys.length c1).ownBlock) v3 ((ys.take i.toNat).foldl joinG [])) ∧ Aside0 (Below w.heap.size w W ∧ w2.heap.size ≤ W.heap.size ∧ ∀ k, (Value.slice A1 ys.length c1).ownBlock = some k → W.heap[k]? = w2.heap[k]?))
    case atStart => exact ⟨0, rfl, ⟨Int.le_refl _, by simp⟩, ⟨by simpa using Kd.R_nil _ _ _ _ _⟩, ⟨HB2.out, Nat.le_refl _, fun _ _ => rfl⟩⟩
    case round =>
      obtain ⟨i, rfl, HI, HO, HS⟩ := hrel
      obtain ⟨o, ho⟩ : ∃ o, o = (ys.take i.toNat).foldl joinG [] := ⟨_, rfl⟩
      have hol : o.length ≤ ys.length := by
        have h1 := joinFold_length (ys.take i.toNat) []
        rw [← ho] at h1
        have h2 : (ys.take i.toNat).length ≤ ys.length := by rw [List.length_take]; omega
        simp only [List.length_nil] at h1
        omega
      rw [← ho] at HO
      have HOL := Aside0.mk hol
      have HOO := Aside0.mk ho
      clear ho hol
      cases gk with
      | zero =>
        have hi : i = ys.length := by have := HI.out.2; omega
        have hd : decide (i < (ys.length : Int)) = false := decide_eq_false (by omega)
        have hor : o = joinL l0 := by rw [← HRES.out, HOO.out, hi, Int.toNat_natCast, List.take_length]
        have HOR := Aside0.mk hor
        clear hi hor
        go_wp2
        go_ret
        refine ⟨_, rfl, ?_, HS.out.1⟩
        rw [← HOR.out]
        exact Kd.R_mono HO.out (fun _ _ => trivial)
      | succ k1 =>
        have hp0 : 0 ≤ i := HI.out.1
        have hp1 : i < (ys.length : Int) := by have := HI.out.2; omega
        have hd : decide (i < (ys.length : Int)) = true := decide_eq_true hp1
        have hC : Kd.C k40 wr A1 ys.length ys := by
          rcases R_lies flatSpan HR2.out with ⟨h1, h2⟩ | ⟨g, cap, h1, h2, h3, h4⟩
          · rw [h2] at hp1; simp at hp1; omega
          · injection h1 with h5 _ h6
            subst h5 h6
            have h7 := R_of_lies (base := w.heap.size) (ok := fun _ => True) flatSpan h2 trivial (h4.far (HS.out.2.2 g rfl))
            exact (Kd.R_reads' h7).2.2
        obtain ⟨ad, e3, g0, g1⟩ := at_T40 hC i hp0 hp1
        cases e3
        obtain ⟨x, hx⟩ : ∃ x, x = rd_T40 ys i := ⟨_, rfl⟩
        rw [← hx] at g0 g1
        have hst : (ys.take (i + 1).toNat).foldl joinG [] = joinG o x := by
          have h3 : (i + 1).toNat = i.toNat + 1 := by omega
          have h4 : i.toNat < ys.length := by omega
          have h5 : x = ys[i.toNat] := by rw [hx]; unfold rd_T40; rw [List.getD_eq_getElem?_getD, List.getElem?_eq_getElem h4]; rfl
          rw [h3, List.take_succ_eq_append_getElem h4, List.foldl_append, ← h5, HOO.out]
          rfl
        have HST := Aside0.mk hst
        have HP := Aside0.mk (And.intro hp0 hp1)
        obtain ⟨A3, c3, rfl⟩ := Kd.R_slice HO.out
        obtain ⟨j, hj⟩ : ∃ j : Int, j = (o.length : Int) - 1 := ⟨_, rfl⟩
        have hwj : IntKind.i64.wrap ((o.length : Int) - 1) = j := by rw [hj]; exact IntWalk.i64_in _ (by have := HOL.out; omega)
        have hwj2 : wrap64 ((o.length : Int) - 1) = j := by rw [hj]; exact w64 (by have := HOL.out; omega)
        have HJ := Aside0.mk hj
        clear hx hC hst hj
        obtain ⟨W1, hW1⟩ : ∃ W, W = wr.alloc (.cells #[.int .i64 x.f0, .int .i64 x.f1] 40) := ⟨_, rfl⟩
        obtain ⟨bx, hbx⟩ : ∃ b, b = wr.heap.size := ⟨_, rfl⟩
        have hx1 : W1.heap[bx]? = some (.cells #[.int .i64 x.f0, .int .i64 x.f1] 40 (0, 0)) := by rw [hW1, hbx]; exact blk_new wr _
        have hwsz : w.heap.size ≤ wr.heap.size := HS.out.1.size
        have hb1 : Below w.heap.size w W1 := by rw [hW1]; exact HS.out.1.alloc hwsz _
        have hs1 : w2.heap.size ≤ W1.heap.size := by rw [hW1]; exact Nat.le_trans HS.out.2.1 (by simp)
        have ho1 : Kd.R k40 40 W1 w.heap.size (fun k => some k ≠ (Value.slice (some ad) ys.length c1).ownBlock) (.slice A3 o.length c3) o := by rw [hW1]; exact Kd.R_alloc HO.out _
        have hbxo : bx ≥ w.heap.size := by omega
        have hne : ∀ k, some k = (Value.slice (some ad) ys.length c1).ownBlock → k < wr.heap.size := by
          intro k hk
          have h1 := HS.out.2.2 k hk.symm
          have h2 : k < w2.heap.size := Kd.R_lt HR2.out k hk.symm
          have := HS.out.2.1
          omega
        have hk1 : ∀ k, (Value.slice (some ad) ys.length c1).ownBlock = some k → k < W1.heap.size ∧ W1.heap[k]? = w2.heap[k]? := by
          intro k hk
          have h1 := hne k hk.symm
          refine ⟨by rw [hW1]; simp; omega, ?_⟩
          rw [hW1, Below.heap_alloc _ _ _ h1]
          exact HS.out.2.2 k hk
        have HX1 := Aside0.mk hx1
        have HB1' := Aside0.mk hb1
        have HS1 := Aside0.mk hs1
        have HO1 := Aside0.mk ho1
        have HK1 := Aside0.mk hk1
        have HBX := Aside0.mk hbxo
        have q0 : W1.cell? ⟨bx, 0, none⟩ = some (.int .i64 x.f0) := (blk_cell hx1 0).trans rfl
        have q1 : W1.cell? ⟨bx, 1, none⟩ = some (.int .i64 x.f1) := (blk_cell hx1 1).trans rfl
        by_cases hn : 0 < o.length
        · have hdj : decide (0 ≤ j) = true := decide_eq_true (by have := HJ.out; omega)
          have hi0 : 0 ≤ j := by have := HJ.out; omega
          have hi1 : j < (o.length : Int) := by have := HJ.out; omega
          obtain ⟨g, cap, hv, hgb, hgl, cells, hgc⟩ := Kd.R_form ho1 hn
          injection hv with hv1 _ hv2
          subst hv1 hv2
          obtain ⟨ce, hcl, hM, hcc, hfz⟩ := Kd.R_elem ho1 z40 j hi0 hi1
          obtain rfl := k40_openM hM
          have e0 : W1.cell? ⟨g, j.toNat * 2, none⟩ = some (.int .i64 (o.getD j.toNat z40).f0) := hcc 0 _ rfl
          have e1 : W1.cell? ⟨g, j.toNat * 2 + 1, none⟩ = some (.int .i64 (o.getD j.toNat z40).f1) := hcc 1 _ rfl
          obtain ⟨y, hy⟩ : ∃ y, y = o.getD j.toNat z40 := ⟨_, rfl⟩
          rw [← hy] at e0 e1 hM hcc
          have HY := Aside0.mk hy
          have HCC := Aside0.mk hcc
          clear hM hcc hfz hcl hgc hgl hgb hx1 hb1 hs1 ho1 hk1 hne hwsz hbxo
          by_cases hc : x.f0 ≤ wrap64 (y.f0 + y.f1)
          · have hdc : decide (x.f0 ≤ wrap64 (y.f0 + y.f1)) = true := decide_eq_true hc
            have hag : joinG o x = o.set j.toNat ⟨y.f0, mx y.f1 (wrap64 (wrap64 (x.f0 + x.f1) - y.f0))⟩ := by
              have hy2 : y = rd_T40 o ((o.length : Int) - 1) := by rw [hy, HJ.out]; rfl
              unfold joinG
              rw [← hy2, if_pos ⟨hn, hc⟩, HJ.out]
            have HAG := Aside0.mk hag
            clear hag hc hy
            go_wp2_with fail
            rw [← hW1, ← hbx]
            have HW1 := Aside0.mk hW1
            have HBX1 := Aside0.mk hbx
            clear hW1 hbx
            go_quiet (fail)
            obtain ⟨W2, hW2⟩ : ∃ W, W = W1.drewN nq := ⟨_, rfl⟩
            rw [← hW2]
            have HO2 := Aside0.mk (show Kd.R k40 40 W2 w.heap.size (fun k => some k ≠ (Value.slice (some ad) ys.length c1).ownBlock) (.slice (some ⟨g, 0, none⟩) o.length c3) o by rw [hW2]; exact Kd.R_drewN HO1.out nq)
            have HB2' := Aside0.mk (show Below w.heap.size w W2 by rw [hW2]; exact pw_below_drewN HB1'.out nq)
            have HS2 := Aside0.mk (show w2.heap.size ≤ W2.heap.size by rw [hW2]; exact HS1.out)
            have HK2 := Aside0.mk (show ∀ k, (Value.slice (some ad) ys.length c1).ownBlock = some k → k < W2.heap.size ∧ W2.heap[k]? = w2.heap[k]? by rw [hW2]; exact HK1.out)
            have HX2 := Aside0.mk (show W2.heap[bx]? = some (.cells #[.int .i64 x.f0, .int .i64 x.f1] 40 (0, 0)) by rw [hW2]; exact HX1.out)
            have p0 : W2.cell? ⟨bx, 0, none⟩ = some (.int .i64 x.f0) := (blk_cell HX2.out 0).trans rfl
            have p1 : W2.cell? ⟨bx, 1, none⟩ = some (.int .i64 x.f1) := (blk_cell HX2.out 1).trans rfl
            have e0' : W2.cell? ⟨g, j.toNat * 2, none⟩ = some (.int .i64 y.f0) := by rw [hW2]; exact e0
            have e1' : W2.cell? ⟨g, j.toNat * 2 + 1, none⟩ = some (.int .i64 y.f1) := by rw [hW2]; exact e1
            have HCC2 := Aside0.mk (show ∀ (j_1 : Nat) (u : Value), [Value.int IntKind.i64 y.f0, Value.int IntKind.i64 y.f1][j_1]? = some u → W2.cell? ⟨g, j.toNat * 2 + j_1, none⟩ = some u by rw [hW2]; exact HCC.out)
            obtain ⟨s1, hs1⟩ : ∃ s : Int, s = wrap64 (x.f0 + x.f1) := ⟨_, rfl⟩
            have hs1w : IntKind.i64.wrap (x.f0 + x.f1) = s1 := by rw [hs1]; exact IntWalk.i64_left _
            have hs1w2 : wrap64 (x.f0 + x.f1) = s1 := hs1.symm
            obtain ⟨z, hz⟩ : ∃ s : Int, s = wrap64 (s1 - y.f0) := ⟨_, rfl⟩
            have hzw : IntKind.i64.wrap (s1 - y.f0) = z := by rw [hz]; exact IntWalk.i64_left _
            have hzw2 : wrap64 (s1 - y.f0) = z := hz.symm
            obtain ⟨m, hm⟩ : ∃ m : Int, m = mx y.f1 z := ⟨_, rfl⟩
            have hm' : (if y.f1 < z then z else y.f1) = m := hm.symm
            have HMM := Aside0.mk (show mx y.f1 (wrap64 (wrap64 (x.f0 + x.f1) - y.f0)) = m by rw [hs1w2, hzw2, hm])
            clear hW2 q0 q1 e0 e1 hs1 hz hm
            go_wp2_with fail
            go_still_tail 21, (by kernel_rfl)
            change wpList _ _ _ _ _ W2.drew
            refine Kd.R_store k40 (w0 := w) (W := W2.drew) w.heap.size rfl rfl 3 (.tmp 58) (.tmp 56) rfl 40 j 1 o (⟨y.f0, m⟩ : S40) (.int .i64 m) [.int .i64 m] [.int .i64 y.f0, .int .i64 y.f1] (fun k => some k ≠ (Value.slice (some ad) ys.length c1).ownBlock) (fun _ => False) rfl rfl rfl rfl (by kernel_rfl) (by simp [Value.oneCell']) (Kd.R_drew HO2.out) hi0 hi1 rfl (fun j u hu => HCC2.out j u hu) (Nat.le_refl 2) (k40_mkM _ _ _ (⟨y.f0, m⟩ : S40)) (fun _ hk => hk.elim) (below_drew HB2'.out) ?_
            intro w4 hO4 hB4 hG4
            have HO4 := Aside0.mk hO4
            have HB4 := Aside0.mk hB4
            have HG4 := Aside0.mk hG4
            clear hO4 hB4 hG4
            go_wp2
            go_roundg k1
            case measure => omega
            case rel =>
              refine ⟨i + 1, by first | rfl | (simp; done), ⟨by have := HP.out.1; omega, by have := HI.out.2; omega⟩, ⟨?_⟩, ⟨HB4.out, ?_, ?_⟩⟩
              · rw [HST.out, HAG.out, HMM.out]; exact HO4.out
              · exact Nat.le_trans HS2.out HG4.out.size
              · intro k hk
                have h1 := HK2.out k hk
                rw [HG4.out.block k h1.1 (fun e => HO2.out.1 k (by rw [e]; rfl) hk.symm)]
                exact h1.2
          · have hdc : decide (x.f0 ≤ wrap64 (y.f0 + y.f1)) = false := decide_eq_false hc
            have hag : joinG o x = o ++ [x] := by
              have hy2 : y = rd_T40 o ((o.length : Int) - 1) := by rw [hy, HJ.out]; rfl
              unfold joinG
              rw [← hy2, if_neg (fun h => hc h.2)]
            have HAG := Aside0.mk hag
            clear hag hc hy
            go_wp2_with fail
            rw [← hW1, ← hbx]
            have HW1 := Aside0.mk hW1
            have HBX1 := Aside0.mk hbx
            clear hW1 hbx
            go_quiet (fail)
            obtain ⟨W2, hW2⟩ : ∃ W, W = W1.drewN nq := ⟨_, rfl⟩
            rw [← hW2]
            have HO2 := Aside0.mk (show Kd.R k40 40 W2 w.heap.size (fun k => some k ≠ (Value.slice (some ad) ys.length c1).ownBlock) (.slice (some ⟨g, 0, none⟩) o.length c3) o by rw [hW2]; exact Kd.R_drewN HO1.out nq)
            have HB2' := Aside0.mk (show Below w.heap.size w W2 by rw [hW2]; exact pw_below_drewN HB1'.out nq)
            have HS2 := Aside0.mk (show w2.heap.size ≤ W2.heap.size by rw [hW2]; exact HS1.out)
            have HK2 := Aside0.mk (show ∀ k, (Value.slice (some ad) ys.length c1).ownBlock = some k → k < W2.heap.size ∧ W2.heap[k]? = w2.heap[k]? by rw [hW2]; exact HK1.out)
            have HX2 := Aside0.mk (show W2.heap[bx]? = some (.cells #[.int .i64 x.f0, .int .i64 x.f1] 40 (0, 0)) by rw [hW2]; exact HX1.out)
            have p0 : W2.cell? ⟨bx, 0, none⟩ = some (.int .i64 x.f0) := (blk_cell HX2.out 0).trans rfl
            have p1 : W2.cell? ⟨bx, 1, none⟩ = some (.int .i64 x.f1) := (blk_cell HX2.out 1).trans rfl
            clear hW2 q0 q1 e0 e1
            go_wp2_with (first | ((with_reducible refine gate_builtin (b := .append) (xs := #[.tmp 59, .tmp 61]) rfl ?_); at_builtin; refine Kd.R_append k40 (w0 := w) w.heap.size rfl (.tmp 59) (.tmp 61) 54 40 (.agg #[(.int .i64 0), (.int .i64 0)]) 16 rfl Try.underlying54 info40 rfl (by decide) (by omega) (.slice (some ⟨g, 0, none⟩) o.length c3) o x [.int .i64 x.f0, .int .i64 x.f1] (fun k => some k ≠ (Value.slice (some ad) ys.length c1).ownBlock) (fun _ => False) rfl (by first | (go_simp; done) | (go_simp; rfl)) ?aP (fun _ hk => hk.elim) ?aF ?aO ?aB ?aS ?aL ?_; (case aP => exact k40_mkM _ _ _ x); (case aF => intro k hk e; have h1 := (HK2.out k e.symm).1; omega); (case aO => exact HO2.out); (case aB => exact HB2'.out); (case aS => exact HB2'.out.size); (case aL => have := HOL.out; omega); intro v1 w4 ho hb hg hat; have HO4 := Aside0.mk ho; have HB4 := Aside0.mk hb; have HG4 := Aside0.mk hg; clear ho hb hg hat))
            go_roundg k1
            case measure => omega
            case rel =>
              refine ⟨i + 1, by first | rfl | (simp; done), ⟨by have := HP.out.1; omega, by have := HI.out.2; omega⟩, ⟨?_⟩, ⟨HB4.out, ?_, ?_⟩⟩
              · rw [HST.out, HAG.out]; exact HO4.out
              · exact Nat.le_trans HS2.out HG4.out.size
              · intro k hk
                have h1 := HK2.out k hk
                rw [HG4.out.block k h1.1 (fun e => HO2.out.1 k e.symm hk.symm)]
                exact h1.2
        · have hdj : decide (0 ≤ j) = false := decide_eq_false (by have := HJ.out; omega)
          have hag : joinG o x = o ++ [x] := by
            unfold joinG
            rw [if_neg (fun h => hn h.1)]
          have HAG := Aside0.mk hag
          clear hag hx1 hb1 hs1 ho1 hk1 hne hwsz hbxo hn
          go_wp2_with fail
          rw [← hW1, ← hbx]
          have HW1 := Aside0.mk hW1
          have HBX1 := Aside0.mk hbx
          clear hW1 hbx
          go_quiet (fail)
          obtain ⟨W2, hW2⟩ : ∃ W, W = W1.drewN nq := ⟨_, rfl⟩
          rw [← hW2]
          have HO2 := Aside0.mk (show Kd.R k40 40 W2 w.heap.size (fun k => some k ≠ (Value.slice (some ad) ys.length c1).ownBlock) (.slice A3 o.length c3) o by rw [hW2]; exact Kd.R_drewN HO1.out nq)
          have HB2' := Aside0.mk (show Below w.heap.size w W2 by rw [hW2]; exact pw_below_drewN HB1'.out nq)
          have HS2 := Aside0.mk (show w2.heap.size ≤ W2.heap.size by rw [hW2]; exact HS1.out)
          have HK2 := Aside0.mk (show ∀ k, (Value.slice (some ad) ys.length c1).ownBlock = some k → k < W2.heap.size ∧ W2.heap[k]? = w2.heap[k]? by rw [hW2]; exact HK1.out)
          have HX2 := Aside0.mk (show W2.heap[bx]? = some (.cells #[.int .i64 x.f0, .int .i64 x.f1] 40 (0, 0)) by rw [hW2]; exact HX1.out)
          have p0 : W2.cell? ⟨bx, 0, none⟩ = some (.int .i64 x.f0) := (blk_cell HX2.out 0).trans rfl
          have p1 : W2.cell? ⟨bx, 1, none⟩ = some (.int .i64 x.f1) := (blk_cell HX2.out 1).trans rfl
          clear hW2 q0 q1
          go_wp2_with (first | ((with_reducible refine gate_builtin (b := .append) (xs := #[.tmp 59, .tmp 61]) rfl ?_); at_builtin; refine Kd.R_append k40 (w0 := w) w.heap.size rfl (.tmp 59) (.tmp 61) 54 40 (.agg #[(.int .i64 0), (.int .i64 0)]) 16 rfl Try.underlying54 info40 rfl (by decide) (by omega) (.slice A3 o.length c3) o x [.int .i64 x.f0, .int .i64 x.f1] (fun k => some k ≠ (Value.slice (some ad) ys.length c1).ownBlock) (fun _ => False) rfl (by first | (go_simp; done) | (go_simp; rfl)) ?aP (fun _ hk => hk.elim) ?aF ?aO ?aB ?aS ?aL ?_; (case aP => exact k40_mkM _ _ _ x); (case aF => intro k hk e; have h1 := (HK2.out k e.symm).1; omega); (case aO => exact HO2.out); (case aB => exact HB2'.out); (case aS => exact HB2'.out.size); (case aL => have := HOL.out; omega); intro v1 w4 ho hb hg hat; have HO4 := Aside0.mk ho; have HB4 := Aside0.mk hb; have HG4 := Aside0.mk hg; clear ho hb hg hat))
          go_roundg k1
          case measure => omega
          case rel =>
            refine ⟨i + 1, by first | rfl | (simp; done), ⟨by have := HP.out.1; omega, by have := HI.out.2; omega⟩, ⟨?_⟩, ⟨HB4.out, ?_, ?_⟩⟩
            · rw [HST.out, HAG.out]; exact HO4.out
            · exact Nat.le_trans HS2.out HG4.out.size
            · intro k hk
              have h1 := HK2.out k hk
              rw [HG4.out.block k h1.1 (fun e => HO2.out.1 k e.symm hk.symm)]
              exact h1.2
  · cases h

end Go.Proofs.Ytkkfkdncddbaeaa.Fn
