-- Told by hand; its numbers filled in by a program of this session.
import Derived.Test.YtkkfkdncddbaeaaFnBase
import Derived.Test.YtkkfkdncddbaeaaHbsearch
namespace Go.Proofs.Ytkkfkdncddbaeaa.Fn
open Go.RowKit Go.Proofs.YtkkfkdncddbaeaaW.PrintWords Go.Proofs.YtkkfkdncddbaeaaW.PrintLast Go.Proofs.YtkkfkdncddbaeaaW.PrintMore
attribute [local go_sem] max2_int min2_int max_two min_two max_three min_three max_four min_four   -- for this text's walks alone
set_option linter.unusedVariables false
set_option linter.unusedSimpArgs false

/-- What Find answers. -/
def findS (l : List S24) (v : Int) : Int × Int :=
  if Flag.checkE (l.map toE) = 0 then (if v < 0 then (0, 4) else if v ≥ 65536 then (0, 4) else ((Flag.lookE (l.map toE) v).getD (-1), 0)) else (0, 9)
def extent_Find.f (l0 : List (S24)) (a1 : Int) : Option (Int × Int) := some (findS l0 a1)
theorem rd_split (l : List S24) (i : Int) (h0 : 0 ≤ i) (h1 : i < l.length) : ∃ pre t, l = pre ++ rd_T24 l i :: t ∧ (pre.length : Int) = i := by
  have h2 : i.toNat < l.length := by omega
  refine ⟨l.take i.toNat, l.drop (i.toNat + 1), ?_, by rw [List.length_take]; omega⟩
  have e : rd_T24 l i = l[i.toNat] := by unfold rd_T24; rw [List.getD_eq_getElem?_getD, List.getElem?_eq_getElem h2]; rfl
  rw [e, List.getElem_cons_drop, List.take_append_drop]
theorem rd_sorted {l : List S24} (hm : Flag.Map5 (l.map toE)) (i j : Int) (h0 : 0 ≤ i) (h1 : i < j) (h2 : j < l.length) : (rd_T24 l i).f0 + (rd_T24 l i).f2 ≤ (rd_T24 l j).f0 ∧ 0 < (rd_T24 l i).f2 := by
  obtain ⟨pre, t, e, hl⟩ := rd_split l i h0 (by omega)
  have hj : rd_T24 l j ∈ t := by
    have h3 : rd_T24 l j = t.getD (j - i - 1).toNat z24 := by
      unfold rd_T24
      rw [List.getD_eq_getElem?_getD, List.getD_eq_getElem?_getD]
      conv => lhs; rw [e]
      rw [List.getElem?_append_right (by omega)]
      have : j.toNat - pre.length = (j - i - 1).toNat + 1 := by omega
      rw [this, List.getElem?_cons_succ]
    have h4 : (j - i - 1).toNat < t.length := by
      have : l.length = pre.length + t.length + 1 := by conv => lhs; rw [e]
                                                        simp; omega
      omega
    rw [h3, List.getD_eq_getElem?_getD, List.getElem?_eq_getElem h4]
    exact List.getElem_mem h4
  have hn : ∀ p : List Flag.Ex, Flag.NF (p ++ toE (rd_T24 l i) :: t.map toE) → Flag.NF (toE (rd_T24 l i) :: t.map toE) := by
    intro p
    induction p with
    | nil => exact id
    | cons a p ih => exact fun h => ih h.tail
  have hnf := hm.nf
  rw [e] at hnf
  simp only [List.map_append, List.map_cons] at hnf
  have h5 := hn _ hnf
  exact ⟨h5.after _ (List.mem_map_of_mem hj), h5.head⟩
theorem rd_mem (l : List S24) (i : Int) (h0 : 0 ≤ i) (h1 : i < l.length) : rd_T24 l i ∈ l := by
  obtain ⟨pre, t, e, _⟩ := rd_split l i h0 h1
  have : rd_T24 l i ∈ pre ++ rd_T24 l i :: t := by simp
  rw [← e] at this
  exact this
theorem look_in {l : List S24} (hm : Flag.Map5 (l.map toE)) {i v : Int} (h0 : 0 ≤ i) (h1 : i < l.length) (a : (rd_T24 l i).f0 ≤ v) (b : v < (rd_T24 l i).f0 + (rd_T24 l i).f2) : Flag.lookE (l.map toE) v = some ((rd_T24 l i).f1 + (v - (rd_T24 l i).f0)) := by
  have hmem := List.mem_map_of_mem (f := toE) (rd_mem l i h0 h1)
  have ho := hm.ok _ hmem
  obtain ⟨g1, g2, g3, g4, g5⟩ := ho
  rw [Flag.lookE_mem hm.nf hmem a b]
  unfold Flag.valAt
  rw [if_neg (by omega)]
  rfl
theorem look_out {l : List S24} {v : Int} (h : ∀ j : Int, 0 ≤ j → j < l.length → ¬ ((rd_T24 l j).f0 ≤ v ∧ v < (rd_T24 l j).f0 + (rd_T24 l j).f2)) : Flag.lookE (l.map toE) v = none := by
  cases hq : Flag.lookE (l.map toE) v with
  | none => rfl
  | some r =>
    obtain ⟨z, hz, z1, z2, _⟩ := Flag.lookE_some_mem hq
    obtain ⟨y, hy, rfl⟩ := List.mem_map.1 hz
    obtain ⟨n, hn, e⟩ := List.mem_iff_getElem.1 hy
    have e2 : rd_T24 l (n : Int) = y := by unfold rd_T24; rw [Int.toNat_natCast, List.getD_eq_getElem?_getD, List.getElem?_eq_getElem hn]; exact e
    exact absurd (by rw [e2]; exact ⟨z1, z2⟩) (h n (by omega) (by omega))
set_option maxHeartbeats 4000000 in
set_option maxRecDepth 100000 in
theorem extent_Find.calls (A0 : Option Addr) (c0 : Nat) (l0 : List (S24)) (a1 : Int) (r1 : Int) (r2 : Int) (w : World) (hr0 : Kd.C k24 w A0 l0.length l0) (hc0 : l0.length ≤ c0) (h : extent_Find.f l0 a1 = some (r1, r2)) :
    Calls Try.prog 35 #[.slice A0 l0.length c0, .int .i64 a1] w fun e w' => e = .returned (.tuple #[.int .i64 r1, .int .i64 r2]) ∧ Below w.heap.size w w' := by
  have hu24 := Try.underlying24
  have hcx : extent_Check.f (l0.length + 1) l0 = some (Flag.checkE (l0.map toE)) := check_x l0 (by omega)
  unfold extent_Find.f at h
  have h := Option.some.inj h
  unfold findS at h
  have HR0 := Aside0.mk hr0
  have HC0 := Aside0.mk hc0
  clear hr0 hc0
  go_enter Try.func35, Try.ntmps35
  go_wp2_with fail
  refine (extent_Check.calls (l0.length + 1) A0 c0 l0 _ w HR0.out HC0.out hcx).mono ?_
  rintro e w1 ⟨rfl, hb1⟩
  have HB1 := Aside0.mk (below_step (Below.refl w.heap.size w) hb1)
  clear hb1
  rcases Flag.checkE_or (l0.map toE) with h0 | h0
  · rw [if_pos h0] at h
    have hm := Flag.checkE_ok.1 h0
    have hl0 : l0.length ≤ 1024 := by have := hm.len; simpa using this
    have HM := Aside0.mk hm
    rw [h0]
    clear h0 hcx hm
    by_cases hv0 : a1 < 0
    · have hd0 : decide (a1 < 0) = true := decide_eq_true hv0
      rw [if_pos hv0] at h
      simp only [Prod.mk.injEq] at h
      obtain ⟨rfl, rfl⟩ := h
      clear hv0
      go_wp2
      go_ret2
      exact ⟨rfl, HB1.out⟩
    · have hd0 : decide (a1 < 0) = false := decide_eq_false hv0
      rw [if_neg hv0] at h
      by_cases hv1 : a1 ≥ 65536
      · have hd1 : decide (65536 ≤ a1) = true := decide_eq_true hv1
        rw [if_pos hv1] at h
        simp only [Prod.mk.injEq] at h
        obtain ⟨rfl, rfl⟩ := h
        clear hv1
        go_wp2
        go_ret2
        exact ⟨rfl, HB1.out⟩
      · have hd1 : decide (65536 ≤ a1) = false := decide_eq_false hv1
        rw [if_neg hv1] at h
        simp only [Prod.mk.injEq] at h
        obtain ⟨h1, rfl⟩ := h
        have HV := Aside0.mk (And.intro hv0 hv1)
        have HH := Aside0.mk h1
        clear hv0 hv1 h1
        go_wp2_with fail
        refine (bsearch.calls A0 c0 l0 a1 w1 (Kd.C_below HR0.out HB1.out) hl0 (fun i j a b c => by have := rd_sorted HM.out i j a b c; omega)).mono ?_
        rintro e w2 ⟨i, i0, i1, il, ig, rfl, hb2⟩
        have HB2 := Aside0.mk (below_step HB1.out hb2)
        have HI := Aside0.mk (And.intro i0 (And.intro i1 (And.intro il ig)))
        clear hb2 il ig
        by_cases hf : i < (l0.length : Int) ∧ (rd_T24 l0 i).f0 = a1
        · have hbF : (decide (i < (l0.length : Int)) && ((rd_T24 l0 i).f0 == a1)) = true := by simp [hf.1, hf.2]
          rw [hbF]
          have j0 : 0 ≤ i := i0
          have j1 : i < (l0.length : Int) := hf.1
          have hfe := hf.2
          clear hbF hf
          have hC : Kd.C k24 w2 A0 l0.length l0 := Kd.C_below HR0.out HB2.out
          obtain ⟨ad, e3, g0, g1, g2⟩ := at_T24 hC (i) j0 j1
          cases e3
          obtain ⟨x, hx⟩ : ∃ x, x = rd_T24 l0 (i) := ⟨_, rfl⟩
          rw [← hx] at g0 g1 g2
          have hok := HM.out.ok _ (List.mem_map_of_mem (f := toE) (rd_mem l0 (i) j0 j1))
          rw [← hx] at hok
          obtain ⟨o1, o2, o3, o4, o5⟩ := hok
          simp only [toE] at o1 o2 o3 o4 o5
          have hvv := HV.out
          have hle : x.f0 ≤ a1 := by rw [hx]; omega
          have hw1 : IntKind.i64.wrap (a1 - x.f0) = a1 - x.f0 := IntWalk.i64_in _ (by omega)
          have hw2 : IntKind.i64.wrap (x.f1 + a1) = x.f1 + a1 := IntWalk.i64_in _ (by omega)
          have hw3 : IntKind.i64.wrap (x.f1 + a1 - x.f0) = x.f1 + a1 - x.f0 := IntWalk.i64_in _ (by omega)
          have hdj : decide (i < 0) = false := decide_eq_false (by omega)
          by_cases hin : a1 - x.f0 < x.f2
          · have hdi : decide (x.f2 ≤ a1 - x.f0) = false := decide_eq_false (by omega)
            have hlook := look_in HM.out (v := a1) j0 j1 (by rw [← hx]; omega) (by rw [← hx]; omega)
            rw [← hx] at hlook
            have hres : r1 = x.f1 + a1 - x.f0 := by rw [← HH.out, hlook]; show x.f1 + (a1 - x.f0) = _; omega
            have HRES := Aside0.mk hres
            clear hx hC hres hlook
            go_wp2_with fail
            repeat (go_quiet (fail); go_wp2_with fail)
            go_ret2
            refine ⟨by rw [HRES.out]; rfl, ?_⟩
            repeat (first | exact HB2.out | refine pw_below_drewN ?_ _)
          · have hdi : decide (x.f2 ≤ a1 - x.f0) = true := decide_eq_true (by omega)
            have hlook : Flag.lookE (l0.map toE) a1 = none := look_out (fun k k0 k1 hk => by
              rcases Int.lt_trichotomy k (i) with c | c | c
              · have := rd_sorted HM.out k (i) k0 c j1
                rw [← hx] at this; omega
              · rw [c, ← hx] at hk; omega
              · have := HI.out.2.2.2 k (by omega) k1; have := rd_sorted HM.out i k j0 c k1; omega)
            have hres : r1 = -1 := by rw [← HH.out, hlook]; rfl
            have HRES := Aside0.mk hres
            clear hx hC hres hlook
            go_wp2_with fail
            repeat (go_quiet (fail); go_wp2_with fail)
            go_ret2
            refine ⟨by rw [HRES.out]; rfl, ?_⟩
            repeat (first | exact HB2.out | refine pw_below_drewN ?_ _)
        · have hbF : (decide (i < (l0.length : Int)) && ((rd_T24 l0 i).f0 == a1)) = false := by
            by_cases c : i < (l0.length : Int)
            · have : ¬ (rd_T24 l0 i).f0 = a1 := fun e => hf ⟨c, e⟩
              simp [this]
            · simp [c]
          rw [hbF]
          have hgt : ∀ k : Int, i ≤ k → k < l0.length → a1 < (rd_T24 l0 k).f0 := by
            intro k k0 k1
            have h5 := HI.out.2.2.2 k k0 k1
            by_cases c : k = i
            · subst c
              have : ¬ (rd_T24 l0 k).f0 = a1 := fun e => hf ⟨k1, e⟩
              omega
            · have h6 := HI.out.2.2.2 i (Int.le_refl _) (by omega)
              have h7 := rd_sorted HM.out i k i0 (by omega) k1
              omega
          obtain ⟨j, hj⟩ : ∃ j : Int, j = i - 1 := ⟨_, rfl⟩
          have hwi : IntKind.i64.wrap (i - 1) = j := by rw [hj]; exact IntWalk.i64_in _ (by omega)
          have HGT := Aside0.mk hgt
          clear hbF hf hgt
          by_cases hi0 : j < 0
          · have hdj : decide (j < 0) = true := decide_eq_true hi0
            have hlook : Flag.lookE (l0.map toE) a1 = none := look_out (fun k k0 k1 hk => by
              have := HGT.out k (by omega) k1
              omega)
            have hres : r1 = -1 := by rw [← HH.out, hlook]; rfl
            have HRES := Aside0.mk hres
            clear hres hlook hi0
            go_wp2_with fail
            simp only [← hj]
            have HJ := Aside0.mk hj
            clear hj hwi
            repeat (go_quiet (fail); go_wp2_with fail)
            go_ret2
            refine ⟨by rw [HRES.out]; rfl, ?_⟩
            repeat (first | exact HB2.out | refine pw_below_drewN ?_ _)
          · have j0 : 0 ≤ j := by omega
            have j1 : j < (l0.length : Int) := by omega
            have hlt := HI.out.2.2.1 (j) j0 (by omega)
            have hC : Kd.C k24 w2 A0 l0.length l0 := Kd.C_below HR0.out HB2.out
            obtain ⟨ad, e3, g0, g1, g2⟩ := at_T24 hC (j) j0 j1
            cases e3
            obtain ⟨x, hx⟩ : ∃ x, x = rd_T24 l0 (j) := ⟨_, rfl⟩
            rw [← hx] at g0 g1 g2
            have hok := HM.out.ok _ (List.mem_map_of_mem (f := toE) (rd_mem l0 (j) j0 j1))
            rw [← hx] at hok
            obtain ⟨o1, o2, o3, o4, o5⟩ := hok
            simp only [toE] at o1 o2 o3 o4 o5
            have hvv := HV.out
            have hle : x.f0 ≤ a1 := by rw [hx]; omega
            have hw1 : IntKind.i64.wrap (a1 - x.f0) = a1 - x.f0 := IntWalk.i64_in _ (by omega)
            have hw2 : IntKind.i64.wrap (x.f1 + a1) = x.f1 + a1 := IntWalk.i64_in _ (by omega)
            have hw3 : IntKind.i64.wrap (x.f1 + a1 - x.f0) = x.f1 + a1 - x.f0 := IntWalk.i64_in _ (by omega)
            have hdj : decide (j < 0) = false := decide_eq_false (by omega)
            by_cases hin : a1 - x.f0 < x.f2
            · have hdi : decide (x.f2 ≤ a1 - x.f0) = false := decide_eq_false (by omega)
              have hlook := look_in HM.out (v := a1) j0 j1 (by rw [← hx]; omega) (by rw [← hx]; omega)
              rw [← hx] at hlook
              have hres : r1 = x.f1 + a1 - x.f0 := by rw [← HH.out, hlook]; show x.f1 + (a1 - x.f0) = _; omega
              have HRES := Aside0.mk hres
              clear hx hC hres hlook
              go_wp2_with fail
              simp only [← hj]
              have HJ := Aside0.mk hj
              clear hj hwi
              repeat (go_quiet (fail); go_wp2_with fail)
              go_ret2
              refine ⟨by rw [HRES.out]; rfl, ?_⟩
              repeat (first | exact HB2.out | refine pw_below_drewN ?_ _)
            · have hdi : decide (x.f2 ≤ a1 - x.f0) = true := decide_eq_true (by omega)
              have hlook : Flag.lookE (l0.map toE) a1 = none := look_out (fun k k0 k1 hk => by
                rcases Int.lt_trichotomy k (j) with c | c | c
                · have := rd_sorted HM.out k (j) k0 c j1
                  rw [← hx] at this; omega
                · rw [c, ← hx] at hk; omega
                · have := HGT.out k (by omega) k1; omega)
              have hres : r1 = -1 := by rw [← HH.out, hlook]; rfl
              have HRES := Aside0.mk hres
              clear hx hC hres hlook
              go_wp2_with fail
              simp only [← hj]
              have HJ := Aside0.mk hj
              clear hj hwi
              repeat (go_quiet (fail); go_wp2_with fail)
              go_ret2
              refine ⟨by rw [HRES.out]; rfl, ?_⟩
              repeat (first | exact HB2.out | refine pw_below_drewN ?_ _)
  · rw [h0] at h ⊢
    rw [if_neg (by omega)] at h
    simp only [Prod.mk.injEq] at h
    obtain ⟨rfl, rfl⟩ := h
    go_wp2
    go_ret2
    exact ⟨rfl, HB1.out⟩

end Go.Proofs.Ytkkfkdncddbaeaa.Fn
