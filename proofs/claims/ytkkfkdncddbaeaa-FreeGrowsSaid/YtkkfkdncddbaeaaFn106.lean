-- Told by hand; its numbers filled in by a program of this session.
import Derived.Test.YtkkfkdncddbaeaaFnBase
import Derived.Test.YtkkfkdncddbaeaaHFreeAt
namespace Go.Proofs.Ytkkfkdncddbaeaa.Fn
open Go.RowKit Go.Proofs.YtkkfkdncddbaeaaW.PrintWords Go.Proofs.YtkkfkdncddbaeaaW.PrintLast Go.Proofs.YtkkfkdncddbaeaaW.PrintMore
attribute [local go_sem] max2_int min2_int max_two min_two max_three min_three max_four min_four   -- for this text's walks alone
set_option linter.unusedVariables false
set_option linter.unusedSimpArgs false

theorem takeWhile_len {α : Type} (p : α → Bool) (l : List α) : ∀ i : Nat, i ≤ l.length → (∀ j (hj : j < l.length), j < i → p l[j] = true) → (∀ hi : i < l.length, p l[i] = false) → (l.takeWhile p).length = i := by
  induction l with
  | nil => intro i h _ _; simp at h; simp [h]
  | cons x t ih =>
    intro i h h1 h2
    cases i with
    | zero =>
      have := h2 (by simp)
      rw [List.takeWhile_cons_of_neg (by simpa using this)]; rfl
    | succ i =>
      have h0 := h1 0 (by simp) (by omega)
      rw [List.takeWhile_cons_of_pos (by simpa using h0), List.length_cons, ih i (by simpa using h) (fun j hj hji => h1 (j + 1) (by simp; omega) (by omega)) (fun hi => h2 (by simp; omega))]
theorem rd40_get (l : List S40) (j : Int) (h0 : 0 ≤ j) (h1 : j < l.length) : rd_T40 l j = l[j.toNat]'(by omega) := by
  unfold rd_T40; rw [List.getD_eq_getElem?_getD, List.getElem?_eq_getElem (by omega)]; rfl
/-- How many free spans end at a sector, or ahead of it. -/
def atL (l : List S40) (s : Int) : Nat := (Flag.ahead (l.map toP) s).length
def free_at.f (l0 : List (S40)) (a1 : Int) : Option Int := if Flag.checkF 65536 (l0.map toP) = 0 ∧ -1 ≤ a1 ∧ a1 ≤ 1099511627776 then some (atL l0 a1 : Int) else none
theorem nfs_get {l : List S40} (h : Flag.NFs (l.map toP)) (i j : Nat) (hij : i < j) (hj : j < l.length) : (l[i]'(by omega)).f0 + (l[i]'(by omega)).f1 < l[j].f0 := by
  have e : l = l.take i ++ l[i]'(by omega) :: l.drop (i + 1) := by rw [List.getElem_cons_drop, List.take_append_drop]
  have h2 := h
  rw [e, List.map_append] at h2
  obtain ⟨_, h3, _⟩ := Flag.NFs_of_append h2
  have hm : l[j] ∈ l.drop (i + 1) := by
    have : (l.drop (i + 1))[j - (i + 1)]'(by rw [List.length_drop]; omega) = l[j] := by rw [List.getElem_drop]; congr 1; omega
    rw [← this]; exact List.getElem_mem _
  exact h3.after (toP l[j]) (List.mem_map_of_mem hm)
set_option maxHeartbeats 1000000 in
set_option maxRecDepth 100000 in
theorem free_at.calls (A0 : Option Addr) (c0 : Nat) (l0 : List (S40)) (a1 : Int) (r : Int) (w : World) (hr0 : Kd.C k40 w A0 l0.length l0) (hc0 : l0.length ≤ c0) (h : free_at.f l0 a1 = some r) :
    Calls Try.prog 106 #[.slice A0 l0.length c0, .int .i64 a1] w fun e w' => e = .returned (.int .i64 r) ∧ Below w.heap.size w w' := by
  unfold free_at.f at h
  split at h
  · rename_i hc
    obtain ⟨hck, ha, hb⟩ := hc
    have hm := Flag.checkF_ok.1 hck
    obtain rfl := Option.some.inj h
    have hlen : l0.length ≤ 1024 := by have := hm.len; simpa using this
    have hins : ∀ x ∈ l0, 0 < x.f1 ∧ 0 ≤ x.f0 ∧ x.f0 + x.f1 ≤ 65536 := fun x hx => by
      have := hm.ins _ (List.mem_map_of_mem hx)
      exact ⟨this.n, this.a, this.e⟩
    have hkey : ∀ j : Int, 0 ≤ j → j < l0.length → ∃ hj : j.toNat < l0.length, keyE (rd_T40 l0 j) = l0[j.toNat].f0 + l0[j.toNat].f1 := by
      intro j h0 h1
      have hj : j.toNat < l0.length := by omega
      refine ⟨hj, ?_⟩
      rw [rd40_get l0 j h0 h1]
      have := hins _ (List.getElem_mem hj)
      exact w64 (by omega)
    have hT : wrap64 (a1 + 1) = a1 + 1 := w64 (by omega)
    have hsort : ∀ i j : Int, 0 ≤ i → i < j → j < l0.length → keyE (rd_T40 l0 i) < keyE (rd_T40 l0 j) := by
      intro i j h0 h1 h2
      obtain ⟨hi', e1⟩ := hkey i h0 (by omega)
      obtain ⟨hj', e2⟩ := hkey j (by omega) h2
      rw [e1, e2]
      have h3 := nfs_get hm.nf i.toNat j.toNat (by omega) hj'
      have := (hins _ (List.getElem_mem hj')).1
      omega
    have HR0 := Aside0.mk hr0
    have HK := Aside0.mk hkey
    have HT := Aside0.mk hT
    have hbs := bsearch_span A0 c0 l0 a1 w hr0 hlen hsort
    clear hr0 hkey hT hsort hins hm hck h
    go_enter Try.func106, Try.ntmps106
    go_wp2_with fail
    refine hbs.mono ?_
    rintro e w2 ⟨i, i0, i1, il, ig, rfl, hb2⟩
    have hres : (atL l0 a1 : Int) = i := by
      unfold atL Flag.ahead
      have h1 := takeWhile_len (fun x : Flag.Sp => decide (x.a + x.n ≤ a1)) (l0.map toP) i.toNat (by simp; omega) (fun j hj hji => by
        have hj : j < l0.length := by simpa using hj
        have h2 := il (j : Int) (by omega) (by omega)
        obtain ⟨h3, h4⟩ := HK.out (j : Int) (by omega) (by omega)
        rw [h4, HT.out] at h2
        simp only [List.getElem_map]
        apply decide_eq_true
        show (l0[j]).f0 + (l0[j]).f1 ≤ a1
        have e : (l0[((j : Int)).toNat]'h3) = l0[j] := by congr 1
        rw [e] at h2
        omega) (fun hj => by
        have hj : i.toNat < l0.length := by simpa using hj
        have h2 := ig i (Int.le_refl _) (by omega)
        obtain ⟨h3, h4⟩ := HK.out i i0 (by omega)
        rw [h4, HT.out] at h2
        simp only [List.getElem_map]
        apply decide_eq_false
        show ¬ ((l0[i.toNat]).f0 + (l0[i.toNat]).f1 ≤ a1)
        omega)
      rw [h1]; omega
    have HRES := Aside0.mk hres
    have HB2 := Aside0.mk hb2
    clear il ig hb2 hres
    go_wp2
    go_ret
    exact ⟨by rw [HRES.out]; rfl, HB2.out⟩
  · cases h

end Go.Proofs.Ytkkfkdncddbaeaa.Fn
