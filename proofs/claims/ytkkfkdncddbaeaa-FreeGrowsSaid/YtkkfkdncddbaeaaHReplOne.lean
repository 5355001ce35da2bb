-- Told by hand; its numbers filled in by a program of this session.
import Derived.Test.YtkkfkdncddbaeaaFnBase
import Derived.Test.YtkkfkdncddbaeaaHIns
import Derived.Test.YtkkfkdncddbaeaaFn108
namespace Go.Proofs.Ytkkfkdncddbaeaa.Fn
open Go.RowKit Go.Proofs.YtkkfkdncddbaeaaW.PrintWords Go.Proofs.YtkkfkdncddbaeaaW.PrintLast Go.Proofs.YtkkfkdncddbaeaaW.PrintMore
attribute [local go_sem] max2_int min2_int max_two min_two max_three min_three max_four min_four   -- for this text's walks alone
set_option linter.unusedVariables false
set_option linter.unusedSimpArgs false

/-! slices.Replace of no span, or of some, by one span. -/
theorem ins_one (w0 w : World) (base : Nat) (ok : Nat → Prop) (A : Option Addr) (c : Nat) (xs : List S40) (x : S40) (gv : Nat) (cv : Nat) (curv : Array Value) (i : Nat) (HO : Kd.R k40 40 w base ok (.slice A xs.length c) xs) (hV : LieL encSpan 2 40 w gv cv curv [x])
    (hgv : ∀ ad, A = some ad → gv ≠ ad.block) (hB : Below base w0 w) (hbw : base ≤ w.heap.size) (hfr : ∀ k, w.heap.size ≤ k → ok k) (hi : i ≤ xs.length) (hn : xs.length ≤ 4096) :
    Calls Try.prog 155 #[.slice A xs.length c, .int .i64 i, .slice (some ⟨gv, 0, none⟩) 1 cv] w fun e w' => ∃ v' : Value, e = .returned v' ∧ Kd.R k40 40 w' base ok v' (xs.take i ++ [x] ++ xs.drop i) ∧ Below base w0 w' := by
  by_cases h : i = xs.length
  · subst h
    have h1 := ins_end w0 w base ok A c xs [x] gv cv curv HO hV hB hbw hfr hn (by simp) (by simp)
    rw [List.take_length, List.drop_length, List.append_nil]
    exact h1
  · have hne : xs ≠ [] := by intro e; rw [e] at h hi; simp at h hi; omega
    obtain ⟨g, c', cur, e, hL, hg, hok⟩ := rowL_of HO hne
    injection e with e1 _ e2
    subst e1 e2
    exact ins_mid w0 w base g c ok cur xs [x] gv cv curv i hL hV (hgv _ rfl) hB hg hok hfr (by omega) hn rfl
set_option maxHeartbeats 4000000 in
set_option maxRecDepth 100000 in
theorem repl_one (w0 w : World) (base : Nat) (ok : Nat → Prop) (A : Option Addr) (c : Nat) (xs : List S40) (x : S40) (gv : Nat) (cv : Nat) (curv : Array Value) (i j : Nat) (HO : Kd.R k40 40 w base ok (.slice A xs.length c) xs) (hV : LieL encSpan 2 40 w gv cv curv [x])
    (hgv : ∀ ad, A = some ad → gv ≠ ad.block) (hB : Below base w0 w) (hbw : base ≤ w.heap.size) (hfr : ∀ k, w.heap.size ≤ k → ok k) (hij : i ≤ j) (hj : j ≤ xs.length) (hn : xs.length ≤ 4096) :
    Calls Try.prog 142 #[.slice A xs.length c, .int .i64 i, .int .i64 j, .slice (some ⟨gv, 0, none⟩) 1 cv] w fun e w' => ∃ v' : Value, e = .returned v' ∧ Kd.R k40 40 w' base ok v' (xs.take i ++ [x] ++ xs.drop j) ∧ Below base w0 w' := by
  by_cases h : i = j
  · subst h
    have hins := ins_one w0 w base ok A c xs x gv cv curv i HO hV hgv hB hbw hfr hj hn
    have hnc : xs.length ≤ c := (Kd.R_reads' HO).2.1
    obtain ⟨n, hnn⟩ : ∃ n, n = xs.length := ⟨_, rfl⟩
    rw [← hnn] at hj hn hnc hins ⊢
    have b1 : (0 : Int) ≤ (i : Int) := by omega
    have b2 : (i : Int) ≤ (n : Int) := by omega
    have b3 : (i : Int) ≤ (c : Int) := by omega
    have b4 : (i : Int) ≤ (i : Int) := Int.le_refl _
    have b5 : ((i : Int) == (i : Int)) = true := by simp
    have HI := Aside0.mk hins
    have hA : A = none → c = 0 ∧ n = 0 := by
      intro e
      rw [hnn]
      rcases R_lies flatSpan HO with ⟨h1, h2⟩ | ⟨g, cap, h1, h2, h3, h4⟩
      · injection h1 with _ _ h5
        exact ⟨h5, by rw [h2]; rfl⟩
      · injection h1 with h5
        rw [e] at h5; cases h5
    clear HO hV hgv hB hbw hfr hins hnn
    cases A with
    | none =>
      obtain ⟨rfl, rfl⟩ := hA rfl
      obtain rfl : i = 0 := by omega
      clear hA
      go_enter Try.func142, Try.ntmps142
      go_wp2_with fail
      refine HI.out.mono ?_
      rintro e w1 ⟨v', rfl, hR, hb⟩
      have HR := Aside0.mk (And.intro hR hb)
      clear hR hb
      go_wp2
      go_ret
      exact ⟨_, rfl, HR.out.1, HR.out.2⟩
    | some ad =>
      clear hA
      by_cases hci : c = i
      · subst hci
        go_enter Try.func142, Try.ntmps142
        go_wp2_with fail
        refine HI.out.mono ?_
        rintro e w1 ⟨v', rfl, hR, hb⟩
        have HR := Aside0.mk (And.intro hR hb)
        clear hR hb
        go_wp2
        go_ret
        exact ⟨_, rfl, HR.out.1, HR.out.2⟩
      · go_enter Try.func142, Try.ntmps142
        go_wp2_with fail
        refine HI.out.mono ?_
        rintro e w1 ⟨v', rfl, hR, hb⟩
        have HR := Aside0.mk (And.intro hR hb)
        clear hR hb
        go_wp2
        go_ret
        exact ⟨_, rfl, HR.out.1, HR.out.2⟩
  · have hne : xs ≠ [] := by intro e; rw [e] at hj; simp at hj; omega
    obtain ⟨g, c', cur, e, hL, hg, hok⟩ := rowL_of HO hne
    injection e with e1 _ e2
    subst e1 e2
    exact repl_span w0 w base g c ok cur xs [x] _ i j hL (.inr ⟨gv, cv, curv, rfl, hV, hgv _ rfl⟩) hB hg hok hfr (by omega) hj hn (by simp) (by simp)

end Go.Proofs.Ytkkfkdncddbaeaa.Fn
