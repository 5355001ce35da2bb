-- Told by hand; its numbers filled in by a program of this session.
import Derived.Test.YtkkfkdncddbaeaaFnBase
import Derived.Test.YtkkfkdncddbaeaaHHOpen
namespace Go.Proofs.Ytkkfkdncddbaeaa.Fn
open Go.RowKit Go.Proofs.YtkkfkdncddbaeaaW.PrintWords Go.Proofs.YtkkfkdncddbaeaaW.PrintLast Go.Proofs.YtkkfkdncddbaeaaW.PrintMore
attribute [local go_sem] max2_int min2_int max_two min_two max_three min_three max_four min_four   -- for this text's walks alone
set_option linter.unusedVariables false
set_option linter.unusedSimpArgs false

/-! A State of layer 6, opened: a size and a row of spans. -/
open Go.ChangeShapes Go.WideShapes Go.ChangeAt Go.Deep Go.Joins
set_option maxRecDepth 100000 in
theorem open_56 {H : Type} {enc : TypeId × Value → H} {w : World} {base : Nat} {spare : Nat → Bool} {held : Bool} {v : Value} {D : DataW H} {ps : List MemPlace} {r : Reach} {b0 : Nat}
    (hv : Value.okWide Try.prog w r b0 56 v) (h : DataW.Trod enc Try.prog w base spare held 56 v D ps) :
    ∃ (s : Int) (A : Option Addr) (l : List S40) (c : Nat) (D0 D1 : DataW H), v = .agg #[.int .i64 s, .slice A l.length c] ∧ l.length ≤ c ∧ Kd.C k40 w A l.length l ∧ D = .agg [D0, D1] ∧ ((D1 = .nil ∧ l.length = 0) ∨ ∃ es rs, D1 = .slice es rs ∧ es.length = l.length) := by
  obtain ⟨v0, v1, y0, y1, n, rfl, rfl, _, h0, h1⟩ := open_agg2 Try.underlying56 (by kernel_rfl) (by kernel_rfl) hv h
  obtain ⟨n0, e0⟩ := one_of h0
  simp at e0
  subst e0
  have hsl : ∃ A len cap, v1 = .slice A len cap := by
    rcases open_slice Try.underlying54 h1 with ⟨hcs, _⟩ | ⟨a, len', cap', m, n', Ds, Pl, hcs, _⟩
    · exact ⟨none, 0, 0, by simpa using hcs⟩
    · exact ⟨some a, len', cap', by simpa using hcs⟩
  obtain ⟨A, len, cap, rfl⟩ := hsl
  have h2 : DataW.Trod enc Try.prog w base spare held 54 (.slice A len cap) y1.1 y1.2 := ⟨n, by simpa [Value.cells] using h1⟩
  obtain ⟨l, rfl, c, hr, hd⟩ := open_row Try.underlying54 (by kernel_rfl) opn_40 h2
  exact ⟨n0, A, l, cap, y0.1, y1.1, rfl, c, hr, rfl, hd⟩
theorem weight_56 {H : Type} {ts : List TypeId} {ds : List (DataW H)} {j : Nat} {D0 D1 : DataW H} {len : Nat}
    (hsz : (DataW.weightsEach Try.prog ts ds).all (· ≤ reachBytes) = true) (h1 : ts[j]? = some 56) (h2 : ds[j]? = some (.agg [D0, D1])) (hD : (D1 = .nil ∧ len = 0) ∨ ∃ es rs, D1 = .slice es rs ∧ es.length = len) : len * 16 ≤ 140737488351232 := by
  rcases hD with ⟨_, rfl⟩ | ⟨es, rs, rfl, rfl⟩
  · simp
  · have hB : Try.prog.bytesOf 40 = 16 := by kernel_rfl
    have hm : (es.length + rs.length) * Try.prog.bytesOf 40 ∈ (DataW.agg [D0, .slice es rs]).weights Try.prog 56 := by
      simp [DataW.weights, Try.underlying56, DataW.weightsEach, Try.underlying54]
    have z := List.all_eq_true.1 hsz _ (DataW.weights_mem_each h1 h2 _ hm)
    rw [hB] at z
    have z2 : (es.length + rs.length) * 16 ≤ 140737488351232 := of_decide_eq_true z
    exact Nat.le_trans (Nat.mul_le_mul_right _ (Nat.le_add_right _ _)) z2

end Go.Proofs.Ytkkfkdncddbaeaa.Fn
