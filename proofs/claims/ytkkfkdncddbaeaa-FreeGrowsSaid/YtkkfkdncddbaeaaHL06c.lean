-- Told by hand; its numbers filled in by a program of this session.
import Derived.Test.YtkkfkdncddbaeaaFnBase
import Derived.Test.YtkkfkdncddbaeaaHL06
import Derived.Test.YtkkfkdncddbaeaaHL06a
import Derived.Test.YtkkfkdncddbaeaaFn43
import Derived.Test.YtkkfkdncddbaeaaFn78
import Derived.Test.YtkkfkdncddbaeaaFn44
namespace Go.Proofs.Ytkkfkdncddbaeaa.Fn
open Go.RowKit Go.Proofs.YtkkfkdncddbaeaaW.PrintWords Go.Proofs.YtkkfkdncddbaeaaW.PrintLast Go.Proofs.YtkkfkdncddbaeaaW.PrintMore
attribute [local go_sem] max2_int min2_int max_two min_two max_three min_three max_four min_four   -- for this text's walks alone
set_option linter.unusedVariables false
set_option linter.unusedSimpArgs false

/-! What the laws of layer 6 share. -/
theorem num6 (a : Int) : flagstonelaw06_num.f a = some a := by unfold flagstonelaw06_num.f; rfl
theorem copyS_x {l : List S40} (hl : l.length < 8796093022208) : flagstoneplain_CopySpans.f l = some l := by
  unfold flagstoneplain_CopySpans.f
  rw [if_pos (by simp; omega), List.nil_append]
theorem alive6_k (k : Nat) : flagstonelaw06_alive.f (60 + k) = some true := by
  induction k with
  | zero => exact alive6
  | succ k ih => exact flagstonelaw06_alive.mono (60 + k) _ ih
theorem wf_lt {x : Int} (h : (Lit.int .i64 x).wf = true) : x < 9223372036854775808 := by
  simp only [Lit.wf, Bool.and_eq_true, decide_eq_true_eq] at h
  have h2 : x ≤ 9223372036854775807 := h.2
  omega
theorem of6 (s : Int) (l : List S40) (h : l.length * 16 ≤ 140737488351232) : flagstonelaw06_Of.f s l = some (s, l) := by
  unfold flagstonelaw06_Of.f; rw [copyS_x (by omega)]; rfl

end Go.Proofs.Ytkkfkdncddbaeaa.Fn
