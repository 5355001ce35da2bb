-- Told by hand; its numbers filled in by a program of this session.
import Derived.Test.YtkkfkdncddbaeaaFnBase
import Derived.Test.YtkkfkdncddbaeaaHL06c
import Derived.Test.YtkkfkdncddbaeaaHL06b
import Derived.Test.YtkkfkdncddbaeaaHL06t
import Derived.Test.YtkkfkdncddbaeaaFn12
namespace Go.Proofs.Ytkkfkdncddbaeaa.Fn
open Go.RowKit Go.Proofs.YtkkfkdncddbaeaaW.PrintWords Go.Proofs.YtkkfkdncddbaeaaW.PrintLast Go.Proofs.YtkkfkdncddbaeaaW.PrintMore
attribute [local go_sem] max2_int min2_int max_two min_two max_three min_three max_four min_four   -- for this text's walks alone
set_option linter.unusedVariables false
set_option linter.unusedSimpArgs false

/-! FreeBack. -/
theorem back_row (s : Int) (l : List S40) (n line : Int) (h : l.length * 16 ≤ 140737488351232) (_ : (Lit.int .i64 n).wf = true) (h9 : (Lit.int .i64 line).wf = true) : ∃ k, flagstonelaw06_FreeBack.f k s l n line = some true := by
  have h9 := wf_lt h9
  refine ⟨1030 + 0, ?_⟩
  have ha : flagstonelaw06_alive.f (1030 + 0) = some true := alive6_k 970
  unfold flagstonelaw06_FreeBack.f
  rw [ha, Option.bind_some, if_pos rfl, of6 s l h, Option.bind_some]
  unfold free_Alloc.f free_Best.f
  by_cases hck : Flag.checkF s (l.map toP) = 0
  · rw [if_pos hck]
    by_cases hc : n < 1 ∨ line < 0
    · rw [if_pos hc]; rfl
    · rw [if_neg hc]
      have hm := Flag.checkF_ok.1 hck
      have hl : l.length ≤ 1024 := by have := hm.len; simpa using this
      have hins : ∀ x ∈ l, Flag.Ins s (toP x) := fun x hx => hm.ins _ (List.mem_map_of_mem hx)
      have hb := best_G (n := n) hm.s1 (show 0 ≤ line by omega) h9 hins
      unfold bestR
      cases hq : bestG l n line with
      | none => rfl
      | some y =>
        rw [hq] at hb
        obtain ⟨m, t1, t2, t3, t4, t5, t6⟩ := Flag.back6 hm (show 0 < n by omega) hb.symm
        obtain ⟨a1, a2, a3, ea, fa⟩ := take_K 0 s l y.f0 n
        have fa2 := fa.trans t1
        simp only [Prod.mk.injEq] at fa2
        obtain ⟨rfl, fa2, rfl⟩ := fa2
        obtain ⟨b1, b2, b3, eb, fb⟩ := take_K 0 a1 a2 y.f0 n
        rw [fa2] at fb
        have fb2 := fb.trans t2
        simp only [Prod.mk.injEq] at fb2
        obtain ⟨rfl, fb2, rfl⟩ := fb2
        obtain ⟨c1, c2, c3, ec, fc⟩ := free_K 0 a1 a2 y.f0 n
        rw [fa2] at fc
        have fc2 := fc.trans t3
        simp only [Prod.mk.injEq] at fc2
        obtain ⟨rfl, fc2, rfl⟩ := fc2
        obtain rfl := toP_inj fc2
        obtain ⟨d1, d2, d3, ed, fd⟩ := free_K 0 c1 c2 y.f0 n
        have fd2 := fd.trans t4
        simp only [Prod.mk.injEq] at fd2
        obtain ⟨rfl, fd2, rfl⟩ := fd2
        have t5' : y.f0 + n ≤ line := t5
        have t6' : 0 ≤ y.f0 := t6
        have hw : wrap64 (line - y.f0) = line - y.f0 := w64 (by omega)
        have e0 : wrap64 ((0 : Int) + 0) = 0 := w64 (by omega)
        simp only [Option.bind_some, num6, if_true, ea, of6 c1 c2 h, eb, ec, ed, e0, hw, alike_K 0 c1 c2 hl]
        rw [if_pos (by omega), if_pos (by omega)]
        rfl
  · rw [if_neg hck]; rfl

end Go.Proofs.Ytkkfkdncddbaeaa.Fn
