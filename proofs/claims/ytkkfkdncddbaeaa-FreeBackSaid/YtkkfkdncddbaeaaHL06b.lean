-- Told by hand; its numbers filled in by a program of this session.
import Derived.Test.YtkkfkdncddbaeaaFnBase
import Derived.Test.YtkkfkdncddbaeaaHL06
import Derived.Test.YtkkfkdncddbaeaaFn42
namespace Go.Proofs.Ytkkfkdncddbaeaa.Fn
open Go.RowKit Go.Proofs.YtkkfkdncddbaeaaW.PrintWords Go.Proofs.YtkkfkdncddbaeaaW.PrintLast Go.Proofs.YtkkfkdncddbaeaaW.PrintMore
attribute [local go_sem] max2_int min2_int max_two min_two max_three min_three max_four min_four   -- for this text's walks alone
set_option linter.unusedVariables false
set_option linter.unusedSimpArgs false

/-! free.Best in plain lists. -/
theorem room_G {size line : Int} {x : S40} (h : Flag.Ins size (toP x)) (hs : size ≤ 65536) (h0 : 0 ≤ line) : roomG line x = Flag.room line (toP x) := by
  have h1 : 0 < x.f1 := h.n
  have h2 : 0 ≤ x.f0 := h.a
  have h3 : x.f0 + x.f1 ≤ size := h.e
  unfold roomG Flag.room
  show wrap64 (mn (wrap64 (x.f0 + x.f1)) line - x.f0) = min (x.f0 + x.f1) line - x.f0
  rw [w64 (n := x.f0 + x.f1) (by omega), mn_min, w64 (by omega)]
theorem room_H {size line : Int} {x : S40} (h : Flag.Ins size (toP x)) (hs : size ≤ 65536) (h0 : 0 ≤ line) (h9 : line < 9223372036854775808) : roomH line x = Flag.room line (toP x) := by
  have h1 : 0 < x.f1 := h.n
  have h2 : 0 ≤ x.f0 := h.a
  have h3 : x.f0 + x.f1 ≤ size := h.e
  unfold roomH Flag.room
  show mn x.f1 (wrap64 (line - x.f0)) = min (x.f0 + x.f1) line - x.f0
  rw [w64 (n := line - x.f0) (by omega), mn_min]
  omega
theorem cmpI_neg (a b : Int) : cmpI a b < 0 ↔ a < b := by
  unfold cmpI
  split
  · simp; omega
  · split <;> simp <;> omega
theorem min_G {size line : Int} (hs : size ≤ 65536) (h0 : 0 ≤ line) (h9 : line < 9223372036854775808) (t : List S40) : ∀ m : S40, Flag.Ins size (toP m) → (∀ x ∈ t, Flag.Ins size (toP x)) → toP (minG (fun a b => cmpI (roomH line a) (roomH line b)) m t) = Flag.minFrom line (toP m) (t.map toP) := by
  induction t with
  | nil => intro m _ _; rfl
  | cons x t ih =>
    intro m hm ht
    have hx := ht x List.mem_cons_self
    have ht2 := fun y hy => ht y (List.mem_cons_of_mem _ hy)
    have e1 : minG (fun a b => cmpI (roomH line a) (roomH line b)) m (x :: t) = minG (fun a b => cmpI (roomH line a) (roomH line b)) (if cmpI (roomH line x) (roomH line m) < 0 then x else m) t := rfl
    have e2 : Flag.minFrom line (toP m) ((x :: t).map toP) = Flag.minFrom line (if Flag.room line (toP x) < Flag.room line (toP m) then toP x else toP m) (t.map toP) := rfl
    rw [e1, e2]
    by_cases c : Flag.room line (toP x) < Flag.room line (toP m)
    · rw [if_pos c, if_pos ((cmpI_neg _ _).2 (by rw [room_H hx hs h0 h9, room_H hm hs h0 h9]; exact c))]
      exact ih x hx ht2
    · rw [if_neg c, if_neg (fun h => c (by have := (cmpI_neg _ _).1 h; rw [room_H hx hs h0 h9, room_H hm hs h0 h9] at this; exact this))]
      exact ih m hm ht2
theorem best_G {size line n : Int} (hs : size ≤ 65536) (h0 : 0 ≤ line) (h9 : line < 9223372036854775808) {l : List S40} (hl : ∀ x ∈ l, Flag.Ins size (toP x)) : (bestG l n line).map toP = Flag.bestS (l.map toP) n line := by
  have hf : (fitG l n line).map toP = Flag.fits6 n line (l.map toP) := by
    unfold fitG Flag.fits6
    rw [List.filter_map]
    congr 1
    refine List.filter_congr fun x hx => ?_
    rw [room_G (hl x hx) hs h0]
    show (!(decide (Flag.room line (toP x) < n))) = decide (n ≤ Flag.room line (toP x))
    by_cases c : Flag.room line (toP x) < n
    · rw [decide_eq_true c, decide_eq_false (by omega)]; rfl
    · rw [decide_eq_false c, decide_eq_true (by omega)]; rfl
  have hm : ∀ x ∈ fitG l n line, Flag.Ins size (toP x) := fun x hx => hl x (List.mem_filter.1 hx).1
  unfold bestG Flag.bestS
  rw [← hf]
  cases hc : fitG l n line with
  | nil => rfl
  | cons x t =>
    rw [hc] at hm
    exact congrArg some (min_G hs h0 h9 t x (hm x List.mem_cons_self) fun y hy => hm y (List.mem_cons_of_mem _ hy))

end Go.Proofs.Ytkkfkdncddbaeaa.Fn
