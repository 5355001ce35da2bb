/- Part 6 of the walk: printed by programs of this session (by way of the kit's print) or told by hand. -/
import Derived.Test.YtkkfkdncddbaeaaV5
import Derived.Test.YtkkfkdncddbaeaaRows
import Derived.ProofKit
import Derived.OpenShut
import Derived.ChangeOld
import Derived.SizedLaws
import Derived.Deep.Slices
import Derived.Deep.Fields
import Derived.Deep.Strs
import Derived.ChangeSame
import Derived.Lib.SmallJoins
import Derived.Carry
import Derived.ChangeSlices
namespace Go.Proofs.Ytkkfkdncddbaeaa.Head
open Go.ChangeShapes Go.WideShapes Go.ChangeAt Go.RowKit
def codes : List Nat := [104, 97, 114, 110, 101, 115, 115, 32, 55, 51, 48, 49, 52, 53, 54, 57, 53, 49, 97, 49, 57, 55, 51, 51, 52, 100, 51, 54, 57, 50, 101, 57, 52, 97, 102, 51, 101, 100, 53, 55, 56, 57, 49, 49, 101, 55, 54, 55, 48, 97, 50, 54, 102, 57, 56, 100, 57, 48, 100, 97, 57, 48, 49, 49, 48, 97, 101, 48, 50, 49, 54, 102, 32, 99, 117, 116, 32, 97, 116, 32, 102, 108, 97, 103, 115, 116, 111, 110, 101, 47, 102, 108, 97, 103, 115, 116, 111, 110, 101, 108, 97, 119, 48, 53, 46, 69, 120, 116, 101, 110, 116, 79, 119, 110, 32, 102, 108, 97, 103, 115, 116, 111, 110, 101, 47, 102, 108, 97, 103, 115, 116, 111, 110, 101, 108, 97, 119, 48, 53, 46, 69, 120, 116, 101, 110, 116, 84, 119, 105, 99, 101, 32, 102, 108, 97, 103, 115, 116, 111, 110, 101, 47, 102, 108, 97, 103, 115, 116, 111, 110, 101, 108, 97, 119, 48, 53, 46, 69, 120, 116, 101, 110, 116, 66, 97, 99, 107, 32, 102, 108, 97, 103, 115, 116, 111, 110, 101, 47, 102, 108, 97, 103, 115, 116, 111, 110, 101, 108, 97, 119, 48, 53, 46, 69, 120, 116, 101, 110, 116, 67, 117, 116, 115, 32, 102, 108, 97, 103, 115, 116, 111, 110, 101, 47, 102, 108, 97, 103, 115, 116, 111, 110, 101, 108, 97, 119, 48, 53, 46, 69, 120, 116, 101, 110, 116, 80, 117, 116, 115, 32, 102, 108, 97, 103, 115, 116, 111, 110, 101, 47, 102, 108, 97, 103, 115, 116, 111, 110, 101, 108, 97, 119, 48, 53, 46, 69, 120, 116, 101, 110, 116, 70, 111, 108, 108, 111, 119, 115, 32, 102, 108, 97, 103, 115, 116, 111, 110, 101, 47, 102, 108, 97, 103, 115, 116, 111, 110, 101, 108, 97, 119, 48, 53, 46, 69, 120, 116, 101, 110, 116, 76, 111, 111, 107, 115, 32, 102, 108, 97, 103, 115, 116, 111, 110, 101, 47, 102, 108, 97, 103, 115, 116, 111, 110, 101, 108, 97, 119, 48, 53, 46, 69, 120, 116, 101, 110, 116, 84, 101, 108, 108, 115, 32, 102, 108, 97, 103, 115, 116, 111, 110, 101, 47, 102, 108, 97, 103, 115, 116, 111, 110, 101, 108, 97, 119, 48, 54, 46, 70, 114, 101, 101, 70, 105, 116, 115, 32, 102, 108, 97, 103, 115, 116, 111, 110, 101, 47, 102, 108, 97, 103, 115, 116, 111, 110, 101, 108, 97, 119, 48, 54, 46, 70, 114, 101, 101, 66, 97, 99, 107, 32, 102, 108, 97, 103, 115, 116, 111, 110, 101, 47, 102, 108, 97, 103, 115, 116, 111, 110, 101, 108, 97, 119, 48, 54, 46, 70, 114, 101, 101, 77, 101, 114, 103, 101, 115, 32, 102, 108, 97, 103, 115, 116, 111, 110, 101, 47, 102, 108, 97, 103, 115, 116, 111, 110, 101, 108, 97, 119, 48, 54, 46, 70, 114, 101, 101, 71, 114, 111, 119, 115, 32, 102, 108, 97, 103, 115, 116, 111, 110, 101, 47, 102, 108, 97, 103, 115, 116, 111, 110, 101, 108, 97, 119, 48, 53, 46, 69, 120, 116, 101, 110, 116, 77, 111, 118, 101, 115, 32, 102, 108, 97, 103, 115, 116, 111, 110, 101, 47, 102, 108, 97, 103, 115, 116, 111, 110, 101, 108, 97, 119, 48, 57, 46, 82, 101, 102, 115, 87, 104, 111, 32, 102, 108, 97, 103, 115, 116, 111, 110, 101, 47, 102, 108, 97, 103, 115, 116, 111, 110, 101, 108, 97, 119, 48, 57, 46, 82, 101, 102, 115, 83, 104, 97, 114, 101, 100, 32, 102, 108, 97, 103, 115, 116, 111, 110, 101, 47, 102, 108, 97, 103, 115, 116, 111, 110, 101, 108, 97, 119, 48, 57, 46, 82, 101, 102, 115, 67, 111, 117, 110, 116, 115, 32, 102, 108, 97, 103, 115, 116, 111, 110, 101, 47, 102, 108, 97, 103, 115, 116, 111, 110, 101, 108, 97, 119, 48, 57, 46, 82, 101, 102, 115, 84, 101, 108, 108, 115, 32, 102, 108, 97, 103, 115, 116, 111, 110, 101, 47, 102, 108, 97, 103, 115, 116, 111, 110, 101, 108, 97, 119, 48, 57, 46, 82, 101, 102, 115, 66, 97, 99, 107, 32, 102, 108, 97, 103, 115, 116, 111, 110, 101, 47, 102, 108, 97, 103, 115, 116, 111, 110, 101, 108, 97, 119, 48, 57, 46, 82, 101, 102, 115, 65, 103, 97, 105, 110, 32, 102, 108, 97, 103, 115, 116, 111, 110, 101, 47, 102, 108, 97, 103, 115, 116, 111, 110, 101, 108, 97, 119, 48, 57, 46, 82, 101, 102, 115, 79, 119, 110, 32, 102, 108, 97, 103, 115, 116, 111, 110, 101, 47, 102, 108, 97, 103, 115, 116, 111, 110, 101, 108, 97, 119, 48, 54, 46, 70, 114, 101, 101, 65, 108, 108, 32, 102, 108, 97, 103, 115, 116, 111, 110, 101, 47, 102, 108, 97, 103, 115, 116, 111, 110, 101, 108, 97, 119, 48, 54, 46, 70, 114, 101, 101, 83, 105, 122, 101, 115]
set_option maxRecDepth 100000 in
theorem order_eq : Try.prog.initOrder = String.ofList (codes.map Char.ofNat) := by kernel_rfl
theorem signs_eq : Try.prog.initOrder.toList = codes.map Char.ofNat := by rw [order_eq, String.toList_ofList]
def ws : List (List Nat) := [[104, 97, 114, 110, 101, 115, 115], [55, 51, 48, 49, 52, 53, 54, 57, 53, 49, 97, 49, 57, 55, 51, 51, 52, 100, 51, 54, 57, 50, 101, 57, 52, 97, 102, 51, 101, 100, 53, 55, 56, 57, 49, 49, 101, 55, 54, 55, 48, 97, 50, 54, 102, 57, 56, 100, 57, 48, 100, 97, 57, 48, 49, 49, 48, 97, 101, 48, 50, 49, 54, 102], [99, 117, 116], [97, 116], [102, 108, 97, 103, 115, 116, 111, 110, 101, 47, 102, 108, 97, 103, 115, 116, 111, 110, 101, 108, 97, 119, 48, 53, 46, 69, 120, 116, 101, 110, 116, 79, 119, 110], [102, 108, 97, 103, 115, 116, 111, 110, 101, 47, 102, 108, 97, 103, 115, 116, 111, 110, 101, 108, 97, 119, 48, 53, 46, 69, 120, 116, 101, 110, 116, 84, 119, 105, 99, 101], [102, 108, 97, 103, 115, 116, 111, 110, 101, 47, 102, 108, 97, 103, 115, 116, 111, 110, 101, 108, 97, 119, 48, 53, 46, 69, 120, 116, 101, 110, 116, 66, 97, 99, 107], [102, 108, 97, 103, 115, 116, 111, 110, 101, 47, 102, 108, 97, 103, 115, 116, 111, 110, 101, 108, 97, 119, 48, 53, 46, 69, 120, 116, 101, 110, 116, 67, 117, 116, 115], [102, 108, 97, 103, 115, 116, 111, 110, 101, 47, 102, 108, 97, 103, 115, 116, 111, 110, 101, 108, 97, 119, 48, 53, 46, 69, 120, 116, 101, 110, 116, 80, 117, 116, 115], [102, 108, 97, 103, 115, 116, 111, 110, 101, 47, 102, 108, 97, 103, 115, 116, 111, 110, 101, 108, 97, 119, 48, 53, 46, 69, 120, 116, 101, 110, 116, 70, 111, 108, 108, 111, 119, 115], [102, 108, 97, 103, 115, 116, 111, 110, 101, 47, 102, 108, 97, 103, 115, 116, 111, 110, 101, 108, 97, 119, 48, 53, 46, 69, 120, 116, 101, 110, 116, 76, 111, 111, 107, 115], [102, 108, 97, 103, 115, 116, 111, 110, 101, 47, 102, 108, 97, 103, 115, 116, 111, 110, 101, 108, 97, 119, 48, 53, 46, 69, 120, 116, 101, 110, 116, 84, 101, 108, 108, 115], [102, 108, 97, 103, 115, 116, 111, 110, 101, 47, 102, 108, 97, 103, 115, 116, 111, 110, 101, 108, 97, 119, 48, 54, 46, 70, 114, 101, 101, 70, 105, 116, 115], [102, 108, 97, 103, 115, 116, 111, 110, 101, 47, 102, 108, 97, 103, 115, 116, 111, 110, 101, 108, 97, 119, 48, 54, 46, 70, 114, 101, 101, 66, 97, 99, 107], [102, 108, 97, 103, 115, 116, 111, 110, 101, 47, 102, 108, 97, 103, 115, 116, 111, 110, 101, 108, 97, 119, 48, 54, 46, 70, 114, 101, 101, 77, 101, 114, 103, 101, 115], [102, 108, 97, 103, 115, 116, 111, 110, 101, 47, 102, 108, 97, 103, 115, 116, 111, 110, 101, 108, 97, 119, 48, 54, 46, 70, 114, 101, 101, 71, 114, 111, 119, 115], [102, 108, 97, 103, 115, 116, 111, 110, 101, 47, 102, 108, 97, 103, 115, 116, 111, 110, 101, 108, 97, 119, 48, 53, 46, 69, 120, 116, 101, 110, 116, 77, 111, 118, 101, 115], [102, 108, 97, 103, 115, 116, 111, 110, 101, 47, 102, 108, 97, 103, 115, 116, 111, 110, 101, 108, 97, 119, 48, 57, 46, 82, 101, 102, 115, 87, 104, 111], [102, 108, 97, 103, 115, 116, 111, 110, 101, 47, 102, 108, 97, 103, 115, 116, 111, 110, 101, 108, 97, 119, 48, 57, 46, 82, 101, 102, 115, 83, 104, 97, 114, 101, 100], [102, 108, 97, 103, 115, 116, 111, 110, 101, 47, 102, 108, 97, 103, 115, 116, 111, 110, 101, 108, 97, 119, 48, 57, 46, 82, 101, 102, 115, 67, 111, 117, 110, 116, 115], [102, 108, 97, 103, 115, 116, 111, 110, 101, 47, 102, 108, 97, 103, 115, 116, 111, 110, 101, 108, 97, 119, 48, 57, 46, 82, 101, 102, 115, 84, 101, 108, 108, 115], [102, 108, 97, 103, 115, 116, 111, 110, 101, 47, 102, 108, 97, 103, 115, 116, 111, 110, 101, 108, 97, 119, 48, 57, 46, 82, 101, 102, 115, 66, 97, 99, 107], [102, 108, 97, 103, 115, 116, 111, 110, 101, 47, 102, 108, 97, 103, 115, 116, 111, 110, 101, 108, 97, 119, 48, 57, 46, 82, 101, 102, 115, 65, 103, 97, 105, 110], [102, 108, 97, 103, 115, 116, 111, 110, 101, 47, 102, 108, 97, 103, 115, 116, 111, 110, 101, 108, 97, 119, 48, 57, 46, 82, 101, 102, 115, 79, 119, 110], [102, 108, 97, 103, 115, 116, 111, 110, 101, 47, 102, 108, 97, 103, 115, 116, 111, 110, 101, 108, 97, 119, 48, 54, 46, 70, 114, 101, 101, 65, 108, 108], [102, 108, 97, 103, 115, 116, 111, 110, 101, 47, 102, 108, 97, 103, 115, 116, 111, 110, 101, 108, 97, 119, 48, 54, 46, 70, 114, 101, 101, 83, 105, 122, 101, 115]]
def wsC : List (List Char) := ws.map fun w => w.map Char.ofNat
set_option maxRecDepth 100000 in
theorem words0 : wordsSigns (codes.map Char.ofNat) = wsC := by kernel_rfl
theorem words_eq : wordsSigns Try.prog.initOrder.toList = wsC := by rw [signs_eq, words0]
def cutW : List Char := [99, 117, 116].map Char.ofNat
def wsT : List (List Char) := (ws.drop 3).map fun w => w.map Char.ofNat
set_option maxRecDepth 100000 in
theorem bm : behindMainWord wsC = cutW :: wsT := by kernel_rfl
theorem is_gc : (cutW == "gc".toList) = false := by kernel_rfl
theorem is_spec : (cutW == "spec".toList) = false := by kernel_rfl
theorem is_cut : (cutW == "cut".toList) = true := by kernel_rfl
theorem is_carried : (cutW == "carried".toList) = false := by kernel_rfl
theorem strip : stripLifts liftWords (cutW :: wsT) = ([], cutW :: wsT) := by kernel_rfl
theorem strip_cut : (some cutW == some "cut".toList) = true := by kernel_rfl
theorem make_of (P : Program) (rest : List (List Char)) (h : behindMainWord (wordsSigns P.initOrder.toList) = cutW :: rest) : P.make = some .cut := by
  unfold Program.make
  rw [h]
  dsimp only
  rw [is_gc, is_spec, is_cut]
  rfl
theorem enter_of (P : Program) (rest : List (List Char)) (h : behindMainWord (wordsSigns P.initOrder.toList) = cutW :: rest) (hs : stripLifts liftWords (cutW :: rest) = ([], cutW :: rest)) (h1 : P.laysLater = false) (h2 : P.bearsReflect = false) (h3 : P.doorFits [] = true) : P.mayEnter = true := by
  unfold Program.mayEnter
  rw [h]
  dsimp only
  rw [hs]
  dsimp only [List.head?]
  rw [is_gc, is_spec, is_carried, strip_cut, h1, h2, h3]
  rfl
theorem carried_no : (some cutW == some "carried".toList) = false := by kernel_rfl
theorem lifts_of (P : Program) (rest : List (List Char)) (h : behindMainWord (wordsSigns P.initOrder.toList) = cutW :: rest) (hs : stripLifts liftWords (cutW :: rest) = ([], cutW :: rest)) : P.liftsFinal = false := by
  unfold Program.liftsFinal Program.headLifts
  rw [h]
  dsimp only
  rw [hs]
  dsimp only [List.head?]
  rw [carried_no]
  kernel_rfl
theorem behind : behindMainWord (wordsSigns Try.prog.initOrder.toList) = cutW :: wsT := Eq.trans (congrArg behindMainWord words_eq) bm
theorem make0 : Try.prog.make = some .cut := make_of _ _ behind
set_option maxRecDepth 100000 in
theorem lays : Try.prog.laysLater = false := by kernel_rfl
set_option maxRecDepth 100000 in
theorem bears : Try.prog.bearsReflect = false := by kernel_rfl
set_option maxRecDepth 100000 in
theorem doors : Try.prog.doorFits [] = true := by kernel_rfl
theorem enter0 : Try.prog.mayEnter = true := enter_of _ _ behind strip lays bears doors
theorem lifts0 : Try.prog.liftsFinal = false := lifts_of _ _ behind strip
end Go.Proofs.Ytkkfkdncddbaeaa.Head
namespace Go.Proofs.Ytkkfkdncddbaeaa.Fn
open Go.RowKit Go.Proofs.YtkkfkdncddbaeaaW.PrintWords Go.Proofs.YtkkfkdncddbaeaaW.PrintLast Go.Proofs.YtkkfkdncddbaeaaW.PrintMore
attribute [local go_sem] max2_int min2_int max_two min_two max_three min_three max_four min_four
set_option linter.unusedVariables false
set_option linter.unusedSimpArgs false
open Go.ChangeShapes Go.WideShapes Go.ChangeAt Go.Deep Go.Joins
def Opn {α : Type} (d : Kd α) (t : TypeId) : Prop :=
  ∀ {H : Type} (enc : TypeId × Value → H) (w : World) (base : Nat) (spare : Nat → Bool) (held : Bool) (fuel : Nat) (cs : List Value) (x : DataW H × List MemPlace), DataW.trod enc Try.prog w base spare held fuel t cs = some x → ∃ a, d.K w a cs
theorem one_of {fuel : Nat} {H : Type} {enc : TypeId × Value → H} {w : World} {base : Nat} {spare : Nat → Bool} {held : Bool} {v : List Value} {x : DataW H × List MemPlace} (h : DataW.trod enc Try.prog w base spare held fuel 3 v = some x) : ∃ n, v = [.int .i64 n] := by
  obtain ⟨n, rfl, _⟩ := DataW.trod_int Try.underlying3 h
  exact ⟨n, rfl⟩
theorem cells3 : Try.prog.cellsOf 3 = 1 := by kernel_rfl
set_option maxRecDepth 100000 in
theorem opn_24 : Opn k24 24 := by
  intro H enc w base spare held fuel cs x h
  obtain ⟨y0, y1, y2, n, _, hl, h0, h1, h2⟩ := trod_struct3 Try.underlying24 h
  have hc : Try.prog.cellsOf 24 = 3 := by kernel_rfl
  rw [hc] at hl
  match cs, hl with
  | [c0, c1, c2], _ =>
    simp only [cells3] at h0 h1 h2
    obtain ⟨n0, e0⟩ := one_of h0
    obtain ⟨n1, e1⟩ := one_of h1
    obtain ⟨n2, e2⟩ := one_of h2
    simp at e0 e1 e2
    subst e0 e1 e2
    exact ⟨⟨n0, n1, n2⟩, k24_mk w _⟩
theorem open_row {α : Type} {d : Kd α} {t e : TypeId} (ht : Try.prog.underlying t = some (.slice e)) (hc : Try.prog.cellsOf e = d.sz) (ho : Opn d e)
    {H : Type} {enc : TypeId × Value → H} {w : World} {base : Nat} {spare : Nat → Bool} {held : Bool} {A : Option Addr} {len cap : Nat} {D : DataW H} {ps : List MemPlace}
    (h : DataW.Trod enc Try.prog w base spare held t (.slice A len cap) D ps) :
    ∃ l : List α, len = l.length ∧ l.length ≤ cap ∧ Kd.C d w A l.length l ∧ ((D = .nil ∧ len = 0) ∨ ∃ es rs, D = .slice es rs ∧ es.length = len) := by
  obtain ⟨fuel, hf⟩ := h
  rcases open_slice ht hf with ⟨hcs, hx⟩ | ⟨a, len', cap', m, n, Ds, Pl, hcs, _, hl, hm, hmm, hx, hi⟩
  · simp [Value.cells] at hcs
    obtain ⟨rfl, rfl, rfl⟩ := hcs
    obtain ⟨hx, _⟩ := Prod.mk.inj hx
    exact ⟨[], rfl, Nat.le_refl _, ⟨rfl, by simp, fun h => absurd h (by simp)⟩, .inl ⟨hx, rfl⟩⟩
  · simp [Value.cells] at hcs
    obtain ⟨rfl, rfl, rfl⟩ := hcs
    obtain ⟨hx, _⟩ := Prod.mk.inj hx
    have hle : len ≤ m := by rw [hmm]; split <;> omega
    have hex : ∀ i, i < len → ∃ x : α, ∃ c, c.length = d.sz ∧ d.K w x c ∧ ∀ j u, c[j]? = some u → w.cell? (a.add (i * d.sz + j)) = some u := by
      intro i hil
      obtain ⟨cs', h1, h2⟩ := hi i (by omega)
      rw [hc] at h1
      obtain ⟨_, hcl, hat⟩ := World.cells?_some h1
      obtain ⟨x, hk⟩ := ho enc w base spare held n cs' _ h2
      refine ⟨x, cs', hcl, hk, fun j u hu => ?_⟩
      have hj : j < d.sz := by
        have := (List.getElem?_eq_some_iff.1 hu).1
        omega
      rw [← Go.Deep.add_add, hat j hj, hu]
    let f : Fin len → α := fun i => Classical.choose (hex i.1 i.2)
    have hf : ∀ i : Fin len, ∃ c, c.length = d.sz ∧ d.K w (f i) c ∧ ∀ j u, c[j]? = some u → w.cell? (a.add (i.1 * d.sz + j)) = some u := fun i => Classical.choose_spec (hex i.1 i.2)
    have hfl : (List.ofFn f).length = len := List.length_ofFn
    refine ⟨List.ofFn f, hfl.symm, by omega, ⟨rfl, ?_, fun _ => ⟨a, rfl, fun j p hp => ?_⟩⟩, .inr ⟨_, _, hx, by simp⟩⟩
    · rw [hfl]
      have : maxLen ≤ 9223372036854775807 := by decide
      omega
    · have hj : j < len := by
        have := (List.getElem?_eq_some_iff.1 hp).1
        omega
      have hp2 : f ⟨j, hj⟩ = p := by
        rw [List.getElem?_ofFn, dif_pos hj] at hp
        exact Option.some.inj hp
      rw [← hp2]
      exact hf ⟨j, hj⟩
theorem row_weight {t e : TypeId} (ht : Try.prog.underlying t = some (.slice e)) {B : Nat} (hB : Try.prog.bytesOf e = B) {H : Type} {ts : List TypeId} {ds : List (DataW H)} {j : Nat} {D : DataW H} {len : Nat}
    (hsz : (DataW.weightsEach Try.prog ts ds).all (· ≤ reachBytes) = true) (h1 : ts[j]? = some t) (h2 : ds[j]? = some D) (hD : (D = .nil ∧ len = 0) ∨ ∃ es rs, D = .slice es rs ∧ es.length = len) : len * B ≤ 140737488351232 := by
  rcases hD with ⟨_, rfl⟩ | ⟨es, rs, rfl, rfl⟩
  · simp
  · have z := sized_slice hsz h1 h2 ht
    rw [hB] at z
    have z2 : (es.length + rs.length) * B ≤ 140737488351232 := z
    exact Nat.le_trans (Nat.mul_le_mul_right _ (Nat.le_add_right _ _)) z2
theorem laidOut : laidOutB Try.prog = true := by kernel_rfl
def FitsM {H : Type} (n : Nat) (D : DataW H) : Prop := ∃ D0 D1, D = .agg [D0, D1] ∧ ((D1 = .nil ∧ n = 0) ∨ ∃ es rs, D1 = .slice es rs ∧ es.length = n)
set_option maxRecDepth 100000 in
theorem opn_map {H : Type} (enc : TypeId × Value → H) (w : World) (base : Nat) (spare : Nat → Bool) (held : Bool) (fuel : Nat) (cs : List Value) (x : DataW H × List MemPlace) (h : DataW.trod enc Try.prog w base spare held fuel 86 cs = some x) :
    ∃ a, k86.K w a cs ∧ FitsM a.f1.length x.1 := by
  obtain ⟨y0, y1, n, rfl, hl, h0, h1⟩ := trod_struct2 Try.underlying86 h
  have hc : Try.prog.cellsOf 86 = 2 := by kernel_rfl
  have hc2 : Try.prog.cellsOf 22 = 1 := by kernel_rfl
  rw [hc] at hl
  match cs, hl with
  | [c0, c1], _ =>
    simp only [cells3, hc2] at h0 h1
    obtain ⟨n0, e0⟩ := one_of h0
    simp at e0
    subst e0
    have h1 : DataW.trod enc Try.prog w base spare held n 22 [c1] = some y1 := by simpa using h1
    have hsl : ∃ A len cap, c1 = .slice A len cap := by
      rcases open_slice Try.underlying22 h1 with ⟨hcs, _⟩ | ⟨a, len', cap', m, n', Ds, Pl, hcs, _⟩
      · exact ⟨none, 0, 0, by simpa using hcs⟩
      · exact ⟨some a, len', cap', by simpa using hcs⟩
    obtain ⟨A, len, cap, rfl⟩ := hsl
    have h2 : DataW.Trod enc Try.prog w base spare held 22 (.slice A len cap) y1.1 y1.2 := ⟨n, by simpa [Value.cells] using h1⟩
    obtain ⟨l, rfl, c, hr, hd⟩ := open_row Try.underlying22 (by kernel_rfl) opn_24 h2
    exact ⟨⟨n0, l⟩, k86_mk w ⟨n0, l⟩ c hr, _, _, rfl, hd⟩
set_option maxRecDepth 100000 in
theorem open_maps {H : Type} {enc : TypeId × Value → H} {w : World} {base : Nat} {spare : Nat → Bool} {held : Bool} {A : Option Addr} {len cap : Nat} {D : DataW H} {ps : List MemPlace}
    (h : DataW.Trod enc Try.prog w base spare held 79 (.slice A len cap) D ps) :
    ∃ l : List S86, len = l.length ∧ l.length ≤ cap ∧ Kd.C k86 w A l.length l ∧ ((D = .nil ∧ len = 0) ∨ ∃ es rs, D = .slice es rs ∧ es.length = len) ∧ ∀ x ∈ l, ∃ es rs, D = .slice es rs ∧ ∃ e ∈ es, FitsM x.f1.length e := by
  obtain ⟨fuel, hf⟩ := h
  have hce : Try.prog.cellsOf 86 = 2 := by kernel_rfl
  rcases open_slice Try.underlying79 hf with ⟨hcs, hx⟩ | ⟨a, len', cap', m, n, Ds, Pl, hcs, _, hl, hm, hmm, hx, hi⟩
  · simp [Value.cells] at hcs
    obtain ⟨rfl, rfl, rfl⟩ := hcs
    obtain ⟨hx, _⟩ := Prod.mk.inj hx
    exact ⟨[], rfl, Nat.le_refl _, ⟨rfl, by simp, fun h => absurd h (by simp)⟩, .inl ⟨hx, rfl⟩, by intro x hx; cases hx⟩
  · simp [Value.cells] at hcs
    obtain ⟨rfl, rfl, rfl⟩ := hcs
    obtain ⟨hx, _⟩ := Prod.mk.inj hx
    have hle : len ≤ m := by rw [hmm]; split <;> omega
    have hex : ∀ i, i < len → ∃ x : S86, FitsM x.f1.length (Ds i) ∧ ∃ c, c.length = k86.sz ∧ k86.K w x c ∧ ∀ j u, c[j]? = some u → w.cell? (a.add (i * k86.sz + j)) = some u := by
      intro i hil
      obtain ⟨cs', h1, h2⟩ := hi i (by omega)
      rw [hce] at h1
      obtain ⟨_, hcl, hat⟩ := World.cells?_some h1
      obtain ⟨x, hk, hfx⟩ := opn_map enc w base spare held n cs' _ h2
      refine ⟨x, hfx, cs', hcl, hk, fun j u hu => ?_⟩
      have hj : j < 2 := by
        have := (List.getElem?_eq_some_iff.1 hu).1
        omega
      show w.cell? (a.add (i * 2 + j)) = some u
      rw [← Go.Deep.add_add, hat j hj, hu]
    let f : Fin len → S86 := fun i => Classical.choose (hex i.1 i.2)
    have hf : ∀ i : Fin len, FitsM (f i).f1.length (Ds i) ∧ ∃ c, c.length = k86.sz ∧ k86.K w (f i) c ∧ ∀ j u, c[j]? = some u → w.cell? (a.add (i.1 * k86.sz + j)) = some u := fun i => Classical.choose_spec (hex i.1 i.2)
    have hfl : (List.ofFn f).length = len := List.length_ofFn
    refine ⟨List.ofFn f, hfl.symm, by omega, ⟨rfl, ?_, fun _ => ⟨a, rfl, fun j p hp => ?_⟩⟩, .inr ⟨_, _, hx, by simp⟩, fun x hxm => ?_⟩
    · rw [hfl]
      have : maxLen ≤ 9223372036854775807 := by decide
      omega
    · have hj : j < len := by
        have := (List.getElem?_eq_some_iff.1 hp).1
        omega
      have hp2 : f ⟨j, hj⟩ = p := by
        rw [List.getElem?_ofFn, dif_pos hj] at hp
        exact Option.some.inj hp
      rw [← hp2]
      exact (hf ⟨j, hj⟩).2
    · obtain ⟨i, rfl⟩ := List.mem_ofFn.1 hxm
      exact ⟨_, _, hx, Ds i, List.mem_map.2 ⟨i.1, by simp [i.2], rfl⟩, (hf i).1⟩
theorem weightsAll_mem9 {H : Type} {P : Program} {e : TypeId} : ∀ {l : List (DataW H)} {d : DataW H}, d ∈ l → ∀ n ∈ d.weights P e, n ∈ DataW.weightsAll P e l
  | d' :: r, d, hd, n, hn => by
    simp only [DataW.weightsAll, List.mem_append]
    rcases List.mem_cons.1 hd with rfl | h
    · exact Or.inl hn
    · exact Or.inr (weightsAll_mem9 h n hn)
theorem weight_map {H : Type} {ts : List TypeId} {ds : List (DataW H)} {j : Nat} {D : DataW H} {len : Nat} (hsz : (DataW.weightsEach Try.prog ts ds).all (· ≤ reachBytes) = true) (h1 : ts[j]? = some 79) (h2 : ds[j]? = some D)
    (hD : ∃ es rs, D = .slice es rs ∧ ∃ e ∈ es, FitsM len e) : len * 24 ≤ 140737488351232 := by
  obtain ⟨es, rs, rfl, e, he, D0, D1, rfl, hk⟩ := hD
  rcases hk with ⟨_, rfl⟩ | ⟨es', rs', rfl, rfl⟩
  · simp
  · have hB : Try.prog.bytesOf 24 = 24 := by kernel_rfl
    have hm : (es'.length + rs'.length) * Try.prog.bytesOf 24 ∈ (DataW.agg [D0, .slice es' rs']).weights Try.prog 86 := by
      simp [DataW.weights, Try.underlying86, DataW.weightsEach, Try.underlying22]
    have hm2 : (es'.length + rs'.length) * Try.prog.bytesOf 24 ∈ (DataW.slice es rs).weights Try.prog 79 := by
      have h3 := weightsAll_mem9 (P := Try.prog) (e := 86) he _ hm
      simp only [DataW.weights, Try.underlying79]
      exact List.mem_cons_of_mem _ (List.mem_append_left _ h3)
    have z := List.all_eq_true.1 hsz _ (DataW.weights_mem_each h1 h2 _ hm2)
    rw [hB] at z
    have z2 : (es'.length + rs'.length) * 24 ≤ 140737488351232 := of_decide_eq_true z
    exact Nat.le_trans (Nat.mul_le_mul_right _ (Nat.le_add_right _ _)) z2
end Go.Proofs.Ytkkfkdncddbaeaa.Fn
