/- Part 8 of the walk: printed by programs of this session (by way of the kit's print) or told by hand. -/
import Derived.Test.YtjeeejoelmmfmaaGreatR7
import Derived.Test.YtjeeejoelmmfmaaGreatRows
import Derived.ProofKit
import Derived.OpenShut
import Derived.ChangeOld
import Derived.SizedLaws
import Derived.Deep.Slices
import Derived.Deep.Fields
import Derived.Deep.Strs
import Derived.ChangeSame
import Derived.Lib.SmallJoins
import Derived.Carry
import Derived.ChangeSlices
namespace Go.Proofs.YtjeeejoelmmfmaaGreat.Head
open Go.ChangeShapes Go.WideShapes Go.ChangeAt Go.RowKit
def codes : List Nat := [104, 97, 114, 110, 101, 115, 115, 32, 50, 49, 55, 99, 55, 48, 48, 97, 101, 55, 100, 100, 55, 52, 101, 56, 55, 54, 101, 51, 55, 99, 98, 57, 101, 49, 54, 53, 102, 102, 100, 52, 48, 55, 98, 57, 49, 48, 100, 56, 98, 52, 51, 98, 50, 48, 98, 98, 54, 53, 54, 102, 100, 97, 102, 51, 50, 51, 102, 51, 49, 52, 100, 101, 32, 99, 117, 116, 32, 97, 116, 32, 102, 108, 97, 103, 115, 116, 111, 110, 101, 47, 102, 108, 97, 103, 115, 116, 111, 110, 101, 108, 97, 119, 49, 49, 46, 86, 111, 108, 117, 109, 101, 82, 101, 97, 100, 115, 32, 102, 108, 97, 103, 115, 116, 111, 110, 101, 47, 102, 108, 97, 103, 115, 116, 111, 110, 101, 108, 97, 119, 49, 49, 46, 86, 111, 108, 117, 109, 101, 83, 112, 97, 99, 101, 32, 102, 108, 97, 103, 115, 116, 111, 110, 101, 47, 102, 108, 97, 103, 115, 116, 111, 110, 101, 108, 97, 119, 49, 49, 46, 86, 111, 108, 117, 109, 101, 83, 104, 97, 114, 101, 115, 32, 102, 108, 97, 103, 115, 116, 111, 110, 101, 47, 102, 108, 97, 103, 115, 116, 111, 110, 101, 108, 97, 119, 49, 49, 46, 86, 111, 108, 117, 109, 101, 69, 109, 112, 116, 105, 101, 115, 32, 102, 108, 97, 103, 115, 116, 111, 110, 101, 47, 102, 108, 97, 103, 115, 116, 111, 110, 101, 108, 97, 119, 49, 49, 46, 86, 111, 108, 117, 109, 101, 70, 114, 101, 101, 32, 102, 108, 97, 103, 115, 116, 111, 110, 101, 47, 102, 108, 97, 103, 115, 116, 111, 110, 101, 108, 97, 119, 49, 49, 46, 86, 111, 108, 117, 109, 101, 78, 101, 119, 32, 102, 108, 97, 103, 115, 116, 111, 110, 101, 47, 102, 108, 97, 103, 115, 116, 111, 110, 101, 108, 97, 119, 49, 49, 46, 86, 111, 108, 117, 109, 101, 79, 119, 110, 32, 102, 108, 97, 103, 115, 116, 111, 110, 101, 47, 102, 108, 97, 103, 115, 116, 111, 110, 101, 108, 97, 119, 49, 49, 46, 86, 111, 108, 117, 109, 101, 82, 97, 119, 32, 102, 108, 97, 103, 115, 116, 111, 110, 101, 47, 102, 108, 97, 103, 115, 116, 111, 110, 101, 108, 97, 119, 49, 50, 46, 82, 101, 108, 111, 99, 86, 105, 99, 116, 105, 109, 115, 32, 102, 108, 97, 103, 115, 116, 111, 110, 101, 47, 102, 108, 97, 103, 115, 116, 111, 110, 101, 108, 97, 119, 49, 51, 46, 82, 101, 115, 105, 122, 101, 78, 101, 101, 100, 115, 32, 102, 108, 97, 103, 115, 116, 111, 110, 101, 47, 102, 108, 97, 103, 115, 116, 111, 110, 101, 108, 97, 119, 49, 51, 46, 82, 101, 115, 105, 122, 101, 71, 114, 111, 119, 115, 32, 102, 108, 97, 103, 115, 116, 111, 110, 101, 47, 102, 108, 97, 103, 115, 116, 111, 110, 101, 108, 97, 119, 49, 51, 46, 82, 101, 115, 105, 122, 101, 80, 108, 97, 121, 115, 32, 102, 108, 97, 103, 115, 116, 111, 110, 101, 47, 102, 108, 97, 103, 115, 116, 111, 110, 101, 108, 97, 119, 49, 50, 46, 82, 101, 108, 111, 99, 77, 111, 118, 101, 115, 32, 102, 108, 97, 103, 115, 116, 111, 110, 101, 47, 102, 108, 97, 103, 115, 116, 111, 110, 101, 108, 97, 119, 49, 51, 46, 82, 101, 115, 105, 122, 101, 84, 114, 117, 110, 99, 97, 116, 101, 115, 32, 102, 108, 97, 103, 115, 116, 111, 110, 101, 47, 102, 108, 97, 103, 115, 116, 111, 110, 101, 108, 97, 119, 49, 51, 46, 82, 101, 115, 105, 122, 101, 65, 103, 97, 105, 110, 32, 102, 108, 97, 103, 115, 116, 111, 110, 101, 47, 102, 108, 97, 103, 115, 116, 111, 110, 101, 108, 97, 119, 49, 51, 46, 82, 101, 115, 105, 122, 101, 79, 119, 110]
set_option maxRecDepth 100000 in
theorem vS : Tryz.prog.initOrder = String.ofList (codes.map Char.ofNat) := by kernel_rfl
theorem xL : Tryz.prog.initOrder.toList = codes.map Char.ofNat := by rw [vS, String.toList_ofList]
def ws : List (List Nat) := [[104, 97, 114, 110, 101, 115, 115], [50, 49, 55, 99, 55, 48, 48, 97, 101, 55, 100, 100, 55, 52, 101, 56, 55, 54, 101, 51, 55, 99, 98, 57, 101, 49, 54, 53, 102, 102, 100, 52, 48, 55, 98, 57, 49, 48, 100, 56, 98, 52, 51, 98, 50, 48, 98, 98, 54, 53, 54, 102, 100, 97, 102, 51, 50, 51, 102, 51, 49, 52, 100, 101], [99, 117, 116], [97, 116], [102, 108, 97, 103, 115, 116, 111, 110, 101, 47, 102, 108, 97, 103, 115, 116, 111, 110, 101, 108, 97, 119, 49, 49, 46, 86, 111, 108, 117, 109, 101, 82, 101, 97, 100, 115], [102, 108, 97, 103, 115, 116, 111, 110, 101, 47, 102, 108, 97, 103, 115, 116, 111, 110, 101, 108, 97, 119, 49, 49, 46, 86, 111, 108, 117, 109, 101, 83, 112, 97, 99, 101], [102, 108, 97, 103, 115, 116, 111, 110, 101, 47, 102, 108, 97, 103, 115, 116, 111, 110, 101, 108, 97, 119, 49, 49, 46, 86, 111, 108, 117, 109, 101, 83, 104, 97, 114, 101, 115], [102, 108, 97, 103, 115, 116, 111, 110, 101, 47, 102, 108, 97, 103, 115, 116, 111, 110, 101, 108, 97, 119, 49, 49, 46, 86, 111, 108, 117, 109, 101, 69, 109, 112, 116, 105, 101, 115], [102, 108, 97, 103, 115, 116, 111, 110, 101, 47, 102, 108, 97, 103, 115, 116, 111, 110, 101, 108, 97, 119, 49, 49, 46, 86, 111, 108, 117, 109, 101, 70, 114, 101, 101], [102, 108, 97, 103, 115, 116, 111, 110, 101, 47, 102, 108, 97, 103, 115, 116, 111, 110, 101, 108, 97, 119, 49, 49, 46, 86, 111, 108, 117, 109, 101, 78, 101, 119], [102, 108, 97, 103, 115, 116, 111, 110, 101, 47, 102, 108, 97, 103, 115, 116, 111, 110, 101, 108, 97, 119, 49, 49, 46, 86, 111, 108, 117, 109, 101, 79, 119, 110], [102, 108, 97, 103, 115, 116, 111, 110, 101, 47, 102, 108, 97, 103, 115, 116, 111, 110, 101, 108, 97, 119, 49, 49, 46, 86, 111, 108, 117, 109, 101, 82, 97, 119], [102, 108, 97, 103, 115, 116, 111, 110, 101, 47, 102, 108, 97, 103, 115, 116, 111, 110, 101, 108, 97, 119, 49, 50, 46, 82, 101, 108, 111, 99, 86, 105, 99, 116, 105, 109, 115], [102, 108, 97, 103, 115, 116, 111, 110, 101, 47, 102, 108, 97, 103, 115, 116, 111, 110, 101, 108, 97, 119, 49, 51, 46, 82, 101, 115, 105, 122, 101, 78, 101, 101, 100, 115], [102, 108, 97, 103, 115, 116, 111, 110, 101, 47, 102, 108, 97, 103, 115, 116, 111, 110, 101, 108, 97, 119, 49, 51, 46, 82, 101, 115, 105, 122, 101, 71, 114, 111, 119, 115], [102, 108, 97, 103, 115, 116, 111, 110, 101, 47, 102, 108, 97, 103, 115, 116, 111, 110, 101, 108, 97, 119, 49, 51, 46, 82, 101, 115, 105, 122, 101, 80, 108, 97, 121, 115], [102, 108, 97, 103, 115, 116, 111, 110, 101, 47, 102, 108, 97, 103, 115, 116, 111, 110, 101, 108, 97, 119, 49, 50, 46, 82, 101, 108, 111, 99, 77, 111, 118, 101, 115], [102, 108, 97, 103, 115, 116, 111, 110, 101, 47, 102, 108, 97, 103, 115, 116, 111, 110, 101, 108, 97, 119, 49, 51, 46, 82, 101, 115, 105, 122, 101, 84, 114, 117, 110, 99, 97, 116, 101, 115], [102, 108, 97, 103, 115, 116, 111, 110, 101, 47, 102, 108, 97, 103, 115, 116, 111, 110, 101, 108, 97, 119, 49, 51, 46, 82, 101, 115, 105, 122, 101, 65, 103, 97, 105, 110], [102, 108, 97, 103, 115, 116, 111, 110, 101, 47, 102, 108, 97, 103, 115, 116, 111, 110, 101, 108, 97, 119, 49, 51, 46, 82, 101, 115, 105, 122, 101, 79, 119, 110]]
def wsC : List (List Char) := ws.map fun w => w.map Char.ofNat
set_option maxRecDepth 100000 in
theorem words0 : wordsSigns (codes.map Char.ofNat) = wsC := by kernel_rfl
theorem xN : wordsSigns Tryz.prog.initOrder.toList = wsC := by rw [xL, words0]
def cutW : List Char := [99, 117, 116].map Char.ofNat
def wsT : List (List Char) := (ws.drop 3).map fun w => w.map Char.ofNat
set_option maxRecDepth 100000 in
theorem bm : behindMainWord wsC = cutW :: wsT := by kernel_rfl
theorem is_gc : (cutW == "gc".toList) = false := by kernel_rfl
theorem tT : (cutW == "spec".toList) = false := by kernel_rfl
theorem is_cut : (cutW == "cut".toList) = true := by kernel_rfl
theorem si : (cutW == "carried".toList) = false := by kernel_rfl
theorem strip : stripLifts liftWords (cutW :: wsT) = ([], cutW :: wsT) := by kernel_rfl
theorem uF : (some cutW == some "cut".toList) = true := by kernel_rfl
theorem yS (P : Program) (rest : List (List Char)) (h : behindMainWord (wordsSigns P.initOrder.toList) = cutW :: rest) : P.make = some .cut := by
  unfold Program.make
  rw [h]
  dsimp only
  rw [is_gc, tT, is_cut]
  rfl
theorem xc (P : Program) (rest : List (List Char)) (h : behindMainWord (wordsSigns P.initOrder.toList) = cutW :: rest) (hs : stripLifts liftWords (cutW :: rest) = ([], cutW :: rest)) (h1 : P.laysLater = false) (h2 : P.bearsReflect = false) (h3 : P.doorFits [] = true) : P.mayEnter = true := by
  unfold Program.mayEnter
  rw [h]
  dsimp only
  rw [hs]
  dsimp only [List.head?]
  rw [is_gc, tT, si, uF, h1, h2, h3]
  rfl
theorem sD : (some cutW == some "carried".toList) = false := by kernel_rfl
theorem wG (P : Program) (rest : List (List Char)) (h : behindMainWord (wordsSigns P.initOrder.toList) = cutW :: rest) (hs : stripLifts liftWords (cutW :: rest) = ([], cutW :: rest)) : P.liftsFinal = false := by
  unfold Program.liftsFinal Program.headLifts
  rw [h]
  dsimp only
  rw [hs]
  dsimp only [List.head?]
  rw [sD]
  kernel_rfl
theorem behind : behindMainWord (wordsSigns Tryz.prog.initOrder.toList) = cutW :: wsT := Eq.trans (congrArg behindMainWord xN) bm
theorem make0 : Tryz.prog.make = some .cut := yS _ _ behind
set_option maxRecDepth 100000 in
theorem lays : Tryz.prog.laysLater = false := by kernel_rfl
set_option maxRecDepth 100000 in
theorem bears : Tryz.prog.bearsReflect = false := by kernel_rfl
set_option maxRecDepth 100000 in
theorem doors : Tryz.prog.doorFits [] = true := by kernel_rfl
theorem enter0 : Tryz.prog.mayEnter = true := xc _ _ behind strip lays bears doors
theorem lifts0 : Tryz.prog.liftsFinal = false := wG _ _ behind strip
end Go.Proofs.YtjeeejoelmmfmaaGreat.Head
namespace Go.Proofs.YtjeeejoelmmfmaaGreat.Fn
open Go.RowKit Go.Proofs.YtjeeejoelmmfmaaGreatW.PrintWords Go.Proofs.YtjeeejoelmmfmaaGreatW.PrintLast Go.Proofs.YtjeeejoelmmfmaaGreatW.PrintMore
attribute [local go_sem] eU ek fK fM dX dU eX fo
set_option linter.unusedVariables false
set_option linter.unusedSimpArgs false
open Go.ChangeShapes Go.WideShapes Go.ChangeAt Go.Deep Go.Joins
def Opn {α : Type} (d : Kd α) (t : TypeId) : Prop :=
  ∀ {H : Type} (enc : TypeId × Value → H) (w : World) (base : Nat) (spare : Nat → Bool) (held : Bool) (fuel : Nat) (cs : List Value) (x : DataW H × List MemPlace), DataW.trod enc Tryz.prog w base spare held fuel t cs = some x → ∃ a, d.K w a cs
theorem dF {fuel : Nat} {H : Type} {enc : TypeId × Value → H} {w : World} {base : Nat} {spare : Nat → Bool} {held : Bool} {v : List Value} {x : DataW H × List MemPlace} (h : DataW.trod enc Tryz.prog w base spare held fuel 3 v = some x) : ∃ n, v = [.int .i64 n] := by
  obtain ⟨n, rfl, _⟩ := DataW.trod_int Tryz.underlying3 h
  exact ⟨n, rfl⟩
theorem cells3 : Tryz.prog.cellsOf 3 = 1 := by kernel_rfl
set_option maxRecDepth 100000 in
theorem uI : Opn k151 151 := by
  intro H enc w base spare held fuel cs x h
  obtain ⟨y0, y1, y2, n, _, hl, h0, h1, h2⟩ := trod_struct3 Tryz.underlying151 h
  have hc : Tryz.prog.cellsOf 151 = 3 := by kernel_rfl
  rw [hc] at hl
  match cs, hl with
  | [c0, c1, c2], _ =>
    simp only [cells3] at h0 h1 h2
    obtain ⟨n0, e0⟩ := dF h0
    obtain ⟨n1, e1⟩ := dF h1
    obtain ⟨n2, e2⟩ := dF h2
    simp at e0 e1 e2
    subst e0 e1 e2
    exact ⟨⟨n0, n1, n2⟩, zz w _⟩
set_option maxRecDepth 100000 in
theorem opn_93 : Opn k93 93 := by
  intro H enc w base spare held fuel cs x h
  obtain ⟨y0, y1, n, _, hl, h0, h1⟩ := trod_struct2 Tryz.underlying93 h
  have hc : Tryz.prog.cellsOf 93 = 2 := by kernel_rfl
  rw [hc] at hl
  match cs, hl with
  | [c0, c1], _ =>
    simp only [cells3] at h0 h1
    obtain ⟨n0, e0⟩ := dF h0
    obtain ⟨n1, e1⟩ := dF h1
    simp at e0 e1
    subst e0 e1
    exact ⟨⟨n0, n1⟩, k93_mk w _⟩
theorem open_row {α : Type} {d : Kd α} {t e : TypeId} (ht : Tryz.prog.underlying t = some (.slice e)) (hc : Tryz.prog.cellsOf e = d.sz) (ho : Opn d e)
    {H : Type} {enc : TypeId × Value → H} {w : World} {base : Nat} {spare : Nat → Bool} {held : Bool} {A : Option Addr} {len cap : Nat} {D : DataW H} {ps : List MemPlace}
    (h : DataW.Trod enc Tryz.prog w base spare held t (.slice A len cap) D ps) :
    ∃ l : List α, len = l.length ∧ l.length ≤ cap ∧ Kd.C d w A l.length l ∧ ((D = .nil ∧ len = 0) ∨ ∃ es rs, D = .slice es rs ∧ es.length = len) := by
  obtain ⟨fuel, hf⟩ := h
  rcases open_slice ht hf with ⟨hcs, hx⟩ | ⟨a, len', cap', m, n, Ds, Pl, hcs, _, hl, hm, hmm, hx, hi⟩
  · simp [Value.cells] at hcs
    obtain ⟨rfl, rfl, rfl⟩ := hcs
    obtain ⟨hx, _⟩ := Prod.mk.inj hx
    exact ⟨[], rfl, Nat.le_refl _, ⟨rfl, by simp, fun h => absurd h (by simp)⟩, .inl ⟨hx, rfl⟩⟩
  · simp [Value.cells] at hcs
    obtain ⟨rfl, rfl, rfl⟩ := hcs
    obtain ⟨hx, _⟩ := Prod.mk.inj hx
    have hle : len ≤ m := by rw [hmm]; split <;> omega
    have hex : ∀ i, i < len → ∃ x : α, ∃ c, c.length = d.sz ∧ d.K w x c ∧ ∀ j u, c[j]? = some u → w.cell? (a.add (i * d.sz + j)) = some u := by
      intro i hil
      obtain ⟨cs', h1, h2⟩ := hi i (by omega)
      rw [hc] at h1
      obtain ⟨_, hcl, hat⟩ := World.cells?_some h1
      obtain ⟨x, hk⟩ := ho enc w base spare held n cs' _ h2
      refine ⟨x, cs', hcl, hk, fun j u hu => ?_⟩
      have hj : j < d.sz := by
        have := (List.getElem?_eq_some_iff.1 hu).1
        omega
      rw [← Go.Deep.add_add, hat j hj, hu]
    let f : Fin len → α := fun i => Classical.choose (hex i.1 i.2)
    have hf : ∀ i : Fin len, ∃ c, c.length = d.sz ∧ d.K w (f i) c ∧ ∀ j u, c[j]? = some u → w.cell? (a.add (i.1 * d.sz + j)) = some u := fun i => Classical.choose_spec (hex i.1 i.2)
    have hfl : (List.ofFn f).length = len := List.length_ofFn
    refine ⟨List.ofFn f, hfl.symm, by omega, ⟨rfl, ?_, fun _ => ⟨a, rfl, fun j p hp => ?_⟩⟩, .inr ⟨_, _, hx, by simp⟩⟩
    · rw [hfl]
      have : maxLen ≤ 9223372036854775807 := by decide
      omega
    · have hj : j < len := by
        have := (List.getElem?_eq_some_iff.1 hp).1
        omega
      have hp2 : f ⟨j, hj⟩ = p := by
        rw [List.getElem?_ofFn, dif_pos hj] at hp
        exact Option.some.inj hp
      rw [← hp2]
      exact hf ⟨j, hj⟩
theorem laidOut : laidOutB Tryz.prog = true := by kernel_rfl
theorem yl : Opn (Kd.int .u8) 5 := by
  intro H enc w base spare held fuel cs x h
  obtain ⟨n, rfl, _⟩ := DataW.trod_int Tryz.underlying5 h
  exact ⟨n, rfl⟩
theorem tu {fuel : Nat} {H : Type} {enc : TypeId × Value → H} {w : World} {base : Nat} {spare : Nat → Bool} {held : Bool} {v : List Value} {x : DataW H × List MemPlace} (h : DataW.trod enc Tryz.prog w base spare held fuel 9 v = some x) : ∃ s : ByteArray, v = [.string s] := by
  obtain ⟨s, rfl, _⟩ := DataW.trod_string Tryz.underlying9 h
  exact ⟨s, rfl⟩
theorem iJ {α : Type} {d : Kd α} {t e : TypeId} (ht : Tryz.prog.underlying t = some (.slice e)) (hc : Tryz.prog.cellsOf e = d.sz) (ho : Opn d e)
    {H : Type} {enc : TypeId × Value → H} {w : World} {base : Nat} {spare : Nat → Bool} {held : Bool} {n : Nat} {v : Value} {y : DataW H × List MemPlace} (h : DataW.trod enc Tryz.prog w base spare held n t [v] = some y) :
    ∃ (A : Option Addr) (l : List α) (c : Nat), v = .slice A l.length c ∧ l.length ≤ c ∧ Kd.C d w A l.length l ∧ ((y.1 = .nil ∧ l.length = 0) ∨ ∃ es rs, y.1 = .slice es rs ∧ es.length = l.length) := by
  have hsl : ∃ A len cap, v = .slice A len cap := by
    rcases open_slice ht h with ⟨hcs, _⟩ | ⟨a, len', cap', m, n', Ds, Pl, hcs, _⟩
    · exact ⟨none, 0, 0, by simpa using hcs⟩
    · exact ⟨some a, len', cap', by simpa using hcs⟩
  obtain ⟨A, len, cap, rfl⟩ := hsl
  have h2 : DataW.Trod enc Tryz.prog w base spare held t (.slice A len cap) y.1 y.2 := ⟨n, by simpa [Value.cells] using h⟩
  obtain ⟨l, rfl, c, hr, hd⟩ := open_row ht hc ho h2
  exact ⟨A, l, cap, rfl, c, hr, hd⟩
theorem opn_lb : Opn (Kd.slice 5 (Kd.int .u8)) 37 := by
  intro H enc w base spare held fuel cs x h
  obtain ⟨A, len, cap, rfl⟩ : ∃ A len cap, cs = [.slice A len cap] := by
    rcases open_slice Tryz.underlying37 h with ⟨hcs, _⟩ | ⟨a, len', cap', m, n', Ds, Pl, hcs, _⟩
    · exact ⟨none, 0, 0, hcs⟩
    · exact ⟨some a, len', cap', hcs⟩
  obtain ⟨A', l, c, e, hl, hr, _⟩ := iJ Tryz.underlying37 (by kernel_rfl) yl h
  injection e with e1 e2 e3
  subst e1 e2 e3
  exact ⟨l, A, cap, rfl, hl, hr⟩
theorem kW : Tryz.prog.cellsOf 3 = 1 := by kernel_rfl
theorem qx : Tryz.prog.cellsOf 9 = 1 := by kernel_rfl
theorem uk : Tryz.prog.cellsOf 24 = 1 := by kernel_rfl
theorem yX : Tryz.prog.cellsOf 37 = 1 := by kernel_rfl
theorem zZ : Tryz.prog.cellsOf 29 = 1 := by kernel_rfl
theorem zq : Tryz.prog.cellsOf 25 = 1 := by kernel_rfl
theorem Ad : Tryz.prog.cellsOf 26 = 1 := by kernel_rfl
theorem zo : Tryz.prog.cellsOf 28 = 2 := by kernel_rfl
set_option maxRecDepth 100000 in
theorem opn_sn : Opn k69 69 := by
  intro H enc w base spare held fuel cs x h
  obtain ⟨y0, y1, y2, y3, n, _, hl, h0, h1, h2, h3⟩ := trod_struct4 Tryz.underlying69 h
  have hc : Tryz.prog.cellsOf 69 = 4 := by kernel_rfl
  rw [hc] at hl
  match cs, hl with
  | [c0, c1, c2, c3], _ =>
    simp only [kW, qx, uk] at h0 h1 h2 h3
    obtain ⟨n0, e0⟩ := dF h0
    obtain ⟨s1, e1⟩ := tu h1
    obtain ⟨n2, e2⟩ := dF h2
    simp at e0 e1 e2
    subst e0 e1 e2
    have h3 : DataW.trod enc Tryz.prog w base spare held n 24 [c3] = some y3 := by simpa using h3
    obtain ⟨A, l, c, rfl, hlc, hr, _⟩ := iJ Tryz.underlying24 (by kernel_rfl) uI h3
    exact ⟨⟨n0, s1, n2, l⟩, k69_mk w ⟨n0, s1, n2, l⟩ hlc hr⟩
theorem kz {H : Type} {enc : TypeId × Value → H} {P : Program} {w : World} {base : Nat} {spare : Nat → Bool} {held : Bool} {t : TypeId} {f0 f1 f2 f3 f4 f5 : Field} {fuel : Nat} {cs : List Value} {x : DataW H × List MemPlace} (ht : P.underlying t = some (.struct #[f0, f1, f2, f3, f4, f5])) (h : DataW.trod enc P w base spare held fuel t cs = some x) :
    ∃ y0 y1 y2 y3 y4 y5 n, x.1 = .agg [y0.1, y1.1, y2.1, y3.1, y4.1, y5.1] ∧ cs.length = P.cellsOf t ∧ DataW.trod enc P w base spare held n f0.type ((cs.drop f0.offset).take (P.cellsOf f0.type)) = some y0 ∧
      DataW.trod enc P w base spare held n f1.type ((cs.drop f1.offset).take (P.cellsOf f1.type)) = some y1 ∧ DataW.trod enc P w base spare held n f2.type ((cs.drop f2.offset).take (P.cellsOf f2.type)) = some y2 ∧
      DataW.trod enc P w base spare held n f3.type ((cs.drop f3.offset).take (P.cellsOf f3.type)) = some y3 ∧ DataW.trod enc P w base spare held n f4.type ((cs.drop f4.offset).take (P.cellsOf f4.type)) = some y4 ∧ DataW.trod enc P w base spare held n f5.type ((cs.drop f5.offset).take (P.cellsOf f5.type)) = some y5 := by
  obtain ⟨xs, n, _, rfl, hl, hlen, hf⟩ := DataW.trod_struct ht h
  match xs, hlen with
  | [y0, y1, y2, y3, y4, y5], _ => exact ⟨y0, y1, y2, y3, y4, y5, n, by simp, hl, by simpa using hf 0 f0 rfl, by simpa using hf 1 f1 rfl, by simpa using hf 2 f2 rfl, by simpa using hf 3 f3 rfl, by simpa using hf 4 f4 rfl, by simpa using hf 5 f5 rfl⟩
def vV {H : Type} (n : Nat) (D : DataW H) : Prop := (D = .nil ∧ n = 0) ∨ ∃ es rs, D = .slice es rs ∧ es.length = n
set_option maxRecDepth 100000 in
theorem xI {H : Type} {enc : TypeId × Value → H} {w : World} {base : Nat} {spare : Nat → Bool} {held : Bool} {v : Value} {D : DataW H} {ps : List MemPlace} {r : Reach} {b0 : Nat}
    (hv : Value.okWide Tryz.prog w r b0 31 v) (h : DataW.Trod enc Tryz.prog w base spare held 31 v D ps) :
    ∃ (s : St) (a : At4) (D0 D1 D2 D3 D4 D5 : DataW H), v = .agg (aN s a) ∧ Reads w s a ∧ D = .agg [D0, D1, D2, D3, D4, D5] ∧ vV s.snaps.length D2 := by
  obtain ⟨cs, rfl, hsz⟩ := okWide_struct Tryz.underlying31 hv
  have hc : Tryz.prog.cellsOf 31 = 7 := by kernel_rfl
  obtain ⟨cl⟩ := cs
  have hsz : cl.length = 7 := hsz.trans hc
  obtain ⟨fuel, hf⟩ := h
  obtain ⟨y0, y1, y2, y3, y4, y5, n, hx, hl, h0, h1, h2, h3, h4, h5⟩ := kz Tryz.underlying31 hf
  match cl, hsz with
  | [c0, c1, c2, c3, c4, c5, c6], _ =>
    simp only [Value.cells, kW, uk, zq, zo, zZ, List.drop_zero, List.drop_succ_cons, List.take_succ_cons, List.take_zero] at h0 h1 h2 h3 h4 h5
    obtain ⟨n0, e0⟩ := dF h0
    obtain ⟨n3, e3⟩ := dF h3
    simp at e0 e3
    subst e0 e3
    obtain ⟨A1, l1, m1, rfl, hl1, hr1, _⟩ := iJ Tryz.underlying24 (by kernel_rfl) uI h1
    obtain ⟨A2, l2, m2, rfl, hl2, hr2, hd2⟩ := iJ Tryz.underlying25 (by kernel_rfl) opn_sn h2
    obtain ⟨A6, l6, m6, rfl, hl6, hr6, _⟩ := iJ Tryz.underlying29 (by kernel_rfl) opn_lb h5
    obtain ⟨z0, z1, n4, _, _, g0, g1⟩ := trod_struct2 Tryz.underlying28 h4
    simp only [kW, Ad, List.drop_zero, List.drop_succ_cons, List.take_succ_cons, List.take_zero] at g0 g1
    obtain ⟨nz, ez⟩ := dF g0
    simp at ez
    subst ez
    obtain ⟨A5, l5, m5, rfl, hl5, hr5, _⟩ := iJ Tryz.underlying26 (by kernel_rfl) opn_93 g1
    exact ⟨⟨n0, l1, l2, n3, nz, l5, l6⟩, ⟨A1, m1, A2, m2, A5, m5, A6, m6⟩, _, _, _, _, _, _, rfl, ⟨hr1, hl1, hr2, hl2, hr5, hl5, hr6, hl6⟩, hx, hd2⟩
set_option maxRecDepth 100000 in
theorem Ac {H : Type} {enc : TypeId × Value → H} {w : World} {base : Nat} {spare : Nat → Bool} {held : Bool} {v : Value} {D : DataW H} {ps : List MemPlace} {r : Reach} {b0 : Nat}
    (hv : Value.okWide Tryz.prog w r b0 55 v) (h : DataW.Trod enc Tryz.prog w base spare held 55 v D ps) :
    ∃ (x0 x1 x2 x3 : Int) (x4 : ByteArray) (A : Option Addr) (l : List Int) (c : Nat) (D0 D1 D2 D3 D4 D5 : DataW H), v = .agg #[.int .i64 x0, .int .i64 x1, .int .i64 x2, .int .i64 x3, .string x4, .slice A l.length c] ∧ l.length ≤ c ∧ Kd.C (Kd.int .u8) w A l.length l ∧ D = .agg [D0, D1, D2, D3, D4, D5] ∧ vV l.length D5 := by
  obtain ⟨cs, rfl, hsz⟩ := okWide_struct Tryz.underlying55 hv
  have hc : Tryz.prog.cellsOf 55 = 6 := by kernel_rfl
  obtain ⟨cl⟩ := cs
  have hsz : cl.length = 6 := hsz.trans hc
  obtain ⟨fuel, hf⟩ := h
  obtain ⟨y0, y1, y2, y3, y4, y5, n, hx, hl, h0, h1, h2, h3, h4, h5⟩ := kz Tryz.underlying55 hf
  match cl, hsz with
  | [c0, c1, c2, c3, c4, c5], _ =>
    simp only [Value.cells, kW, qx, yX, List.drop_zero, List.drop_succ_cons, List.take_succ_cons, List.take_zero] at h0 h1 h2 h3 h4 h5
    obtain ⟨n0, e0⟩ := dF h0
    obtain ⟨n1, e1⟩ := dF h1
    obtain ⟨n2, e2⟩ := dF h2
    obtain ⟨n3, e3⟩ := dF h3
    obtain ⟨s4, e4⟩ := tu h4
    simp at e0 e1 e2 e3 e4
    subst e0 e1 e2 e3 e4
    obtain ⟨A5, l5, m5, rfl, hl5, hr5, hd5⟩ := iJ Tryz.underlying37 (by kernel_rfl) yl h5
    exact ⟨n0, n1, n2, n3, s4, A5, l5, m5, _, _, _, _, _, _, rfl, hl5, hr5, hx, hd5⟩
theorem r_ {H : Type} {ts : List TypeId} {ds : List (DataW H)} {j : Nat} {D0 D1 D2 D3 D4 D5 : DataW H} {len : Nat}
    (hsz : (DataW.weightsEach Tryz.prog ts ds).all (· ≤ reachBytes) = true) (h1 : ts[j]? = some 31) (h2 : ds[j]? = some (.agg [D0, D1, D2, D3, D4, D5])) (hD : vV len D2) : len * 56 ≤ 140737488351232 := by
  rcases hD with ⟨_, rfl⟩ | ⟨es, rs, rfl, rfl⟩
  · simp
  · have hB : Tryz.prog.bytesOf 69 = 56 := by kernel_rfl
    have hm : (es.length + rs.length) * Tryz.prog.bytesOf 69 ∈ (DataW.agg [D0, D1, .slice es rs, D3, D4, D5]).weights Tryz.prog 31 := by
      simp [DataW.weights, Tryz.underlying31, DataW.weightsEach, Tryz.underlying25]
    have z := List.all_eq_true.1 hsz _ (DataW.weights_mem_each h1 h2 _ hm)
    rw [hB] at z
    have z2 : (es.length + rs.length) * 56 ≤ 140737488351232 := of_decide_eq_true z
    exact Nat.le_trans (Nat.mul_le_mul_right _ (Nat.le_add_right _ _)) z2
theorem tX {H : Type} {ts : List TypeId} {ds : List (DataW H)} {j : Nat} {D0 D1 D2 D3 D4 D5 : DataW H} {len : Nat}
    (hsz : (DataW.weightsEach Tryz.prog ts ds).all (· ≤ reachBytes) = true) (h1 : ts[j]? = some 55) (h2 : ds[j]? = some (.agg [D0, D1, D2, D3, D4, D5])) (hD : vV len D5) : len ≤ 140737488351232 := by
  rcases hD with ⟨_, rfl⟩ | ⟨es, rs, rfl, rfl⟩
  · simp
  · have hB : Tryz.prog.bytesOf 5 = 1 := by kernel_rfl
    have hm : (es.length + rs.length) * Tryz.prog.bytesOf 5 ∈ (DataW.agg [D0, D1, D2, D3, D4, .slice es rs]).weights Tryz.prog 55 := by
      simp [DataW.weights, Tryz.underlying55, DataW.weightsEach, Tryz.underlying37]
    have z := List.all_eq_true.1 hsz _ (DataW.weights_mem_each h1 h2 _ hm)
    rw [hB] at z
    have z2 : (es.length + rs.length) * 1 ≤ 140737488351232 := of_decide_eq_true z
    omega
end Go.Proofs.YtjeeejoelmmfmaaGreat.Fn
