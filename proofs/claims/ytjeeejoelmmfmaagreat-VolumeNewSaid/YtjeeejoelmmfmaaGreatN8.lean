/- Part 8 of the walk: printed by programs of this session (by way of the kit's print) or told by hand. -/
import Derived.Test.YtjeeejoelmmfmaaGreatN7
import Derived.Test.YtjeeejoelmmfmaaGreatRows
import Derived.ProofKit
import Derived.OpenShut
import Derived.ChangeOld
import Derived.SizedLaws
import Derived.Deep.Slices
import Derived.Deep.Fields
import Derived.Deep.Strs
import Derived.ChangeSame
import Derived.Lib.SmallJoins
import Derived.Carry
import Derived.ChangeSlices
namespace Go.Proofs.YtjeeejoelmmfmaaGreat.Head
open Go.ChangeShapes Go.WideShapes Go.ChangeAt Go.RowKit
def codes : List Nat := [104, 97, 114, 110, 101, 115, 115, 32, 50, 49, 55, 99, 55, 48, 48, 97, 101, 55, 100, 100, 55, 52, 101, 56, 55, 54, 101, 51, 55, 99, 98, 57, 101, 49, 54, 53, 102, 102, 100, 52, 48, 55, 98, 57, 49, 48, 100, 56, 98, 52, 51, 98, 50, 48, 98, 98, 54, 53, 54, 102, 100, 97, 102, 51, 50, 51, 102, 51, 49, 52, 100, 101, 32, 99, 117, 116, 32, 97, 116, 32, 102, 108, 97, 103, 115, 116, 111, 110, 101, 47, 102, 108, 97, 103, 115, 116, 111, 110, 101, 108, 97, 119, 49, 49, 46, 86, 111, 108, 117, 109, 101, 82, 101, 97, 100, 115, 32, 102, 108, 97, 103, 115, 116, 111, 110, 101, 47, 102, 108, 97, 103, 115, 116, 111, 110, 101, 108, 97, 119, 49, 49, 46, 86, 111, 108, 117, 109, 101, 83, 112, 97, 99, 101, 32, 102, 108, 97, 103, 115, 116, 111, 110, 101, 47, 102, 108, 97, 103, 115, 116, 111, 110, 101, 108, 97, 119, 49, 49, 46, 86, 111, 108, 117, 109, 101, 83, 104, 97, 114, 101, 115, 32, 102, 108, 97, 103, 115, 116, 111, 110, 101, 47, 102, 108, 97, 103, 115, 116, 111, 110, 101, 108, 97, 119, 49, 49, 46, 86, 111, 108, 117, 109, 101, 69, 109, 112, 116, 105, 101, 115, 32, 102, 108, 97, 103, 115, 116, 111, 110, 101, 47, 102, 108, 97, 103, 115, 116, 111, 110, 101, 108, 97, 119, 49, 49, 46, 86, 111, 108, 117, 109, 101, 70, 114, 101, 101, 32, 102, 108, 97, 103, 115, 116, 111, 110, 101, 47, 102, 108, 97, 103, 115, 116, 111, 110, 101, 108, 97, 119, 49, 49, 46, 86, 111, 108, 117, 109, 101, 78, 101, 119, 32, 102, 108, 97, 103, 115, 116, 111, 110, 101, 47, 102, 108, 97, 103, 115, 116, 111, 110, 101, 108, 97, 119, 49, 49, 46, 86, 111, 108, 117, 109, 101, 79, 119, 110, 32, 102, 108, 97, 103, 115, 116, 111, 110, 101, 47, 102, 108, 97, 103, 115, 116, 111, 110, 101, 108, 97, 119, 49, 49, 46, 86, 111, 108, 117, 109, 101, 82, 97, 119, 32, 102, 108, 97, 103, 115, 116, 111, 110, 101, 47, 102, 108, 97, 103, 115, 116, 111, 110, 101, 108, 97, 119, 49, 50, 46, 82, 101, 108, 111, 99, 86, 105, 99, 116, 105, 109, 115, 32, 102, 108, 97, 103, 115, 116, 111, 110, 101, 47, 102, 108, 97, 103, 115, 116, 111, 110, 101, 108, 97, 119, 49, 51, 46, 82, 101, 115, 105, 122, 101, 78, 101, 101, 100, 115, 32, 102, 108, 97, 103, 115, 116, 111, 110, 101, 47, 102, 108, 97, 103, 115, 116, 111, 110, 101, 108, 97, 119, 49, 51, 46, 82, 101, 115, 105, 122, 101, 71, 114, 111, 119, 115, 32, 102, 108, 97, 103, 115, 116, 111, 110, 101, 47, 102, 108, 97, 103, 115, 116, 111, 110, 101, 108, 97, 119, 49, 51, 46, 82, 101, 115, 105, 122, 101, 80, 108, 97, 121, 115, 32, 102, 108, 97, 103, 115, 116, 111, 110, 101, 47, 102, 108, 97, 103, 115, 116, 111, 110, 101, 108, 97, 119, 49, 50, 46, 82, 101, 108, 111, 99, 77, 111, 118, 101, 115, 32, 102, 108, 97, 103, 115, 116, 111, 110, 101, 47, 102, 108, 97, 103, 115, 116, 111, 110, 101, 108, 97, 119, 49, 51, 46, 82, 101, 115, 105, 122, 101, 84, 114, 117, 110, 99, 97, 116, 101, 115, 32, 102, 108, 97, 103, 115, 116, 111, 110, 101, 47, 102, 108, 97, 103, 115, 116, 111, 110, 101, 108, 97, 119, 49, 51, 46, 82, 101, 115, 105, 122, 101, 65, 103, 97, 105, 110, 32, 102, 108, 97, 103, 115, 116, 111, 110, 101, 47, 102, 108, 97, 103, 115, 116, 111, 110, 101, 108, 97, 119, 49, 51, 46, 82, 101, 115, 105, 122, 101, 79, 119, 110]
set_option maxRecDepth 100000 in
theorem wR : Tryz.prog.initOrder = String.ofList (codes.map Char.ofNat) := by kernel_rfl
theorem wF : Tryz.prog.initOrder.toList = codes.map Char.ofNat := by rw [wR, String.toList_ofList]
def ws : List (List Nat) := [[104, 97, 114, 110, 101, 115, 115], [50, 49, 55, 99, 55, 48, 48, 97, 101, 55, 100, 100, 55, 52, 101, 56, 55, 54, 101, 51, 55, 99, 98, 57, 101, 49, 54, 53, 102, 102, 100, 52, 48, 55, 98, 57, 49, 48, 100, 56, 98, 52, 51, 98, 50, 48, 98, 98, 54, 53, 54, 102, 100, 97, 102, 51, 50, 51, 102, 51, 49, 52, 100, 101], [99, 117, 116], [97, 116], [102, 108, 97, 103, 115, 116, 111, 110, 101, 47, 102, 108, 97, 103, 115, 116, 111, 110, 101, 108, 97, 119, 49, 49, 46, 86, 111, 108, 117, 109, 101, 82, 101, 97, 100, 115], [102, 108, 97, 103, 115, 116, 111, 110, 101, 47, 102, 108, 97, 103, 115, 116, 111, 110, 101, 108, 97, 119, 49, 49, 46, 86, 111, 108, 117, 109, 101, 83, 112, 97, 99, 101], [102, 108, 97, 103, 115, 116, 111, 110, 101, 47, 102, 108, 97, 103, 115, 116, 111, 110, 101, 108, 97, 119, 49, 49, 46, 86, 111, 108, 117, 109, 101, 83, 104, 97, 114, 101, 115], [102, 108, 97, 103, 115, 116, 111, 110, 101, 47, 102, 108, 97, 103, 115, 116, 111, 110, 101, 108, 97, 119, 49, 49, 46, 86, 111, 108, 117, 109, 101, 69, 109, 112, 116, 105, 101, 115], [102, 108, 97, 103, 115, 116, 111, 110, 101, 47, 102, 108, 97, 103, 115, 116, 111, 110, 101, 108, 97, 119, 49, 49, 46, 86, 111, 108, 117, 109, 101, 70, 114, 101, 101], [102, 108, 97, 103, 115, 116, 111, 110, 101, 47, 102, 108, 97, 103, 115, 116, 111, 110, 101, 108, 97, 119, 49, 49, 46, 86, 111, 108, 117, 109, 101, 78, 101, 119], [102, 108, 97, 103, 115, 116, 111, 110, 101, 47, 102, 108, 97, 103, 115, 116, 111, 110, 101, 108, 97, 119, 49, 49, 46, 86, 111, 108, 117, 109, 101, 79, 119, 110], [102, 108, 97, 103, 115, 116, 111, 110, 101, 47, 102, 108, 97, 103, 115, 116, 111, 110, 101, 108, 97, 119, 49, 49, 46, 86, 111, 108, 117, 109, 101, 82, 97, 119], [102, 108, 97, 103, 115, 116, 111, 110, 101, 47, 102, 108, 97, 103, 115, 116, 111, 110, 101, 108, 97, 119, 49, 50, 46, 82, 101, 108, 111, 99, 86, 105, 99, 116, 105, 109, 115], [102, 108, 97, 103, 115, 116, 111, 110, 101, 47, 102, 108, 97, 103, 115, 116, 111, 110, 101, 108, 97, 119, 49, 51, 46, 82, 101, 115, 105, 122, 101, 78, 101, 101, 100, 115], [102, 108, 97, 103, 115, 116, 111, 110, 101, 47, 102, 108, 97, 103, 115, 116, 111, 110, 101, 108, 97, 119, 49, 51, 46, 82, 101, 115, 105, 122, 101, 71, 114, 111, 119, 115], [102, 108, 97, 103, 115, 116, 111, 110, 101, 47, 102, 108, 97, 103, 115, 116, 111, 110, 101, 108, 97, 119, 49, 51, 46, 82, 101, 115, 105, 122, 101, 80, 108, 97, 121, 115], [102, 108, 97, 103, 115, 116, 111, 110, 101, 47, 102, 108, 97, 103, 115, 116, 111, 110, 101, 108, 97, 119, 49, 50, 46, 82, 101, 108, 111, 99, 77, 111, 118, 101, 115], [102, 108, 97, 103, 115, 116, 111, 110, 101, 47, 102, 108, 97, 103, 115, 116, 111, 110, 101, 108, 97, 119, 49, 51, 46, 82, 101, 115, 105, 122, 101, 84, 114, 117, 110, 99, 97, 116, 101, 115], [102, 108, 97, 103, 115, 116, 111, 110, 101, 47, 102, 108, 97, 103, 115, 116, 111, 110, 101, 108, 97, 119, 49, 51, 46, 82, 101, 115, 105, 122, 101, 65, 103, 97, 105, 110], [102, 108, 97, 103, 115, 116, 111, 110, 101, 47, 102, 108, 97, 103, 115, 116, 111, 110, 101, 108, 97, 119, 49, 51, 46, 82, 101, 115, 105, 122, 101, 79, 119, 110]]
def wsC : List (List Char) := ws.map fun w => w.map Char.ofNat
set_option maxRecDepth 100000 in
theorem words0 : wordsSigns (codes.map Char.ofNat) = wsC := by kernel_rfl
theorem xC : wordsSigns Tryz.prog.initOrder.toList = wsC := by rw [wF, words0]
def cutW : List Char := [99, 117, 116].map Char.ofNat
def wsT : List (List Char) := (ws.drop 3).map fun w => w.map Char.ofNat
set_option maxRecDepth 100000 in
theorem bm : behindMainWord wsC = cutW :: wsT := by kernel_rfl
theorem is_gc : (cutW == "gc".toList) = false := by kernel_rfl
theorem uq : (cutW == "spec".toList) = false := by kernel_rfl
theorem is_cut : (cutW == "cut".toList) = true := by kernel_rfl
theorem sW : (cutW == "carried".toList) = false := by kernel_rfl
theorem strip : stripLifts liftWords (cutW :: wsT) = ([], cutW :: wsT) := by kernel_rfl
theorem uP : (some cutW == some "cut".toList) = true := by kernel_rfl
theorem zT (P : Program) (rest : List (List Char)) (h : behindMainWord (wordsSigns P.initOrder.toList) = cutW :: rest) : P.make = some .cut := by
  unfold Program.make
  rw [h]
  dsimp only
  rw [is_gc, uq, is_cut]
  rfl
theorem yh (P : Program) (rest : List (List Char)) (h : behindMainWord (wordsSigns P.initOrder.toList) = cutW :: rest) (hs : stripLifts liftWords (cutW :: rest) = ([], cutW :: rest)) (h1 : P.laysLater = false) (h2 : P.bearsReflect = false) (h3 : P.doorFits [] = true) : P.mayEnter = true := by
  unfold Program.mayEnter
  rw [h]
  dsimp only
  rw [hs]
  dsimp only [List.head?]
  rw [is_gc, uq, sW, uP, h1, h2, h3]
  rfl
theorem sO : (some cutW == some "carried".toList) = false := by kernel_rfl
theorem xB (P : Program) (rest : List (List Char)) (h : behindMainWord (wordsSigns P.initOrder.toList) = cutW :: rest) (hs : stripLifts liftWords (cutW :: rest) = ([], cutW :: rest)) : P.liftsFinal = false := by
  unfold Program.liftsFinal Program.headLifts
  rw [h]
  dsimp only
  rw [hs]
  dsimp only [List.head?]
  rw [sO]
  kernel_rfl
theorem behind : behindMainWord (wordsSigns Tryz.prog.initOrder.toList) = cutW :: wsT := Eq.trans (congrArg behindMainWord xC) bm
theorem make0 : Tryz.prog.make = some .cut := zT _ _ behind
set_option maxRecDepth 100000 in
theorem lays : Tryz.prog.laysLater = false := by kernel_rfl
set_option maxRecDepth 100000 in
theorem bears : Tryz.prog.bearsReflect = false := by kernel_rfl
set_option maxRecDepth 100000 in
theorem doors : Tryz.prog.doorFits [] = true := by kernel_rfl
theorem enter0 : Tryz.prog.mayEnter = true := yh _ _ behind strip lays bears doors
theorem lifts0 : Tryz.prog.liftsFinal = false := xB _ _ behind strip
end Go.Proofs.YtjeeejoelmmfmaaGreat.Head
namespace Go.Proofs.YtjeeejoelmmfmaaGreat.Fn
open Go.RowKit Go.Proofs.YtjeeejoelmmfmaaGreatW.PrintWords Go.Proofs.YtjeeejoelmmfmaaGreatW.PrintLast Go.Proofs.YtjeeejoelmmfmaaGreatW.PrintMore
attribute [local go_sem] fw eu fU fZ dY dX fu fe
set_option linter.unusedVariables false
set_option linter.unusedSimpArgs false
open Go.ChangeShapes Go.WideShapes Go.ChangeAt Go.Deep Go.Joins
theorem fA {fuel : Nat} {H : Type} {enc : TypeId × Value → H} {w : World} {base : Nat} {spare : Nat → Bool} {held : Bool} {v : List Value} {x : DataW H × List MemPlace} (h : DataW.trod enc Tryz.prog w base spare held fuel 3 v = some x) : ∃ n, v = [.int .i64 n] := by
  obtain ⟨n, rfl, _⟩ := DataW.trod_int Tryz.underlying3 h
  exact ⟨n, rfl⟩
theorem laidOut : laidOutB Tryz.prog = true := by kernel_rfl
end Go.Proofs.YtjeeejoelmmfmaaGreat.Fn
