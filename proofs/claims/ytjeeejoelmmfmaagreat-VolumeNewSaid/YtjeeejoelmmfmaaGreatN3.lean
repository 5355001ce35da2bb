/- Part 3 of the walk: printed by programs of this session (by way of the kit's print) or told by hand. -/
import Derived.Test.YtjeeejoelmmfmaaGreatN2
import Derived.Test.YtjeeejoelmmfmaaGreatProg
import Derived.Deep.RegionLaw
import Derived.StillTailTactics
import Derived.IntWalk
namespace Go.Proofs.YtjeeejoelmmfmaaGreat.Fn
open Go.RowKit Go.Proofs.YtjeeejoelmmfmaaGreatW.PrintWords Go.Proofs.YtjeeejoelmmfmaaGreatW.PrintLast Go.Proofs.YtjeeejoelmmfmaaGreatW.PrintMore
attribute [local go_sem] fw eu fU fZ dY dX fu fe
set_option linter.unusedVariables false
set_option linter.unusedSimpArgs false
def errW : Option Int → Value
  | none => .nilIface
  | some c => .iface 0 (.int .i64 c)
theorem aD : errW none = .nilIface := rfl
theorem aC (c : Int) : errW (some c) = .iface 0 (.int .i64 c) := rfl
theorem info5 : (Tryz.prog.info? 5).map (fun i => (i.zero, i.size, i.bytes)) = some (some (.int .u8 0), 1, 1) := by kernel_rfl
theorem t_ : (Tryz.prog.info? 37).map (fun i => (i.zero, i.size, i.bytes)) = some (some (.slice none 0 0), 1, 24) := by kernel_rfl
theorem info75 : (Tryz.prog.info? 75).map (fun i => (i.zero, i.size, i.bytes)) = some (some (.agg #[(.int .i64 0), (.slice none 0 0)]), 2, 32) := by kernel_rfl
theorem jh : (Tryz.prog.info? 93).map (fun i => (i.zero, i.size, i.bytes)) = some (some (.agg #[(.int .i64 0), (.int .i64 0)]), 2, 16) := by kernel_rfl
theorem qp : (Tryz.prog.info? 151).map (fun i => (i.zero, i.size, i.bytes)) = some (some (.agg #[(.int .i64 0), (.int .i64 0), (.int .i64 0)]), 3, 24) := by kernel_rfl
theorem zX : (Tryz.prog.info? 173).map (fun i => (i.zero, i.size, i.bytes)) = some (some (.agg #[(.int .i64 0), (.string ⟨#[]⟩)]), 2, 24) := by kernel_rfl
theorem zz : (Tryz.prog.info? 199).map (fun i => (i.zero, i.size, i.bytes)) = some (some (.agg #[(.int .i64 0), (.int .i64 0), (.int .i64 0), (.int .i64 0)]), 4, 32) := by kernel_rfl
structure S93 where
  f0 : Int
  f1 : Int
def z93 : S93 := ⟨(0 : Int), (0 : Int)⟩
def k93 : Kd S93 := Kd.iso (Kd.pair (Kd.int .i64) (Kd.int .i64)) (fun x : S93 => (x.f0, x.f1))
theorem wX {w : World} {x : S93} {cs : List Value} (h : k93.K w x cs) : cs = [.int .i64 x.f0, .int .i64 x.f1] := by
  obtain ⟨_, _, rfl, rfl, rfl⟩ := h
  exact rfl
theorem pV {w : World} {base : Nat} {ok : Nat → Prop} {x : S93} {cs : List Value} (h : k93.M w base ok x cs) : cs = [.int .i64 x.f0, .int .i64 x.f1] := by
  obtain ⟨_, _, rfl, rfl, rfl⟩ := h
  exact rfl
theorem ik (w : World) (base : Nat) (ok : Nat → Prop) (x : S93)  : k93.M w base ok x [.int .i64 x.f0, .int .i64 x.f1] := ⟨[.int .i64 x.f0], [.int .i64 x.f1], rfl, rfl, rfl⟩
def aU (xs : List S93) (i : Int) : S93 := xs.getD i.toNat z93
theorem fQ {w : World} {A : Option Addr} {n : Nat} {xs : List S93} (h : Kd.C k93 w A n xs) (i : Int) (h0 : 0 ≤ i) (h1 : i < n) : ∃ ad , A = some ad ∧ w.cell? (ad.add (i.toNat * 2)) = some (.int .i64 (aU xs i).f0) ∧ w.cell? ⟨(ad.add (i.toNat * 2)).block, (ad.add (i.toNat * 2)).off + 1, none⟩ = some (.int .i64 (aU xs i).f1) := by
  obtain ⟨ad, c, e, _, hK, hc0⟩ := Kd.lH h z93 i h0 h1
  have hc : ∀ j u, c[j]? = some u → w.cell? (ad.add (i.toNat * 2 + j)) = some u := hc0
  obtain rfl := wX hK
  exact ⟨ad, e, hc 0 _ rfl, by rw [← dJ _ _ 1 (by omega)]; exact hc 1 _ rfl⟩
structure S151 where
  f0 : Int
  f1 : Int
  f2 : Int
def z151 : S151 := ⟨(0 : Int), (0 : Int), (0 : Int)⟩
def k151 : Kd S151 := Kd.iso (Kd.pair (Kd.int .i64) (Kd.pair (Kd.int .i64) (Kd.int .i64))) (fun x : S151 => (x.f0, x.f1, x.f2))
theorem tO {w : World} {x : S151} {cs : List Value} (h : k151.K w x cs) : cs = [.int .i64 x.f0, .int .i64 x.f1, .int .i64 x.f2] := by
  obtain ⟨_, _, rfl, rfl, ⟨_, _, rfl, rfl, rfl⟩⟩ := h
  exact rfl
theorem kF {w : World} {base : Nat} {ok : Nat → Prop} {x : S151} {cs : List Value} (h : k151.M w base ok x cs) : cs = [.int .i64 x.f0, .int .i64 x.f1, .int .i64 x.f2] := by
  obtain ⟨_, _, rfl, rfl, ⟨_, _, rfl, rfl, rfl⟩⟩ := h
  exact rfl
theorem kZ (w : World) (base : Nat) (ok : Nat → Prop) (x : S151)  : k151.M w base ok x [.int .i64 x.f0, .int .i64 x.f1, .int .i64 x.f2] := ⟨[.int .i64 x.f0], [.int .i64 x.f1, .int .i64 x.f2], rfl, rfl, ⟨[.int .i64 x.f1], [.int .i64 x.f2], rfl, rfl, rfl⟩⟩
def ax (xs : List S151) (i : Int) : S151 := xs.getD i.toNat z151
theorem dS {w : World} {A : Option Addr} {n : Nat} {xs : List S151} (h : Kd.C k151 w A n xs) (i : Int) (h0 : 0 ≤ i) (h1 : i < n) : ∃ ad , A = some ad ∧ w.cell? (ad.add (i.toNat * 3)) = some (.int .i64 (ax xs i).f0) ∧ w.cell? ⟨(ad.add (i.toNat * 3)).block, (ad.add (i.toNat * 3)).off + 1, none⟩ = some (.int .i64 (ax xs i).f1) ∧ w.cell? ⟨(ad.add (i.toNat * 3)).block, (ad.add (i.toNat * 3)).off + 2, none⟩ = some (.int .i64 (ax xs i).f2) := by
  obtain ⟨ad, c, e, _, hK, hc0⟩ := Kd.lH h z151 i h0 h1
  have hc : ∀ j u, c[j]? = some u → w.cell? (ad.add (i.toNat * 3 + j)) = some u := hc0
  obtain rfl := tO hK
  exact ⟨ad, e, hc 0 _ rfl, by rw [← dJ _ _ 1 (by omega)]; exact hc 1 _ rfl, by rw [← dJ _ _ 2 (by omega)]; exact hc 2 _ rfl⟩
structure S69 where
  f0 : Int
  f1 : ByteArray
  f2 : Int
  f3 : (List S151)
def z69 : S69 := ⟨(0 : Int), (⟨#[]⟩ : ByteArray), (0 : Int), ([] : List S151)⟩
def k69 : Kd S69 := Kd.iso (Kd.pair (Kd.int .i64) (Kd.pair Kd.string (Kd.pair (Kd.int .i64) (Kd.slice 151 k151)))) (fun x : S69 => (x.f0, x.f1, x.f2, x.f3))
theorem lv {w : World} {x : S69} {cs : List Value} (h : k69.K w x cs) : ∃ A3 c3, cs = [.int .i64 x.f0, .string x.f1, .int .i64 x.f2, .slice A3 x.f3.length c3] ∧ x.f3.length ≤ c3 ∧ k151.C w A3 x.f3.length x.f3 := by
  obtain ⟨_, _, rfl, rfl, ⟨_, _, rfl, rfl, ⟨_, _, rfl, rfl, ⟨A3, c3, rfl, l3, g3⟩⟩⟩⟩ := h
  exact ⟨A3, c3, rfl, l3, g3⟩
theorem vX (w : World) (base : Nat) (ok : Nat → Prop) (x : S69) {v3 : Value} (g3 : k151.R 151 w base ok v3 x.f3) : k69.M w base ok x [.int .i64 x.f0, .string x.f1, .int .i64 x.f2, v3] := ⟨[.int .i64 x.f0], [.string x.f1, .int .i64 x.f2, v3], rfl, rfl, ⟨[.string x.f1], [.int .i64 x.f2, v3], rfl, rfl, ⟨[.int .i64 x.f2], [v3], rfl, rfl, ⟨v3, rfl, g3⟩⟩⟩⟩
theorem vZ {W : World} {ok : Nat → Prop} {x : S69} {cs : List Value} (h : Kd.FK k69 W ok x cs) : ∃ A3 c3, cs = [.int .i64 x.f0, .string x.f1, .int .i64 x.f2, .slice A3 x.f3.length c3] ∧ x.f3.length ≤ c3 ∧ Kd.F k151 W ok A3 x.f3.length x.f3 := by
  obtain ⟨A3, c3, rfl, l3, _⟩ := lv (Kd.ng h)
  exact ⟨A3, c3, rfl, l3, (fun W' hW => by obtain ⟨A3_, c3_, he, l3_, g3_⟩ := lv (h W' hW); injection (Option.some.inj (show some (Value.slice A3 x.f3.length c3) = some (Value.slice A3_ x.f3.length c3_) from congrArg (fun l => l[3]?) he)) with ha_ _ _; rw [ha_]; exact g3_)⟩
def a_ (xs : List S69) (i : Int) : S69 := xs.getD i.toNat z69
theorem oG {w : World} {A : Option Addr} {n : Nat} {xs : List S69} (h : Kd.C k69 w A n xs) (i : Int) (h0 : 0 ≤ i) (h1 : i < n) : ∃ ad A3 c3, A = some ad ∧ w.cell? (ad.add (i.toNat * 4)) = some (.int .i64 (a_ xs i).f0) ∧ w.cell? ⟨(ad.add (i.toNat * 4)).block, (ad.add (i.toNat * 4)).off + 1, none⟩ = some (.string (a_ xs i).f1) ∧ w.cell? ⟨(ad.add (i.toNat * 4)).block, (ad.add (i.toNat * 4)).off + 2, none⟩ = some (.int .i64 (a_ xs i).f2) ∧ w.cell? ⟨(ad.add (i.toNat * 4)).block, (ad.add (i.toNat * 4)).off + 3, none⟩ = some (.slice A3 (a_ xs i).f3.length c3) ∧ (a_ xs i).f3.length ≤ c3 ∧ k151.C w A3 (a_ xs i).f3.length (a_ xs i).f3 := by
  obtain ⟨ad, c, e, _, hK, hc0⟩ := Kd.lH h z69 i h0 h1
  have hc : ∀ j u, c[j]? = some u → w.cell? (ad.add (i.toNat * 4 + j)) = some u := hc0
  obtain ⟨A3, c3, rfl, l3, g3⟩ := lv hK
  exact ⟨ad, A3, c3, e, hc 0 _ rfl, by rw [← dJ _ _ 1 (by omega)]; exact hc 1 _ rfl, by rw [← dJ _ _ 2 (by omega)]; exact hc 2 _ rfl, by rw [← dJ _ _ 3 (by omega)]; exact hc 3 _ rfl, l3, g3⟩
structure S173 where
  f0 : Int
  f1 : ByteArray
def z173 : S173 := ⟨(0 : Int), (⟨#[]⟩ : ByteArray)⟩
def k173 : Kd S173 := Kd.iso (Kd.pair (Kd.int .i64) Kd.string) (fun x : S173 => (x.f0, x.f1))
theorem uY {w : World} {x : S173} {cs : List Value} (h : k173.K w x cs) : cs = [.int .i64 x.f0, .string x.f1] := by
  obtain ⟨_, _, rfl, rfl, rfl⟩ := h
  exact rfl
theorem xc (w : World) (base : Nat) (ok : Nat → Prop) (x : S173)  : k173.M w base ok x [.int .i64 x.f0, .string x.f1] := ⟨[.int .i64 x.f0], [.string x.f1], rfl, rfl, rfl⟩
def kD (xs : List S173) (i : Int) : S173 := xs.getD i.toNat z173
theorem uO {w : World} {A : Option Addr} {n : Nat} {xs : List S173} (h : Kd.C k173 w A n xs) (i : Int) (h0 : 0 ≤ i) (h1 : i < n) : ∃ ad , A = some ad ∧ w.cell? (ad.add (i.toNat * 2)) = some (.int .i64 (kD xs i).f0) ∧ w.cell? ⟨(ad.add (i.toNat * 2)).block, (ad.add (i.toNat * 2)).off + 1, none⟩ = some (.string (kD xs i).f1) := by
  obtain ⟨ad, c, e, _, hK, hc0⟩ := Kd.lH h z173 i h0 h1
  have hc : ∀ j u, c[j]? = some u → w.cell? (ad.add (i.toNat * 2 + j)) = some u := hc0
  obtain rfl := uY hK
  exact ⟨ad, e, hc 0 _ rfl, by rw [← dJ _ _ 1 (by omega)]; exact hc 1 _ rfl⟩
structure S75 where
  f0 : Int
  f1 : (List S151)
def z75 : S75 := ⟨(0 : Int), ([] : List S151)⟩
def k75 : Kd S75 := Kd.iso (Kd.pair (Kd.int .i64) (Kd.slice 151 k151)) (fun x : S75 => (x.f0, x.f1))
theorem xZ {w : World} {x : S75} {cs : List Value} (h : k75.K w x cs) : ∃ A1 c1, cs = [.int .i64 x.f0, .slice A1 x.f1.length c1] ∧ x.f1.length ≤ c1 ∧ k151.C w A1 x.f1.length x.f1 := by
  obtain ⟨_, _, rfl, rfl, ⟨A1, c1, rfl, l1, g1⟩⟩ := h
  exact ⟨A1, c1, rfl, l1, g1⟩
theorem k75_mk (w : World) (x : S75) {A1 : Option Addr} {c1 : Nat} (l1 : x.f1.length ≤ c1) (g1 : k151.C w A1 x.f1.length x.f1) : k75.K w x [.int .i64 x.f0, .slice A1 x.f1.length c1] := ⟨[.int .i64 x.f0], [.slice A1 x.f1.length c1], rfl, rfl, ⟨A1, c1, rfl, l1, g1⟩⟩
theorem uN (W : World) (ok : Nat → Prop) (x : S75) {A1 : Option Addr} {c1 : Nat} (l1 : x.f1.length ≤ c1) (g1 : Kd.F k151 W ok A1 x.f1.length x.f1) : Kd.FK k75 W ok x [.int .i64 x.f0, .slice A1 x.f1.length c1] := fun W2 hW => k75_mk W2 x l1 (g1 W2 hW)
def dI (xs : List S75) (i : Int) : S75 := xs.getD i.toNat z75
theorem oO {w : World} {A : Option Addr} {n : Nat} {xs : List S75} (h : Kd.C k75 w A n xs) (i : Int) (h0 : 0 ≤ i) (h1 : i < n) : ∃ ad A1 c1, A = some ad ∧ w.cell? (ad.add (i.toNat * 2)) = some (.int .i64 (dI xs i).f0) ∧ w.cell? ⟨(ad.add (i.toNat * 2)).block, (ad.add (i.toNat * 2)).off + 1, none⟩ = some (.slice A1 (dI xs i).f1.length c1) ∧ (dI xs i).f1.length ≤ c1 ∧ k151.C w A1 (dI xs i).f1.length (dI xs i).f1 := by
  obtain ⟨ad, c, e, _, hK, hc0⟩ := Kd.lH h z75 i h0 h1
  have hc : ∀ j u, c[j]? = some u → w.cell? (ad.add (i.toNat * 2 + j)) = some u := hc0
  obtain ⟨A1, c1, rfl, l1, g1⟩ := xZ hK
  exact ⟨ad, A1, c1, e, hc 0 _ rfl, by rw [← dJ _ _ 1 (by omega)]; exact hc 1 _ rfl, l1, g1⟩
structure S199 where
  f0 : Int
  f1 : Int
  f2 : Int
  f3 : Int
def z199 : S199 := ⟨(0 : Int), (0 : Int), (0 : Int), (0 : Int)⟩
def k199 : Kd S199 := Kd.iso (Kd.pair (Kd.int .i64) (Kd.pair (Kd.int .i64) (Kd.pair (Kd.int .i64) (Kd.int .i64)))) (fun x : S199 => (x.f0, x.f1, x.f2, x.f3))
theorem ug {w : World} {x : S199} {cs : List Value} (h : k199.K w x cs) : cs = [.int .i64 x.f0, .int .i64 x.f1, .int .i64 x.f2, .int .i64 x.f3] := by
  obtain ⟨_, _, rfl, rfl, ⟨_, _, rfl, rfl, ⟨_, _, rfl, rfl, rfl⟩⟩⟩ := h
  exact rfl
theorem sN {w : World} {base : Nat} {ok : Nat → Prop} {x : S199} {cs : List Value} (h : k199.M w base ok x cs) : cs = [.int .i64 x.f0, .int .i64 x.f1, .int .i64 x.f2, .int .i64 x.f3] := by
  obtain ⟨_, _, rfl, rfl, ⟨_, _, rfl, rfl, ⟨_, _, rfl, rfl, rfl⟩⟩⟩ := h
  exact rfl
theorem rE (w : World) (base : Nat) (ok : Nat → Prop) (x : S199)  : k199.M w base ok x [.int .i64 x.f0, .int .i64 x.f1, .int .i64 x.f2, .int .i64 x.f3] := ⟨[.int .i64 x.f0], [.int .i64 x.f1, .int .i64 x.f2, .int .i64 x.f3], rfl, rfl, ⟨[.int .i64 x.f1], [.int .i64 x.f2, .int .i64 x.f3], rfl, rfl, ⟨[.int .i64 x.f2], [.int .i64 x.f3], rfl, rfl, rfl⟩⟩⟩
def bP (xs : List S199) (i : Int) : S199 := xs.getD i.toNat z199
theorem zR {w : World} {A : Option Addr} {n : Nat} {xs : List S199} (h : Kd.C k199 w A n xs) (i : Int) (h0 : 0 ≤ i) (h1 : i < n) : ∃ ad , A = some ad ∧ w.cell? (ad.add (i.toNat * 4)) = some (.int .i64 (bP xs i).f0) ∧ w.cell? ⟨(ad.add (i.toNat * 4)).block, (ad.add (i.toNat * 4)).off + 1, none⟩ = some (.int .i64 (bP xs i).f1) ∧ w.cell? ⟨(ad.add (i.toNat * 4)).block, (ad.add (i.toNat * 4)).off + 2, none⟩ = some (.int .i64 (bP xs i).f2) ∧ w.cell? ⟨(ad.add (i.toNat * 4)).block, (ad.add (i.toNat * 4)).off + 3, none⟩ = some (.int .i64 (bP xs i).f3) := by
  obtain ⟨ad, c, e, _, hK, hc0⟩ := Kd.lH h z199 i h0 h1
  have hc : ∀ j u, c[j]? = some u → w.cell? (ad.add (i.toNat * 4 + j)) = some u := hc0
  obtain rfl := ug hK
  exact ⟨ad, e, hc 0 _ rfl, by rw [← dJ _ _ 1 (by omega)]; exact hc 1 _ rfl, by rw [← dJ _ _ 2 (by omega)]; exact hc 2 _ rfl, by rw [← dJ _ _ 3 (by omega)]; exact hc 3 _ rfl⟩
structure S42 where
  f0 : Int
  f1 : ByteArray
  f2 : (List (List Int))
def z42 : S42 := ⟨(0 : Int), (⟨#[]⟩ : ByteArray), ([] : List (List Int))⟩
def k42 : Kd S42 := Kd.iso (Kd.pair (Kd.int .i64) (Kd.pair Kd.string (Kd.slice 37 (Kd.slice 5 (Kd.int .u8))))) (fun x : S42 => (x.f0, x.f1, x.f2))
theorem wN {w : World} {x : S42} {cs : List Value} (h : k42.K w x cs) : ∃ A2 c2, cs = [.int .i64 x.f0, .string x.f1, .slice A2 x.f2.length c2] ∧ x.f2.length ≤ c2 ∧ (Kd.slice 5 (Kd.int .u8)).C w A2 x.f2.length x.f2 := by
  obtain ⟨_, _, rfl, rfl, ⟨_, _, rfl, rfl, ⟨A2, c2, rfl, l2, g2⟩⟩⟩ := h
  exact ⟨A2, c2, rfl, l2, g2⟩
def kM (xs : List S42) (i : Int) : S42 := xs.getD i.toNat z42
theorem at_T42 {w : World} {A : Option Addr} {n : Nat} {xs : List S42} (h : Kd.C k42 w A n xs) (i : Int) (h0 : 0 ≤ i) (h1 : i < n) : ∃ ad A2 c2, A = some ad ∧ w.cell? (ad.add (i.toNat * 3)) = some (.int .i64 (kM xs i).f0) ∧ w.cell? ⟨(ad.add (i.toNat * 3)).block, (ad.add (i.toNat * 3)).off + 1, none⟩ = some (.string (kM xs i).f1) ∧ w.cell? ⟨(ad.add (i.toNat * 3)).block, (ad.add (i.toNat * 3)).off + 2, none⟩ = some (.slice A2 (kM xs i).f2.length c2) ∧ (kM xs i).f2.length ≤ c2 ∧ (Kd.slice 5 (Kd.int .u8)).C w A2 (kM xs i).f2.length (kM xs i).f2 := by
  obtain ⟨ad, c, e, _, hK, hc0⟩ := Kd.lH h z42 i h0 h1
  have hc : ∀ j u, c[j]? = some u → w.cell? (ad.add (i.toNat * 3 + j)) = some u := hc0
  obtain ⟨A2, c2, rfl, l2, g2⟩ := wN hK
  exact ⟨ad, A2, c2, e, hc 0 _ rfl, by rw [← dJ _ _ 1 (by omega)]; exact hc 1 _ rfl, by rw [← dJ _ _ 2 (by omega)]; exact hc 2 _ rfl, l2, g2⟩
structure S55 where
  f0 : Int
  f1 : Int
  f2 : Int
  f3 : Int
  f4 : ByteArray
  f5 : (List Int)
def z55 : S55 := ⟨(0 : Int), (0 : Int), (0 : Int), (0 : Int), (⟨#[]⟩ : ByteArray), ([] : List Int)⟩
structure S77 where
  f0 : Int
  f1 : (List S151)
def z77 : S77 := ⟨(0 : Int), ([] : List S151)⟩
structure S163 where
  f0 : Int
  f1 : ByteArray
  f2 : (List (List Int))
def z163 : S163 := ⟨(0 : Int), (⟨#[]⟩ : ByteArray), ([] : List (List Int))⟩
def k163 : Kd S163 := Kd.iso (Kd.pair (Kd.int .i64) (Kd.pair Kd.string (Kd.slice 37 (Kd.slice 5 (Kd.int .u8))))) (fun x : S163 => (x.f0, x.f1, x.f2))
theorem uQ {w : World} {x : S163} {cs : List Value} (h : k163.K w x cs) : ∃ A2 c2, cs = [.int .i64 x.f0, .string x.f1, .slice A2 x.f2.length c2] ∧ x.f2.length ≤ c2 ∧ (Kd.slice 5 (Kd.int .u8)).C w A2 x.f2.length x.f2 := by
  obtain ⟨_, _, rfl, rfl, ⟨_, _, rfl, rfl, ⟨A2, c2, rfl, l2, g2⟩⟩⟩ := h
  exact ⟨A2, c2, rfl, l2, g2⟩
theorem yf (w : World) (base : Nat) (ok : Nat → Prop) (x : S163) {v2 : Value} (g2 : (Kd.slice 5 (Kd.int .u8)).R 37 w base ok v2 x.f2) : k163.M w base ok x [.int .i64 x.f0, .string x.f1, v2] := ⟨[.int .i64 x.f0], [.string x.f1, v2], rfl, rfl, ⟨[.string x.f1], [v2], rfl, rfl, ⟨v2, rfl, g2⟩⟩⟩
def ja (xs : List S163) (i : Int) : S163 := xs.getD i.toNat z163
theorem zY {w : World} {A : Option Addr} {n : Nat} {xs : List S163} (h : Kd.C k163 w A n xs) (i : Int) (h0 : 0 ≤ i) (h1 : i < n) : ∃ ad A2 c2, A = some ad ∧ w.cell? (ad.add (i.toNat * 3)) = some (.int .i64 (ja xs i).f0) ∧ w.cell? ⟨(ad.add (i.toNat * 3)).block, (ad.add (i.toNat * 3)).off + 1, none⟩ = some (.string (ja xs i).f1) ∧ w.cell? ⟨(ad.add (i.toNat * 3)).block, (ad.add (i.toNat * 3)).off + 2, none⟩ = some (.slice A2 (ja xs i).f2.length c2) ∧ (ja xs i).f2.length ≤ c2 ∧ (Kd.slice 5 (Kd.int .u8)).C w A2 (ja xs i).f2.length (ja xs i).f2 := by
  obtain ⟨ad, c, e, _, hK, hc0⟩ := Kd.lH h z163 i h0 h1
  have hc : ∀ j u, c[j]? = some u → w.cell? (ad.add (i.toNat * 3 + j)) = some u := hc0
  obtain ⟨A2, c2, rfl, l2, g2⟩ := uQ hK
  exact ⟨ad, A2, c2, e, hc 0 _ rfl, by rw [← dJ _ _ 1 (by omega)]; exact hc 1 _ rfl, by rw [← dJ _ _ 2 (by omega)]; exact hc 2 _ rfl, l2, g2⟩
abbrev yT : Bool := true
abbrev yF : Bool := false
namespace Flag
structure Ex where
  v : Int
  p : Int
  n : Int
def kX (x : Ex) (i : Int) : Int := if x.p < 0 then x.p else x.p + (i - x.v)
def fP : List Ex → Int → Option Int
  | [], _ => none
  | x :: t, i => if x.v ≤ i ∧ i < x.v + x.n then some (kX x i) else fP t i
def kL (a b : Ex) : Prop := a.v + a.n = b.v ∧ ((a.p < 0 ∧ b.p = a.p) ∨ (0 ≤ a.p ∧ b.p = a.p + a.n))
instance (a b : Ex) : Decidable (kL a b) := inferInstanceAs (Decidable (_ ∧ _))
abbrev okE (x : Ex) : Prop := 0 < x.n
def NF : List Ex → Prop
  | [] => True
  | [x] => okE x
  | x :: y :: t => okE x ∧ x.v + x.n ≤ y.v ∧ ¬ kL x y ∧ NF (y :: t)
theorem NF.head {x : Ex} {t : List Ex} (h : NF (x :: t)) : okE x := by
  cases t with
  | nil => exact h
  | cons y t => exact h.1
theorem NF.tail {x : Ex} {t : List Ex} (h : NF (x :: t)) : NF t := by
  cases t with
  | nil => trivial
  | cons y t => exact h.2.2.2
theorem NF.all {l : List Ex} (h : NF l) : ∀ x ∈ l, okE x := by
  induction l with
  | nil => intro x hx; cases hx
  | cons y t ih =>
    intro x hx
    cases hx with
    | head => exact h.head
    | tail _ hx => exact ih h.tail x hx
theorem NF.after {x : Ex} {t : List Ex} (h : NF (x :: t)) : ∀ y ∈ t, x.v + x.n ≤ y.v := by
  induction t generalizing x with
  | nil => intro y hy; cases hy
  | cons z t ih =>
    intro y hy
    cases hy with
    | head => exact h.2.1
    | tail _ hy =>
      have h1 := ih h.tail y hy
      have h2 := h.2.1
      have h3 := h.tail.head
      omega
theorem mW {l : List Ex} {i : Int} (h : ∀ x ∈ l, i < x.v) : fP l i = none := by
  induction l with
  | nil => rfl
  | cons x t ih =>
    have h1 := h x List.mem_cons_self
    rw [fP, if_neg (by omega)]
    exact ih (fun y hy => h y (List.mem_cons_of_mem _ hy))
theorem gu {l : List Ex} {i r : Int} (h : fP l i = some r) : ∃ x ∈ l, x.v ≤ i ∧ i < x.v + x.n ∧ r = kX x i := by
  induction l with
  | nil => simp [fP] at h
  | cons x t ih =>
    rw [fP] at h
    split at h
    · rename_i hx
      exact ⟨x, List.mem_cons_self, hx.1, hx.2, (Option.some.inj h).symm⟩
    · obtain ⟨y, hy, r⟩ := ih h
      exact ⟨y, List.mem_cons_of_mem _ hy, r⟩
theorem fH {x : Ex} {t : List Ex} {i : Int} (h1 : x.v ≤ i) (h2 : i < x.v + x.n) : fP (x :: t) i = some (kX x i) := by rw [fP, if_pos ⟨h1, h2⟩]
theorem kV {x : Ex} {t : List Ex} {i : Int} (h : NF (x :: t)) (h1 : i < x.v) : fP (x :: t) i = none := by
  apply mW
  intro y hy
  cases hy with
  | head => exact h1
  | tail _ hy =>
    have := h.after y hy
    have := h.head
    unfold okE at this
    omega
theorem jq {x : Ex} {t : List Ex} {i : Int} (h1 : ¬ (x.v ≤ i ∧ i < x.v + x.n)) : fP (x :: t) i = fP t i := by rw [fP, if_neg h1]
theorem jJ (x : Ex) : kX x x.v = x.p := by unfold kX; split <;> omega
theorem NF.ext {l m : List Ex} (hl : NF l) (hm : NF m) (h : ∀ i, fP l i = fP m i) : l = m := by
  induction l generalizing m with
  | nil =>
    cases m with
    | nil => rfl
    | cons y t =>
      have h1 := h y.v
      have := hm.head
      rw [fH (Int.le_refl _) (by omega)] at h1
      simp [fP] at h1
  | cons x t ih =>
    cases m with
    | nil =>
      have h1 := h x.v
      have := hl.head
      rw [fH (Int.le_refl _) (by omega)] at h1
      simp [fP] at h1
    | cons y u =>
      have ox := hl.head
      have oy := hm.head
      have hx0 := ox
      have hy0 := oy
      have hv : x.v = y.v := by
        rcases Int.lt_trichotomy x.v y.v with h1 | h1 | h1
        · have h2 := h x.v
          rw [fH (Int.le_refl _) (by omega), kV hm h1] at h2
          cases h2
        · exact h1
        · have h2 := h y.v
          rw [kV hl h1, fH (Int.le_refl _) (by omega)] at h2
          cases h2
      have hp : x.p = y.p := by
        have h2 := h x.v
        rw [fH (Int.le_refl _) (by omega), fH (by omega) (by omega), jJ, hv, jJ] at h2
        exact Option.some.inj h2
      have key : ∀ {x y : Ex} {t u : List Ex}, NF (x :: t) → NF (y :: u) → (∀ i, fP (x :: t) i = fP (y :: u) i) → x.v = y.v → x.p = y.p → ¬ x.n < y.n := by
        intro x y t u hl hm h hv hp hn
        have ox := hl.head
        have oy := hm.head
        have hx0 := ox
        have h2 := h (x.v + x.n)
        rw [fH (x := y) (by omega) (by omega), jq (by omega)] at h2
        obtain ⟨z, hz, hz1, hz2, hz3⟩ := gu h2
        cases t with
        | nil => cases hz
        | cons z0 t =>
          have a1 := hl.2.1
          have hz0 : z = z0 := by
            cases hz with
            | head => rfl
            | tail _ hz =>
              have := hl.tail.after z hz
              have := hl.tail.head
              omega
          subst hz0
          have hzv : z.v = x.v + x.n := by omega
          apply hl.2.2.1
          refine ⟨hzv.symm, ?_⟩
          rw [← hzv, jJ] at hz3
          unfold kX at hz3
          by_cases hxp : x.p < 0
          · rw [if_pos (by omega)] at hz3
            exact .inl ⟨hxp, by omega⟩
          · rw [if_neg (by omega)] at hz3
            exact .inr ⟨by omega, by omega⟩
      have hn : x.n = y.n := by
        have k1 := key hl hm h hv hp
        have k2 := key hm hl (fun i => (h i).symm) hv.symm hp.symm
        omega
      have hxy : x = y := by
        cases x
        cases y
        simp_all
      subst hxy
      congr 1
      refine ih hl.tail hm.tail fun i => ?_
      by_cases hi : x.v ≤ i ∧ i < x.v + x.n
      · have e1 : ∀ {t : List Ex}, NF (x :: t) → fP t i = none := by
          intro t ht
          apply mW
          intro z hz
          have := ht.after z hz
          omega
        rw [e1 hl, e1 hm]
      · have h2 := h i
        rwa [jq hi, jq hi] at h2
end Flag
namespace Flag
def Rising : List Ex → Prop
  | [] => True
  | x :: t => (0 < x.n → ∀ y ∈ t, 0 < y.n → x.v + x.n ≤ y.v) ∧ Rising t
def part (x : Ex) (a b : Int) : Ex := ⟨max a x.v, if x.p < 0 then x.p else x.p + (max a x.v - x.v), min b (x.v + x.n) - max a x.v⟩
def pY (x : Ex) : Prop := 0 < x.n ∧ 0 ≤ x.v ∧ x.v + x.n ≤ 65536 ∧ 0 ≤ x.p ∧ x.p + x.n ≤ 65536
structure Map5 (l : List Ex) : Prop where
  len : l.length ≤ 1024
  ok : ∀ x ∈ l, pY x
  nf : NF l
end Flag
namespace Flag
end Flag
namespace Flag
theorem o_ {l : List Ex} (h : NF l) {z : Ex} (hz : z ∈ l) {i : Int} (h1 : z.v ≤ i) (h2 : i < z.v + z.n) : fP l i = some (kX z i) := by
  induction l with
  | nil => cases hz
  | cons x t ih =>
    rcases List.mem_cons.1 hz with rfl | hz
    · exact fH h1 h2
    · have h3 := h.after z hz
      rw [jq (by omega)]
      exact ih h.tail hz
def mayE (x : Ex) : Bool := decide (0 < x.n) && (decide (0 ≤ x.v) && decide (x.v + x.n ≤ 65536)) && (decide (0 ≤ x.p) && decide (x.p + x.n ≤ 65536))
theorem nN {x : Ex} : mayE x = true ↔ pY x := by simp [mayE, pY, and_assoc]
def qw : Ex → List Ex → Bool
  | _, [] => true
  | x, y :: t => mayE y && decide (x.v + x.n ≤ y.v) && !decide (kL x y) && qw y t
def mapB : List Ex → Bool
  | [] => true
  | x :: t => mayE x && qw x t
theorem ow {x : Ex} {t : List Ex} (hx : pY x) : qw x t = true ↔ (∀ y ∈ t, pY y) ∧ NF (x :: t) := by
  induction t generalizing x with
  | nil => simp [qw, NF, okE, hx.1]
  | cons y t ih =>
    simp only [qw, Bool.and_eq_true, Bool.not_eq_true', decide_eq_true_eq, decide_eq_false_iff_not, nN, NF]
    constructor
    · rintro ⟨⟨⟨h1, h2⟩, h3⟩, h4⟩
      obtain ⟨h5, h6⟩ := (ih h1).1 h4
      refine ⟨fun z hz => ?_, hx.1, h2, h3, h6⟩
      rcases List.mem_cons.1 hz with rfl | hz
      · exact h1
      · exact h5 z hz
    · rintro ⟨h1, _, h2, h3, h4⟩
      have hy := h1 y List.mem_cons_self
      exact ⟨⟨⟨hy, h2⟩, h3⟩, (ih hy).2 ⟨fun z hz => h1 z (List.mem_cons_of_mem _ hz), h4⟩⟩
theorem nI {l : List Ex} : mapB l = true ↔ (∀ y ∈ l, pY y) ∧ NF l := by
  cases l with
  | nil => simp [mapB, NF]
  | cons x t =>
    simp only [mapB, Bool.and_eq_true, nN]
    constructor
    · rintro ⟨h1, h2⟩
      obtain ⟨h3, h4⟩ := (ow h1).1 h2
      refine ⟨fun z hz => ?_, h4⟩
      rcases List.mem_cons.1 hz with rfl | hz
      · exact h1
      · exact h3 z hz
    · rintro ⟨h1, h2⟩
      have hx := h1 x List.mem_cons_self
      exact ⟨hx, (ow hx).2 ⟨fun z hz => h1 z (List.mem_cons_of_mem _ hz), h2⟩⟩
def gX (l : List Ex) : Int := if l.length ≤ 1024 ∧ mapB l = true then 0 else 9
theorem jW {l : List Ex} : gX l = 0 ↔ Map5 l := by
  unfold gX
  split
  · rename_i h
    exact ⟨fun _ => ⟨h.1, (nI.1 h.2).1, (nI.1 h.2).2⟩, fun _ => rfl⟩
  · rename_i h
    refine ⟨fun h1 => by simp at h1, fun h1 => absurd ⟨h1.len, nI.2 ⟨h1.ok, h1.nf⟩⟩ h⟩
theorem uy (l : List Ex) : gX l = 0 ∨ gX l = 9 := by unfold gX; split <;> simp
end Flag
namespace Flag
structure Sp where
  a : Int
  n : Int
def Sp.ex (s : Sp) : Ex := ⟨s.a, -1, s.n⟩
def memS : List Sp → Int → Prop
  | [], _ => False
  | x :: t, i => (x.a ≤ i ∧ i < x.a + x.n) ∨ memS t i
instance memS_dec : ∀ (l : List Sp) (i : Int), Decidable (memS l i)
  | [], _ => inferInstanceAs (Decidable False)
  | x :: t, i => by
    have := memS_dec t i
    exact inferInstanceAs (Decidable ((x.a ≤ i ∧ i < x.a + x.n) ∨ memS t i))
theorem eH {l : List Sp} {i : Int} : memS l i ↔ ∃ x ∈ l, x.a ≤ i ∧ i < x.a + x.n := by
  induction l with
  | nil => simp [memS]
  | cons x t ih => simp [memS, ih]
theorem eY {l m : List Sp} {i : Int} : memS (l ++ m) i ↔ memS l i ∨ memS m i := by
  simp only [eH, List.mem_append]
  constructor
  · rintro ⟨x, hx | hx, h⟩
    · exact .inl ⟨x, hx, h⟩
    · exact .inr ⟨x, hx, h⟩
  · rintro (⟨x, hx, h⟩ | ⟨x, hx, h⟩)
    · exact ⟨x, .inl hx, h⟩
    · exact ⟨x, .inr hx, h⟩
theorem qO (l : List Sp) (i : Int) : fP (l.map Sp.ex) i = if memS l i then some (-1) else none := by
  induction l with
  | nil => simp [fP, memS]
  | cons x t ih =>
    rw [List.map_cons, fP, ih]
    have e : kX x.ex i = -1 := by simp [kX, Sp.ex]
    rw [e]
    show (if x.a ≤ i ∧ i < x.a + x.n then _ else _) = _
    by_cases h : x.a ≤ i ∧ i < x.a + x.n
    · rw [if_pos h, if_pos (.inl h)]
    · rw [if_neg h]
      by_cases h2 : memS t i
      · rw [if_pos h2, if_pos (.inr h2)]
      · rw [if_neg h2, if_neg (fun h3 => h3.elim h h2)]
def NFs : List Sp → Prop
  | [] => True
  | [x] => 0 < x.n
  | x :: y :: t => 0 < x.n ∧ x.a + x.n < y.a ∧ NFs (y :: t)
theorem qh : ∀ {l : List Sp}, NFs l ↔ NF (l.map Sp.ex)
  | [] => by simp [NFs, NF]
  | [x] => by simp [NFs, NF, Sp.ex]
  | x :: y :: t => by
    have ih := @qh (y :: t)
    simp only [NFs, List.map_cons, NF] at ih ⊢
    rw [ih]
    simp only [Sp.ex, kL, okE]
    constructor
    · rintro ⟨h1, h2, h3⟩
      exact ⟨h1, by omega, by omega, h3⟩
    · rintro ⟨h1, h2, h3, h4⟩
      have h5 : x.a + x.n ≠ y.a := fun e => h3 ⟨e, .inl (by simp)⟩
      exact ⟨h1, by omega, h4⟩
theorem ex_inj {l m : List Sp} (h : l.map Sp.ex = m.map Sp.ex) : l = m := by
  induction l generalizing m with
  | nil => cases m <;> simp_all
  | cons x t ih =>
    cases m with
    | nil => simp at h
    | cons y u =>
      simp only [List.map_cons, List.cons.injEq] at h
      obtain ⟨h1, h2⟩ := h
      have : x = y := by
        cases x
        cases y
        simp only [Sp.ex, Ex.mk.injEq] at h1
        simp [h1.1, h1.2.2]
      rw [this, ih h2]
theorem NFs.ext {l m : List Sp} (hl : NFs l) (hm : NFs m) (h : ∀ i, memS l i ↔ memS m i) : l = m := by
  refine ex_inj (NF.ext (qh.1 hl) (qh.1 hm) fun i => ?_)
  rw [qO, qO]
  by_cases h1 : memS l i
  · rw [if_pos h1, if_pos ((h i).1 h1)]
  · rw [if_neg h1, if_neg (fun h2 => h1 ((h i).2 h2))]
theorem NFs.head {x : Sp} {t : List Sp} (h : NFs (x :: t)) : 0 < x.n := by
  cases t with
  | nil => exact h
  | cons y t => exact h.1
theorem NFs.tail {x : Sp} {t : List Sp} (h : NFs (x :: t)) : NFs t := by
  cases t with
  | nil => trivial
  | cons y t => exact h.2.2
theorem NFs.after {x : Sp} {t : List Sp} (h : NFs (x :: t)) : ∀ y ∈ t, x.a + x.n < y.a := by
  induction t generalizing x with
  | nil => intro y hy; cases hy
  | cons z t ih =>
    intro y hy
    cases hy with
    | head => exact h.2.1
    | tail _ hy =>
      have h1 := ih h.tail y hy
      have h2 := h.2.1
      have h3 := h.tail.head
      omega
theorem NFs.cons {x : Sp} {t : List Sp} (hx : 0 < x.n) (ht : NFs t) (h : ∀ y ∈ t, x.a + x.n < y.a) : NFs (x :: t) := by
  cases t with
  | nil => exact hx
  | cons y t => exact ⟨hx, h y List.mem_cons_self, ht⟩
theorem NFs.all {l : List Sp} (h : NFs l) : ∀ x ∈ l, 0 < x.n := by
  induction l with
  | nil => intro x hx; cases hx
  | cons y t ih =>
    intro x hx
    cases hx with
    | head => exact h.head
    | tail _ hx => exact ih h.tail x hx
theorem iI {l m : List Sp} (hl : NFs l) (hm : NFs m) (h : ∀ x ∈ l, ∀ y ∈ m, x.a + x.n < y.a) : NFs (l ++ m) := by
  induction l with
  | nil => exact hm
  | cons x t ih =>
    refine NFs.cons hl.head (ih hl.tail fun z hz => h z (List.mem_cons_of_mem _ hz)) fun y hy => ?_
    rcases List.mem_append.1 hy with hy | hy
    · exact hl.after y hy
    · exact h x List.mem_cons_self y hy
theorem jR {l m : List Sp} (h : NFs (l ++ m)) : NFs l ∧ NFs m ∧ ∀ x ∈ l, ∀ y ∈ m, x.a + x.n < y.a := by
  induction l with
  | nil => exact ⟨trivial, h, fun x hx => by cases hx⟩
  | cons x t ih =>
    obtain ⟨h1, h2, h3⟩ := ih h.tail
    refine ⟨NFs.cons h.head h1 fun y hy => h.after y (List.mem_append_left _ hy), h2, fun z hz y hy => ?_⟩
    cases hz with
    | head => exact h.after y (List.mem_append_right _ hy)
    | tail _ hz => exact h3 z hz y hy
theorem vW {L : List Sp} {u : Sp} (h : L.getLast? = some u) : L = L.dropLast ++ [u] := by
  have hne : L ≠ [] := by rintro rfl; simp at h
  have h2 := List.dropLast_concat_getLast hne
  rw [List.getLast?_eq_some_getLast hne] at h
  injection h with h
  rw [h] at h2
  exact h2.symm
end Flag
namespace Flag
def joinStep (out : List Sp) (x : Sp) : List Sp :=
  match out.getLast? with
  | none => [x]
  | some y => if x.a ≤ y.a + y.n then out.dropLast ++ [⟨y.a, max y.n (x.a + x.n - y.a)⟩] else out ++ [x]
def pz (l : List Sp) : List Sp := l.foldl joinStep []
def iF (l : List Sp) : Prop := l.Pairwise fun a b => a.a ≤ b.a
theorem nW {out : List Sp} {x : Sp} (h : NFs out) (hb : ∀ y ∈ out, y.a ≤ x.a) (hx : 0 < x.n) :
    NFs (joinStep out x) ∧ (∀ i, memS (joinStep out x) i ↔ memS out i ∨ (x.a ≤ i ∧ i < x.a + x.n)) ∧ ∀ y ∈ joinStep out x, y.a ≤ x.a := by
  unfold joinStep
  cases hl : out.getLast? with
  | none =>
    have : out = [] := List.getLast?_eq_none_iff.1 hl
    subst this
    refine ⟨hx, fun i => by simp [memS], fun y hy => ?_⟩
    have : y = x := by simpa using hy
    rw [this]
    exact Int.le_refl _
  | some y =>
    obtain ⟨m, rfl⟩ : ∃ m, out = m ++ [y] := ⟨_, vW hl⟩
    obtain ⟨hm, hy, hmy⟩ := jR h
    have hy0 : 0 < y.n := hy
    have hyx := hb y (by simp)
    dsimp only
    split
    · rename_i hc
      rw [List.dropLast_concat]
      refine ⟨iI hm (show 0 < max y.n (x.a + x.n - y.a) by omega) fun u hu z hz => ?_, fun i => ?_, fun z hz => ?_⟩
      · have : z = ⟨y.a, max y.n (x.a + x.n - y.a)⟩ := by simpa using hz
        subst this
        exact hmy u hu y (by simp)
      · rw [eY, eY]
        show memS m i ∨ ((y.a ≤ i ∧ i < y.a + max y.n (x.a + x.n - y.a)) ∨ False) ↔ (memS m i ∨ ((y.a ≤ i ∧ i < y.a + y.n) ∨ False)) ∨ (x.a ≤ i ∧ i < x.a + x.n)
        simp only [or_false]
        constructor
        · rintro (h1 | h1)
          · exact .inl (.inl h1)
          · by_cases h2 : i < y.a + y.n
            · exact .inl (.inr ⟨h1.1, h2⟩)
            · exact .inr (by omega)
        · rintro ((h1 | h1) | h1)
          · exact .inl h1
          · exact .inr (by omega)
          · exact .inr (by omega)
      · rcases List.mem_append.1 hz with hz | hz
        · exact hb z (List.mem_append_left _ hz)
        · have : z = ⟨y.a, max y.n (x.a + x.n - y.a)⟩ := by simpa using hz
          subst this
          exact hyx
    · rename_i hc
      refine ⟨iI h (show NFs [x] from hx) fun u hu z hz => ?_, fun i => ?_, fun z hz => ?_⟩
      · have : z = x := by simpa using hz
        subst this
        rcases List.mem_append.1 hu with hu | hu
        · have := hmy u hu y (by simp)
          omega
        · have : u = y := by simpa using hu
          subst this
          omega
      · rw [eY (l := m ++ [y]) (m := [x])]
        show _ ∨ ((x.a ≤ i ∧ i < x.a + x.n) ∨ False) ↔ _
        simp only [or_false]
      · rcases List.mem_append.1 hz with hz | hz
        · exact hb z hz
        · have : z = x := by simpa using hz
          rw [this]
          exact Int.le_refl _
theorem sV {l : List Sp} : ∀ {out : List Sp}, NFs out → (∀ y ∈ out, ∀ x ∈ l, y.a ≤ x.a) → iF l → (∀ x ∈ l, 0 < x.n) →
    NFs (l.foldl joinStep out) ∧ ∀ i, memS (l.foldl joinStep out) i ↔ memS out i ∨ memS l i := by
  induction l with
  | nil => intro out h _ _ _; exact ⟨h, fun i => by simp [memS]⟩
  | cons x t ih =>
    intro out h hb hr hp
    have hr2 := List.pairwise_cons.1 hr
    obtain ⟨h1, h2, h3⟩ := nW h (fun y hy => hb y hy x List.mem_cons_self) (hp x List.mem_cons_self)
    obtain ⟨h4, h5⟩ := ih h1 (fun y hy z hz => by have := h3 y hy; have := hr2.1 z hz; omega) hr2.2 (fun z hz => hp z (List.mem_cons_of_mem _ hz))
    refine ⟨h4, fun i => ?_⟩
    rw [List.foldl_cons, h5, h2]
    show _ ↔ memS out i ∨ ((x.a ≤ i ∧ i < x.a + x.n) ∨ memS t i)
    exact or_assoc
theorem kz {l : List Sp} (hr : iF l) (hp : ∀ x ∈ l, 0 < x.n) : NFs (pz l) ∧ ∀ i, memS (pz l) i ↔ memS l i := by
  obtain ⟨h1, h2⟩ := sV (out := []) trivial (fun y hy => by cases hy) hr hp
  exact ⟨h1, fun i => by rw [pz, h2]; simp [memS]⟩
theorem oJ {l m : List Sp} (h : l.Perm m) (i : Int) : memS l i ↔ memS m i := by
  rw [eH, eH]
  constructor
  · rintro ⟨x, hx, h1⟩; exact ⟨x, h.mem_iff.1 hx, h1⟩
  · rintro ⟨x, hx, h1⟩; exact ⟨x, h.mem_iff.2 hx, h1⟩
theorem sM {l m : List Sp} (h : l.Perm m) (hl : iF l) (hm : iF m) (hp : ∀ x ∈ l, 0 < x.n) : pz l = pz m := by
  obtain ⟨h1, h2⟩ := kz hl hp
  obtain ⟨h3, h4⟩ := kz hm (fun x hx => hp x (h.mem_iff.2 hx))
  refine NFs.ext h1 h3 fun i => ?_
  rw [h2, h4]
  exact oJ h i
end Flag
namespace Flag
def restOf (y x : Sp) : List Sp := (if y.a < x.a then [⟨y.a, x.a - y.a⟩] else []) ++ (if x.a + x.n < y.a + y.n then [⟨x.a + x.n, y.a + y.n - (x.a + x.n)⟩] else [])
def ahead (l : List Sp) (s : Int) : List Sp := l.takeWhile fun x => decide (x.a + x.n ≤ s)
def behind (l : List Sp) (s : Int) : List Sp := l.dropWhile fun x => decide (x.a + x.n ≤ s)
end Flag
namespace Flag
def oo (y x : Sp) : List Sp :=
  if min (y.a + y.n) (x.a + x.n) ≤ max y.a x.a then [y]
  else (if y.a < max y.a x.a then [⟨y.a, max y.a x.a - y.a⟩] else []) ++ (if min (y.a + y.n) (x.a + x.n) < y.a + y.n then [⟨min (y.a + y.n) (x.a + x.n), y.a + y.n - min (y.a + y.n) (x.a + x.n)⟩] else [])
def lK (l : List Sp) (x : Sp) : List Sp := l.flatMap fun y => oo y x
theorem rq {y x z : Sp} (hy : 0 < y.n) (hz : z ∈ oo y x) : y.a ≤ z.a ∧ z.a + z.n ≤ y.a + y.n ∧ 0 < z.n := by
  unfold oo at hz
  split at hz
  · have : z = y := by simpa using hz
    subst this
    omega
  · rcases List.mem_append.1 hz with h | h
    · split at h
      · have : z = ⟨y.a, max y.a x.a - y.a⟩ := by simpa using h
        subst this
        dsimp only
        omega
      · cases h
    · split at h
      · have : z = ⟨min (y.a + y.n) (x.a + x.n), y.a + y.n - min (y.a + y.n) (x.a + x.n)⟩ := by simpa using h
        subst this
        dsimp only
        omega
      · cases h
theorem uR {y x : Sp} (hy : 0 < y.n) : NFs (oo y x) := by
  unfold oo
  split
  · exact hy
  · split <;> split <;> simp [NFs] <;> omega
theorem r_ {y x : Sp} (hx : 0 ≤ x.n) (i : Int) : memS (oo y x) i ↔ (y.a ≤ i ∧ i < y.a + y.n) ∧ ¬ (x.a ≤ i ∧ i < x.a + x.n) := by
  unfold oo
  split
  · show ((y.a ≤ i ∧ i < y.a + y.n) ∨ False) ↔ _
    simp only [or_false]
    omega
  · rw [eY]
    by_cases h1 : y.a < max y.a x.a <;> by_cases h2 : min (y.a + y.n) (x.a + x.n) < y.a + y.n
    · rw [if_pos h1, if_pos h2]
      show ((y.a ≤ i ∧ i < y.a + (max y.a x.a - y.a)) ∨ False) ∨ ((min (y.a + y.n) (x.a + x.n) ≤ i ∧ i < min (y.a + y.n) (x.a + x.n) + (y.a + y.n - min (y.a + y.n) (x.a + x.n))) ∨ False) ↔ _
      simp only [or_false]
      omega
    · rw [if_pos h1, if_neg h2]
      show ((y.a ≤ i ∧ i < y.a + (max y.a x.a - y.a)) ∨ False) ∨ False ↔ _
      simp only [or_false]
      omega
    · rw [if_neg h1, if_pos h2]
      show False ∨ ((min (y.a + y.n) (x.a + x.n) ≤ i ∧ i < min (y.a + y.n) (x.a + x.n) + (y.a + y.n - min (y.a + y.n) (x.a + x.n))) ∨ False) ↔ _
      simp only [or_false, false_or]
      omega
    · rw [if_neg h1, if_neg h2]
      show False ∨ False ↔ _
      simp only [or_false, false_iff]
      omega
theorem rY {l : List Sp} {x : Sp} (h : NFs l) (hx : 0 ≤ x.n) : NFs (lK l x) ∧ (∀ i, memS (lK l x) i ↔ memS l i ∧ ¬ (x.a ≤ i ∧ i < x.a + x.n)) ∧ ∀ z ∈ lK l x, ∃ y ∈ l, y.a ≤ z.a ∧ z.a + z.n ≤ y.a + y.n := by
  induction l with
  | nil => exact ⟨trivial, fun i => by simp [lK, memS], fun z hz => by cases hz⟩
  | cons y t ih =>
    obtain ⟨h1, h2, h3⟩ := ih h.tail
    have e : lK (y :: t) x = oo y x ++ lK t x := by simp [lK]
    rw [e]
    refine ⟨iI (uR h.head) h1 fun u hu z hz => ?_, fun i => ?_, fun z hz => ?_⟩
    · obtain ⟨g1, g2, g3⟩ := rq h.head hu
      obtain ⟨v, hv, g4, g5⟩ := h3 z hz
      have := h.after v hv
      omega
    · rw [eY, r_ hx, h2]
      show _ ↔ ((y.a ≤ i ∧ i < y.a + y.n) ∨ memS t i) ∧ _
      constructor
      · rintro (⟨a, b⟩ | ⟨a, b⟩)
        · exact ⟨.inl a, b⟩
        · exact ⟨.inr a, b⟩
      · rintro ⟨a | a, b⟩
        · exact .inl ⟨a, b⟩
        · exact .inr ⟨a, b⟩
    · rcases List.mem_append.1 hz with hz | hz
      · obtain ⟨g1, g2, g3⟩ := rq h.head hz
        exact ⟨y, List.mem_cons_self, g1, g2⟩
      · obtain ⟨v, hv, g⟩ := h3 z hz
        exact ⟨v, List.mem_cons_of_mem _ hv, g⟩
def iQ (s : List Sp × Int) (x : Sp) : List Sp × Int := (if s.2 < x.a then s.1 ++ [⟨s.2, x.a - s.2⟩] else s.1, max s.2 (x.a + x.n))
def gapS (l : List Sp) (size : Int) : List Sp := ((l ++ [(⟨size, 0⟩ : Sp)]).foldl iQ ([], 0)).1
structure Gap (s : List Sp × Int) (done : List Sp) : Prop where
  nf : NFs s.1
  lt : ∀ y ∈ s.1, y.a + y.n < s.2
  g0 : 0 ≤ s.2
  le : ∀ z ∈ done, z.a + z.n ≤ s.2
  at_ : s.2 = 0 ∨ ∃ z ∈ done, z.a + z.n = s.2
  mem : ∀ i, memS s.1 i ↔ (0 ≤ i ∧ i < s.2) ∧ ¬ memS done i
theorem Gap.nil : Gap ([], 0) [] := by
  refine ⟨trivial, fun y hy => (by cases hy), Int.le_refl _, fun z hz => (by cases hz), .inl rfl, fun i => ?_⟩
  show False ↔ (0 ≤ i ∧ i < 0) ∧ ¬ False
  simp only [not_false_iff, and_true, false_iff]
  omega
theorem Gap.step {s : List Sp × Int} {done : List Sp} {x : Sp} (h : Gap s done) (hx : 0 < x.n) (h0 : 0 ≤ x.a) (hs : ∀ z ∈ done, z.a ≤ x.a) : Gap (iQ s x) (done ++ [x]) := by
  obtain ⟨g1, g2, g3, g4, g5, g6⟩ := h
  have hdone : ∀ i, memS done i → i < s.2 := by
    intro i hi
    obtain ⟨z, hz, a, b⟩ := eH.1 hi
    have := g4 z hz
    omega
  have hmd : ∀ i, memS (done ++ [x]) i ↔ memS done i ∨ (x.a ≤ i ∧ i < x.a + x.n) := by
    intro i
    rw [eY]
    show _ ∨ ((x.a ≤ i ∧ i < x.a + x.n) ∨ False) ↔ _
    simp only [or_false]
  unfold iQ
  refine ⟨?_, ?_, by dsimp only; omega, fun z hz => ?_, ?_, fun i => ?_⟩
  · dsimp only
    split
    · rename_i hc
      refine iI g1 (show 0 < x.a - s.2 by omega) fun u hu z hz => ?_
      have : z = ⟨s.2, x.a - s.2⟩ := by simpa using hz
      subst this
      exact g2 u hu
    · exact g1
  · dsimp only
    intro y hy
    split at hy
    · rcases List.mem_append.1 hy with hy | hy
      · have := g2 y hy
        omega
      · have : y = ⟨s.2, x.a - s.2⟩ := by simpa using hy
        subst this
        dsimp only
        omega
    · have := g2 y hy
      omega
  · dsimp only
    rcases List.mem_append.1 hz with hz | hz
    · have := g4 z hz
      omega
    · have : z = x := by simpa using hz
      subst this
      omega
  · dsimp only
    by_cases hc : s.2 ≤ x.a + x.n
    · exact .inr ⟨x, by simp, by omega⟩
    · rcases g5 with g5 | ⟨z, hz, g5⟩
      · omega
      · exact .inr ⟨z, List.mem_append_left _ hz, by omega⟩
  · dsimp only
    rw [hmd]
    split
    · rename_i hc
      rw [eY, g6]
      show _ ∨ ((s.2 ≤ i ∧ i < s.2 + (x.a - s.2)) ∨ False) ↔ _
      simp only [or_false]
      constructor
      · rintro (⟨a, b⟩ | a)
        · exact ⟨by omega, fun c => c.elim b (fun c => by omega)⟩
        · exact ⟨by omega, fun c => c.elim (fun c => by have := hdone i c; omega) (fun c => by omega)⟩
      · rintro ⟨a, b⟩
        have b1 : ¬ memS done i := fun c => b (.inl c)
        have b2 : ¬ (x.a ≤ i ∧ i < x.a + x.n) := fun c => b (.inr c)
        by_cases c : i < s.2
        · exact .inl ⟨⟨a.1, c⟩, b1⟩
        · exact .inr (by omega)
    · rename_i hc
      rw [g6]
      constructor
      · rintro ⟨a, b⟩
        refine ⟨by omega, fun c => c.elim b (fun c => ?_)⟩
        rcases g5 with g5 | ⟨z, hz, g5⟩
        · omega
        · have := hs z hz
          exact b (eH.2 ⟨z, hz, by omega, by omega⟩)
      · rintro ⟨a, b⟩
        have b1 : ¬ memS done i := fun c => b (.inl c)
        have b2 : ¬ (x.a ≤ i ∧ i < x.a + x.n) := fun c => b (.inr c)
        refine ⟨⟨a.1, ?_⟩, b1⟩
        by_cases c : i < s.2
        · exact c
        · exact absurd ⟨by omega, by omega⟩ b2
theorem Gap.fold {l : List Sp} : ∀ {s : List Sp × Int} {done : List Sp}, Gap s done → iF l → (∀ z ∈ done, ∀ x ∈ l, z.a ≤ x.a) → (∀ x ∈ l, 0 < x.n ∧ 0 ≤ x.a) → Gap (l.foldl iQ s) (done ++ l) := by
  induction l with
  | nil => intro s done h _ _ _; simpa using h
  | cons x t ih =>
    intro s done h hr hd hp
    have hr2 := List.pairwise_cons.1 hr
    have h1 := h.step (hp x List.mem_cons_self).1 (hp x List.mem_cons_self).2 (fun z hz => hd z hz x List.mem_cons_self)
    have h2 := ih h1 hr2.2 (fun z hz y hy => by
      rcases List.mem_append.1 hz with hz | hz
      · exact hd z hz y (List.mem_cons_of_mem _ hy)
      · have : z = x := by simpa using hz
        subst this
        exact hr2.1 y hy) (fun y hy => hp y (List.mem_cons_of_mem _ hy))
    rw [List.foldl_cons]
    simpa using h2
theorem l8 {l : List Sp} {size : Int} (h0 : 0 ≤ size) (hr : iF l) (hp : ∀ x ∈ l, 0 < x.n ∧ 0 ≤ x.a ∧ x.a + x.n ≤ size) :
    NFs (gapS l size) ∧ ∀ i, memS (gapS l size) i ↔ (0 ≤ i ∧ i < size) ∧ ¬ memS l i := by
  have h := Gap.fold (l := l) Gap.nil hr (fun z hz => by cases hz) (fun x hx => ⟨(hp x hx).1, (hp x hx).2.1⟩)
  rw [List.nil_append] at h
  unfold gapS
  rw [List.foldl_append, List.foldl_cons, List.foldl_nil]
  obtain ⟨g1, g2, g3, g4, g5, g6⟩ := h
  generalize l.foldl iQ ([], 0) = s at g1 g2 g3 g4 g5 g6 ⊢
  have hs : s.2 ≤ size := by
    rcases g5 with g5 | ⟨z, hz, g5⟩
    · omega
    · have := (hp z hz).2.2
      omega
  have hdone : ∀ i, memS l i → i < s.2 := by
    intro i hi
    obtain ⟨z, hz, a, b⟩ := eH.1 hi
    have := g4 z hz
    omega
  unfold iQ
  dsimp only
  split
  · rename_i hc
    refine ⟨iI g1 (show 0 < size - s.2 by omega) fun u hu z hz => ?_, fun i => ?_⟩
    · have : z = ⟨s.2, size - s.2⟩ := by simpa using hz
      subst this
      exact g2 u hu
    · rw [eY, g6]
      show _ ∨ ((s.2 ≤ i ∧ i < s.2 + (size - s.2)) ∨ False) ↔ _
      simp only [or_false]
      constructor
      · rintro (⟨a, b⟩ | a)
        · exact ⟨by omega, b⟩
        · exact ⟨by omega, fun c => by have := hdone i c; omega⟩
      · rintro ⟨a, b⟩
        by_cases c : i < s.2
        · exact .inl ⟨⟨a.1, c⟩, b⟩
        · exact .inr (by omega)
  · rename_i hc
    refine ⟨g1, fun i => ?_⟩
    rw [g6]
    have : s.2 = size := by omega
    rw [this]
theorem kT {used : List Sp} : ∀ {l : List Sp}, NFs l → (∀ x ∈ used, 0 < x.n) → NFs (used.foldl lK l) ∧ ∀ i, memS (used.foldl lK l) i ↔ memS l i ∧ ¬ memS used i := by
  induction used with
  | nil => intro l h _; exact ⟨h, fun i => by simp [memS]⟩
  | cons x t ih =>
    intro l h hp
    obtain ⟨h1, h2, _⟩ := rY h (x := x) (by have := hp x List.mem_cons_self; omega)
    obtain ⟨h3, h4⟩ := ih h1 (fun y hy => hp y (List.mem_cons_of_mem _ hy))
    refine ⟨h3, fun i => ?_⟩
    rw [List.foldl_cons, h4, h2]
    show _ ↔ memS l i ∧ ¬ ((x.a ≤ i ∧ i < x.a + x.n) ∨ memS t i)
    constructor
    · rintro ⟨⟨a, b⟩, c⟩; exact ⟨a, fun d => d.elim b c⟩
    · rintro ⟨a, b⟩; exact ⟨⟨a, fun c => b (.inl c)⟩, fun c => b (.inr c)⟩
end Flag
namespace Flag
def room (line : Int) (x : Sp) : Int := min (x.a + x.n) line - x.a
end Flag
namespace Flag
def jw (size : Int) : Int → List Sp → Bool
  | _, [] => true
  | e, y :: t => decide (0 < y.n) && decide (0 ≤ y.a) && decide (y.a + y.n ≤ size) && decide (e < y.a) && jw size (y.a + y.n) t
structure Ins (size : Int) (x : Sp) : Prop where
  n : 0 < x.n
  a : 0 ≤ x.a
  e : x.a + x.n ≤ size
theorem oK {size : Int} {l : List Sp} : ∀ {e : Int}, jw size e l = true ↔ (∀ y ∈ l, Ins size y ∧ e < y.a) ∧ NFs l := by
  induction l with
  | nil => intro e; simp [jw, NFs]
  | cons y t ih =>
    intro e
    simp only [jw, Bool.and_eq_true, decide_eq_true_eq, ih]
    constructor
    · rintro ⟨⟨⟨⟨h1, h2⟩, h3⟩, h4⟩, h5, h6⟩
      refine ⟨fun z hz => ?_, NFs.cons h1 h6 fun z hz => (h5 z hz).2⟩
      rcases List.mem_cons.1 hz with rfl | hz
      · exact ⟨⟨h1, h2, h3⟩, h4⟩
      · have := (h5 z hz).2
        exact ⟨(h5 z hz).1, by omega⟩
    · rintro ⟨h1, h2⟩
      obtain ⟨⟨g1, g2, g3⟩, g4⟩ := h1 y List.mem_cons_self
      exact ⟨⟨⟨⟨g1, g2⟩, g3⟩, g4⟩, fun z hz => ⟨(h1 z (List.mem_cons_of_mem _ hz)).1, h2.after z hz⟩, h2.tail⟩
structure nV (size : Int) (l : List Sp) : Prop where
  s0 : 0 ≤ size
  s1 : size ≤ 65536
  len : l.length ≤ 1024
  ins : ∀ y ∈ l, Ins size y
  nf : NFs l
def iD (size : Int) (l : List Sp) : Int := if (0 ≤ size ∧ size ≤ 65536) ∧ l.length ≤ 1024 ∧ jw size (-1) l = true then 0 else 9
theorem gV {size : Int} {l : List Sp} : iD size l = 0 ↔ nV size l := by
  unfold iD
  constructor
  · intro h
    split at h
    · rename_i hc
      obtain ⟨h1, h2⟩ := oK.1 hc.2.2
      exact ⟨hc.1.1, hc.1.2, hc.2.1, fun y hy => (h1 y hy).1, h2⟩
    · simp at h
  · intro h
    rw [if_pos ⟨⟨h.s0, h.s1⟩, h.len, oK.2 ⟨fun y hy => ⟨h.ins y hy, by have := (h.ins y hy).a; omega⟩, h.nf⟩⟩]
theorem vU (size : Int) (l : List Sp) : iD size l = 0 ∨ iD size l = 9 := by unfold iD; split <;> simp
end Flag
namespace Flag
def uG (size : Int) (l : List Sp) : Int × List Sp × Int := if (l.length : Int) > 1024 then (0, [], 51) else (size, l, 0)
def takeG (size : Int) (l : List Sp) (x : Sp) : Int × List Sp × Int :=
  match behind l x.a with
  | [] => (0, [], 72)
  | y :: R => if y.a > x.a ∨ y.a + y.n < x.a + x.n then (0, [], 72) else uG size (ahead l x.a ++ restOf y x ++ R)
def insB (size : Int) (x : Sp) : Bool := decide (0 < x.n ∧ 0 ≤ x.a ∧ x.a + x.n ≤ size)
theorem kY {size : Int} {x : Sp} : insB size x = true ↔ Ins size x := by
  unfold insB
  rw [decide_eq_true_eq]
  exact ⟨fun h => ⟨h.1, h.2.1, h.2.2⟩, fun h => ⟨h.n, h.a, h.e⟩⟩
theorem nV.of {size : Int} {l : List Sp} (s0 : 0 ≤ size) (s1 : size ≤ 65536) (hl : l.length ≤ 1024) (hn : NFs l) (hi : ∀ i, memS l i → 0 ≤ i ∧ i < size) : nV size l := by
  refine ⟨s0, s1, hl, fun y hy => ?_, hn⟩
  have h0 := hn.all y hy
  have h1 := hi y.a (eH.2 ⟨y, hy, by omega, by omega⟩)
  have h2 := hi (y.a + y.n - 1) (eH.2 ⟨y, hy, by omega, by omega⟩)
  exact ⟨h0, h1.1, by omega⟩
end Flag
namespace Flag
def sumS : List Sp → Int
  | [] => 0
  | x :: t => x.n + sumS t
end Flag
namespace Flag
def newS (size : Int) : List Sp := if size > 0 then [⟨0, size⟩] else []
theorem p8 {size : Int} (h : 0 ≤ size) : NFs (newS size) ∧ ∀ i, memS (newS size) i ↔ 0 ≤ i ∧ i < size := by
  unfold newS
  split
  · refine ⟨by show 0 < size; omega, fun i => ?_⟩
    show (0 ≤ i ∧ i < 0 + size) ∨ False ↔ _
    rw [or_false, Int.zero_add]
  · refine ⟨trivial, fun i => ?_⟩
    show False ↔ _
    constructor
    · intro h; exact h.elim
    · intro h; omega
def wFor (size : Int) (used l : List Sp) : Int × List Sp × Int :=
  if size < 0 ∨ size > 65536 then (0, [], 4) else if (used.length : Int) > 1024 then (0, [], 3) else if used.all (insB size) = true then uG size (gapS l size) else (0, [], 4)
def wRef (size : Int) (used : List Sp) : Int × List Sp × Int :=
  if size < 0 ∨ size > 65536 then (0, [], 4) else if (used.length : Int) > 1024 then (0, [], 3) else if used.all (insB size) = true then uG size (used.foldl lK (newS size)) else (0, [], 4)
theorem xL {size : Int} {used l : List Sp} (hr : iF l) (hp : ∀ x, x ∈ l ↔ x ∈ used) : wFor size used l = wRef size used := by
  unfold wFor wRef
  split
  · rfl
  · rename_i h0
    split
    · rfl
    · split
      · rename_i ha
        have hin : ∀ x ∈ used, Ins size x := fun x hx => kY.1 (List.all_eq_true.1 ha x hx)
        obtain ⟨a1, a2⟩ := l8 (size := size) (by omega) hr fun x hx => ⟨(hin x ((hp x).1 hx)).n, (hin x ((hp x).1 hx)).a, (hin x ((hp x).1 hx)).e⟩
        obtain ⟨n1, n2⟩ := p8 (size := size) (by omega)
        obtain ⟨b1, b2⟩ := kT (used := used) n1 fun x hx => (hin x hx).n
        have : gapS l size = used.foldl lK (newS size) := NFs.ext a1 b1 fun i => by
          rw [a2, b2, n2]
          have : memS l i ↔ memS used i := by
            rw [eH, eH]
            exact ⟨fun ⟨x, hx, h⟩ => ⟨x, (hp x).1 hx, h⟩, fun ⟨x, hx, h⟩ => ⟨x, (hp x).2 hx, h⟩⟩
          rw [this]
        rw [this]
      · rfl
theorem rX (size : Int) (used : List Sp) :
    ((wRef size used).2.1 = [] ∧ (wRef size used).1 = 0 ∧ (wRef size used).2.2 ≠ 0) ∨
    ∃ m, wRef size used = (size, m, 0) ∧ nV size m ∧ (∀ x ∈ used, Ins size x) ∧ ∀ i, memS m i ↔ (0 ≤ i ∧ i < size) ∧ ¬ memS used i := by
  unfold wRef
  split
  · exact .inl ⟨rfl, rfl, by decide⟩
  · rename_i h0
    split
    · exact .inl ⟨rfl, rfl, by decide⟩
    · split
      · rename_i ha
        have hin : ∀ x ∈ used, Ins size x := fun x hx => kY.1 (List.all_eq_true.1 ha x hx)
        obtain ⟨n1, n2⟩ := p8 (size := size) (by omega)
        obtain ⟨b1, b2⟩ := kT (used := used) n1 fun x hx => (hin x hx).n
        unfold uG
        split
        · exact .inl ⟨rfl, rfl, by decide⟩
        · rename_i hl
          refine .inr ⟨_, rfl, nV.of (by omega) (by omega) (by omega) b1 fun i hi => (n2 i).1 ((b2 i).1 hi).1, hin, fun i => ?_⟩
          rw [b2, n2]
      · exact .inl ⟨rfl, rfl, by decide⟩
end Flag
namespace Flag
end Flag
namespace Flag
structure Rf where
  p : Int
  n : Int
  o : Int
  v : Int
def ltR (a b : Rf) : Prop := a.p < b.p ∨ (a.p = b.p ∧ (a.o < b.o ∨ (a.o = b.o ∧ a.v < b.v)))
instance (a b : Rf) : Decidable (ltR a b) := inferInstanceAs (Decidable (_ ∨ _))
def leR (a b : Rf) : Prop := ¬ ltR b a
theorem vk {a b c : Rf} (h : leR a b) (g : leR b c) : leR a c := by unfold leR ltR at *; omega
theorem zP {a b : Rf} (h : leR a b) (g : leR b a) : a.p = b.p ∧ a.o = b.o ∧ a.v = b.v := by unfold leR ltR at *; omega
def insR (out : List Rf) (x : Rf) : List Rf := out.takeWhile (fun y => decide (¬ ltR x y)) ++ x :: out.dropWhile (fun y => decide (¬ ltR x y))
def vM (l : List Rf) : List Rf := l.foldl insR []
theorem vT (out : List Rf) (x : Rf) : (insR out x).Perm (x :: out) := by
  unfold insR
  refine List.perm_middle.trans ?_
  rw [List.takeWhile_append_dropWhile]
theorem qm {out : List Rf} {x : Rf} (h : out.Pairwise leR) : (insR out x).Pairwise leR := by
  unfold insR
  rw [List.pairwise_append]
  have e := List.takeWhile_append_dropWhile (p := fun y => decide (¬ ltR x y)) (l := out)
  have h2 := h
  rw [← e, List.pairwise_append] at h2
  have ht : ∀ y ∈ out.takeWhile (fun y => decide (¬ ltR x y)), leR y x := by
    intro y hy
    have := List.all_takeWhile (p := fun y => decide (¬ ltR x y)) (l := out)
    have := List.all_eq_true.1 this y hy
    have h3 : ¬ ltR x y := of_decide_eq_true this
    exact h3
  have hd : ∀ y ∈ out.dropWhile (fun y => decide (¬ ltR x y)), leR x y := by
    intro y hy
    cases hdw : out.dropWhile (fun y => decide (¬ ltR x y)) with
    | nil => rw [hdw] at hy; cases hy
    | cons z t =>
      have hz := List.head?_dropWhile_not (fun y => decide (¬ ltR x y)) out
      rw [hdw] at hz hy h2
      have hz' : ltR x z := by simpa using hz
      have hxz : leR x z := by unfold leR ltR at *; omega
      cases hy with
      | head => exact hxz
      | tail _ hy => exact vk hxz ((List.pairwise_cons.1 h2.2.1).1 y hy)
  refine ⟨h2.1, List.pairwise_cons.2 ⟨hd, h2.2.1⟩, fun a ha b hb => ?_⟩
  cases hb with
  | head => exact ht a ha
  | tail _ hb => exact h2.2.2 a ha b hb
theorem mX {l : List Rf} : ∀ {out : List Rf}, out.Pairwise leR → (l.foldl insR out).Perm (out ++ l) ∧ (l.foldl insR out).Pairwise leR := by
  induction l with
  | nil => intro out h; rw [List.append_nil]; exact ⟨List.Perm.refl _, h⟩
  | cons x t ih =>
    intro out h
    obtain ⟨h1, h2⟩ := ih (qm (x := x) h)
    refine ⟨h1.trans ?_, h2⟩
    refine ((vT out x).append_right t).trans ?_
    rw [List.cons_append]
    exact List.perm_middle.symm
theorem iJ (l : List Rf) : (vM l).Perm l := (mX (l := l) List.Pairwise.nil).1
theorem o7 (l : List Rf) : (vM l).Pairwise leR := (mX (l := l) List.Pairwise.nil).2
def KeyR (l : List Rf) : Prop := ∀ a ∈ l, ∀ b ∈ l, a.p = b.p → a.o = b.o → a.v = b.v → a = b
theorem sD {l m : List Rf} (hk : KeyR m) (hp : l.Perm m) (hl : l.Pairwise leR) : l = vM m :=
  List.Perm.eq_of_pairwise (le := leR) (fun a b ha hb h g => by
    obtain ⟨k1, k2, k3⟩ := zP h g
    exact hk a (hp.mem_iff.1 ha) b ((iJ m).mem_iff.1 hb) k1 k2 k3) hl (o7 m) (hp.trans (iJ m).symm)
structure Mp where
  o : Int
  l : List Ex
def risM : Int → List Mp → Bool
  | _, [] => true
  | e, x :: t => decide (e < x.o) && decide (x.o ≤ 255) && decide (gX x.l = 0) && risM x.o t
def fT (m : List Mp) : Int := if m.length ≤ 9 ∧ risM (-1) m = true then 0 else 9
theorem qX {m : List Mp} : ∀ {e : Int}, risM e m = true ↔ (∀ x ∈ m, e < x.o ∧ x.o ≤ 255 ∧ gX x.l = 0) ∧ m.Pairwise (fun a b => a.o < b.o) := by
  induction m with
  | nil => intro e; simp [risM]
  | cons x t ih =>
    intro e
    rw [risM, List.pairwise_cons]
    simp only [Bool.and_eq_true, decide_eq_true_eq, ih, List.mem_cons, forall_eq_or_imp]
    constructor
    · rintro ⟨⟨⟨h1, h2⟩, h3⟩, h4, h5⟩
      exact ⟨⟨⟨h1, h2, h3⟩, fun y hy => ⟨by have := (h4 y hy).1; omega, (h4 y hy).2⟩⟩, fun y hy => (h4 y hy).1, h5⟩
    · rintro ⟨⟨⟨h1, h2, h3⟩, h4⟩, h5, h6⟩
      exact ⟨⟨⟨h1, h2⟩, h3⟩, fun y hy => ⟨h5 y hy, (h4 y hy).2⟩, h6⟩
structure tF (m : List Mp) : Prop where
  len : m.length ≤ 9
  each : ∀ x ∈ m, 0 ≤ x.o ∧ x.o ≤ 255 ∧ Map5 x.l
  ris : m.Pairwise fun a b => a.o < b.o
theorem gB {m : List Mp} : fT m = 0 ↔ tF m := by
  unfold fT
  constructor
  · intro h
    split at h
    · rename_i hc
      obtain ⟨h1, h2⟩ := qX.1 hc.2
      exact ⟨hc.1, fun x hx => ⟨by have := (h1 x hx).1; omega, (h1 x hx).2.1, jW.1 (h1 x hx).2.2⟩, h2⟩
    · cases h
  · intro h
    rw [if_pos ⟨h.len, qX.2 ⟨fun x hx => ⟨by have := (h.each x hx).1; omega, (h.each x hx).2.1, jW.2 (h.each x hx).2.2⟩, h.ris⟩⟩]
theorem vH (m : List Mp) : fT m = 0 ∨ fT m = 9 := by unfold fT; split <;> simp
def qo (m : List Mp) : List Rf := m.flatMap fun x => x.l.map fun y => ⟨y.p, y.n, x.o, y.v⟩
theorem jb {m : List Mp} {r : Rf} : r ∈ qo m ↔ ∃ x ∈ m, ∃ y ∈ x.l, r = ⟨y.p, y.n, x.o, y.v⟩ := by
  unfold qo
  rw [List.mem_flatMap]
  constructor
  · rintro ⟨x, hx, h⟩
    obtain ⟨y, hy, rfl⟩ := List.mem_map.1 h
    exact ⟨x, hx, y, hy, rfl⟩
  · rintro ⟨x, hx, y, hy, rfl⟩
    exact ⟨x, hx, List.mem_map.2 ⟨y, hy, rfl⟩⟩
theorem tL {m : List Mp} (h : m.Pairwise fun a b => a.o < b.o) : ∀ x ∈ m, ∀ y ∈ m, x.o = y.o → x = y := by
  induction m with
  | nil => intro x hx; cases hx
  | cons z t ih =>
    obtain ⟨h1, h2⟩ := List.pairwise_cons.1 h
    intro x hx y hy e
    cases hx with
    | head =>
      cases hy with
      | head => rfl
      | tail _ hy => have := h1 y hy; omega
    | tail _ hx =>
      cases hy with
      | head => have := h1 x hx; omega
      | tail _ hy => exact ih h2 x hx y hy e
theorem NF.one {l : List Ex} (h : NF l) : ∀ x ∈ l, ∀ y ∈ l, ∀ i : Int, x.v ≤ i → i < x.v + x.n → y.v ≤ i → i < y.v + y.n → x = y := by
  induction l with
  | nil => intro x hx; cases hx
  | cons z t ih =>
    intro x hx y hy i a b c d
    cases hx with
    | head =>
      cases hy with
      | head => rfl
      | tail _ hy => have := h.after y hy; omega
    | tail _ hx =>
      cases hy with
      | head => have := h.after x hx; omega
      | tail _ hy => exact ih h.tail x hx y hy i a b c d
structure Ok9 (l : List Rf) : Prop where
  each : ∀ r ∈ l, 0 < r.n ∧ 0 ≤ r.p ∧ r.p + r.n ≤ 65536 ∧ 0 ≤ r.v ∧ r.v + r.n ≤ 65536 ∧ 0 ≤ r.o ∧ r.o ≤ 255
  one : ∀ r ∈ l, ∀ s ∈ l, ∀ i : Int, r.o = s.o → r.v ≤ i → i < r.v + r.n → s.v ≤ i → i < s.v + s.n → r = s
theorem Ok9.perm {l m : List Rf} (h : Ok9 l) (hp : m.Perm l) : Ok9 m :=
  ⟨fun r hr => h.each r (hp.mem_iff.1 hr), fun r hr s hs => h.one r (hp.mem_iff.1 hr) s (hp.mem_iff.1 hs)⟩
theorem Ok9.key {l : List Rf} (h : Ok9 l) : KeyR l := fun a ha b hb _ e2 e3 => by
  have ha' := (h.each a ha).1
  have hb' := (h.each b hb).1
  exact h.one a ha b hb a.v e2 (by omega) (by omega) (by omega) (by omega)
theorem qM {m : List Mp} (h : tF m) : Ok9 (qo m) := by
  constructor
  · intro r hr
    obtain ⟨x, hx, y, hy, rfl⟩ := jb.1 hr
    obtain ⟨h1, h2, h3⟩ := h.each x hx
    obtain ⟨k1, k2, k3, k4, k5⟩ := h3.ok y hy
    exact ⟨k1, k4, k5, k2, k3, h1, h2⟩
  · intro r hr s hs i e a b c d
    obtain ⟨x, hx, y, hy, rfl⟩ := jb.1 hr
    obtain ⟨x', hx', y', hy', rfl⟩ := jb.1 hs
    obtain rfl := tL h.ris x hx x' hx' e
    obtain rfl := (h.each x hx).2.2.nf.one y hy y' hy' i a b c d
    rfl
def cover (r : Rf) (i : Int) : Prop := r.p ≤ i ∧ i < r.p + r.n
instance (r : Rf) (i : Int) : Decidable (cover r i) := inferInstanceAs (Decidable (_ ∧ _))
def cnt : List Rf → Int → Int
  | [], _ => 0
  | r :: t, i => (if cover r i then 1 else 0) + cnt t i
theorem sK (l : List Rf) (i : Int) : 0 ≤ cnt l i := by
  induction l with
  | nil => exact Int.le_refl _
  | cons r t ih => rw [cnt]; split <;> omega
theorem tX {l : List Rf} {i : Int} : 0 < cnt l i ↔ ∃ r ∈ l, cover r i := by
  induction l with
  | nil => simp [cnt]
  | cons r t ih =>
    have := sK t i
    rw [cnt]
    constructor
    · intro h
      by_cases hc : cover r i
      · exact ⟨r, List.mem_cons_self, hc⟩
      · rw [if_neg hc] at h
        obtain ⟨s, hs, hi⟩ := ih.1 (by omega)
        exact ⟨s, List.mem_cons_of_mem _ hs, hi⟩
    · rintro ⟨s, hs, hi⟩
      cases hs with
      | head => rw [if_pos hi]; omega
      | tail _ hs =>
        have := ih.2 ⟨s, hs, hi⟩
        split <;> omega
theorem wY {l m : List Rf} (h : l.Perm m) (i : Int) : cnt l i = cnt m i := by
  induction h with
  | nil => rfl
  | cons x _ ih => rw [cnt, cnt, ih]
  | swap x y l => rw [cnt, cnt, cnt, cnt]; omega
  | trans _ _ h1 h2 => rw [h1, h2]
def lookC (F : Int → Int) (i : Int) : Option Int := if 0 < F i then some (F i + i) else none
end Flag
namespace Flag
def rQ (l : List Rf) : List Sp := l.map fun r => ⟨r.p, r.n⟩
theorem sG {l : List Rf} {i : Int} : memS (rQ l) i ↔ 0 < cnt l i := by
  rw [tX, eH]
  unfold rQ
  constructor
  · rintro ⟨x, hx, h1, h2⟩
    obtain ⟨r, hr, rfl⟩ := List.mem_map.1 hx
    exact ⟨r, hr, h1, h2⟩
  · rintro ⟨r, hr, h1, h2⟩
    exact ⟨_, List.mem_map.2 ⟨r, hr, rfl⟩, h1, h2⟩
def rH (l : List Rf) (c : List Ex) : Prop := NF c ∧ ∀ i, fP c i = lookC (cnt l) i
end Flag
namespace Flag
theorem rH.some {l : List Rf} {c : List Ex} (h : rH l c) {i : Int} (hi : 0 < cnt l i) : ∃ y ∈ c, y.v ≤ i ∧ i < y.v + y.n ∧ kX y i = cnt l i + i := by
  have h2 := h.2 i
  unfold lookC at h2
  rw [if_pos hi] at h2
  obtain ⟨y, hy, a, b, e⟩ := gu h2
  exact ⟨y, hy, a, b, e.symm⟩
end Flag
def toR (x : S199) : Flag.Rf := ⟨x.f0, x.f1, x.f2, x.f3⟩
theorem zA {x y : S199} (h : toR x = toR y) : x = y := by
  cases x; cases y
  simp only [toR, Flag.Rf.mk.injEq] at h
  obtain ⟨rfl, rfl, rfl, rfl⟩ := h
  rfl
theorem xX {a b : List S199} (h : a.map toR = b.map toR) : a = b := by
  induction a generalizing b with
  | nil => cases b with
    | nil => rfl
    | cons y t => cases h
  | cons x t ih =>
    cases b with
    | nil => cases h
    | cons y u =>
      rw [List.map_cons, List.map_cons] at h
      injection h with h1 h2
      rw [ih h2, zA h1]
theorem w64 {n : Int} (h : -9223372036854775808 ≤ n ∧ n < 9223372036854775808) : wrap64 n = n := by unfold wrap64; omega
theorem yH (a b : Int) : mx a b = max a b := by unfold mx; omega
theorem mn_min (a b : Int) : mn a b = min a b := by unfold mn; omega
def bL.f (a0_0 : Int) (a0_1 : Int) (a0_2 : Int) (a1_0 : Int) (a1_1 : Int) (a1_2 : Int) : Option (Bool) :=
  some ((wrap64 (a0_0 + a0_2) == a1_0) && ((a0_1 == -1) == (a1_1 == -1)) && ((a0_1 == -1) || (wrap64 (a0_1 + a0_2) == a1_1)))
set_option maxHeartbeats 1000000 in
set_option maxRecDepth 100000 in
theorem bL.calls (a0_0 : Int) (a0_1 : Int) (a0_2 : Int) (a1_0 : Int) (a1_1 : Int) (a1_2 : Int) (r : Bool) (w : World) (h : bL.f a0_0 a0_1 a0_2 a1_0 a1_1 a1_2 = some r) :
    Calls Tryz.prog 151 #[.agg #[.int .i64 a0_0, .int .i64 a0_1, .int .i64 a0_2], .agg #[.int .i64 a1_0, .int .i64 a1_1, .int .i64 a1_2]] w fun e w' => e = .returned (.bool r) ∧ Below w.heap.size w w' := by
  obtain rfl := Option.some.inj h
  clear h
  have hu151 := Tryz.underlying151
  have fin : ∀ {w' : World} {b : Bool}, b = ((wrap64 (a0_0 + a0_2) == a1_0) && ((a0_1 == -1) == (a1_1 == -1)) && ((a0_1 == -1) || (wrap64 (a0_1 + a0_2) == a1_1))) → Below w.heap.size w w' → Ending.returned (.bool b) = Ending.returned (.bool ((wrap64 (a0_0 + a0_2) == a1_0) && ((a0_1 == -1) == (a1_1 == -1)) && ((a0_1 == -1) || (wrap64 (a0_1 + a0_2) == a1_1)))) ∧ Below w.heap.size w w' := fun hb hw => ⟨by rw [hb], hw⟩
  have FIN := aa.mk @fin
  clear fin
  have hbel : ∀ (o1 o2 : Obj), Below w.heap.size w ((w.alloc o1).alloc o2) := fun o1 o2 => ((Below.refl _ _).alloc (Nat.le_refl _) _).alloc (by simp) _
  have HBEL := aa.mk hbel
  clear hbel
  by_cases h0 : wrap64 (a0_0 + a0_2) = a1_0
  · have b0 : (wrap64 (a0_0 + a0_2) == a1_0) = true := beq_iff_eq.mpr h0
    have b0' : (wrap64 (a0_0 + a0_2) != a1_0) = false := bne_eq_false_iff_eq.mpr h0
    clear h0
    by_cases h1 : a0_1 = -1
    · have b1 : (a0_1 == -1) = true := beq_iff_eq.mpr h1
      clear h1
      by_cases h2 : a1_1 = -1
      · have b2 : (a1_1 == -1) = true := beq_iff_eq.mpr h2
        clear h2
        go_enter Tryz.func151, Tryz.ntmps151
        go_wp2
        go_ret
        exact FIN.out (by simp [b0, b1, b2]) (HBEL.out _ _)
      · have b2 : (a1_1 == -1) = false := beq_eq_false_iff_ne.mpr h2
        clear h2
        go_enter Tryz.func151, Tryz.ntmps151
        go_wp2
        go_ret
        exact FIN.out (by simp [b0, b1, b2]) (HBEL.out _ _)
    · have b1 : (a0_1 == -1) = false := beq_eq_false_iff_ne.mpr h1
      clear h1
      by_cases h2 : a1_1 = -1
      · have b2 : (a1_1 == -1) = true := beq_iff_eq.mpr h2
        clear h2
        go_enter Tryz.func151, Tryz.ntmps151
        go_wp2
        go_ret
        exact FIN.out (by simp [b0, b1, b2]) (HBEL.out _ _)
      · have b2 : (a1_1 == -1) = false := beq_eq_false_iff_ne.mpr h2
        clear h2
        go_enter Tryz.func151, Tryz.ntmps151
        go_wp2
        go_ret
        exact FIN.out (by simp [b0, b1, b2]) (HBEL.out _ _)
  · have b0 : (wrap64 (a0_0 + a0_2) == a1_0) = false := beq_eq_false_iff_ne.mpr h0
    have b0' : (wrap64 (a0_0 + a0_2) != a1_0) = true := bne_iff_ne.mpr h0
    clear h0
    go_enter Tryz.func151, Tryz.ntmps151
    go_wp2
    go_ret
    exact FIN.out (by simp [b0]) (HBEL.out _ _)
def addG (xs : List S151) (x : S151) : List S151 :=
  if x.f2 ≤ 0 then xs else
    if 0 < xs.length ∧ bL.f (ax xs (xs.length - 1)).f0 (ax xs (xs.length - 1)).f1 (ax xs (xs.length - 1)).f2 x.f0 x.f1 x.f2 = some true then
      xs.set ((xs.length : Int) - 1).toNat ⟨(ax xs (xs.length - 1)).f0, (ax xs (xs.length - 1)).f1, wrap64 ((ax xs (xs.length - 1)).f2 + x.f2)⟩
    else xs ++ [x]
def zh (b : Nat) (v : Value) (xs : List S151) (w w0 : World) (ok : Nat → Prop) (base : Nat) (w' : World) : Prop :=
  ∃ v', w'.heap[b]? = some (.cells #[v'] 209 (0, 0)) ∧ Kd.R k151 151 w' base ok v' xs ∧ Below base w0 w' ∧ w.heap.size ≤ w'.heap.size ∧
    (∀ i, i < w.heap.size → i ≠ b → some i ≠ v.ownBlock → w'.heap[i]? = w.heap[i]?) ∧ (v'.ownBlock = v.ownBlock ∨ ∃ k, v'.ownBlock = some k ∧ w.heap.size ≤ k)
set_option maxHeartbeats 4000000 in
set_option maxRecDepth 100000 in
theorem wU.calls (b : Nat) (v : Value) (xs : List S151) (x0 x1 x2 : Int) (w w0 : World) (ok : Nat → Prop) (base : Nat)
    (hb : w.heap[b]? = some (.cells #[v] 209 (0, 0))) (HO : Kd.R k151 151 w base ok v xs) (hokb : ∀ k, ok k → k ≠ b) (hfresh : ∀ k, w.heap.size ≤ k → ok k)
    (hB : Below base w0 w) (hbase : base ≤ b) (hlen : xs.length < 2147483648) :
    Calls Tryz.prog 142 #[.pointer (some ⟨b, 0, none⟩), .agg #[.int .i64 x0, .int .i64 x1, .int .i64 x2]] w fun e w' => e = .returned (.tuple #[]) ∧ zh b v (addG xs ⟨x0, x1, x2⟩) w w0 ok base w' := by
  have hcb : w.cell? ⟨b, 0, none⟩ = some v := ae hb 0
  have hfb : w.frozen? ⟨b, 0, none⟩ = false := ai hb 0
  have hu151 := Tryz.underlying151
  have hblt : b < w.heap.size := aA hb
  have hvb : some b ≠ v.ownBlock := Kd.qP HO hokb
  have HO' := aa.mk HO
  have HB' := aa.mk hB
  have HF' := aa.mk hfresh
  have HK' := aa.mk hokb
  have HV' := aa.mk hvb
  have HBS' := aa.mk hbase
  have HBK := aa.mk hb
  clear HO hB hfresh hokb hbase hvb hb
  by_cases h2 : x2 ≤ 0
  · have hd : decide (x2 ≤ 0) = true := decide_eq_true h2
    go_enter Tryz.func142, Tryz.ntmps142
    go_wp2
    refine bodyPost_ret (results_none rfl _ _ _) rfl ⟨rfl, v, ?_, ?_, ?_, ?_, ?_, ?_⟩
    · exact (Below.heap_alloc _ _ _ hblt).trans HBK.out
    · rw [addG, if_pos h2]; exact Kd.bQ HO'.out _
    · exact HB'.out.alloc (by have := HBS'.out; omega) _
    · simp
    · intro i hi _ _; exact Below.heap_alloc _ _ _ hi
    · exact .inl rfl
  · have hd : decide (x2 ≤ 0) = false := decide_eq_false h2
    obtain ⟨A, c, rfl, hlc, hC⟩ := Kd.nX HO'.out
    have HC' := aa.mk hC
    clear hC
    by_cases hn : xs.length = 0
    · have hd1 : decide (0 < xs.length) = false := decide_eq_false (by omega)
      have hd2 : decide (0 < (xs.length : Int)) = false := decide_eq_false (by omega)
      have hag : addG xs ⟨x0, x1, x2⟩ = xs ++ [⟨x0, x1, x2⟩] := by
        rw [addG, if_neg h2, if_neg (by rintro ⟨h, _⟩; omega)]
      have HAG := aa.mk hag
      have HN := aa.mk hn
      clear hag hn
      go_enter Tryz.func142, Tryz.ntmps142
      go_wp2_with fail
      obtain ⟨W1, hW1⟩ : ∃ W, W = w.alloc (.cells #[.int .i64 x0, .int .i64 x1, .int .i64 x2] 151) := ⟨_, rfl⟩
      rw [← hW1]
      have hbx : W1.heap[w.heap.size]? = some (.cells #[.int .i64 x0, .int .i64 x1, .int .i64 x2] 151 (0, 0)) := by rw [hW1]; simpa using heap_alloc_new w _
      have hsz : W1.heap.size = w.heap.size + 1 := by rw [hW1]; simp
      have hkp : ∀ i, i < w.heap.size → W1.heap[i]? = w.heap[i]? := fun i hi => by rw [hW1]; exact Below.heap_alloc _ _ _ hi
      have hO1 : Kd.R k151 151 W1 base ok (.slice A xs.length c) xs := by rw [hW1]; exact Kd.bQ HO'.out _
      have hB1 : Below base w0 W1 := by rw [hW1]; exact HB'.out.alloc (by have := HBS'.out; omega) _
      have hb1 : W1.heap[b]? = some (.cells #[.slice A xs.length c] 209 (0, 0)) := (hkp b hblt).trans HBK.out
      clear hW1
      have hcb1 : W1.cell? ⟨b, 0, none⟩ = some (.slice A xs.length c) := (ae hb1 0).trans rfl
      have hfb1 := ai hb1 0
      have hx0 : W1.cell? ⟨w.heap.size, 0, none⟩ = some (.int .i64 x0) := (ae hbx 0).trans rfl
      have hx1 : W1.cell? ⟨w.heap.size, 1, none⟩ = some (.int .i64 x1) := (ae hbx 1).trans rfl
      have hx2 : W1.cell? ⟨w.heap.size, 2, none⟩ = some (.int .i64 x2) := (ae hbx 2).trans rfl
      have HBX := aa.mk hbx
      have HSZ := aa.mk hsz
      have HKP := aa.mk hkp
      have HO1 := aa.mk hO1
      have HB1 := aa.mk hB1
      have HBK1 := aa.mk hb1
      clear hbx hsz hkp hO1 hB1 hb1 hcb hfb
      go_quiet (fail)
      obtain ⟨w2, hw2⟩ : ∃ W, W = W1.drewN nq := ⟨_, rfl⟩
      rw [← hw2]
      have hs2 : W1.heap.size ≤ w2.heap.size := by rw [hw2]; exact Nat.le_refl _
      have hk2 : ∀ i, i < W1.heap.size → w2.heap[i]? = W1.heap[i]? := fun i hi => by rw [hw2]; rfl
      have hB2 : Below base w0 w2 := by rw [hw2]; exact af HB1.out _
      clear hw2
      have hbx2 := (hk2 w.heap.size (by rw [HSZ.out]; omega)).trans HBX.out
      have hb2 := (hk2 b (by rw [HSZ.out]; omega)).trans HBK1.out
      have hO2 : Kd.R k151 151 w2 base ok (.slice A xs.length c) xs := Kd.bR HO1.out (fun k _ hk => hk2 k hk)
      have hcb2 : w2.cell? ⟨b, 0, none⟩ = some (.slice A xs.length c) := (ae hb2 0).trans rfl
      have hfb2 := ai hb2 0
      have hy0 : w2.cell? ⟨w.heap.size, 0, none⟩ = some (.int .i64 x0) := (ae hbx2 0).trans rfl
      have hy1 : w2.cell? ⟨w.heap.size, 1, none⟩ = some (.int .i64 x1) := (ae hbx2 1).trans rfl
      have hy2 : w2.cell? ⟨w.heap.size, 2, none⟩ = some (.int .i64 x2) := (ae hbx2 2).trans rfl
      have HK2 := aa.mk hk2
      have HS2 := aa.mk hs2
      have HB2 := aa.mk hB2
      have HO2 := aa.mk hO2
      have HBK2 := aa.mk hb2
      have hcb2a : ∀ o, (w2.alloc o).cell? ⟨b, 0, none⟩ = some (.slice A xs.length c) := fun o => (ae (aj hb2 o) 0).trans rfl
      clear hk2 hs2 hB2 hO2 hbx2 hb2 hcb1 hfb1 hx0 hx1 hx2
      go_wp2_with fail
      go_region_law ((refine Kd.fM k151 (w0 := w0) (W := w2.drew) base rfl (.tmp 41) (.tmp 43) 209 151 (.agg #[(.int .i64 0), (.int .i64 0), (.int .i64 0)]) 24 rfl Tryz.underlying209 qp rfl (by decide) (by omega) (.slice A xs.length c) xs (⟨x0, x1, x2⟩ : S151) [.int .i64 x0, .int .i64 x1, .int .i64 x2] ok (fun _ => False) rfl rfl ?aP (fun _ hk => hk.elim) ?aF ?aO ?aB ?aS ?aL ?_; (case aP => exact kZ _ _ _ (⟨x0, x1, x2⟩ : S151)); (case aF => intro k hk; exact HF'.out k (Nat.le_trans (by show w.heap.size ≤ w2.heap.size; have := HS2.out; rw [HSZ.out] at this; omega) hk)); (case aO => exact Kd.dC HO2.out); (case aB => exact aQ HB2.out); (case aS => show base ≤ w2.heap.size; have := HBS'.out; have := HS2.out; rw [HSZ.out] at this; omega); (case aL => omega); intro v1 w3 hO3 hB3 hg3 hat3; obtain ⟨A1, c1, rfl⟩ := Kd.aZ hO3; have hl3 : (xs ++ [(⟨x0, x1, x2⟩ : S151)]).length = xs.length + 1 := (by simp); rw [hl3] at hO3 hat3; clear hl3; have hb3 := gz (w := w2.drew) (w1 := w3) HBK2.out hg3 HV'.out; have hcb3 : w3.cell? ⟨b, 0, none⟩ = some (.slice A xs.length c) := (ae hb3 0).trans rfl; have hfb3 := ai hb3 0; have HO3 := aa.mk hO3; have HB3 := aa.mk hB3; have HG3 := aa.mk hg3; have HA3 := aa.mk hat3; have HBK3 := aa.mk hb3; clear hO3 hB3 hg3 hat3 hb3))
      go_wp2
      all_goals
        go_end0
        refine ⟨rfl, .slice A1 (xs.length + 1) c1, (by simpa using jL HBK3.out 0 (.slice A1 (xs.length + 1) c1)), ?_, ?_, ?_, ?_, ?_⟩
        · rw [HAG.out]
          exact Kd.dE (p := ⟨b, 0, none⟩) HO3.out (fun k hk => HK'.out k hk) _
        · exact HB3.out.setCell (p := ⟨b, 0, none⟩) HBS'.out _
        · have h1 := HG3.out.size
          have h2 := HS2.out
          rw [HSZ.out] at h2
          have h3 : (w3.setCell ⟨b, 0, none⟩ (.slice A1 (xs.length + 1) c1)).heap.size = w3.heap.size := by simp [World.setCell]
          rw [h3]
          have h4 : w2.drew.heap.size = w2.heap.size := rfl
          omega
        · intro i hi hib hiv
          rw [Below.heap_setCell _ _ _ _ (by simpa using hib)]
          have h2 := HS2.out
          rw [HSZ.out] at h2
          rw [HG3.out.block i (show i < w2.heap.size by omega) hiv]
          show w2.heap[i]? = _
          rw [HK2.out i (by rw [HSZ.out]; omega), HKP.out i hi]
        · rcases HA3.out with h1 | ⟨k, h1, h2⟩
          · exact .inl h1
          · exact .inr ⟨k, h1, by have h3 := HS2.out; rw [HSZ.out] at h3; have h4 : w2.drew.heap.size = w2.heap.size := rfl; omega⟩
    · have hn1 : 0 < xs.length := by omega
      have hd1 : decide (0 < xs.length) = true := decide_eq_true hn1
      have hd2 : decide (0 < (xs.length : Int)) = true := decide_eq_true (by omega)
      obtain ⟨q, hq⟩ : ∃ q, bL.f (ax xs (xs.length - 1)).f0 (ax xs (xs.length - 1)).f1 (ax xs (xs.length - 1)).f2 x0 x1 x2 = some q := ⟨_, rfl⟩
      cases q
      · have hag : addG xs ⟨x0, x1, x2⟩ = xs ++ [⟨x0, x1, x2⟩] := by
          rw [addG, if_neg h2, if_neg (by rintro ⟨_, h⟩; rw [hq] at h; cases h)]
        have HAG := aa.mk hag
        have HQ := aa.mk hq
        clear hag hq
        go_enter Tryz.func142, Tryz.ntmps142
        go_wp2_with fail
        obtain ⟨W1, hW1⟩ : ∃ W, W = w.alloc (.cells #[.int .i64 x0, .int .i64 x1, .int .i64 x2] 151) := ⟨_, rfl⟩
        rw [← hW1]
        have hbx : W1.heap[w.heap.size]? = some (.cells #[.int .i64 x0, .int .i64 x1, .int .i64 x2] 151 (0, 0)) := by rw [hW1]; simpa using heap_alloc_new w _
        have hsz : W1.heap.size = w.heap.size + 1 := by rw [hW1]; simp
        have hkp : ∀ i, i < w.heap.size → W1.heap[i]? = w.heap[i]? := fun i hi => by rw [hW1]; exact Below.heap_alloc _ _ _ hi
        have hO1 : Kd.R k151 151 W1 base ok (.slice A xs.length c) xs := by rw [hW1]; exact Kd.bQ HO'.out _
        have hB1 : Below base w0 W1 := by rw [hW1]; exact HB'.out.alloc (by have := HBS'.out; omega) _
        have hb1 : W1.heap[b]? = some (.cells #[.slice A xs.length c] 209 (0, 0)) := (hkp b hblt).trans HBK.out
        clear hW1
        have hcb1 : W1.cell? ⟨b, 0, none⟩ = some (.slice A xs.length c) := (ae hb1 0).trans rfl
        have hfb1 := ai hb1 0
        have hx0 : W1.cell? ⟨w.heap.size, 0, none⟩ = some (.int .i64 x0) := (ae hbx 0).trans rfl
        have hx1 : W1.cell? ⟨w.heap.size, 1, none⟩ = some (.int .i64 x1) := (ae hbx 1).trans rfl
        have hx2 : W1.cell? ⟨w.heap.size, 2, none⟩ = some (.int .i64 x2) := (ae hbx 2).trans rfl
        have HBX := aa.mk hbx
        have HSZ := aa.mk hsz
        have HKP := aa.mk hkp
        have HO1 := aa.mk hO1
        have HB1 := aa.mk hB1
        have HBK1 := aa.mk hb1
        clear hbx hsz hkp hO1 hB1 hb1 hcb hfb
        obtain ⟨g, cap, hv, hgb, hgl, cells, hgc⟩ := Kd.oz HO1.out hn1
        injection hv with hv1 _ hv2
        subst hv1 hv2
        obtain ⟨j, hj⟩ : ∃ j : Int, j = (xs.length : Int) - 1 := ⟨_, rfl⟩
        have hi0 : 0 ≤ j := by omega
        have hi1 : j < (xs.length : Int) := by omega
        have hwr : IntKind.i64.wrap ((xs.length : Int) - 1) = j := by rw [hj]; exact IntWalk.i64_in _ (by omega)
        have hwr2 : (xs.length : Int) - 1 = j := hj.symm
        have hwr3 : IntKind.i64.wrap j = j := IntWalk.i64_in _ (by omega)
        have HJ := aa.mk hj
        clear hj
        have he := Kd.kU HO1.out z151 j hi0 hi1
        obtain ⟨ce, hcl, hM, hcc, hfz⟩ := he
        obtain rfl := kF hM
        have e0 : W1.cell? ⟨g, j.toNat * 3, none⟩ = some (.int .i64 (xs.getD j.toNat z151).f0) := hcc 0 _ rfl
        have e1 : W1.cell? ⟨g, j.toNat * 3 + 1, none⟩ = some (.int .i64 (xs.getD j.toNat z151).f1) := hcc 1 _ rfl
        have e2 : W1.cell? ⟨g, j.toNat * 3 + 2, none⟩ = some (.int .i64 (xs.getD j.toNat z151).f2) := hcc 2 _ rfl
        obtain ⟨y, hy⟩ : ∃ y, y = xs.getD j.toNat z151 := ⟨_, rfl⟩
        rw [← hy] at e0 e1 e2 hM hcc
        have hqy : bL.f y.f0 y.f1 y.f2 x0 x1 x2 = some false := by rw [hy, HJ.out]; exact HQ.out
        have HQY := aa.mk hqy
        have HY := aa.mk hy
        clear hy hqy
        have HCC := aa.mk hcc
        have HM := aa.mk hM
        have HGC := aa.mk hgc
        clear hcc hM hgc hfz hcl
        go_still_tail 11, (by kernel_rfl)
        change wpList _ _ _ _ _ W1.drew
        go_wp2_with (go_at_call 151; refine (bL.calls _ _ _ _ _ _ false _ HQY.out).mono ?_; rintro e w2 ⟨rfl, hbw⟩; have HBW := aa.mk hbw; clear hbw)
        have hs2 : W1.heap.size ≤ w2.heap.size := HBW.out.size
        have hk2 : ∀ i, i < W1.heap.size → w2.heap[i]? = W1.heap[i]? := fun i hi => HBW.out.block i hi
        have hB2 : Below base w0 w2 := HB1.out.trans ⟨HBW.out.os, HBW.out.tape, HBW.out.output, HBW.out.size, fun k hk => HBW.out.block k (by show k < W1.heap.size; rw [HSZ.out]; have := HBS'.out; omega)⟩
        have hbx2 := (hk2 w.heap.size (by rw [HSZ.out]; omega)).trans HBX.out
        have hb2 := (hk2 b (by rw [HSZ.out]; omega)).trans HBK1.out
        have hO2 : Kd.R k151 151 w2 base ok (.slice (some ⟨g, 0, none⟩) xs.length c) xs := Kd.bR HO1.out (fun k _ hk => hk2 k hk)
        have hcb2 : w2.cell? ⟨b, 0, none⟩ = some (.slice (some ⟨g, 0, none⟩) xs.length c) := (ae hb2 0).trans rfl
        have hfb2 := ai hb2 0
        have hy0 : w2.cell? ⟨w.heap.size, 0, none⟩ = some (.int .i64 x0) := (ae hbx2 0).trans rfl
        have hy1 : w2.cell? ⟨w.heap.size, 1, none⟩ = some (.int .i64 x1) := (ae hbx2 1).trans rfl
        have hy2 : w2.cell? ⟨w.heap.size, 2, none⟩ = some (.int .i64 x2) := (ae hbx2 2).trans rfl
        have HK2 := aa.mk hk2
        have HS2 := aa.mk hs2
        have HB2 := aa.mk hB2
        have HO2 := aa.mk hO2
        have HBK2 := aa.mk hb2
        have hcb2a : ∀ o, (w2.alloc o).cell? ⟨b, 0, none⟩ = some (.slice (some ⟨g, 0, none⟩) xs.length c) := fun o => (ae (aj hb2 o) 0).trans rfl
        clear hk2 hs2 hB2 hO2 hbx2 hb2 hcb1 hfb1 hx0 hx1 hx2
        go_wp2_with fail
        go_region_law ((refine Kd.fM k151 (w0 := w0) (W := w2.drew) base rfl (.tmp 41) (.tmp 43) 209 151 (.agg #[(.int .i64 0), (.int .i64 0), (.int .i64 0)]) 24 rfl Tryz.underlying209 qp rfl (by decide) (by omega) (.slice (some ⟨g, 0, none⟩) xs.length c) xs (⟨x0, x1, x2⟩ : S151) [.int .i64 x0, .int .i64 x1, .int .i64 x2] ok (fun _ => False) rfl rfl ?aP (fun _ hk => hk.elim) ?aF ?aO ?aB ?aS ?aL ?_; (case aP => exact kZ _ _ _ (⟨x0, x1, x2⟩ : S151)); (case aF => intro k hk; exact HF'.out k (Nat.le_trans (by show w.heap.size ≤ w2.heap.size; have := HS2.out; rw [HSZ.out] at this; omega) hk)); (case aO => exact Kd.dC HO2.out); (case aB => exact aQ HB2.out); (case aS => show base ≤ w2.heap.size; have := HBS'.out; have := HS2.out; rw [HSZ.out] at this; omega); (case aL => omega); intro v1 w3 hO3 hB3 hg3 hat3; obtain ⟨A1, c1, rfl⟩ := Kd.aZ hO3; have hl3 : (xs ++ [(⟨x0, x1, x2⟩ : S151)]).length = xs.length + 1 := (by simp); rw [hl3] at hO3 hat3; clear hl3; have hb3 := gz (w := w2.drew) (w1 := w3) HBK2.out hg3 HV'.out; have hcb3 : w3.cell? ⟨b, 0, none⟩ = some (.slice (some ⟨g, 0, none⟩) xs.length c) := (ae hb3 0).trans rfl; have hfb3 := ai hb3 0; have HO3 := aa.mk hO3; have HB3 := aa.mk hB3; have HG3 := aa.mk hg3; have HA3 := aa.mk hat3; have HBK3 := aa.mk hb3; clear hO3 hB3 hg3 hat3 hb3))
        go_wp2
        all_goals
          go_end0
          refine ⟨rfl, .slice A1 (xs.length + 1) c1, (by simpa using jL HBK3.out 0 (.slice A1 (xs.length + 1) c1)), ?_, ?_, ?_, ?_, ?_⟩
          · rw [HAG.out]
            exact Kd.dE (p := ⟨b, 0, none⟩) HO3.out (fun k hk => HK'.out k hk) _
          · exact HB3.out.setCell (p := ⟨b, 0, none⟩) HBS'.out _
          · have h1 := HG3.out.size
            have h2 := HS2.out
            rw [HSZ.out] at h2
            have h3 : (w3.setCell ⟨b, 0, none⟩ (.slice A1 (xs.length + 1) c1)).heap.size = w3.heap.size := by simp [World.setCell]
            rw [h3]
            have h4 : w2.drew.heap.size = w2.heap.size := rfl
            omega
          · intro i hi hib hiv
            rw [Below.heap_setCell _ _ _ _ (by simpa using hib)]
            have h2 := HS2.out
            rw [HSZ.out] at h2
            rw [HG3.out.block i (show i < w2.heap.size by omega) hiv]
            show w2.heap[i]? = _
            rw [HK2.out i (by rw [HSZ.out]; omega), HKP.out i hi]
          · rcases HA3.out with h1 | ⟨k, h1, h2⟩
            · exact .inl h1
            · exact .inr ⟨k, h1, by have h3 := HS2.out; rw [HSZ.out] at h3; have h4 : w2.drew.heap.size = w2.heap.size := rfl; omega⟩
      · have hag : addG xs ⟨x0, x1, x2⟩ = xs.set ((xs.length : Int) - 1).toNat ⟨(ax xs (xs.length - 1)).f0, (ax xs (xs.length - 1)).f1, wrap64 ((ax xs (xs.length - 1)).f2 + x2)⟩ := by
          rw [addG, if_neg h2, if_pos ⟨hn1, hq⟩]
        have HAG := aa.mk hag
        have HQ := aa.mk hq
        clear hag hq
        go_enter Tryz.func142, Tryz.ntmps142
        go_wp2_with fail
        obtain ⟨W1, hW1⟩ : ∃ W, W = w.alloc (.cells #[.int .i64 x0, .int .i64 x1, .int .i64 x2] 151) := ⟨_, rfl⟩
        rw [← hW1]
        have hbx : W1.heap[w.heap.size]? = some (.cells #[.int .i64 x0, .int .i64 x1, .int .i64 x2] 151 (0, 0)) := by rw [hW1]; simpa using heap_alloc_new w _
        have hsz : W1.heap.size = w.heap.size + 1 := by rw [hW1]; simp
        have hkp : ∀ i, i < w.heap.size → W1.heap[i]? = w.heap[i]? := fun i hi => by rw [hW1]; exact Below.heap_alloc _ _ _ hi
        have hO1 : Kd.R k151 151 W1 base ok (.slice A xs.length c) xs := by rw [hW1]; exact Kd.bQ HO'.out _
        have hB1 : Below base w0 W1 := by rw [hW1]; exact HB'.out.alloc (by have := HBS'.out; omega) _
        have hb1 : W1.heap[b]? = some (.cells #[.slice A xs.length c] 209 (0, 0)) := (hkp b hblt).trans HBK.out
        clear hW1
        have hcb1 : W1.cell? ⟨b, 0, none⟩ = some (.slice A xs.length c) := (ae hb1 0).trans rfl
        have hfb1 := ai hb1 0
        have hx0 : W1.cell? ⟨w.heap.size, 0, none⟩ = some (.int .i64 x0) := (ae hbx 0).trans rfl
        have hx1 : W1.cell? ⟨w.heap.size, 1, none⟩ = some (.int .i64 x1) := (ae hbx 1).trans rfl
        have hx2 : W1.cell? ⟨w.heap.size, 2, none⟩ = some (.int .i64 x2) := (ae hbx 2).trans rfl
        have HBX := aa.mk hbx
        have HSZ := aa.mk hsz
        have HKP := aa.mk hkp
        have HO1 := aa.mk hO1
        have HB1 := aa.mk hB1
        have HBK1 := aa.mk hb1
        clear hbx hsz hkp hO1 hB1 hb1 hcb hfb
        obtain ⟨g, cap, hv, hgb, hgl, cells, hgc⟩ := Kd.oz HO1.out hn1
        injection hv with hv1 _ hv2
        subst hv1 hv2
        obtain ⟨j, hj⟩ : ∃ j : Int, j = (xs.length : Int) - 1 := ⟨_, rfl⟩
        have hi0 : 0 ≤ j := by omega
        have hi1 : j < (xs.length : Int) := by omega
        have hwr : IntKind.i64.wrap ((xs.length : Int) - 1) = j := by rw [hj]; exact IntWalk.i64_in _ (by omega)
        have hwr2 : (xs.length : Int) - 1 = j := hj.symm
        have hwr3 : IntKind.i64.wrap j = j := IntWalk.i64_in _ (by omega)
        have HJ := aa.mk hj
        clear hj
        have he := Kd.kU HO1.out z151 j hi0 hi1
        obtain ⟨ce, hcl, hM, hcc, hfz⟩ := he
        obtain rfl := kF hM
        have e0 : W1.cell? ⟨g, j.toNat * 3, none⟩ = some (.int .i64 (xs.getD j.toNat z151).f0) := hcc 0 _ rfl
        have e1 : W1.cell? ⟨g, j.toNat * 3 + 1, none⟩ = some (.int .i64 (xs.getD j.toNat z151).f1) := hcc 1 _ rfl
        have e2 : W1.cell? ⟨g, j.toNat * 3 + 2, none⟩ = some (.int .i64 (xs.getD j.toNat z151).f2) := hcc 2 _ rfl
        obtain ⟨y, hy⟩ : ∃ y, y = xs.getD j.toNat z151 := ⟨_, rfl⟩
        rw [← hy] at e0 e1 e2 hM hcc
        have hqy : bL.f y.f0 y.f1 y.f2 x0 x1 x2 = some true := by rw [hy, HJ.out]; exact HQ.out
        have HQY := aa.mk hqy
        have HY := aa.mk hy
        clear hy hqy
        have HCC := aa.mk hcc
        have HM := aa.mk hM
        have HGC := aa.mk hgc
        clear hcc hM hgc hfz hcl
        go_still_tail 11, (by kernel_rfl)
        change wpList _ _ _ _ _ W1.drew
        go_wp2_with (go_at_call 151; refine (bL.calls _ _ _ _ _ _ true _ HQY.out).mono ?_; rintro e w2 ⟨rfl, hbw⟩; have HBW := aa.mk hbw; clear hbw)
        have hs2 : W1.heap.size ≤ w2.heap.size := HBW.out.size
        have hk2 : ∀ i, i < W1.heap.size → w2.heap[i]? = W1.heap[i]? := fun i hi => HBW.out.block i hi
        have hB2 : Below base w0 w2 := HB1.out.trans ⟨HBW.out.os, HBW.out.tape, HBW.out.output, HBW.out.size, fun k hk => HBW.out.block k (by show k < W1.heap.size; rw [HSZ.out]; have := HBS'.out; omega)⟩
        have hbx2 := (hk2 w.heap.size (by rw [HSZ.out]; omega)).trans HBX.out
        have hb2 := (hk2 b (by rw [HSZ.out]; omega)).trans HBK1.out
        have hO2 : Kd.R k151 151 w2 base ok (.slice (some ⟨g, 0, none⟩) xs.length c) xs := Kd.bR HO1.out (fun k _ hk => hk2 k hk)
        have hcb2 : w2.cell? ⟨b, 0, none⟩ = some (.slice (some ⟨g, 0, none⟩) xs.length c) := (ae hb2 0).trans rfl
        have hfb2 := ai hb2 0
        have hy0 : w2.cell? ⟨w.heap.size, 0, none⟩ = some (.int .i64 x0) := (ae hbx2 0).trans rfl
        have hy1 : w2.cell? ⟨w.heap.size, 1, none⟩ = some (.int .i64 x1) := (ae hbx2 1).trans rfl
        have hy2 : w2.cell? ⟨w.heap.size, 2, none⟩ = some (.int .i64 x2) := (ae hbx2 2).trans rfl
        obtain ⟨ce2, hcl2, hM2, hcc2, hfz2⟩ := Kd.kU hO2 z151 j hi0 hi1
        rw [← HY.out] at hM2
        obtain rfl := kF hM2
        have f0 : w2.cell? ⟨g, j.toNat * 3, none⟩ = some (.int .i64 y.f0) := hcc2 0 _ rfl
        have f1 : w2.cell? ⟨g, j.toNat * 3 + 1, none⟩ = some (.int .i64 y.f1) := hcc2 1 _ rfl
        have f2 : w2.cell? ⟨g, j.toNat * 3 + 2, none⟩ = some (.int .i64 y.f2) := hcc2 2 _ rfl
        obtain ⟨s, hs⟩ : ∃ s : Int, s = wrap64 (y.f2 + x2) := ⟨_, rfl⟩
        have hsw : IntKind.i64.wrap (y.f2 + x2) = s := by rw [hs]; exact IntWalk.i64_left _
        have hsw2 : wrap64 (y.f2 + x2) = s := hs.symm
        have HSS := aa.mk hs
        have HCC2 := aa.mk hcc2
        have HK2 := aa.mk hk2
        have HS2 := aa.mk hs2
        have HB2 := aa.mk hB2
        have HO2 := aa.mk hO2
        have HBK2 := aa.mk hb2
        clear hs hcc2 hM2 hcl2 hfz2 hk2 hs2 hB2 hO2 hbx2 hb2 hcb1 hfb1 hx0 hx1 hx2 e0 e1 e2
        go_wp2_with fail
        go_still_tail 13, (by kernel_rfl)
        change wpList _ _ _ _ _ w2.drew
        refine Kd.u7 k151 (w0 := w0) (W := w2.drew) base rfl rfl 3 (.tmp 37) (.tmp 35) rfl 151 j 2 xs (⟨y.f0, y.f1, s⟩ : S151) (.int .i64 s) [.int .i64 s] [.int .i64 y.f0, .int .i64 y.f1, .int .i64 y.f2] ok (fun _ => False) rfl rfl rfl rfl (by kernel_rfl) (by simp [Value.oneCell']) (Kd.dC HO2.out) hi0 hi1 rfl (fun j u hu => HCC2.out j u hu) (Nat.le_refl 3) (kZ _ _ _ (⟨y.f0, y.f1, s⟩ : S151)) (fun _ hk => hk.elim) (aQ HB2.out) ?_
        intro w3 hO3 hB3 hg3
        have HO3 := aa.mk hO3
        have HB3 := aa.mk hB3
        have HG3 := aa.mk hg3
        clear hO3 hB3 hg3
        go_wp2
        refine bodyPost_ret (results_none rfl _ _ _) rfl ⟨rfl, .slice (some ⟨g, 0, none⟩) xs.length c, gz (w := w2.drew) (w1 := w3) HBK2.out HG3.out (by simpa [Value.ownBlock] using HV'.out), ?_, HB3.out, ?_, ?_, .inl rfl⟩
        · have hyy : y = ax xs j := HY.out
          rw [HAG.out, ← HJ.out, ← hyy, ← HSS.out]
          exact HO3.out
        · have h1 := HG3.out.size
          have h2 := HS2.out
          rw [HSZ.out] at h2
          have h4 : w2.drew.heap.size = w2.heap.size := rfl
          omega
        · intro i hi hib hiv
          have h2 := HS2.out
          rw [HSZ.out] at h2
          rw [HG3.out.block i (show i < w2.heap.size by omega) (by simpa [Value.ownBlock] using hiv)]
          show w2.heap[i]? = _
          rw [HK2.out i (by rw [HSZ.out]; omega), HKP.out i hi]
def RS (w0 : World) (base : Nat) (B : List Nat) (b : Nat) (xs : List S151) (W : World) : Prop :=
  ∃ v, W.heap[b]? = some (.cells #[v] 209 (0, 0)) ∧ Kd.R k151 151 W base (fun k => k ∉ B) v xs ∧ Below base w0 W ∧ base ≤ b ∧ b ∈ B ∧ ∀ i ∈ B, i < W.heap.size
theorem RS.below {w0 W W1 : World} {base b : Nat} {B : List Nat} {xs : List S151} (h : RS w0 base B b xs W) (hb : Below W.heap.size W W1) : RS w0 base B b xs W1 := by
  obtain ⟨v, h1, h2, h3, h4, h5, h6⟩ := h
  have hlt := h6 b h5
  refine ⟨v, (hb.block b hlt).trans h1, Kd.bA h2 hb, dM h3 (by omega) hb, h4, h5, fun i hi => Nat.lt_of_lt_of_le (h6 i hi) hb.size⟩
theorem RS.push {w0 W W1 : World} {base b bx : Nat} {B : List Nat} {xs : List S151} (h : RS w0 base B b xs W) (hb : Below W.heap.size W W1) (h1 : W.heap.size ≤ bx) (h2 : bx < W1.heap.size) : RS w0 base (bx :: B) b xs W1 := by
  obtain ⟨v, g1, g2, g3, g4, g5, g6⟩ := h
  have hlt := g6 b g5
  refine ⟨v, (hb.block b hlt).trans g1, Kd.aX (Kd.bA (Kd.aX (Kd.bO g2) (ok' := fun k => k ∉ bx :: B) (fun k hk => ?_)) hb) (fun _ hk => hk), dM g3 (by omega) hb, g4, List.mem_cons_of_mem _ g5, fun i hi => ?_⟩
  · intro hm
    rcases List.mem_cons.1 hm with rfl | hm
    · have := hk.2.2.1; omega
    · exact hk.1 hm
  · rcases List.mem_cons.1 hi with rfl | hi
    · exact h2
    · exact Nat.lt_of_lt_of_le (g6 i hi) hb.size
theorem RS.drop {w0 W : World} {base b bx : Nat} {B : List Nat} {xs : List S151} (h : RS w0 base (bx :: B) b xs W) (hb : b ∈ B) : RS w0 base B b xs W := by
  obtain ⟨v, g1, g2, g3, g4, g5, g6⟩ := h
  exact ⟨v, g1, Kd.aX g2 (fun k hk hm => hk (List.mem_cons_of_mem _ hm)), g3, g4, hb, fun i hi => g6 i (List.mem_cons_of_mem _ hi)⟩
theorem RS.set {w0 W : World} {base b bx o : Nat} {B : List Nat} {xs : List S151} (h : RS w0 base B b xs W) (hx : bx ∈ B) (hne : b ≠ bx) (hbase : base ≤ bx) (u : Value) : RS w0 base B b xs (W.setCell ⟨bx, o, none⟩ u) := by
  obtain ⟨v, g1, g2, g3, g4, g5, g6⟩ := h
  refine ⟨v, bX g1 hne u, Kd.dE (p := ⟨bx, o, none⟩) g2 (fun k hk e => hk (by rw [e]; exact hx)) u, g3.setCell (p := ⟨bx, o, none⟩) hbase u, g4, g5, fun i hi => by simpa [World.setCell] using g6 i hi⟩
theorem RS.cell {w0 W : World} {base b : Nat} {B : List Nat} {xs : List S151} (h : RS w0 base B b xs W) : ∃ A c, W.cell? ⟨b, 0, none⟩ = some (.slice A xs.length c) ∧ Kd.R k151 151 W base (fun k => k ∉ B) (.slice A xs.length c) xs := by
  obtain ⟨v, g1, g2, g3, g4, g5, g6⟩ := h
  obtain ⟨A, c, rfl⟩ := Kd.aZ g2
  exact ⟨A, c, (ae g1 0).trans rfl, g2⟩
theorem RS.old {w0 W : World} {base b : Nat} {B : List Nat} {xs : List S151} (h : RS w0 base B b xs W) : Below base w0 W := by
  obtain ⟨v, g1, g2, g3, g4, g5, g6⟩ := h
  exact g3
theorem RS.add {w0 W : World} {base b : Nat} {B : List Nat} {xs : List S151} (h : RS w0 base B b xs W) (x : S151) (hlen : xs.length < 2147483648) :
    Calls Tryz.prog 142 #[.pointer (some ⟨b, 0, none⟩), .agg #[.int .i64 x.f0, .int .i64 x.f1, .int .i64 x.f2]] W fun e w' => e = .returned (.tuple #[]) ∧ RS w0 base B b (addG xs x) w' ∧ W.heap.size ≤ w'.heap.size ∧ (∀ i ∈ B, i ≠ b → w'.heap[i]? = W.heap[i]?) := by
  obtain ⟨v, g1, g2, g3, g4, g5, g6⟩ := h
  refine (wU.calls b v xs x.f0 x.f1 x.f2 W w0 (fun k => k ∉ B) base g1 g2 (fun k hk e => hk (e ▸ g5)) (fun k hk hm => by have := g6 k hm; omega) g3 g4 hlen).mono ?_
  rintro e w' ⟨rfl, v', h1, h2, h3, h4, h5, h6⟩
  refine ⟨rfl, ⟨v', h1, h2, h3, g4, g5, fun i hi => Nat.lt_of_lt_of_le (g6 i hi) h4⟩, h4, fun i hi hne => h5 i (g6 i hi) hne ?_⟩
  intro he
  exact (Kd.qP g2 (g := i) (fun k hk e => hk (e ▸ hi))) he
theorem RS.of_nil {w0 W : World} {base b : Nat} {B : List Nat} (h1 : W.heap[b]? = some (.cells #[.slice none 0 0] 209 (0, 0))) (h3 : Below base w0 W) (h4 : base ≤ b) (h5 : b ∈ B) (h6 : ∀ i ∈ B, i < W.heap.size) : RS w0 base B b [] W :=
  ⟨.slice none 0 0, h1, Kd.bW _ _ _ _ _, h3, h4, h5, h6⟩
theorem eX (xs : List S151) (x : S151) : (addG xs x).length ≤ xs.length + 1 := by
  unfold addG
  split
  · omega
  · split
    · rw [List.length_set]; omega
    · simp
theorem gL (ps : List S151) : ∀ xs : List S151, (ps.foldl addG xs).length ≤ xs.length + ps.length := by
  induction ps with
  | nil => intro xs; simp
  | cons p t ih =>
    intro xs
    have h1 := ih (addG xs p)
    have h2 := eX xs p
    simp only [List.foldl_cons, List.length_cons]
    omega
set_option maxHeartbeats 1000000 in
set_option maxRecDepth 100000 in
theorem y8.calls (w0 w : World) (base b7 b9 b10 : Nat) (B : List Nat) (xs l3 : List S151) (A3 : Option Addr) (c3 : Nat) (lb : Bool)
    (h : RS w0 base B b9 xs w) (h7 : b7 ∈ B) (h10 : b10 ∈ B) (n7 : b7 ≠ b9) (n10 : b10 ≠ b9) (n710 : b7 ≠ b10) (hb10 : base ≤ b10)
    (hc7 : w.heap[b7]? = some (.cells #[.slice A3 l3.length c3] 24 (0, 0))) (hc10 : w.heap[b10]? = some (.cells #[.bool lb] 4 (0, 0)))
    (hr : Kd.C k151 w0 A3 l3.length l3) (hw0 : w0.heap.size ≤ base) (hlen : xs.length + l3.length < 2147483648) :
    Calls Tryz.prog 190 #[.pointer (some ⟨b7, 0, none⟩), .pointer (some ⟨b9, 0, none⟩), .pointer (some ⟨b10, 0, none⟩)] w fun e w' =>
      e = .returned (.tuple #[]) ∧ RS w0 base B b9 (l3.foldl addG xs) w' ∧ w.heap.size ≤ w'.heap.size ∧ w'.heap[b10]? = some (.cells #[.bool true] 4 (0, 0)) ∧ (∀ i ∈ B, i ≠ b9 → i ≠ b10 → w'.heap[i]? = w.heap[i]?) := by
  have hu151 := Tryz.underlying151
  have hcc7 : w.cell? ⟨b7, 0, none⟩ = some (.slice A3 l3.length c3) := (ae hc7 0).trans rfl
  have HR := aa.mk hr
  have H := aa.mk h
  have H7 := aa.mk hc7
  have H10 := aa.mk hc10
  have HW := aa.mk hw0
  have HLEN := aa.mk hlen
  have HB7 := aa.mk h7
  have HB10 := aa.mk h10
  have HN := aa.mk (And.intro n7 (And.intro n10 (And.intro n710 hb10)))
  have hll : l3.length < 2147483648 := by omega
  clear hr h hc7 hc10 hw0 hlen h7 h10 n7 n10 n710 hb10
  go_enter Tryz.func190, Tryz.ntmps190
  go_wp2_with fail
  go_loopg [7] l3.length (fun gk v7 W => ∃ i : Int, v7 = .int .i64 i ∧ aa (0 ≤ i ∧ i + gk = l3.length) ∧ aa (RS w0 base B b9 ((l3.take i.toNat).foldl addG xs) W ∧ w.heap.size ≤ W.heap.size ∧ ∀ k ∈ B, k ≠ b9 → W.heap[k]? = w.heap[k]?))
  case atStart => exact ⟨0, rfl, ⟨Int.le_refl _, by simp⟩, ⟨by simpa using H.out, Nat.le_refl _, fun _ _ _ => rfl⟩⟩
  case round =>
    obtain ⟨i, rfl, HI, HS⟩ := hrel
    cases gk with
    | zero =>
      have hi : i = l3.length := by have := HI.out.2; omega
      have hd : decide (i < (l3.length : Int)) = false := decide_eq_false (by omega)
      have HII := aa.mk hi
      clear hi
      have hk10 := (HS.out.2.2 b10 HB10.out HN.out.2.1).trans H10.out
      have hcc10 : wr.cell? ⟨b10, 0, none⟩ = some (.bool lb) := (ae hk10 0).trans rfl
      have hfz10 := ai hk10 0
      have HK10 := aa.mk hk10
      clear hk10
      go_wp2
      go_end0
      refine ⟨rfl, ?_, ?_, by simpa using jL HK10.out 0 (.bool true), ?_⟩
      · have h1 := HS.out.1
        rw [HII.out, Int.toNat_natCast, List.take_length] at h1
        exact h1.set HB10.out (Ne.symm HN.out.2.1) HN.out.2.2.2 _
      · have := HS.out.2.1
        simpa [World.setCell] using this
      · intro k hk hk9 hk10
        rw [Below.heap_setCell _ _ _ _ (by simpa using hk10)]
        exact HS.out.2.2 k hk hk9
    | succ k1 =>
      have hp0 : 0 ≤ i := HI.out.1
      have hp1 : i < (l3.length : Int) := by have := HI.out.2; omega
      have hd : decide (i < (l3.length : Int)) = true := decide_eq_true hp1
      have hC : Kd.C k151 wr A3 l3.length l3 := Kd.aN HR.out ((HS.out.1.old).mono HW.out)
      obtain ⟨ad, e3, g0, g1, g2⟩ := dS hC i hp0 hp1
      cases e3
      obtain ⟨x, hx⟩ : ∃ x, x = ax l3 i := ⟨_, rfl⟩
      rw [← hx] at g0 g1 g2
      have HX := aa.mk hx
      have HP := aa.mk (And.intro hp0 hp1)
      clear hx hC
      go_wp2_with fail
      refine ((HS.out.1.below ((Below.refl _ _).alloc (Nat.le_refl _) _)).add x ?len).mono ?_
      case len =>
        have h1 := gL (l3.take i.toNat) xs
        have h2 : (l3.take i.toNat).length ≤ l3.length := by rw [List.length_take]; omega
        have := HLEN.out
        omega
      rintro e w2 ⟨rfl, h2, hs2, hk2⟩
      have H2 := aa.mk h2
      have HS2 := aa.mk hs2
      have HK2 := aa.mk hk2
      clear h2 hs2 hk2 g0 g1 g2
      go_wp2
      go_roundg k1
      case measure => omega
      case rel =>
        refine ⟨i + 1, by first | rfl | (simp; done), ⟨by have := HP.out.1; omega, by have := HI.out.2; omega⟩, ⟨?_, ?_, ?_⟩⟩
        · have h1 := H2.out
          have h3 : (i + 1).toNat = i.toNat + 1 := by have := HP.out.1; omega
          have h4 : i.toNat < l3.length := by have := HP.out; omega
          rw [h3, List.take_succ_eq_append_getElem h4, List.foldl_append]
          have h5 : x = l3[i.toNat] := by rw [HX.out]; unfold ax; rw [List.getD_eq_getElem?_getD, List.getElem?_eq_getElem h4]; rfl
          rw [← h5]
          exact h1
        · have h1 := HS2.out
          have h2 := HS.out.2.1
          simp at h1
          omega
        · intro k hk hk9
          rw [HK2.out k hk hk9]
          have h1 : k < wr.heap.size := by
            obtain ⟨_, _, _, _, _, _, h6⟩ := HS.out.1
            exact h6 k hk
          rw [Below.heap_alloc _ _ _ h1]
          exact HS.out.2.2 k hk hk9
def iT.f (a0_0 : Int) (a0_1 : Int) (a0_2 : Int) (a1 : Int) (a2 : Int) : Option (Int × Int × Int) :=
  some (mx a1 a0_0, if a0_1 = -1 then a0_1 else wrap64 (a0_1 + wrap64 (mx a1 a0_0 - a0_0)), wrap64 (mn a2 (wrap64 (a0_0 + a0_2)) - mx a1 a0_0))
set_option maxHeartbeats 1000000 in
set_option maxRecDepth 100000 in
theorem iT.calls (a0_0 : Int) (a0_1 : Int) (a0_2 : Int) (a1 : Int) (a2 : Int) (r1 : Int) (r2 : Int) (r3 : Int) (w : World) (h : iT.f a0_0 a0_1 a0_2 a1 a2 = some (r1, r2, r3)) :
    Calls Tryz.prog 141 #[.agg #[.int .i64 a0_0, .int .i64 a0_1, .int .i64 a0_2], .int .i64 a1, .int .i64 a2] w fun e w' => e = .returned (.agg #[.int .i64 r1, .int .i64 r2, .int .i64 r3]) ∧ Below w.heap.size w w' := by
  have hu151 := Tryz.underlying151
  simp only [iT.f, Option.some.injEq, Prod.mk.injEq] at h
  obtain ⟨rfl, rfl, rfl⟩ := h
  by_cases h1 : a0_1 = -1
  · have b1 : (a0_1 == -1) = true := beq_iff_eq.mpr h1
    have b2 : (a0_1 != -1) = false := bne_eq_false_iff_eq.mpr h1
    rw [if_pos h1]
    clear h1
    go_enter Tryz.func141, Tryz.ntmps141
    go_wp2_with fail
    generalize hm : mx a1 a0_0 = m
    generalize hs : wrap64 (a0_0 + a0_2) = s
    generalize hn : mn a2 s = n
    have hm' : (if a1 < a0_0 then a0_0 else a1) = m := hm
    have hn' : (if s < a2 then s else a2) = n := hn
    have HM := aa.mk hm
    have HS := aa.mk hs
    have HN := aa.mk hn
    clear hm hn
    go_quiet (fail)
    go_wp2
    have hz : (w.alloc (.cells #[.int .i64 a0_0, .int .i64 a0_1, .int .i64 a0_2] 151)).heap.size = w.heap.size + 1 := by simp
    refine bodyPost_ret (results_cell_row rfl _ _ (w.heap.size + 1) 151 #[.int .i64 m, .int .i64 (a0_1), .int .i64 (wrap64 (n - m))] (0, 0) _ rfl ?_ Tryz.underlying151 rfl (by kernel_rfl)) rfl ⟨?_, ?_⟩
    · refine aW (cs := #[.int .i64 m, .int .i64 (a0_1), .int .i64 0]) ?_ 2 _ rfl
      refine aW (cs := #[.int .i64 m, .int .i64 0, .int .i64 0]) ?_ 1 _ rfl
      refine aW (cs := #[.int .i64 0, .int .i64 0, .int .i64 0]) ?_ 0 _ rfl
      refine ak ?_ _
      rw [← hz]
      exact bg _ _
    · rw [HM.out, HS.out, HN.out]
    · repeat (first | refine Below.setCell ?_ (by simp) _ | refine af ?_ _ | refine Below.alloc ?_ (by simp) _ | exact Below.refl _ _)
  · have b1 : (a0_1 == -1) = false := beq_eq_false_iff_ne.mpr h1
    have b2 : (a0_1 != -1) = true := bne_iff_ne.mpr h1
    rw [if_neg h1]
    clear h1
    go_enter Tryz.func141, Tryz.ntmps141
    go_wp2_with fail
    generalize hm : mx a1 a0_0 = m
    generalize hs : wrap64 (a0_0 + a0_2) = s
    generalize hn : mn a2 s = n
    have hm' : (if a1 < a0_0 then a0_0 else a1) = m := hm
    have hn' : (if s < a2 then s else a2) = n := hn
    have HM := aa.mk hm
    have HS := aa.mk hs
    have HN := aa.mk hn
    clear hm hn
    go_quiet (fail)
    go_wp2
    have hz : (w.alloc (.cells #[.int .i64 a0_0, .int .i64 a0_1, .int .i64 a0_2] 151)).heap.size = w.heap.size + 1 := by simp
    refine bodyPost_ret (results_cell_row rfl _ _ (w.heap.size + 1) 151 #[.int .i64 m, .int .i64 (wrap64 (a0_1 + wrap64 (m - a0_0))), .int .i64 (wrap64 (n - m))] (0, 0) _ rfl ?_ Tryz.underlying151 rfl (by kernel_rfl)) rfl ⟨?_, ?_⟩
    · refine aW (cs := #[.int .i64 m, .int .i64 (wrap64 (a0_1 + wrap64 (m - a0_0))), .int .i64 0]) ?_ 2 _ rfl
      refine aW (cs := #[.int .i64 m, .int .i64 0, .int .i64 0]) ?_ 1 _ rfl
      refine aW (cs := #[.int .i64 0, .int .i64 0, .int .i64 0]) ?_ 0 _ rfl
      refine bX ?_ (by simp) _
      refine ak ?_ _
      rw [← hz]
      exact bg _ _
    · rw [HM.out, HS.out, HN.out]
    · repeat (first | refine Below.setCell ?_ (by simp) _ | refine af ?_ _ | refine Below.alloc ?_ (by simp) _ | exact Below.refl _ _)
def fD (x : S151) (a b : Int) : S151 := ⟨mx a x.f0, if x.f1 = -1 then x.f1 else wrap64 (x.f1 + wrap64 (mx a x.f0 - x.f0)), wrap64 (mn b (wrap64 (x.f0 + x.f2)) - mx a x.f0)⟩
theorem gW (x : S151) (a b : Int) (w : World) :
    Calls Tryz.prog 141 #[.agg #[.int .i64 x.f0, .int .i64 x.f1, .int .i64 x.f2], .int .i64 a, .int .i64 b] w fun e w' => e = .returned (.agg #[.int .i64 (fD x a b).f0, .int .i64 (fD x a b).f1, .int .i64 (fD x a b).f2]) ∧ Below w.heap.size w w' :=
  iT.calls x.f0 x.f1 x.f2 a b _ _ _ w rfl
def dQ (v n : Int) (by_ : List S151) (s : List S151 × Bool) (x : S151) : List S151 × Bool :=
  let o1 := addG s.1 (fD x 0 v)
  let c := !s.2 && decide (v < wrap64 (x.f0 + x.f2))
  (addG (if c then by_.foldl addG o1 else o1) (fD x (wrap64 (v + n)) 65536), s.2 || c)
def zW (l : List S151) (v n : Int) (by_ : List S151) : List S151 :=
  let s := l.foldl (dQ v n by_) ([], false)
  if s.2 then s.1 else by_.foldl addG s.1
def cK.f (l0 : List (S151)) (a1 : Int) (a2 : Int) (l3 : List (S151)) : Option ((List (S151))) :=
  if l0.length ≤ 1024 ∧ l3.length ≤ 1024 then some (zW l0 a1 a2 l3) else none
theorem mD (v n : Int) (by_ : List S151) (s : List S151 × Bool) (x : S151) : (dQ v n by_ s x).1.length ≤ s.1.length + by_.length + 2 := by
  simp only [dQ]
  have h1 := eX s.1 (fD x 0 v)
  have h2 := gL by_ (addG s.1 (fD x 0 v))
  split
  · have := eX (by_.foldl addG (addG s.1 (fD x 0 v))) (fD x (wrap64 (v + n)) 65536); omega
  · have := eX (addG s.1 (fD x 0 v)) (fD x (wrap64 (v + n)) 65536); omega
theorem lM (v n : Int) (by_ l : List S151) : ∀ s : List S151 × Bool, (l.foldl (dQ v n by_) s).1.length ≤ s.1.length + l.length * (by_.length + 2) := by
  induction l with
  | nil => intro s; simp
  | cons x t ih =>
    intro s
    have h1 := ih (dQ v n by_ s x)
    have h2 := mD v n by_ s x
    simp only [List.foldl_cons, List.length_cons, Nat.succ_mul]
    omega
set_option maxHeartbeats 4000000 in
set_option maxRecDepth 100000 in
theorem cK.calls (A0 : Option Addr) (c0 : Nat) (l0 : List (S151)) (a1 : Int) (a2 : Int) (A3 : Option Addr) (c3 : Nat) (l3 : List (S151)) (r : List (S151)) (w : World) (hr0 : Kd.C k151 w A0 l0.length l0) (hc0 : l0.length ≤ c0) (hr3 : Kd.C k151 w A3 l3.length l3) (hc3 : l3.length ≤ c3) (h : cK.f l0 a1 a2 l3 = some r) :
    Calls Tryz.prog 167 #[.slice A0 l0.length c0, .int .i64 a1, .int .i64 a2, .slice A3 l3.length c3] w fun e w' => ∃ v0_ : Value, e = .returned (v0_) ∧ Kd.R k151 151 w' w.heap.size (fun _ => True) v0_ r ∧ Below w.heap.size w w' := by
  have hu151 := Tryz.underlying151
  have hmf : ∀ (fn : Fn) (first cap : Array Value) (w : World), (Instr.makeFunc fn first cap).run Tryz.prog w = .ok (.func fn first cap) w := fun _ _ _ _ => rfl
  unfold cK.f at h
  split at h
  · rename_i hlen
    obtain rfl := Option.some.inj h
    clear h
    have HR0 := aa.mk hr0
    have HR3 := aa.mk hr3
    have HLEN := aa.mk hlen
    have hl0 : l0.length ≤ 1024 := hlen.1
    clear hr0 hc0 hr3 hc3 hlen
    go_enter Tryz.func167, Tryz.ntmps167
    go_wp2_with fail
    obtain ⟨W0, hW0⟩ : ∃ W, W = ((w.alloc (.cells #[.slice A3 l3.length c3] 24)).alloc (.cells #[.slice none 0 0] 209)).alloc (.cells #[.bool false] 4) := ⟨_, rfl⟩
    rw [← hW0]
    obtain ⟨b7, hb7⟩ : ∃ b, b = w.heap.size := ⟨_, rfl⟩
    obtain ⟨b9, hb9⟩ : ∃ b, b = w.heap.size + 1 := ⟨_, rfl⟩
    obtain ⟨b10, hb10⟩ : ∃ b, b = w.heap.size + 2 := ⟨_, rfl⟩
    have hp7 : W0.heap[b7]? = some (.cells #[.slice A3 l3.length c3] 24 (0, 0)) := by rw [hW0, hb7]; exact aj (aj (bg w _) _) _
    have hp9 : W0.heap[b9]? = some (.cells #[.slice none 0 0] 209 (0, 0)) := by rw [hW0, hb9]; refine aj ?_ _; have := bg (w.alloc (.cells #[.slice A3 l3.length c3] 24)) (.cells #[.slice none 0 0] 209); simpa using this
    have hp10 : W0.heap[b10]? = some (.cells #[.bool false] 4 (0, 0)) := by rw [hW0, hb10]; have := bg ((w.alloc (.cells #[.slice A3 l3.length c3] 24)).alloc (.cells #[.slice none 0 0] 209)) (.cells #[.bool false] 4); simpa using this
    have hsz : W0.heap.size = w.heap.size + 3 := by rw [hW0]; simp
    have hbel : Below w.heap.size w W0 := by rw [hW0]; exact (((Below.refl _ _).alloc (Nat.le_refl _) _).alloc (by simp) _).alloc (by simp; omega) _
    have hrs : RS w w.heap.size [b7, b9, b10] b9 [] W0 := RS.of_nil hp9 hbel (by omega) (by simp) (by intro k hk; simp at hk; rcases hk with rfl | rfl | rfl <;> omega)
    have e9 : w.heap.size + 1 = b9 := hb9.symm
    have e10 : w.heap.size + 1 + 1 = b10 := by omega
    have e7 : w.heap.size = b7 := hb7.symm
    have HE := aa.mk (And.intro hb7 (And.intro hb9 hb10))
    simp only [e10]
    simp only [e9]
    simp only [e7]
    have n79 : b7 ≠ b9 := by omega
    have n710 : b7 ≠ b10 := by omega
    have n910 : b10 ≠ b9 := by omega
    have HN := aa.mk (And.intro n79 (And.intro n710 n910))
    have H7 := aa.mk hp7
    have H10 := aa.mk hp10
    have HRS := aa.mk hrs
    have HBEL := aa.mk hbel
    have HSZ := aa.mk hsz
    clear hW0 hp7 hp9 hp10 hrs hbel e9 e10 e7 hsz n79 n710 n910 hb7 hb9 hb10
    go_loopg [17] l0.length (fun gk v17 W => ∃ i : Int, v17 = .int .i64 i ∧ aa (0 ≤ i ∧ i + gk = l0.length) ∧ aa (RS w w.heap.size [b7, b9, b10] b9 ((l0.take i.toNat).foldl (dQ a1 a2 l3) ([], false)).1 W ∧ W.heap[b10]? = some (.cells #[.bool ((l0.take i.toNat).foldl (dQ a1 a2 l3) ([], false)).2] 4 (0, 0)) ∧ W.heap[b7]? = some (.cells #[.slice A3 l3.length c3] 24 (0, 0))))
    case atStart => exact ⟨0, rfl, ⟨Int.le_refl _, by simp⟩, ⟨by simpa using HRS.out, by simpa using H10.out, H7.out⟩⟩
    case round =>
      obtain ⟨i, rfl, HI, HS⟩ := hrel
      obtain ⟨o, ho⟩ : ∃ o, o = ((l0.take i.toNat).foldl (dQ a1 a2 l3) ([], false)).1 := ⟨_, rfl⟩
      obtain ⟨lb, hlb⟩ : ∃ lb, lb = ((l0.take i.toNat).foldl (dQ a1 a2 l3) ([], false)).2 := ⟨_, rfl⟩
      have hol : o.length + l3.length + 8 < 2147483648 := by
        have h1 := lM a1 a2 l3 (l0.take i.toNat) ([], false)
        rw [← ho] at h1
        have h2 : (l0.take i.toNat).length ≤ 1024 := by rw [List.length_take]; omega
        have h3 := HLEN.out.2
        have h4 : (l0.take i.toNat).length * (l3.length + 2) ≤ 1024 * 1026 := Nat.mul_le_mul h2 (by omega)
        simp only [List.length_nil] at h1
        omega
      rw [← ho, ← hlb] at HS
      have HOL := aa.mk hol
      have HO := aa.mk ho
      have HLB := aa.mk hlb
      clear ho hlb hol
      cases gk with
      | zero =>
        have hi : i = l0.length := by have := HI.out.2; omega
        have hd : decide (i < (l0.length : Int)) = false := decide_eq_false (by omega)
        have HII := aa.mk hi
        clear hi
        have hcc10 : wr.cell? ⟨b10, 0, none⟩ = some (.bool lb) := (ae HS.out.2.1 0).trans rfl
        have hrep : zW l0 a1 a2 l3 = if lb then o else l3.foldl addG o := by
          unfold zW
          rw [HO.out, HLB.out, HII.out, Int.toNat_natCast, List.take_length]
        have HREP := aa.mk hrep
        clear hrep
        cases lb with
        | true =>
          obtain ⟨A, c, hcc9, hR⟩ := HS.out.1.cell
          have HR := aa.mk hR
          have HRR := aa.mk (HREP.out.trans (if_pos rfl))
          clear hR HREP
          go_wp2
          go_ret
          refine ⟨.slice A o.length c, rfl, ?_, HS.out.1.old⟩
          rw [HRR.out]
          exact Kd.aX HR.out (fun _ _ => trivial)
        | false =>
          go_wp2_with fail
          refine (y8.calls w wr w.heap.size b7 b9 b10 [b7, b9, b10] o l3 A3 c3 false HS.out.1 (by simp) (by simp) HN.out.1 HN.out.2.2 HN.out.2.1 (by have := HE.out; omega) HS.out.2.2 HS.out.2.1 HR3.out (Nat.le_refl _) (by have := HOL.out; omega)).mono ?_
          rintro e w2 ⟨rfl, h2, _, _, _⟩
          obtain ⟨A, c, hcc9, hR⟩ := h2.cell
          have H2 := aa.mk h2
          have HR := aa.mk hR
          have HRR := aa.mk (HREP.out.trans (if_neg (by simp)))
          clear hR h2 HREP
          go_wp2
          go_ret
          refine ⟨.slice A (l3.foldl addG o).length c, rfl, ?_, H2.out.old⟩
          rw [HRR.out]
          exact Kd.aX HR.out (fun _ _ => trivial)
      | succ k1 =>
        have hp0 : 0 ≤ i := HI.out.1
        have hp1 : i < (l0.length : Int) := by have := HI.out.2; omega
        have hd : decide (i < (l0.length : Int)) = true := decide_eq_true hp1
        have hC : Kd.C k151 wr A0 l0.length l0 := Kd.aN HR0.out HS.out.1.old
        obtain ⟨ad, e3, g0, g1, g2⟩ := dS hC i hp0 hp1
        cases e3
        obtain ⟨x, hx⟩ : ∃ x, x = ax l0 i := ⟨_, rfl⟩
        rw [← hx] at g0 g1 g2
        have hst : (l0.take (i + 1).toNat).foldl (dQ a1 a2 l3) ([], false) = dQ a1 a2 l3 (o, lb) x := by
          have h3 : (i + 1).toNat = i.toNat + 1 := by omega
          have h4 : i.toNat < l0.length := by omega
          have h5 : x = l0[i.toNat] := by rw [hx]; unfold ax; rw [List.getD_eq_getElem?_getD, List.getElem?_eq_getElem h4]; rfl
          rw [h3, List.take_succ_eq_append_getElem h4, List.foldl_append, ← h5, HO.out, HLB.out]
          rfl
        have HST := aa.mk hst
        have HP := aa.mk (And.intro hp0 hp1)
        clear hx hC hst
        go_wp2_with fail
        obtain ⟨W1, hW1⟩ : ∃ W, W = wr.alloc (.cells #[.int .i64 x.f0, .int .i64 x.f1, .int .i64 x.f2] 151) := ⟨_, rfl⟩
        obtain ⟨bx, hbx⟩ : ∃ b, b = wr.heap.size := ⟨_, rfl⟩
        have hb1 : Below wr.heap.size wr W1 := by rw [hW1]; exact (Below.refl _ _).alloc (Nat.le_refl _) _
        have hx1 : W1.heap[bx]? = some (.cells #[.int .i64 x.f0, .int .i64 x.f1, .int .i64 x.f2] 151 (0, 0)) := by rw [hW1, hbx]; exact bg wr _
        rw [← hW1, ← hbx]
        have h1 : RS w w.heap.size (bx :: [b7, b9, b10]) b9 o W1 := HS.out.1.push hb1 (by omega) (by rw [hW1, hbx]; simp)
        have h10 : W1.heap[b10]? = some (.cells #[.bool lb] 4 (0, 0)) := (hb1.block b10 (aA HS.out.2.1)).trans HS.out.2.1
        have h7 : W1.heap[b7]? = some (.cells #[.slice A3 l3.length c3] 24 (0, 0)) := (hb1.block b7 (aA HS.out.2.2)).trans HS.out.2.2
        have nb : bx ≠ b9 ∧ bx ≠ b10 := by
          have h9 := HS.out.1
          obtain ⟨_, _, _, _, _, _, h6⟩ := h9
          have q1 := h6 b9 (by simp)
          have q2 := h6 b10 (by simp)
          omega
        have NB := aa.mk nb
        have H1 := aa.mk h1
        have HX1 := aa.mk hx1
        have H101 := aa.mk h10
        have H71 := aa.mk h7
        clear hW1 hbx hb1 h1 h10 h7 hx1 nb g0 g1 g2
        refine (gW x 0 a1 W1).mono ?_
        rintro e w2 ⟨rfl, hb2⟩
        have h2 := H1.out.below hb2
        have hx2 := (hb2.block bx (aA HX1.out)).trans HX1.out
        have h102 := (hb2.block b10 (aA H101.out)).trans H101.out
        have h72 := (hb2.block b7 (aA H71.out)).trans H71.out
        have H2 := aa.mk h2
        have HX2 := aa.mk hx2
        have H102 := aa.mk h102
        have H72 := aa.mk h72
        clear hb2 h2 hx2 h102 h72
        go_wp2_with fail
        refine (H2.out.add (fD x 0 a1) (by have := HOL.out; omega)).mono ?_
        rintro e w3 ⟨rfl, h3, hs3, hk3⟩
        have hx3 := (hk3 bx (by simp) NB.out.1).trans HX2.out
        have h103 := (hk3 b10 (by simp) HN.out.2.2).trans H102.out
        have h73 := (hk3 b7 (by simp) HN.out.1).trans H72.out
        have hcc10 : w3.cell? ⟨b10, 0, none⟩ = some (.bool lb) := (ae h103 0).trans rfl
        have y0 : w3.cell? ⟨bx, 0, none⟩ = some (.int .i64 x.f0) := (ae hx3 0).trans rfl
        have y1 : w3.cell? ⟨bx, 1, none⟩ = some (.int .i64 x.f1) := (ae hx3 1).trans rfl
        have y2 : w3.cell? ⟨bx, 2, none⟩ = some (.int .i64 x.f2) := (ae hx3 2).trans rfl
        have hl3 := eX o (fD x 0 a1)
        have H3 := aa.mk h3
        have HX3 := aa.mk hx3
        have H103 := aa.mk h103
        have H73 := aa.mk h73
        have HL3 := aa.mk hl3
        clear h3 hs3 hk3 hx3 h103 h73 hl3
        cases lb with
        | true =>
          have hstp : dQ a1 a2 l3 (o, true) x = (addG (addG o (fD x 0 a1)) (fD x (wrap64 (a1 + a2)) 65536), true) := by simp [dQ]
          have HSTP := aa.mk hstp
          clear hstp
          go_wp2_with fail
          refine (gW x (wrap64 (a1 + a2)) 65536 w3).mono ?_
          rintro e w5 ⟨rfl, hb5⟩
          have h5 := H3.out.below hb5
          have h105 := (hb5.block b10 (aA H103.out)).trans H103.out
          have h75 := (hb5.block b7 (aA H73.out)).trans H73.out
          have H5 := aa.mk h5
          have H105 := aa.mk h105
          have H75 := aa.mk h75
          clear hb5 h5 h105 h75 hcc10 y0 y1 y2
          go_wp2_with fail
          refine (H5.out.add (fD x (wrap64 (a1 + a2)) 65536) (by have := HOL.out; have := HL3.out; omega)).mono ?_
          rintro e w6 ⟨rfl, h6, hs6, hk6⟩
          have H6 := aa.mk h6
          have H106 := aa.mk ((hk6 b10 (by simp) HN.out.2.2).trans H105.out)
          have H76 := aa.mk ((hk6 b7 (by simp) HN.out.1).trans H75.out)
          clear h6 hs6 hk6
          go_wp2
          go_roundg k1
          case measure => omega
          case rel =>
            refine ⟨i + 1, by first | rfl | (simp; done), ⟨by have := HP.out.1; omega, by have := HI.out.2; omega⟩, ?_⟩
            rw [HST.out, HSTP.out]
            exact ⟨H6.out.drop (by simp), H106.out, H76.out⟩
        | false =>
          by_cases hc : a1 < wrap64 (x.f0 + x.f2)
          · have hdc : decide (a1 < wrap64 (x.f0 + x.f2)) = true := decide_eq_true hc
            have hstp : dQ a1 a2 l3 (o, false) x = (addG (l3.foldl addG (addG o (fD x 0 a1))) (fD x (wrap64 (a1 + a2)) 65536), true) := by simp [dQ, hc]
            have HSTP := aa.mk hstp
            clear hc hstp
            go_wp2_with fail
            refine (y8.calls w w3 w.heap.size b7 b9 b10 (bx :: [b7, b9, b10]) (addG o (fD x 0 a1)) l3 A3 c3 false H3.out (by simp) (by simp) HN.out.1 HN.out.2.2 HN.out.2.1 (by have := HE.out; omega) H73.out H103.out HR3.out (Nat.le_refl _) (by have := HOL.out; have := HL3.out; omega)).mono ?_
            rintro e w4 ⟨rfl, h4, hs4, h104, hk4⟩
            have hx4 := (hk4 bx (by simp) NB.out.1 NB.out.2).trans HX3.out
            have h74 := (hk4 b7 (by simp) HN.out.1 HN.out.2.1).trans H73.out
            have hl4 := gL l3 (addG o (fD x 0 a1))
            have H4 := aa.mk h4
            have HX4 := aa.mk hx4
            have H104 := aa.mk h104
            have H74 := aa.mk h74
            have HL4 := aa.mk hl4
            clear h4 hs4 h104 hk4 h74 hl4 y0 y1 y2 hcc10
            have hcc10 : w4.cell? ⟨b10, 0, none⟩ = some (.bool true) := (ae H104.out 0).trans rfl
            have y0 : w4.cell? ⟨bx, 0, none⟩ = some (.int .i64 x.f0) := (ae hx4 0).trans rfl
            have y1 : w4.cell? ⟨bx, 1, none⟩ = some (.int .i64 x.f1) := (ae hx4 1).trans rfl
            have y2 : w4.cell? ⟨bx, 2, none⟩ = some (.int .i64 x.f2) := (ae hx4 2).trans rfl
            clear hx4
            go_wp2_with fail
            refine (gW x (wrap64 (a1 + a2)) 65536 w4).mono ?_
            rintro e w5 ⟨rfl, hb5⟩
            have h5 := H4.out.below hb5
            have h105 := (hb5.block b10 (aA H104.out)).trans H104.out
            have h75 := (hb5.block b7 (aA H74.out)).trans H74.out
            have H5 := aa.mk h5
            have H105 := aa.mk h105
            have H75 := aa.mk h75
            clear hb5 h5 h105 h75 hcc10 y0 y1 y2
            go_wp2_with fail
            refine (H5.out.add (fD x (wrap64 (a1 + a2)) 65536) (by have := HOL.out; have := HL3.out; have := HL4.out; omega)).mono ?_
            rintro e w6 ⟨rfl, h6, hs6, hk6⟩
            have H6 := aa.mk h6
            have H106 := aa.mk ((hk6 b10 (by simp) HN.out.2.2).trans H105.out)
            have H76 := aa.mk ((hk6 b7 (by simp) HN.out.1).trans H75.out)
            clear h6 hs6 hk6
            go_wp2
            go_roundg k1
            case measure => omega
            case rel =>
              refine ⟨i + 1, by first | rfl | (simp; done), ⟨by have := HP.out.1; omega, by have := HI.out.2; omega⟩, ?_⟩
              rw [HST.out, HSTP.out]
              exact ⟨H6.out.drop (by simp), H106.out, H76.out⟩
          · have hdc : decide (a1 < wrap64 (x.f0 + x.f2)) = false := decide_eq_false hc
            have hstp : dQ a1 a2 l3 (o, false) x = (addG (addG o (fD x 0 a1)) (fD x (wrap64 (a1 + a2)) 65536), false) := by simp [dQ, hc]
            have HSTP := aa.mk hstp
            clear hc hstp
            go_wp2_with fail
            refine (gW x (wrap64 (a1 + a2)) 65536 w3).mono ?_
            rintro e w5 ⟨rfl, hb5⟩
            have h5 := H3.out.below hb5
            have h105 := (hb5.block b10 (aA H103.out)).trans H103.out
            have h75 := (hb5.block b7 (aA H73.out)).trans H73.out
            have H5 := aa.mk h5
            have H105 := aa.mk h105
            have H75 := aa.mk h75
            clear hb5 h5 h105 h75 hcc10 y0 y1 y2
            go_wp2_with fail
            refine (H5.out.add (fD x (wrap64 (a1 + a2)) 65536) (by have := HOL.out; have := HL3.out; omega)).mono ?_
            rintro e w6 ⟨rfl, h6, hs6, hk6⟩
            have H6 := aa.mk h6
            have H106 := aa.mk ((hk6 b10 (by simp) HN.out.2.2).trans H105.out)
            have H76 := aa.mk ((hk6 b7 (by simp) HN.out.1).trans H75.out)
            clear h6 hs6 hk6
            go_wp2
            go_roundg k1
            case measure => omega
            case rel =>
              refine ⟨i + 1, by first | rfl | (simp; done), ⟨by have := HP.out.1; omega, by have := HI.out.2; omega⟩, ?_⟩
              rw [HST.out, HSTP.out]
              exact ⟨H6.out.drop (by simp), H106.out, H76.out⟩
  · cases h
def lb (n k : Nat) : Array Bool := ((List.range n).map fun j => k.testBit j).toArray
section
variable {P : Program} {ops : Array Oper} {Q : Exit → Act → World → Prop} {md : Region.Mode} {S : World → Prop} {ds : List Nat}
theorem pu_ (i m n k : Nat) {oi : Oper} {v : Value} {fuel : Nat} {l : Array Bool} {a a' : Act} {w : World} (h : aV P md ops Q S ds fuel (lb n k) a' w) (hi : ops[i]? = some oi := by exact rfl) (hN : oi.dst = some m := by exact rfl)
    (hc : anyB md ops l (lb n k) i = true := by exact q8 HT_.out (by kernel_rfl))
    (hQ : ∀ c a w, Q (.panic c) (a.put oi.dst v) w → Q (.panic c) a w := by exact fun _ _ _ h => h) (hy : Yields P ops oi v a := by exact Or.inl ⟨by rfl, by intro w'; go_simp; with_reducible rfl⟩)
    (ha : a.put (some m) v = a' := by (simp only [Act.put, List.setIfInBounds_toArray, List.set_cons_zero, List.set_cons_succ, kE, mf]; rfl)) : aV P md ops Q S ds (fuel + 1) l a w := yo _ hi hN hc hQ hy ha h
theorem pn_ (i m n k : Nat) {oi : Oper} {fuel : Nat} {l : Array Bool} {a a' : Act} {w : World} (h : aV P md ops Q S ds fuel (lb n k) a' w) (hi : ops[i]? = some oi := by exact rfl) (hN : oi.dst = some m := by exact rfl)
    (hc : anyB md ops l (lb n k) i = true := by exact q8 HT_.out (by kernel_rfl))
    (hQ : ∀ c a w, Q (.panic c) (a.put oi.dst undef) w → Q (.panic c) a w := by exact fun _ _ _ h => h) (hy : Yields P ops oi undef a := by exact Or.inr ⟨by rfl, rfl⟩)
    (ha : a.put (some m) undef = a' := by (simp only [Act.put, List.setIfInBounds_toArray, List.set_cons_zero, List.set_cons_succ, kE, mf]; rfl)) : aV P md ops Q S ds (fuel + 1) l a w := yo _ hi hN hc hQ hy ha h
theorem tk_ (i m n k : Nat) {oi : Oper} {v : Value} {fuel : Nat} {l : Array Bool} {a a' : Act} {w : World} (h : aV P md ops Q S ds fuel (lb n k) a' w) (hi : ops[i]? = some oi := by exact rfl) (hN : oi.dst = some m := by exact rfl)
    (hc : takeB md ops ds l (lb n k) i = true := by exact xw HT_.out HW_.out (by kernel_rfl))
    (hQ : ∀ c a w, Q (.panic c) (a.put oi.dst v) w → Q (.panic c) a w := by exact fun _ _ _ h => h) (hy : YieldsIf P ops S oi v a := by exact Or.inl ⟨by rfl, by (intro w' hs; (repeat (obtain ⟨s0, hs⟩ := hs)); go_simp; with_reducible rfl)⟩) (hS : S w := by exact hHeld)
    (ha : a.put (some m) v = a' := by (simp only [Act.put, List.setIfInBounds_toArray, List.set_cons_zero, List.set_cons_succ, kE, mf]; rfl)) : aV P md ops Q S ds (fuel + 1) l a w := take_ _ hi hN hc hQ hy hS ha h
theorem on_ (i m n k : Nat) {oi : Oper} {fuel : Nat} {l : Array Bool} {a : Act} {w : World}
    (h : ∀ K : Act → World → Prop, Shut (∀ a' w', S w' → (S w' → aV P md ops Q S ds fuel (lb n k) a' w') → K a' w') → if Region.wanted oi (yielded ops a.tmps) = true then Oper.wp P oi a w K Q else K (a.put (some m) undef) w)
    (hi : ops[i]? = some oi := by exact rfl) (hN : oi.dst = some m := by exact rfl) (hc : mi md ops l (lb n k) i = true := by exact fA HT_.out (by kernel_rfl)) (hd : i ∉ ds := by decide) :
    aV P md ops Q S ds (fuel + 1) l a w := one_ _ hi hN hc hd h
theorem nm_ (m : Nat) {fuel : Nat} {l : Array Bool} {a a' : Act} {v : Value} {w : World} (h : aV P md ops Q S ds fuel l a' w) (ha : a.put (some m) v = a' := by (simp only [Act.put, List.setIfInBounds_toArray, List.set_cons_zero, List.set_cons_succ, kE, mf]; rfl)) : aV P md ops Q S ds fuel l (a.put (some m) v) w := AA ha h
end
def cO.f (a0 : Int) (a1 : Int) : Option (Bool) := if (mn a0 a1) ≥ 0 then (if a0 ≤ 65536 then (some (decide (a1 ≤ (wrap64 (65536 - a0))))) else (some false)) else (some false)
set_option maxHeartbeats 8000000 in
set_option maxRecDepth 100000 in
theorem cO.calls (a0 : Int) (a1 : Int) (r : Bool) (w : World) (h : cO.f a0 a1 = some r) :
 Calls Tryz.prog 140 #[.int .i64 a0, .int .i64 a1] w fun e w' => e = .returned (.bool r) ∧ Below w.heap.size w w' := by
 have HB := aa.mk (Below.refl w.heap.size w)
 have H : (if (mn a0 a1) ≥ 0 then (if a0 ≤ 65536 then (some (decide (a1 ≤ (wrap64 (65536 - a0))))) else (some false)) else (some false)) = some r := h
 clear h
 obtain ⟨ji3, hji3⟩ : ∃ j_ : Int, (mn a0 a1) = j_ := ⟨_, rfl⟩
 replace H : (if (ji3) ≥ 0 then (if a0 ≤ 65536 then (some (decide (a1 ≤ (wrap64 (65536 - a0))))) else (some false)) else (some false)) = some r := by first | (rw [hji3] at H; exact H) | (simp only [hji3] at H ⊢; exact H)
 have hji3_ : (if a1 < a0 then a1 else a0) = ji3 := hji3
 by_cases c4 : (ji3) ≥ 0
 ·rw [if_pos c4] at H
  have c4b0 : decide (0 ≤ (ji3)) = true := decide_eq_true c4
  clear c4
  by_cases c5 : a0 ≤ 65536
  ·rw [if_pos c5] at H
   have c5b0 : decide (a0 ≤ 65536) = true := decide_eq_true c5
   clear c5
   obtain rfl := Option.some.inj H
   go_enter Tryz.func140, Tryz.ntmps140
   go_wp2
   go_ret
   exact ⟨by first | rfl | (simp [aD, aC] <;> rfl) | (simp only [← hji3]; first | rfl | (simp [aD, aC] <;> rfl)) | (simp [*, aD, aC] <;> rfl), by repeat (first | (with_reducible first | exact HB.out | apply ah | apply af | apply ag) | exact HB.out)⟩
  ·rw [if_neg c5] at H
   have c5b0 : decide (a0 ≤ 65536) = false := decide_eq_false c5
   clear c5
   obtain rfl := Option.some.inj H
   go_enter Tryz.func140, Tryz.ntmps140
   go_wp2
   go_ret
   exact ⟨by first | rfl | (simp [aD, aC] <;> rfl) | (simp only [← hji3]; first | rfl | (simp [aD, aC] <;> rfl)) | (simp [*, aD, aC] <;> rfl), by repeat (first | (with_reducible first | exact HB.out | apply ah | apply af | apply ag) | exact HB.out)⟩
 ·rw [if_neg c4] at H
  have c4b0 : decide (0 ≤ (ji3)) = false := decide_eq_false c4
  clear c4
  obtain rfl := Option.some.inj H
  go_enter Tryz.func140, Tryz.ntmps140
  go_wp2
  go_ret
  exact ⟨by first | rfl | (simp [aD, aC] <;> rfl) | (simp only [← hji3]; first | rfl | (simp [aD, aC] <;> rfl)) | (simp [*, aD, aC] <;> rfl), by repeat (first | (with_reducible first | exact HB.out | apply ah | apply af | apply ag) | exact HB.out)⟩
def dz.f (a0_0 : Int) (a0_1 : Int) (a0_2 : Int) : Option (Bool) := if a0_2 > 0 then ((cO.f a0_0 a0_2).bind fun t102 => (if t102 = true then ((cO.f a0_1 a0_2).bind fun t103 => (some t103)) else (some false))) else (some false)
set_option maxHeartbeats 8000000 in
set_option maxRecDepth 100000 in
theorem dz.calls (a0_0 : Int) (a0_1 : Int) (a0_2 : Int) (r : Bool) (w : World) (h : dz.f a0_0 a0_1 a0_2 = some r) :
 Calls Tryz.prog 150 #[.agg #[.int .i64 a0_0, .int .i64 a0_1, .int .i64 a0_2]] w fun e w' => e = .returned (.bool r) ∧ Below w.heap.size w w' := by
 have hu151 := Tryz.underlying151
 have HB := aa.mk (Below.refl w.heap.size w)
 have H : (if a0_2 > 0 then ((cO.f a0_0 a0_2).bind fun t102 => (if t102 = true then ((cO.f a0_1 a0_2).bind fun t103 => (some t103)) else (some false))) else (some false)) = some r := h
 clear h
 by_cases c2 : a0_2 > 0
 ·rw [if_pos c2] at H
  have c2b0 : decide (0 < a0_2) = true := decide_eq_true c2
  clear c2
  replace H := Option.bind_eq_some_iff.mp H
  obtain ⟨t102, A30, H⟩ := H
  replace H : (if t102 = true then ((cO.f a0_1 a0_2).bind fun t103 => (some t103)) else (some false)) = some r := H
  have A3 := aa.mk A30
  clear A30
  by_cases c4 : t102 = true
  ·subst c4
   have H1 : ((cO.f a0_1 a0_2).bind fun t103 => (some t103)) = some r := by rw [if_pos rfl] at H; exact H
   clear H
   have H := H1
   clear H1
   replace H := Option.bind_eq_some_iff.mp H
   obtain ⟨t103, A50, H⟩ := H
   replace H : (some t103) = some r := H
   have A5 := aa.mk A50
   clear A50
   obtain rfl := Option.some.inj H
   go_enter Tryz.func150, Tryz.ntmps150
   go_wp2_with (first | ((with_reducible refine bf (N := 1) rfl ?_); refine aY ?hg (N := 1) ?hd (cs := #[.int .i64 a0_0, .int .i64 a0_1, .int .i64 a0_2]) (t := 151) ?hr ?_; (case hd => rfl); (case hg => rfl); (case hr => first | (go_simp; done) | (go_simp; rfl)); intro gb101 hg w6 hbox hb; have n0_ := aa.mk (az (by repeat (first | (with_reducible first | exact HB.out | apply ah | apply af | apply ag) | exact HB.out)) hb); have n1_ := aa.mk (hbox); have n2_ := aa.mk ((by rw [hg]; exact (ay (by repeat (first | (with_reducible first | exact HB.out | apply ah | apply af | apply ag) | exact HB.out))) : w.heap.size ≤ gb101)); have n3_ := aa.mk ((by rw [hg]; exact (ay (by repeat (first | (with_reducible first | exact HB.out | apply ah | apply af | apply ag) | exact HB.out))) : w.heap.size ≤ gb101)); clear HB; have HB := n0_; have BK101 := n1_; have GW101 := n2_; have GE101 := n3_; clear n0_ n1_ n2_ n3_; clear hb hbox hg; have hcz7_0 : w6.cell? ⟨gb101, 0, none⟩ = some (.int .i64 a0_0) := (ae BK101.out 0).trans rfl; have hcz7_1 : w6.cell? ⟨gb101, 1, none⟩ = some (.int .i64 a0_1) := (ae BK101.out 1).trans rfl; have hcz7_2 : w6.cell? ⟨gb101, 2, none⟩ = some (.int .i64 a0_2) := (ae BK101.out 2).trans rfl; have hfz7_0 := ai BK101.out 0; have hfz7_1 := ai BK101.out 1; have hfz7_2 := ai BK101.out 2) | (go_at_call 140; (with_reducible refine (cO.calls a0_0 a0_2 true _ A3.out).mono ?_); rintro e w8 ⟨rfl, hb⟩; have n0_ := aa.mk (aK (g := gb101) (o := .cells #[.int .i64 a0_0, .int .i64 a0_1, .int .i64 a0_2] 151 (0, 0)) (by (with_reducible repeat (first | refine ak ?_ _ | refine au ?_ | refine aj ?_ _)); exact BK101.out) hb); have n1_ := aa.mk (az (by repeat (first | (with_reducible first | exact HB.out | apply ah | apply af | apply ag | refine av ?_ GE101.out) | exact HB.out)) hb); clear BK101; clear HB; have BK101 := n0_; have HB := n1_; clear n0_ n1_; (try clear hb); (try clear hb2); (try clear hk); (try clear hi); have hcz9_0 : w8.cell? ⟨gb101, 0, none⟩ = some (.int .i64 a0_0) := (ae BK101.out 0).trans rfl; have hcz9_1 : w8.cell? ⟨gb101, 1, none⟩ = some (.int .i64 a0_1) := (ae BK101.out 1).trans rfl; have hcz9_2 : w8.cell? ⟨gb101, 2, none⟩ = some (.int .i64 a0_2) := (ae BK101.out 2).trans rfl; have hfz9_0 := ai BK101.out 0; have hfz9_1 := ai BK101.out 1; have hfz9_2 := ai BK101.out 2) | (go_at_call 140; (with_reducible refine (cO.calls a0_1 a0_2 t103 _ A5.out).mono ?_); rintro e w10 ⟨rfl, hb⟩; have n0_ := aa.mk (aK (g := gb101) (o := .cells #[.int .i64 a0_0, .int .i64 a0_1, .int .i64 a0_2] 151 (0, 0)) (by (with_reducible repeat (first | refine ak ?_ _ | refine au ?_ | refine aj ?_ _)); exact BK101.out) hb); have n1_ := aa.mk (az (by repeat (first | (with_reducible first | exact HB.out | apply ah | apply af | apply ag | refine av ?_ GE101.out) | exact HB.out)) hb); clear BK101; clear HB; have BK101 := n0_; have HB := n1_; clear n0_ n1_; (try clear hb); (try clear hb2); (try clear hk); (try clear hi)))
   go_ret
   exact ⟨by first | rfl | (simp [aD, aC] <;> rfl) | (simp [*, aD, aC] <;> rfl), by repeat (first | (with_reducible first | exact HB.out | apply ah | apply af | apply ag | refine av ?_ GE101.out) | exact HB.out)⟩
  ·replace c4 := Bool.eq_false_iff.mpr c4
   subst c4
   have H1 : (some false) = some r := by rw [if_neg (show ¬ (false = true) by decide)] at H; exact H
   clear H
   have H := H1
   clear H1
   obtain rfl := Option.some.inj H
   go_enter Tryz.func150, Tryz.ntmps150
   go_wp2_with (first | ((with_reducible refine bf (N := 1) rfl ?_); refine aY ?hg (N := 1) ?hd (cs := #[.int .i64 a0_0, .int .i64 a0_1, .int .i64 a0_2]) (t := 151) ?hr ?_; (case hd => rfl); (case hg => rfl); (case hr => first | (go_simp; done) | (go_simp; rfl)); intro gb101 hg w11 hbox hb; have n0_ := aa.mk (az (by repeat (first | (with_reducible first | exact HB.out | apply ah | apply af | apply ag) | exact HB.out)) hb); have n1_ := aa.mk (hbox); have n2_ := aa.mk ((by rw [hg]; exact (ay (by repeat (first | (with_reducible first | exact HB.out | apply ah | apply af | apply ag) | exact HB.out))) : w.heap.size ≤ gb101)); have n3_ := aa.mk ((by rw [hg]; exact (ay (by repeat (first | (with_reducible first | exact HB.out | apply ah | apply af | apply ag) | exact HB.out))) : w.heap.size ≤ gb101)); clear HB; have HB := n0_; have BK101 := n1_; have GW101 := n2_; have GE101 := n3_; clear n0_ n1_ n2_ n3_; clear hb hbox hg; have hcz12_0 : w11.cell? ⟨gb101, 0, none⟩ = some (.int .i64 a0_0) := (ae BK101.out 0).trans rfl; have hcz12_1 : w11.cell? ⟨gb101, 1, none⟩ = some (.int .i64 a0_1) := (ae BK101.out 1).trans rfl; have hcz12_2 : w11.cell? ⟨gb101, 2, none⟩ = some (.int .i64 a0_2) := (ae BK101.out 2).trans rfl; have hfz12_0 := ai BK101.out 0; have hfz12_1 := ai BK101.out 1; have hfz12_2 := ai BK101.out 2) | (go_at_call 140; (with_reducible refine (cO.calls a0_0 a0_2 false _ A3.out).mono ?_); rintro e w13 ⟨rfl, hb⟩; have n0_ := aa.mk (aK (g := gb101) (o := .cells #[.int .i64 a0_0, .int .i64 a0_1, .int .i64 a0_2] 151 (0, 0)) (by (with_reducible repeat (first | refine ak ?_ _ | refine au ?_ | refine aj ?_ _)); exact BK101.out) hb); have n1_ := aa.mk (az (by repeat (first | (with_reducible first | exact HB.out | apply ah | apply af | apply ag | refine av ?_ GE101.out) | exact HB.out)) hb); clear BK101; clear HB; have BK101 := n0_; have HB := n1_; clear n0_ n1_; (try clear hb); (try clear hb2); (try clear hk); (try clear hi)))
   go_ret
   exact ⟨by first | rfl | (simp [aD, aC] <;> rfl) | (simp [*, aD, aC] <;> rfl), by repeat (first | (with_reducible first | exact HB.out | apply ah | apply af | apply ag | refine av ?_ GE101.out) | exact HB.out)⟩
 ·rw [if_neg c2] at H
  have c2b0 : decide (0 < a0_2) = false := decide_eq_false c2
  clear c2
  obtain rfl := Option.some.inj H
  go_enter Tryz.func150, Tryz.ntmps150
  go_wp2_with (first | ((with_reducible refine bf (N := 1) rfl ?_); refine aY ?hg (N := 1) ?hd (cs := #[.int .i64 a0_0, .int .i64 a0_1, .int .i64 a0_2]) (t := 151) ?hr ?_; (case hd => rfl); (case hg => rfl); (case hr => first | (go_simp; done) | (go_simp; rfl)); intro gb101 hg w14 hbox hb; have n0_ := aa.mk (az (by repeat (first | (with_reducible first | exact HB.out | apply ah | apply af | apply ag) | exact HB.out)) hb); have n1_ := aa.mk (hbox); have n2_ := aa.mk ((by rw [hg]; exact (ay (by repeat (first | (with_reducible first | exact HB.out | apply ah | apply af | apply ag) | exact HB.out))) : w.heap.size ≤ gb101)); have n3_ := aa.mk ((by rw [hg]; exact (ay (by repeat (first | (with_reducible first | exact HB.out | apply ah | apply af | apply ag) | exact HB.out))) : w.heap.size ≤ gb101)); clear HB; have HB := n0_; have BK101 := n1_; have GW101 := n2_; have GE101 := n3_; clear n0_ n1_ n2_ n3_; clear hb hbox hg; have hcz15_0 : w14.cell? ⟨gb101, 0, none⟩ = some (.int .i64 a0_0) := (ae BK101.out 0).trans rfl; have hcz15_1 : w14.cell? ⟨gb101, 1, none⟩ = some (.int .i64 a0_1) := (ae BK101.out 1).trans rfl; have hcz15_2 : w14.cell? ⟨gb101, 2, none⟩ = some (.int .i64 a0_2) := (ae BK101.out 2).trans rfl; have hfz15_0 := ai BK101.out 0; have hfz15_1 := ai BK101.out 1; have hfz15_2 := ai BK101.out 2))
  go_ret
  exact ⟨by first | rfl | (simp [aD, aC] <;> rfl) | (simp [*, aD, aC] <;> rfl), by repeat (first | (with_reducible first | exact HB.out | apply ah | apply af | apply ag | refine av ?_ GE101.out) | exact HB.out)⟩
def aG.l0 : Nat → List (S151) → List (S151) → Int → Int → Option (Int)
 | 0, _, _, _, _ => none
 | k + 1, x0, x8, x9, x10 => if x10 < x9 then (if 0 ≤ x10 then (if x10 < (x8.length : Int) then ((dz.f ((ax x8 x10).f0) ((ax x8 x10).f1) ((ax x8 x10).f2)).bind fun t103 => (if t103 = true then (if x10 > 0 then (if 0 ≤ (wrap64 (x10 - 1)) then (if (wrap64 (x10 - 1)) < (x0.length : Int) then (if (wrap64 (((ax x0 (wrap64 (x10 - 1))).f0) + ((ax x0 (wrap64 (x10 - 1))).f2))) > ((ax x8 x10).f0) then (some 9) else ((bL.f ((ax x0 (wrap64 (x10 - 1))).f0) ((ax x0 (wrap64 (x10 - 1))).f1) ((ax x0 (wrap64 (x10 - 1))).f2) ((ax x8 x10).f0) ((ax x8 x10).f1) ((ax x8 x10).f2)).bind fun t107 => (if t107 = true then (some 9) else (aG.l0 k x0 x8 x9 (wrap64 (x10 + 1)))))) else (none)) else (none)) else (aG.l0 k x0 x8 x9 (wrap64 (x10 + 1)))) else (some 9))) else (none)) else (none)) else (some 0)
def aG.f (k : Nat) (l0 : List (S151)) : Option (Int) := if (l0.length : Int) > 1024 then (some 9) else (aG.l0 k l0 l0 (l0.length : Int) 0)
def aG.T6 : Bool × List (List Nat × List Nat) := (true, [([], []), ([0], [0]), ([1], [1]), ([2, 1], [2]), ([3], [3]), ([4, 3], [3, 4]), ([5, 3, 3], [3, 5]), ([6], [6]), ([6], [6]), ([8, 6], [6, 8]), ([7, 9, 6], [6, 7, 9]), ([10, 6], [6, 10]), ([11, 6], [6, 11]), ([6], [6]), ([6], [6]), ([14, 6], [6, 14]), ([13, 15, 6], [6, 13, 15]), ([16, 6], [6, 16]), ([17, 6], [6, 17]), ([12, 18, 6], [6, 12, 18]), ([6], [6]), ([20, 6], [6, 20]), ([19, 21, 6], [6, 19, 21]), ([22, 6, 6], [6, 22]), ([23], [23]), ([23], [23]), ([25, 23], [23, 25]), ([24, 26, 23], [23, 24, 26]), ([27, 23], [23, 27]), ([23], [23]), ([28, 29, 23, 23], [23, 28, 29]), ([23, 30, 6], [6, 23, 30]), ([6, 31, 3], [3, 6, 31]), ([3, 32], [3, 32])])
def aG.B6 : List Nat := [0, 1, 3, 7, 15, 31, 63, 127, 127, 383, 1023, 2047, 4095, 127, 127, 16511, 57471, 123007, 254079, 524287, 127, 1048703, 4194303, 8388607, 16777215, 16777215, 50331647, 134217727, 268435455, 16777215, 1073741823, 2147483647, 4294967295, 8589934591]
theorem aG.tab6 : rtab .any (opsOf Tryz.f124 6) = aG.T6 := by kernel_rfl
theorem aG.vJ : cB aG.T6.2 aG.B6 = true := by kernel_rfl
set_option maxHeartbeats 8000000 in
set_option maxRecDepth 100000 in
theorem aG.calls (k : Nat) (A0 : Option Addr) (c0 : Nat) (l0 : List (S151)) (r : Int) (w : World) (hr0 : Kd.C k151 w A0 l0.length l0) (hc0 : l0.length ≤ c0) (h : aG.f k l0 = some r) :
 Calls Tryz.prog 124 #[.slice A0 l0.length c0] w fun e w' => e = .returned (.int .i64 r) ∧ Below w.heap.size w w' := by
 have hu151 := Tryz.underlying151
 have HR0 := aa.mk hr0
 have HC0 := aa.mk hc0
 clear hr0 hc0
 have HB := aa.mk (Below.refl w.heap.size w)
 have H : (if (l0.length : Int) > 1024 then (some 9) else (aG.l0 k l0 l0 (l0.length : Int) 0)) = some r := h
 clear h
 by_cases c2 : (l0.length : Int) > 1024
 ·rw [if_pos c2] at H
  have c2b0 : decide (1024 < (l0.length : Int)) = true := decide_eq_true c2
  have c2b1 : decide (1024 < l0.length) = true := decide_eq_true (by omega)
  clear c2
  obtain rfl := Option.some.inj H
  go_enter Tryz.func124, Tryz.ntmps124
  go_wp2
  go_ret
  exact ⟨by first | rfl | (simp [aD, aC] <;> rfl) | (simp [*, aD, aC] <;> rfl), by repeat (first | (with_reducible first | exact HB.out | apply ah | apply af | apply ag) | exact HB.out)⟩
 ·rw [if_neg c2] at H
  have c2b0 : decide (1024 < (l0.length : Int)) = false := decide_eq_false c2
  have c2b1 : decide (1024 < l0.length) = false := decide_eq_false (by omega)
  clear c2
  have H' := aa.mk H
  clear H
  go_enter Tryz.func124, Tryz.ntmps124
  go_wp2
  go_loopg [10] k (fun kq v10 w' => ∃ (x10_1 : Int), v10 = .int .i64 x10_1 ∧ aa (aG.l0 kq l0 l0 (l0.length : Int) x10_1 = some r) ∧ aa (kq ≤ k) ∧ aa (Below w.heap.size w w'))
  case atStart => exact ⟨(0), (by first | rfl | (simp; done) | (simp [*]; done)), H', ⟨Nat.le_refl _⟩, ⟨by repeat (first | (with_reducible first | exact HB.out | apply ah | apply af | apply ag) | exact HB.out)⟩⟩
  case round =>
   clear H'
   try clear c1
   try clear c2
   try clear c2b0
   try clear c2b1
   try clear p2
   obtain ⟨x10_1, rfl, HA, HK1, HB⟩ := hrel
   cases gk with
   | zero => exact absurd HA.out (by simp [aG.l0])
   | succ k1 =>
    have H := HA.out
    clear HA
    simp only [aG.l0] at H
    by_cases c3 : x10_1 < (l0.length : Int)
    ·rw [if_pos c3] at H
     have c3b0 : decide (x10_1 < (l0.length : Int)) = true := decide_eq_true c3
     clear c3
     by_cases c4 : 0 ≤ x10_1
     ·rw [if_pos c4] at H
      have c4b0 : decide (0 ≤ x10_1) = true := decide_eq_true c4
      clear c4
      by_cases c5 : x10_1 < (l0.length : Int)
      ·rw [if_pos c5] at H
       have c5b0 : decide (x10_1 < (l0.length : Int)) = true := decide_eq_true c5
       clear c5
       replace H := Option.bind_eq_some_iff.mp H
       obtain ⟨t103, A60, H⟩ := H
       replace H : (if t103 = true then (if x10_1 > 0 then (if 0 ≤ (wrap64 (x10_1 - 1)) then (if (wrap64 (x10_1 - 1)) < (l0.length : Int) then (if (wrap64 (((ax l0 (wrap64 (x10_1 - 1))).f0) + ((ax l0 (wrap64 (x10_1 - 1))).f2))) > ((ax l0 x10_1).f0) then (some 9) else ((bL.f ((ax l0 (wrap64 (x10_1 - 1))).f0) ((ax l0 (wrap64 (x10_1 - 1))).f1) ((ax l0 (wrap64 (x10_1 - 1))).f2) ((ax l0 x10_1).f0) ((ax l0 x10_1).f1) ((ax l0 x10_1).f2)).bind fun t107 => (if t107 = true then (some 9) else (aG.l0 k1 l0 l0 (l0.length : Int) (wrap64 (x10_1 + 1)))))) else (none)) else (none)) else (aG.l0 k1 l0 l0 (l0.length : Int) (wrap64 (x10_1 + 1)))) else (some 9)) = some r := H
       have A6 := aa.mk A60
       clear A60
       by_cases c7 : t103 = true
       ·subst c7
        have H1 : (if x10_1 > 0 then (if 0 ≤ (wrap64 (x10_1 - 1)) then (if (wrap64 (x10_1 - 1)) < (l0.length : Int) then (if (wrap64 (((ax l0 (wrap64 (x10_1 - 1))).f0) + ((ax l0 (wrap64 (x10_1 - 1))).f2))) > ((ax l0 x10_1).f0) then (some 9) else ((bL.f ((ax l0 (wrap64 (x10_1 - 1))).f0) ((ax l0 (wrap64 (x10_1 - 1))).f1) ((ax l0 (wrap64 (x10_1 - 1))).f2) ((ax l0 x10_1).f0) ((ax l0 x10_1).f1) ((ax l0 x10_1).f2)).bind fun t107 => (if t107 = true then (some 9) else (aG.l0 k1 l0 l0 (l0.length : Int) (wrap64 (x10_1 + 1)))))) else (none)) else (none)) else (aG.l0 k1 l0 l0 (l0.length : Int) (wrap64 (x10_1 + 1)))) = some r := by rw [if_pos rfl] at H; exact H
        clear H
        have H := H1
        clear H1
        by_cases c8 : x10_1 > 0
        ·rw [if_pos c8] at H
         have c8b0 : decide (0 < x10_1) = true := decide_eq_true c8
         clear c8
         obtain ⟨ji9, hji9⟩ : ∃ j_ : Int, (wrap64 (x10_1 - 1)) = j_ := ⟨_, rfl⟩
         replace H : (if 0 ≤ (ji9) then (if (ji9) < (l0.length : Int) then (if (wrap64 (((ax l0 (ji9)).f0) + ((ax l0 (ji9)).f2))) > ((ax l0 x10_1).f0) then (some 9) else ((bL.f ((ax l0 (ji9)).f0) ((ax l0 (ji9)).f1) ((ax l0 (ji9)).f2) ((ax l0 x10_1).f0) ((ax l0 x10_1).f1) ((ax l0 x10_1).f2)).bind fun t107 => (if t107 = true then (some 9) else (aG.l0 k1 l0 l0 (l0.length : Int) (wrap64 (x10_1 + 1)))))) else (none)) else (none)) = some r := by first | (rw [hji9] at H; exact H) | (simp only [hji9] at H ⊢; exact H)
         (try rw [hji9] at A6)
         have hji9w : (IntKind.i64.wrap (x10_1 - 1)) = ji9 := (kE _).trans hji9
         by_cases c10 : 0 ≤ (ji9)
         ·rw [if_pos c10] at H
          have c10b0 : decide (0 ≤ (ji9)) = true := decide_eq_true c10
          clear c10
          by_cases c11 : (ji9) < (l0.length : Int)
          ·rw [if_pos c11] at H
           have c11b0 : decide ((ji9) < (l0.length : Int)) = true := decide_eq_true c11
           clear c11
           by_cases c12 : (wrap64 (((ax l0 (ji9)).f0) + ((ax l0 (ji9)).f2))) > ((ax l0 x10_1).f0)
           ·rw [if_pos c12] at H
            have c12b0 : decide (((ax l0 x10_1).f0) < (wrap64 (((ax l0 (ji9)).f0) + ((ax l0 (ji9)).f2)))) = true := decide_eq_true c12
            clear c12
            obtain rfl := Option.some.inj H
            have p101 : 0 ≤ (x10_1 : Int) := of_decide_eq_true (by first | (with_reducible assumption) | assumption)
            have q101 : x10_1 < (l0.length : Int) := of_decide_eq_true (by first | (with_reducible assumption) | assumption)
            obtain ⟨ad101, e101, hx101_0, hx101_1, hx101_2⟩ := dS HR0.out x10_1 p101 q101
            cases e101
            replace hx101_0 := (HB.out.cell (World.block_lt_of_cell? w _ hx101_0)).trans hx101_0
            replace hx101_1 := (HB.out.cell (World.block_lt_of_cell? w _ hx101_1)).trans hx101_1
            replace hx101_2 := (HB.out.cell (World.block_lt_of_cell? w _ hx101_2)).trans hx101_2
            replace p101 := eq_true p101
            replace q101 := eq_true q101
            try go_wp2_with (first | ((with_reducible refine bf (N := 4) rfl ?_); refine aY ?hg (N := 4) ?hd (cs := #[.int .i64 0, .int .i64 0, .int .i64 0]) (t := 151) ?hr ?_; (case hd => rfl); (case hg => rfl); (case hr => first | (go_simp; done) | (go_simp; rfl)); intro gb102 hg w13 hbox hb; have n0_ := aa.mk (az (by repeat (first | (with_reducible first | exact HB.out | apply ah | apply af | apply ag) | exact HB.out)) hb); have n1_ := aa.mk (hbox); have n2_ := aa.mk ((by rw [hg]; exact (ay (by repeat (first | (with_reducible first | exact HB.out | apply ah | apply af | apply ag) | exact HB.out))) : w.heap.size ≤ gb102)); have n3_ := aa.mk ((by rw [hg]; exact (ay (by repeat (first | (with_reducible first | exact HB.out | apply ah | apply af | apply ag) | exact HB.out))) : w.heap.size ≤ gb102)); clear HB; have HB := n0_; have BK102 := n1_; have GW102 := n2_; have GE102 := n3_; clear n0_ n1_ n2_ n3_; clear hb hbox hg; have hcz14_0 : w13.cell? ⟨gb102, 0, none⟩ = some (.int .i64 0) := (ae BK102.out 0).trans rfl; have hcz14_1 : w13.cell? ⟨gb102, 1, none⟩ = some (.int .i64 0) := (ae BK102.out 1).trans rfl; have hcz14_2 : w13.cell? ⟨gb102, 2, none⟩ = some (.int .i64 0) := (ae BK102.out 2).trans rfl; have hfz14_0 := ai BK102.out 0; have hfz14_1 := ai BK102.out 1; have hfz14_2 := ai BK102.out 2))
            have n0_ : aa ((((w13.setCell ⟨gb102, 0, none⟩ (.int .i64 ((ax l0 x10_1).f0))).setCell ⟨gb102, 1, none⟩ (.int .i64 ((ax l0 x10_1).f1))).setCell ⟨gb102, 2, none⟩ (.int .i64 ((ax l0 x10_1).f2))).heap[gb102]? = some (.cells #[.int .i64 ((ax l0 x10_1).f0), .int .i64 ((ax l0 x10_1).f1), .int .i64 ((ax l0 x10_1).f2)] 151 (0, 0))) := ⟨by (with_reducible repeat (first | refine ak ?_ _ | refine au ?_ | refine aj ?_ _)); refine aW (cs := #[.int .i64 ((ax l0 x10_1).f0), .int .i64 ((ax l0 x10_1).f1), .int .i64 0]) ?_ 2 _ rfl; (with_reducible repeat (first | refine ak ?_ _ | refine au ?_ | refine aj ?_ _)); refine aW (cs := #[.int .i64 ((ax l0 x10_1).f0), .int .i64 0, .int .i64 0]) ?_ 1 _ rfl; (with_reducible repeat (first | refine ak ?_ _ | refine au ?_ | refine aj ?_ _)); refine aW (cs := #[.int .i64 0, .int .i64 0, .int .i64 0]) ?_ 0 _ rfl; (with_reducible repeat (first | refine ak ?_ _ | refine au ?_ | refine aj ?_ _)); exact BK102.out⟩
            have n1_ : aa (Below w.heap.size w (((w13.setCell ⟨gb102, 0, none⟩ (.int .i64 ((ax l0 x10_1).f0))).setCell ⟨gb102, 1, none⟩ (.int .i64 ((ax l0 x10_1).f1))).setCell ⟨gb102, 2, none⟩ (.int .i64 ((ax l0 x10_1).f2)))) := ⟨by repeat (first | (with_reducible first | exact HB.out | apply ah | apply af | apply ag | refine av ?_ GE102.out) | exact HB.out)⟩
            (try clear BK102)
            (try clear HB)
            generalize (((w13.setCell ⟨gb102, 0, none⟩ (.int .i64 ((ax l0 x10_1).f0))).setCell ⟨gb102, 1, none⟩ (.int .i64 ((ax l0 x10_1).f1))).setCell ⟨gb102, 2, none⟩ (.int .i64 ((ax l0 x10_1).f2))) = w15 at n0_ n1_ ⊢
            have BK102 := n0_
            have HB := n1_
            clear n0_ n1_
            have n0_ := aa.mk (au BK102.out)
            have n1_ := aa.mk (ag HB.out)
            clear BK102
            clear HB
            have BK102 := n0_
            have HB := n1_
            clear n0_ n1_
            have p104 : 0 ≤ ((ji9) : Int) := of_decide_eq_true (by first | (with_reducible assumption) | assumption)
            have q104 : (ji9) < (l0.length : Int) := of_decide_eq_true (by first | (with_reducible assumption) | assumption)
            obtain ⟨ad104, e104, hx104_0, hx104_1, hx104_2⟩ := dS HR0.out (ji9) p104 q104
            have hw104_2 := hx104_2
            have hw104_1 := hx104_1
            have hw104_0 := hx104_0
            obtain rfl : ad101 = ad104 := (by injection e104)
            replace hx104_0 := (HB.out.cell (World.block_lt_of_cell? w _ hx104_0)).trans hx104_0
            replace hx104_1 := (HB.out.cell (World.block_lt_of_cell? w _ hx104_1)).trans hx104_1
            replace hx104_2 := (HB.out.cell (World.block_lt_of_cell? w _ hx104_2)).trans hx104_2
            replace p104 := eq_true p104
            replace q104 := eq_true q104
            have p105 : 0 ≤ ((ji9) : Int) := of_decide_eq_true (by first | (with_reducible assumption) | assumption)
            have q105 : (ji9) < (l0.length : Int) := of_decide_eq_true (by first | (with_reducible assumption) | assumption)
            obtain ⟨ad105, e105, hx105_0, hx105_1, hx105_2⟩ := dS HR0.out (ji9) p105 q105
            have hw105_2 := hx105_2
            have hw105_1 := hx105_1
            have hw105_0 := hx105_0
            obtain rfl : ad101 = ad105 := (by injection e105)
            replace hx105_0 := (HB.out.cell (World.block_lt_of_cell? w _ hx105_0)).trans hx105_0
            replace hx105_1 := (HB.out.cell (World.block_lt_of_cell? w _ hx105_1)).trans hx105_1
            replace hx105_2 := (HB.out.cell (World.block_lt_of_cell? w _ hx105_2)).trans hx105_2
            replace p105 := eq_true p105
            replace q105 := eq_true q105
            refine dG (n := 34) (S := fun w' => w'.cell? ⟨gb102, 0, none⟩ = some (.int .i64 ((ax l0 x10_1).f0)) ∧ w'.cell? ⟨gb102, 1, none⟩ = some (.int .i64 ((ax l0 x10_1).f1)) ∧ w'.cell? ⟨gb102, 2, none⟩ = some (.int .i64 ((ax l0 x10_1).f2)) ∧ w'.cell? (ad101.add (((ji9)).toNat * 3)) = some (.int .i64 ((ax l0 (ji9)).f0)) ∧ w'.cell? ⟨(ad101.add (((ji9)).toNat * 3)).block, (ad101.add (((ji9)).toNat * 3)).off + 1, none⟩ = some (.int .i64 ((ax l0 (ji9)).f1)) ∧ w'.cell? ⟨(ad101.add (((ji9)).toNat * 3)).block, (ad101.add (((ji9)).toNat * 3)).off + 2, none⟩ = some (.int .i64 ((ax l0 (ji9)).f2)) ∧ w'.cell? (ad101.add (((ji9)).toNat * 3)) = some (.int .i64 ((ax l0 (ji9)).f0)) ∧ w'.cell? ⟨(ad101.add (((ji9)).toNat * 3)).block, (ad101.add (((ji9)).toNat * 3)).off + 1, none⟩ = some (.int .i64 ((ax l0 (ji9)).f1)) ∧ w'.cell? ⟨(ad101.add (((ji9)).toNat * 3)).block, (ad101.add (((ji9)).toNat * 3)).off + 2, none⟩ = some (.int .i64 ((ax l0 (ji9)).f2))) (ds := []) #[yF,yF,yF,yF,yF,yF,yF,yF,yF,yF,yF,yF,yF,yF,yF,yF,yF,yF,yF,yF,yF,yF,yF,yF,yF,yF,yF,yF,yF,yF,yF,yF,yF,yF] (by kernel_rfl) rfl rfl ⟨(ae BK102.out 0).trans rfl, (ae BK102.out 1).trans rfl, (ae BK102.out 2).trans rfl, ((HB.out.cell (World.block_lt_of_cell? w _ hw104_0)).trans hw104_0), ((HB.out.cell (World.block_lt_of_cell? w _ hw104_1)).trans hw104_1), ((HB.out.cell (World.block_lt_of_cell? w _ hw104_2)).trans hw104_2), ((HB.out.cell (World.block_lt_of_cell? w _ hw105_0)).trans hw105_0), ((HB.out.cell (World.block_lt_of_cell? w _ hw105_1)).trans hw105_1), ((HB.out.cell (World.block_lt_of_cell? w _ hw105_2)).trans hw105_2)⟩ (fun hHeld => ?_); refine bG aG.tab6 aG.vJ (fun HT_ HW_ => ?_)
            generalize w15.drew = w16 at BK102 HB hx104_0 hx104_1 hx104_2 hx105_0 hx105_1 hx105_2 hHeld ⊢
            refine tk_ 0 15 34 1 ?_
            refine on_ 1 16 34 3 (fun K hK => ?_)
            refine dO Tryz.func150 (by kernel_rfl) rfl #[.agg #[.int .i64 ((ax l0 x10_1).f0), .int .i64 ((ax l0 x10_1).f1), .int .i64 ((ax l0 x10_1).f2)]] (by rfl) rfl rfl (by (try simp only [List.map_toArray, List.map_cons, List.map_nil]); first | done | rfl | (simp only [List.length_drop, List.length_take]; rfl)) ?_
            with_reducible refine (dz.calls ((ax l0 x10_1).f0) ((ax l0 x10_1).f1) ((ax l0 x10_1).f2) true _ A6.out).mono ?_
            rintro e w17 ⟨rfl, hb⟩
            refine ⟨_, rfl, ?_⟩
            have n0_ := aa.mk (aK (g := gb102) (o := .cells #[.int .i64 ((ax l0 x10_1).f0), .int .i64 ((ax l0 x10_1).f1), .int .i64 ((ax l0 x10_1).f2)] 151 (0, 0)) (by (with_reducible repeat (first | refine ak ?_ _ | refine au ?_ | refine aj ?_ _)); exact BK102.out) hb)
            have n1_ := aa.mk (az (by repeat (first | (with_reducible first | exact HB.out | apply ah | apply af | apply ag | refine av ?_ GE102.out) | exact HB.out)) hb)
            clear BK102
            clear HB
            have BK102 := n0_
            have HB := n1_
            clear n0_ n1_
            (try clear hb)
            (try clear hb2)
            (try clear hk)
            (try clear hi)
            refine hK.out _ _ ⟨(ae BK102.out 0).trans rfl, (ae BK102.out 1).trans rfl, (ae BK102.out 2).trans rfl, ((HB.out.cell (World.block_lt_of_cell? w _ hw104_0)).trans hw104_0), ((HB.out.cell (World.block_lt_of_cell? w _ hw104_1)).trans hw104_1), ((HB.out.cell (World.block_lt_of_cell? w _ hw104_2)).trans hw104_2), ((HB.out.cell (World.block_lt_of_cell? w _ hw105_0)).trans hw105_0), ((HB.out.cell (World.block_lt_of_cell? w _ hw105_1)).trans hw105_1), ((HB.out.cell (World.block_lt_of_cell? w _ hw105_2)).trans hw105_2)⟩ (fun hHeld => ?_)
            clear hK K
            refine nm_ 16 ?_
            refine pu_ 2 17 34 7 ?_
            refine pu_ 3 18 34 15 ?_
            refine pu_ 4 19 34 31 ?_
            refine pu_ 5 20 34 63 ?_
            refine pu_ 6 21 34 127 ?_
            refine pu_ 7 22 34 255 ?_
            refine pu_ 8 23 34 511 ?_
            refine pu_ 9 24 34 1023 ?_
            refine pu_ 10 25 34 2047 ?_
            refine pu_ 11 26 34 4095 ?_
            refine pu_ 13 28 34 12287 ?_
            refine pu_ 14 29 34 28671 ?_
            refine pu_ 15 30 34 61439 ?_
            refine pu_ 16 31 34 126975 ?_
            refine pu_ 17 32 34 258047 ?_
            refine pu_ 20 35 34 1306623 ?_
            refine tk_ 12 27 34 1310719 ?_
            refine tk_ 18 33 34 1572863 ?_
            refine pu_ 19 34 34 2097151 ?_
            refine tk_ 21 36 34 4194303 ?_
            refine pu_ 22 37 34 8388607 ?_
            refine pu_ 23 38 34 16777215 ?_
            refine pn_ 24 39 34 33554431 ?_
            refine pn_ 25 40 34 67108863 ?_
            refine pn_ 26 41 34 134217727 ?_
            refine pn_ 27 42 34 268435455 ?_
            refine pn_ 28 43 34 536870911 ?_
            refine pn_ 29 44 34 1073741823 ?_
            refine pn_ 30 45 34 2147483647 ?_
            refine pu_ 31 46 34 4294967295 ?_
            refine pu_ 32 47 34 8589934591 ?_
            refine pu_ 33 48 34 17179869183 ?_
            refine eQ (bU HT_.out (by kernel_rfl)) ?_
            try go_wp2
            go_ret
            exact ⟨by first | rfl | (simp [aD, aC] <;> rfl) | (simp only [← hji9]; first | rfl | (simp [aD, aC] <;> rfl)) | (simp [*, aD, aC] <;> rfl), by repeat (first | (with_reducible first | exact HB.out | apply ah | apply af | apply ag | refine av ?_ GE102.out) | exact HB.out)⟩
           ·rw [if_neg c12] at H
            have c12b0 : decide (((ax l0 x10_1).f0) < (wrap64 (((ax l0 (ji9)).f0) + ((ax l0 (ji9)).f2)))) = false := decide_eq_false c12
            clear c12
            replace H := Option.bind_eq_some_iff.mp H
            obtain ⟨t107, A180, H⟩ := H
            replace H : (if t107 = true then (some 9) else (aG.l0 k1 l0 l0 (l0.length : Int) (wrap64 (x10_1 + 1)))) = some r := H
            have A18 := aa.mk A180
            clear A180
            by_cases c19 : t107 = true
            ·subst c19
             have H1 : (some 9) = some r := by rw [if_pos rfl] at H; exact H
             clear H
             have H := H1
             clear H1
             obtain rfl := Option.some.inj H
             have p101 : 0 ≤ (x10_1 : Int) := of_decide_eq_true (by first | (with_reducible assumption) | assumption)
             have q101 : x10_1 < (l0.length : Int) := of_decide_eq_true (by first | (with_reducible assumption) | assumption)
             obtain ⟨ad101, e101, hx101_0, hx101_1, hx101_2⟩ := dS HR0.out x10_1 p101 q101
             cases e101
             replace hx101_0 := (HB.out.cell (World.block_lt_of_cell? w _ hx101_0)).trans hx101_0
             replace hx101_1 := (HB.out.cell (World.block_lt_of_cell? w _ hx101_1)).trans hx101_1
             replace hx101_2 := (HB.out.cell (World.block_lt_of_cell? w _ hx101_2)).trans hx101_2
             replace p101 := eq_true p101
             replace q101 := eq_true q101
             try go_wp2_with (first | ((with_reducible refine bf (N := 4) rfl ?_); refine aY ?hg (N := 4) ?hd (cs := #[.int .i64 0, .int .i64 0, .int .i64 0]) (t := 151) ?hr ?_; (case hd => rfl); (case hg => rfl); (case hr => first | (go_simp; done) | (go_simp; rfl)); intro gb102 hg w20 hbox hb; have n0_ := aa.mk (az (by repeat (first | (with_reducible first | exact HB.out | apply ah | apply af | apply ag) | exact HB.out)) hb); have n1_ := aa.mk (hbox); have n2_ := aa.mk ((by rw [hg]; exact (ay (by repeat (first | (with_reducible first | exact HB.out | apply ah | apply af | apply ag) | exact HB.out))) : w.heap.size ≤ gb102)); have n3_ := aa.mk ((by rw [hg]; exact (ay (by repeat (first | (with_reducible first | exact HB.out | apply ah | apply af | apply ag) | exact HB.out))) : w.heap.size ≤ gb102)); clear HB; have HB := n0_; have BK102 := n1_; have GW102 := n2_; have GE102 := n3_; clear n0_ n1_ n2_ n3_; clear hb hbox hg; have hcz21_0 : w20.cell? ⟨gb102, 0, none⟩ = some (.int .i64 0) := (ae BK102.out 0).trans rfl; have hcz21_1 : w20.cell? ⟨gb102, 1, none⟩ = some (.int .i64 0) := (ae BK102.out 1).trans rfl; have hcz21_2 : w20.cell? ⟨gb102, 2, none⟩ = some (.int .i64 0) := (ae BK102.out 2).trans rfl; have hfz21_0 := ai BK102.out 0; have hfz21_1 := ai BK102.out 1; have hfz21_2 := ai BK102.out 2))
             have n0_ : aa ((((w20.setCell ⟨gb102, 0, none⟩ (.int .i64 ((ax l0 x10_1).f0))).setCell ⟨gb102, 1, none⟩ (.int .i64 ((ax l0 x10_1).f1))).setCell ⟨gb102, 2, none⟩ (.int .i64 ((ax l0 x10_1).f2))).heap[gb102]? = some (.cells #[.int .i64 ((ax l0 x10_1).f0), .int .i64 ((ax l0 x10_1).f1), .int .i64 ((ax l0 x10_1).f2)] 151 (0, 0))) := ⟨by (with_reducible repeat (first | refine ak ?_ _ | refine au ?_ | refine aj ?_ _)); refine aW (cs := #[.int .i64 ((ax l0 x10_1).f0), .int .i64 ((ax l0 x10_1).f1), .int .i64 0]) ?_ 2 _ rfl; (with_reducible repeat (first | refine ak ?_ _ | refine au ?_ | refine aj ?_ _)); refine aW (cs := #[.int .i64 ((ax l0 x10_1).f0), .int .i64 0, .int .i64 0]) ?_ 1 _ rfl; (with_reducible repeat (first | refine ak ?_ _ | refine au ?_ | refine aj ?_ _)); refine aW (cs := #[.int .i64 0, .int .i64 0, .int .i64 0]) ?_ 0 _ rfl; (with_reducible repeat (first | refine ak ?_ _ | refine au ?_ | refine aj ?_ _)); exact BK102.out⟩
             have n1_ : aa (Below w.heap.size w (((w20.setCell ⟨gb102, 0, none⟩ (.int .i64 ((ax l0 x10_1).f0))).setCell ⟨gb102, 1, none⟩ (.int .i64 ((ax l0 x10_1).f1))).setCell ⟨gb102, 2, none⟩ (.int .i64 ((ax l0 x10_1).f2)))) := ⟨by repeat (first | (with_reducible first | exact HB.out | apply ah | apply af | apply ag | refine av ?_ GE102.out) | exact HB.out)⟩
             (try clear BK102)
             (try clear HB)
             generalize (((w20.setCell ⟨gb102, 0, none⟩ (.int .i64 ((ax l0 x10_1).f0))).setCell ⟨gb102, 1, none⟩ (.int .i64 ((ax l0 x10_1).f1))).setCell ⟨gb102, 2, none⟩ (.int .i64 ((ax l0 x10_1).f2))) = w22 at n0_ n1_ ⊢
             have BK102 := n0_
             have HB := n1_
             clear n0_ n1_
             have n0_ := aa.mk (au BK102.out)
             have n1_ := aa.mk (ag HB.out)
             clear BK102
             clear HB
             have BK102 := n0_
             have HB := n1_
             clear n0_ n1_
             have p104 : 0 ≤ ((ji9) : Int) := of_decide_eq_true (by first | (with_reducible assumption) | assumption)
             have q104 : (ji9) < (l0.length : Int) := of_decide_eq_true (by first | (with_reducible assumption) | assumption)
             obtain ⟨ad104, e104, hx104_0, hx104_1, hx104_2⟩ := dS HR0.out (ji9) p104 q104
             have hw104_2 := hx104_2
             have hw104_1 := hx104_1
             have hw104_0 := hx104_0
             obtain rfl : ad101 = ad104 := (by injection e104)
             replace hx104_0 := (HB.out.cell (World.block_lt_of_cell? w _ hx104_0)).trans hx104_0
             replace hx104_1 := (HB.out.cell (World.block_lt_of_cell? w _ hx104_1)).trans hx104_1
             replace hx104_2 := (HB.out.cell (World.block_lt_of_cell? w _ hx104_2)).trans hx104_2
             replace p104 := eq_true p104
             replace q104 := eq_true q104
             have p105 : 0 ≤ ((ji9) : Int) := of_decide_eq_true (by first | (with_reducible assumption) | assumption)
             have q105 : (ji9) < (l0.length : Int) := of_decide_eq_true (by first | (with_reducible assumption) | assumption)
             obtain ⟨ad105, e105, hx105_0, hx105_1, hx105_2⟩ := dS HR0.out (ji9) p105 q105
             have hw105_2 := hx105_2
             have hw105_1 := hx105_1
             have hw105_0 := hx105_0
             obtain rfl : ad101 = ad105 := (by injection e105)
             replace hx105_0 := (HB.out.cell (World.block_lt_of_cell? w _ hx105_0)).trans hx105_0
             replace hx105_1 := (HB.out.cell (World.block_lt_of_cell? w _ hx105_1)).trans hx105_1
             replace hx105_2 := (HB.out.cell (World.block_lt_of_cell? w _ hx105_2)).trans hx105_2
             replace p105 := eq_true p105
             replace q105 := eq_true q105
             have p106 : 0 ≤ ((ji9) : Int) := of_decide_eq_true (by first | (with_reducible assumption) | assumption)
             have q106 : (ji9) < (l0.length : Int) := of_decide_eq_true (by first | (with_reducible assumption) | assumption)
             obtain ⟨ad106, e106, hx106_0, hx106_1, hx106_2⟩ := dS HR0.out (ji9) p106 q106
             have hw106_2 := hx106_2
             have hw106_1 := hx106_1
             have hw106_0 := hx106_0
             obtain rfl : ad101 = ad106 := (by injection e106)
             replace hx106_0 := (HB.out.cell (World.block_lt_of_cell? w _ hx106_0)).trans hx106_0
             replace hx106_1 := (HB.out.cell (World.block_lt_of_cell? w _ hx106_1)).trans hx106_1
             replace hx106_2 := (HB.out.cell (World.block_lt_of_cell? w _ hx106_2)).trans hx106_2
             replace p106 := eq_true p106
             replace q106 := eq_true q106
             refine dG (n := 34) (S := fun w' => w'.cell? ⟨gb102, 0, none⟩ = some (.int .i64 ((ax l0 x10_1).f0)) ∧ w'.cell? ⟨gb102, 1, none⟩ = some (.int .i64 ((ax l0 x10_1).f1)) ∧ w'.cell? ⟨gb102, 2, none⟩ = some (.int .i64 ((ax l0 x10_1).f2)) ∧ w'.cell? (ad101.add (((ji9)).toNat * 3)) = some (.int .i64 ((ax l0 (ji9)).f0)) ∧ w'.cell? ⟨(ad101.add (((ji9)).toNat * 3)).block, (ad101.add (((ji9)).toNat * 3)).off + 1, none⟩ = some (.int .i64 ((ax l0 (ji9)).f1)) ∧ w'.cell? ⟨(ad101.add (((ji9)).toNat * 3)).block, (ad101.add (((ji9)).toNat * 3)).off + 2, none⟩ = some (.int .i64 ((ax l0 (ji9)).f2)) ∧ w'.cell? (ad101.add (((ji9)).toNat * 3)) = some (.int .i64 ((ax l0 (ji9)).f0)) ∧ w'.cell? ⟨(ad101.add (((ji9)).toNat * 3)).block, (ad101.add (((ji9)).toNat * 3)).off + 1, none⟩ = some (.int .i64 ((ax l0 (ji9)).f1)) ∧ w'.cell? ⟨(ad101.add (((ji9)).toNat * 3)).block, (ad101.add (((ji9)).toNat * 3)).off + 2, none⟩ = some (.int .i64 ((ax l0 (ji9)).f2)) ∧ w'.cell? (ad101.add (((ji9)).toNat * 3)) = some (.int .i64 ((ax l0 (ji9)).f0)) ∧ w'.cell? ⟨(ad101.add (((ji9)).toNat * 3)).block, (ad101.add (((ji9)).toNat * 3)).off + 1, none⟩ = some (.int .i64 ((ax l0 (ji9)).f1)) ∧ w'.cell? ⟨(ad101.add (((ji9)).toNat * 3)).block, (ad101.add (((ji9)).toNat * 3)).off + 2, none⟩ = some (.int .i64 ((ax l0 (ji9)).f2))) (ds := []) #[yF,yF,yF,yF,yF,yF,yF,yF,yF,yF,yF,yF,yF,yF,yF,yF,yF,yF,yF,yF,yF,yF,yF,yF,yF,yF,yF,yF,yF,yF,yF,yF,yF,yF] (by kernel_rfl) rfl rfl ⟨(ae BK102.out 0).trans rfl, (ae BK102.out 1).trans rfl, (ae BK102.out 2).trans rfl, ((HB.out.cell (World.block_lt_of_cell? w _ hw104_0)).trans hw104_0), ((HB.out.cell (World.block_lt_of_cell? w _ hw104_1)).trans hw104_1), ((HB.out.cell (World.block_lt_of_cell? w _ hw104_2)).trans hw104_2), ((HB.out.cell (World.block_lt_of_cell? w _ hw105_0)).trans hw105_0), ((HB.out.cell (World.block_lt_of_cell? w _ hw105_1)).trans hw105_1), ((HB.out.cell (World.block_lt_of_cell? w _ hw105_2)).trans hw105_2), ((HB.out.cell (World.block_lt_of_cell? w _ hw106_0)).trans hw106_0), ((HB.out.cell (World.block_lt_of_cell? w _ hw106_1)).trans hw106_1), ((HB.out.cell (World.block_lt_of_cell? w _ hw106_2)).trans hw106_2)⟩ (fun hHeld => ?_); refine bG aG.tab6 aG.vJ (fun HT_ HW_ => ?_)
             generalize w22.drew = w23 at BK102 HB hx104_0 hx104_1 hx104_2 hx105_0 hx105_1 hx105_2 hx106_0 hx106_1 hx106_2 hHeld ⊢
             refine tk_ 0 15 34 1 ?_
             refine on_ 1 16 34 3 (fun K hK => ?_)
             refine dO Tryz.func150 (by kernel_rfl) rfl #[.agg #[.int .i64 ((ax l0 x10_1).f0), .int .i64 ((ax l0 x10_1).f1), .int .i64 ((ax l0 x10_1).f2)]] (by rfl) rfl rfl (by (try simp only [List.map_toArray, List.map_cons, List.map_nil]); first | done | rfl | (simp only [List.length_drop, List.length_take]; rfl)) ?_
             with_reducible refine (dz.calls ((ax l0 x10_1).f0) ((ax l0 x10_1).f1) ((ax l0 x10_1).f2) true _ A6.out).mono ?_
             rintro e w24 ⟨rfl, hb⟩
             refine ⟨_, rfl, ?_⟩
             have n0_ := aa.mk (aK (g := gb102) (o := .cells #[.int .i64 ((ax l0 x10_1).f0), .int .i64 ((ax l0 x10_1).f1), .int .i64 ((ax l0 x10_1).f2)] 151 (0, 0)) (by (with_reducible repeat (first | refine ak ?_ _ | refine au ?_ | refine aj ?_ _)); exact BK102.out) hb)
             have n1_ := aa.mk (az (by repeat (first | (with_reducible first | exact HB.out | apply ah | apply af | apply ag | refine av ?_ GE102.out) | exact HB.out)) hb)
             clear BK102
             clear HB
             have BK102 := n0_
             have HB := n1_
             clear n0_ n1_
             (try clear hb)
             (try clear hb2)
             (try clear hk)
             (try clear hi)
             refine hK.out _ _ ⟨(ae BK102.out 0).trans rfl, (ae BK102.out 1).trans rfl, (ae BK102.out 2).trans rfl, ((HB.out.cell (World.block_lt_of_cell? w _ hw104_0)).trans hw104_0), ((HB.out.cell (World.block_lt_of_cell? w _ hw104_1)).trans hw104_1), ((HB.out.cell (World.block_lt_of_cell? w _ hw104_2)).trans hw104_2), ((HB.out.cell (World.block_lt_of_cell? w _ hw105_0)).trans hw105_0), ((HB.out.cell (World.block_lt_of_cell? w _ hw105_1)).trans hw105_1), ((HB.out.cell (World.block_lt_of_cell? w _ hw105_2)).trans hw105_2), ((HB.out.cell (World.block_lt_of_cell? w _ hw106_0)).trans hw106_0), ((HB.out.cell (World.block_lt_of_cell? w _ hw106_1)).trans hw106_1), ((HB.out.cell (World.block_lt_of_cell? w _ hw106_2)).trans hw106_2)⟩ (fun hHeld => ?_)
             clear hK K
             refine nm_ 16 ?_
             refine pu_ 2 17 34 7 ?_
             refine pu_ 3 18 34 15 ?_
             refine pu_ 4 19 34 31 ?_
             refine pu_ 5 20 34 63 ?_
             refine pu_ 6 21 34 127 ?_
             refine pu_ 7 22 34 255 ?_
             refine pu_ 8 23 34 511 ?_
             refine pu_ 9 24 34 1023 ?_
             refine pu_ 10 25 34 2047 ?_
             refine pu_ 11 26 34 4095 ?_
             refine pu_ 13 28 34 12287 ?_
             refine pu_ 14 29 34 28671 ?_
             refine pu_ 15 30 34 61439 ?_
             refine pu_ 16 31 34 126975 ?_
             refine pu_ 17 32 34 258047 ?_
             refine pu_ 20 35 34 1306623 ?_
             refine tk_ 12 27 34 1310719 ?_
             refine tk_ 18 33 34 1572863 ?_
             refine pu_ 19 34 34 2097151 ?_
             refine tk_ 21 36 34 4194303 ?_
             refine pu_ 22 37 34 8388607 ?_
             refine pu_ 23 38 34 16777215 ?_
             refine pu_ 24 39 34 33554431 ?_
             refine pu_ 25 40 34 67108863 ?_
             refine pu_ 26 41 34 134217727 ?_
             refine pu_ 27 42 34 268435455 ?_
             refine tk_ 28 43 34 536870911 ?_
             refine tk_ 29 44 34 1073741823 ?_
             refine on_ 30 45 34 2147483647 (fun K hK => ?_)
             refine dO Tryz.func151 (by kernel_rfl) rfl #[.agg #[.int .i64 ((ax l0 (ji9)).f0), .int .i64 ((ax l0 (ji9)).f1), .int .i64 ((ax l0 (ji9)).f2)], .agg #[.int .i64 ((ax l0 x10_1).f0), .int .i64 ((ax l0 x10_1).f1), .int .i64 ((ax l0 x10_1).f2)]] (by rfl) rfl rfl (by (try simp only [List.map_toArray, List.map_cons, List.map_nil]); first | done | (simp only [hji9]; rfl) | rfl | (simp only [List.length_drop, List.length_take]; rfl)) ?_
             with_reducible refine (bL.calls ((ax l0 (ji9)).f0) ((ax l0 (ji9)).f1) ((ax l0 (ji9)).f2) ((ax l0 x10_1).f0) ((ax l0 x10_1).f1) ((ax l0 x10_1).f2) true _ A18.out).mono ?_
             rintro e w25 ⟨rfl, hb⟩
             refine ⟨_, rfl, ?_⟩
             have n0_ := aa.mk (aK (g := gb102) (o := .cells #[.int .i64 ((ax l0 x10_1).f0), .int .i64 ((ax l0 x10_1).f1), .int .i64 ((ax l0 x10_1).f2)] 151 (0, 0)) (by (with_reducible repeat (first | refine ak ?_ _ | refine au ?_ | refine aj ?_ _)); exact BK102.out) hb)
             have n1_ := aa.mk (az (by repeat (first | (with_reducible first | exact HB.out | apply ah | apply af | apply ag | refine av ?_ GE102.out) | exact HB.out)) hb)
             clear BK102
             clear HB
             have BK102 := n0_
             have HB := n1_
             clear n0_ n1_
             (try clear hb)
             (try clear hb2)
             (try clear hk)
             (try clear hi)
             refine hK.out _ _ ⟨(ae BK102.out 0).trans rfl, (ae BK102.out 1).trans rfl, (ae BK102.out 2).trans rfl, ((HB.out.cell (World.block_lt_of_cell? w _ hw104_0)).trans hw104_0), ((HB.out.cell (World.block_lt_of_cell? w _ hw104_1)).trans hw104_1), ((HB.out.cell (World.block_lt_of_cell? w _ hw104_2)).trans hw104_2), ((HB.out.cell (World.block_lt_of_cell? w _ hw105_0)).trans hw105_0), ((HB.out.cell (World.block_lt_of_cell? w _ hw105_1)).trans hw105_1), ((HB.out.cell (World.block_lt_of_cell? w _ hw105_2)).trans hw105_2), ((HB.out.cell (World.block_lt_of_cell? w _ hw106_0)).trans hw106_0), ((HB.out.cell (World.block_lt_of_cell? w _ hw106_1)).trans hw106_1), ((HB.out.cell (World.block_lt_of_cell? w _ hw106_2)).trans hw106_2)⟩ (fun hHeld => ?_)
             clear hK K
             refine nm_ 45 ?_
             refine pu_ 31 46 34 4294967295 ?_
             refine pu_ 32 47 34 8589934591 ?_
             refine pu_ 33 48 34 17179869183 ?_
             refine eQ (bU HT_.out (by kernel_rfl)) ?_
             try go_wp2
             go_ret
             exact ⟨by first | rfl | (simp [aD, aC] <;> rfl) | (simp only [← hji9]; first | rfl | (simp [aD, aC] <;> rfl)) | (simp [*, aD, aC] <;> rfl), by repeat (first | (with_reducible first | exact HB.out | apply ah | apply af | apply ag | refine av ?_ GE102.out) | exact HB.out)⟩
            ·replace c19 := Bool.eq_false_iff.mpr c19
             subst c19
             have H1 : (aG.l0 k1 l0 l0 (l0.length : Int) (wrap64 (x10_1 + 1))) = some r := by rw [if_neg (show ¬ (false = true) by decide)] at H; exact H
             clear H
             have H := H1
             clear H1
             have H' := aa.mk H
             clear H
             have p101 : 0 ≤ (x10_1 : Int) := of_decide_eq_true (by first | (with_reducible assumption) | assumption)
             have q101 : x10_1 < (l0.length : Int) := of_decide_eq_true (by first | (with_reducible assumption) | assumption)
             obtain ⟨ad101, e101, hx101_0, hx101_1, hx101_2⟩ := dS HR0.out x10_1 p101 q101
             cases e101
             replace hx101_0 := (HB.out.cell (World.block_lt_of_cell? w _ hx101_0)).trans hx101_0
             replace hx101_1 := (HB.out.cell (World.block_lt_of_cell? w _ hx101_1)).trans hx101_1
             replace hx101_2 := (HB.out.cell (World.block_lt_of_cell? w _ hx101_2)).trans hx101_2
             replace p101 := eq_true p101
             replace q101 := eq_true q101
             try go_wp2_with (first | ((with_reducible refine bf (N := 4) rfl ?_); refine aY ?hg (N := 4) ?hd (cs := #[.int .i64 0, .int .i64 0, .int .i64 0]) (t := 151) ?hr ?_; (case hd => rfl); (case hg => rfl); (case hr => first | (go_simp; done) | (go_simp; rfl)); intro gb102 hg w26 hbox hb; have n0_ := aa.mk (az (by repeat (first | (with_reducible first | exact HB.out | apply ah | apply af | apply ag) | exact HB.out)) hb); have n1_ := aa.mk (hbox); have n2_ := aa.mk ((by rw [hg]; exact (ay (by repeat (first | (with_reducible first | exact HB.out | apply ah | apply af | apply ag) | exact HB.out))) : w.heap.size ≤ gb102)); have n3_ := aa.mk ((by rw [hg]; exact (ay (by repeat (first | (with_reducible first | exact HB.out | apply ah | apply af | apply ag) | exact HB.out))) : w.heap.size ≤ gb102)); clear HB; have HB := n0_; have BK102 := n1_; have GW102 := n2_; have GE102 := n3_; clear n0_ n1_ n2_ n3_; clear hb hbox hg; have hcz27_0 : w26.cell? ⟨gb102, 0, none⟩ = some (.int .i64 0) := (ae BK102.out 0).trans rfl; have hcz27_1 : w26.cell? ⟨gb102, 1, none⟩ = some (.int .i64 0) := (ae BK102.out 1).trans rfl; have hcz27_2 : w26.cell? ⟨gb102, 2, none⟩ = some (.int .i64 0) := (ae BK102.out 2).trans rfl; have hfz27_0 := ai BK102.out 0; have hfz27_1 := ai BK102.out 1; have hfz27_2 := ai BK102.out 2))
             have n0_ : aa ((((w26.setCell ⟨gb102, 0, none⟩ (.int .i64 ((ax l0 x10_1).f0))).setCell ⟨gb102, 1, none⟩ (.int .i64 ((ax l0 x10_1).f1))).setCell ⟨gb102, 2, none⟩ (.int .i64 ((ax l0 x10_1).f2))).heap[gb102]? = some (.cells #[.int .i64 ((ax l0 x10_1).f0), .int .i64 ((ax l0 x10_1).f1), .int .i64 ((ax l0 x10_1).f2)] 151 (0, 0))) := ⟨by (with_reducible repeat (first | refine ak ?_ _ | refine au ?_ | refine aj ?_ _)); refine aW (cs := #[.int .i64 ((ax l0 x10_1).f0), .int .i64 ((ax l0 x10_1).f1), .int .i64 0]) ?_ 2 _ rfl; (with_reducible repeat (first | refine ak ?_ _ | refine au ?_ | refine aj ?_ _)); refine aW (cs := #[.int .i64 ((ax l0 x10_1).f0), .int .i64 0, .int .i64 0]) ?_ 1 _ rfl; (with_reducible repeat (first | refine ak ?_ _ | refine au ?_ | refine aj ?_ _)); refine aW (cs := #[.int .i64 0, .int .i64 0, .int .i64 0]) ?_ 0 _ rfl; (with_reducible repeat (first | refine ak ?_ _ | refine au ?_ | refine aj ?_ _)); exact BK102.out⟩
             have n1_ : aa (Below w.heap.size w (((w26.setCell ⟨gb102, 0, none⟩ (.int .i64 ((ax l0 x10_1).f0))).setCell ⟨gb102, 1, none⟩ (.int .i64 ((ax l0 x10_1).f1))).setCell ⟨gb102, 2, none⟩ (.int .i64 ((ax l0 x10_1).f2)))) := ⟨by repeat (first | (with_reducible first | exact HB.out | apply ah | apply af | apply ag | refine av ?_ GE102.out) | exact HB.out)⟩
             (try clear BK102)
             (try clear HB)
             generalize (((w26.setCell ⟨gb102, 0, none⟩ (.int .i64 ((ax l0 x10_1).f0))).setCell ⟨gb102, 1, none⟩ (.int .i64 ((ax l0 x10_1).f1))).setCell ⟨gb102, 2, none⟩ (.int .i64 ((ax l0 x10_1).f2))) = w28 at n0_ n1_ ⊢
             have BK102 := n0_
             have HB := n1_
             clear n0_ n1_
             have n0_ := aa.mk (au BK102.out)
             have n1_ := aa.mk (ag HB.out)
             clear BK102
             clear HB
             have BK102 := n0_
             have HB := n1_
             clear n0_ n1_
             have p104 : 0 ≤ ((ji9) : Int) := of_decide_eq_true (by first | (with_reducible assumption) | assumption)
             have q104 : (ji9) < (l0.length : Int) := of_decide_eq_true (by first | (with_reducible assumption) | assumption)
             obtain ⟨ad104, e104, hx104_0, hx104_1, hx104_2⟩ := dS HR0.out (ji9) p104 q104
             have hw104_2 := hx104_2
             have hw104_1 := hx104_1
             have hw104_0 := hx104_0
             obtain rfl : ad101 = ad104 := (by injection e104)
             replace hx104_0 := (HB.out.cell (World.block_lt_of_cell? w _ hx104_0)).trans hx104_0
             replace hx104_1 := (HB.out.cell (World.block_lt_of_cell? w _ hx104_1)).trans hx104_1
             replace hx104_2 := (HB.out.cell (World.block_lt_of_cell? w _ hx104_2)).trans hx104_2
             replace p104 := eq_true p104
             replace q104 := eq_true q104
             have p105 : 0 ≤ ((ji9) : Int) := of_decide_eq_true (by first | (with_reducible assumption) | assumption)
             have q105 : (ji9) < (l0.length : Int) := of_decide_eq_true (by first | (with_reducible assumption) | assumption)
             obtain ⟨ad105, e105, hx105_0, hx105_1, hx105_2⟩ := dS HR0.out (ji9) p105 q105
             have hw105_2 := hx105_2
             have hw105_1 := hx105_1
             have hw105_0 := hx105_0
             obtain rfl : ad101 = ad105 := (by injection e105)
             replace hx105_0 := (HB.out.cell (World.block_lt_of_cell? w _ hx105_0)).trans hx105_0
             replace hx105_1 := (HB.out.cell (World.block_lt_of_cell? w _ hx105_1)).trans hx105_1
             replace hx105_2 := (HB.out.cell (World.block_lt_of_cell? w _ hx105_2)).trans hx105_2
             replace p105 := eq_true p105
             replace q105 := eq_true q105
             have p106 : 0 ≤ ((ji9) : Int) := of_decide_eq_true (by first | (with_reducible assumption) | assumption)
             have q106 : (ji9) < (l0.length : Int) := of_decide_eq_true (by first | (with_reducible assumption) | assumption)
             obtain ⟨ad106, e106, hx106_0, hx106_1, hx106_2⟩ := dS HR0.out (ji9) p106 q106
             have hw106_2 := hx106_2
             have hw106_1 := hx106_1
             have hw106_0 := hx106_0
             obtain rfl : ad101 = ad106 := (by injection e106)
             replace hx106_0 := (HB.out.cell (World.block_lt_of_cell? w _ hx106_0)).trans hx106_0
             replace hx106_1 := (HB.out.cell (World.block_lt_of_cell? w _ hx106_1)).trans hx106_1
             replace hx106_2 := (HB.out.cell (World.block_lt_of_cell? w _ hx106_2)).trans hx106_2
             replace p106 := eq_true p106
             replace q106 := eq_true q106
             refine dG (n := 34) (S := fun w' => w'.cell? ⟨gb102, 0, none⟩ = some (.int .i64 ((ax l0 x10_1).f0)) ∧ w'.cell? ⟨gb102, 1, none⟩ = some (.int .i64 ((ax l0 x10_1).f1)) ∧ w'.cell? ⟨gb102, 2, none⟩ = some (.int .i64 ((ax l0 x10_1).f2)) ∧ w'.cell? (ad101.add (((ji9)).toNat * 3)) = some (.int .i64 ((ax l0 (ji9)).f0)) ∧ w'.cell? ⟨(ad101.add (((ji9)).toNat * 3)).block, (ad101.add (((ji9)).toNat * 3)).off + 1, none⟩ = some (.int .i64 ((ax l0 (ji9)).f1)) ∧ w'.cell? ⟨(ad101.add (((ji9)).toNat * 3)).block, (ad101.add (((ji9)).toNat * 3)).off + 2, none⟩ = some (.int .i64 ((ax l0 (ji9)).f2)) ∧ w'.cell? (ad101.add (((ji9)).toNat * 3)) = some (.int .i64 ((ax l0 (ji9)).f0)) ∧ w'.cell? ⟨(ad101.add (((ji9)).toNat * 3)).block, (ad101.add (((ji9)).toNat * 3)).off + 1, none⟩ = some (.int .i64 ((ax l0 (ji9)).f1)) ∧ w'.cell? ⟨(ad101.add (((ji9)).toNat * 3)).block, (ad101.add (((ji9)).toNat * 3)).off + 2, none⟩ = some (.int .i64 ((ax l0 (ji9)).f2)) ∧ w'.cell? (ad101.add (((ji9)).toNat * 3)) = some (.int .i64 ((ax l0 (ji9)).f0)) ∧ w'.cell? ⟨(ad101.add (((ji9)).toNat * 3)).block, (ad101.add (((ji9)).toNat * 3)).off + 1, none⟩ = some (.int .i64 ((ax l0 (ji9)).f1)) ∧ w'.cell? ⟨(ad101.add (((ji9)).toNat * 3)).block, (ad101.add (((ji9)).toNat * 3)).off + 2, none⟩ = some (.int .i64 ((ax l0 (ji9)).f2))) (ds := []) #[yF,yF,yF,yF,yF,yF,yF,yF,yF,yF,yF,yF,yF,yF,yF,yF,yF,yF,yF,yF,yF,yF,yF,yF,yF,yF,yF,yF,yF,yF,yF,yF,yF,yF] (by kernel_rfl) rfl rfl ⟨(ae BK102.out 0).trans rfl, (ae BK102.out 1).trans rfl, (ae BK102.out 2).trans rfl, ((HB.out.cell (World.block_lt_of_cell? w _ hw104_0)).trans hw104_0), ((HB.out.cell (World.block_lt_of_cell? w _ hw104_1)).trans hw104_1), ((HB.out.cell (World.block_lt_of_cell? w _ hw104_2)).trans hw104_2), ((HB.out.cell (World.block_lt_of_cell? w _ hw105_0)).trans hw105_0), ((HB.out.cell (World.block_lt_of_cell? w _ hw105_1)).trans hw105_1), ((HB.out.cell (World.block_lt_of_cell? w _ hw105_2)).trans hw105_2), ((HB.out.cell (World.block_lt_of_cell? w _ hw106_0)).trans hw106_0), ((HB.out.cell (World.block_lt_of_cell? w _ hw106_1)).trans hw106_1), ((HB.out.cell (World.block_lt_of_cell? w _ hw106_2)).trans hw106_2)⟩ (fun hHeld => ?_); refine bG aG.tab6 aG.vJ (fun HT_ HW_ => ?_)
             generalize w28.drew = w29 at BK102 HB hx104_0 hx104_1 hx104_2 hx105_0 hx105_1 hx105_2 hx106_0 hx106_1 hx106_2 hHeld ⊢
             refine tk_ 0 15 34 1 ?_
             refine on_ 1 16 34 3 (fun K hK => ?_)
             refine dO Tryz.func150 (by kernel_rfl) rfl #[.agg #[.int .i64 ((ax l0 x10_1).f0), .int .i64 ((ax l0 x10_1).f1), .int .i64 ((ax l0 x10_1).f2)]] (by rfl) rfl rfl (by (try simp only [List.map_toArray, List.map_cons, List.map_nil]); first | done | rfl | (simp only [List.length_drop, List.length_take]; rfl)) ?_
             with_reducible refine (dz.calls ((ax l0 x10_1).f0) ((ax l0 x10_1).f1) ((ax l0 x10_1).f2) true _ A6.out).mono ?_
             rintro e w30 ⟨rfl, hb⟩
             refine ⟨_, rfl, ?_⟩
             have n0_ := aa.mk (aK (g := gb102) (o := .cells #[.int .i64 ((ax l0 x10_1).f0), .int .i64 ((ax l0 x10_1).f1), .int .i64 ((ax l0 x10_1).f2)] 151 (0, 0)) (by (with_reducible repeat (first | refine ak ?_ _ | refine au ?_ | refine aj ?_ _)); exact BK102.out) hb)
             have n1_ := aa.mk (az (by repeat (first | (with_reducible first | exact HB.out | apply ah | apply af | apply ag | refine av ?_ GE102.out) | exact HB.out)) hb)
             clear BK102
             clear HB
             have BK102 := n0_
             have HB := n1_
             clear n0_ n1_
             (try clear hb)
             (try clear hb2)
             (try clear hk)
             (try clear hi)
             refine hK.out _ _ ⟨(ae BK102.out 0).trans rfl, (ae BK102.out 1).trans rfl, (ae BK102.out 2).trans rfl, ((HB.out.cell (World.block_lt_of_cell? w _ hw104_0)).trans hw104_0), ((HB.out.cell (World.block_lt_of_cell? w _ hw104_1)).trans hw104_1), ((HB.out.cell (World.block_lt_of_cell? w _ hw104_2)).trans hw104_2), ((HB.out.cell (World.block_lt_of_cell? w _ hw105_0)).trans hw105_0), ((HB.out.cell (World.block_lt_of_cell? w _ hw105_1)).trans hw105_1), ((HB.out.cell (World.block_lt_of_cell? w _ hw105_2)).trans hw105_2), ((HB.out.cell (World.block_lt_of_cell? w _ hw106_0)).trans hw106_0), ((HB.out.cell (World.block_lt_of_cell? w _ hw106_1)).trans hw106_1), ((HB.out.cell (World.block_lt_of_cell? w _ hw106_2)).trans hw106_2)⟩ (fun hHeld => ?_)
             clear hK K
             refine nm_ 16 ?_
             refine pu_ 2 17 34 7 ?_
             refine pu_ 3 18 34 15 ?_
             refine pu_ 4 19 34 31 ?_
             refine pu_ 5 20 34 63 ?_
             refine pu_ 6 21 34 127 ?_
             refine pu_ 7 22 34 255 ?_
             refine pu_ 8 23 34 511 ?_
             refine pu_ 9 24 34 1023 ?_
             refine pu_ 10 25 34 2047 ?_
             refine pu_ 11 26 34 4095 ?_
             refine pu_ 13 28 34 12287 ?_
             refine pu_ 14 29 34 28671 ?_
             refine pu_ 15 30 34 61439 ?_
             refine pu_ 16 31 34 126975 ?_
             refine pu_ 17 32 34 258047 ?_
             refine pu_ 20 35 34 1306623 ?_
             refine tk_ 12 27 34 1310719 ?_
             refine tk_ 18 33 34 1572863 ?_
             refine pu_ 19 34 34 2097151 ?_
             refine tk_ 21 36 34 4194303 ?_
             refine pu_ 22 37 34 8388607 ?_
             refine pu_ 23 38 34 16777215 ?_
             refine pu_ 24 39 34 33554431 ?_
             refine pu_ 25 40 34 67108863 ?_
             refine pu_ 26 41 34 134217727 ?_
             refine pu_ 27 42 34 268435455 ?_
             refine tk_ 28 43 34 536870911 ?_
             refine tk_ 29 44 34 1073741823 ?_
             refine on_ 30 45 34 2147483647 (fun K hK => ?_)
             refine dO Tryz.func151 (by kernel_rfl) rfl #[.agg #[.int .i64 ((ax l0 (ji9)).f0), .int .i64 ((ax l0 (ji9)).f1), .int .i64 ((ax l0 (ji9)).f2)], .agg #[.int .i64 ((ax l0 x10_1).f0), .int .i64 ((ax l0 x10_1).f1), .int .i64 ((ax l0 x10_1).f2)]] (by rfl) rfl rfl (by (try simp only [List.map_toArray, List.map_cons, List.map_nil]); first | done | (simp only [hji9]; rfl) | rfl | (simp only [List.length_drop, List.length_take]; rfl)) ?_
             with_reducible refine (bL.calls ((ax l0 (ji9)).f0) ((ax l0 (ji9)).f1) ((ax l0 (ji9)).f2) ((ax l0 x10_1).f0) ((ax l0 x10_1).f1) ((ax l0 x10_1).f2) false _ A18.out).mono ?_
             rintro e w31 ⟨rfl, hb⟩
             refine ⟨_, rfl, ?_⟩
             have n0_ := aa.mk (aK (g := gb102) (o := .cells #[.int .i64 ((ax l0 x10_1).f0), .int .i64 ((ax l0 x10_1).f1), .int .i64 ((ax l0 x10_1).f2)] 151 (0, 0)) (by (with_reducible repeat (first | refine ak ?_ _ | refine au ?_ | refine aj ?_ _)); exact BK102.out) hb)
             have n1_ := aa.mk (az (by repeat (first | (with_reducible first | exact HB.out | apply ah | apply af | apply ag | refine av ?_ GE102.out) | exact HB.out)) hb)
             clear BK102
             clear HB
             have BK102 := n0_
             have HB := n1_
             clear n0_ n1_
             (try clear hb)
             (try clear hb2)
             (try clear hk)
             (try clear hi)
             refine hK.out _ _ ⟨(ae BK102.out 0).trans rfl, (ae BK102.out 1).trans rfl, (ae BK102.out 2).trans rfl, ((HB.out.cell (World.block_lt_of_cell? w _ hw104_0)).trans hw104_0), ((HB.out.cell (World.block_lt_of_cell? w _ hw104_1)).trans hw104_1), ((HB.out.cell (World.block_lt_of_cell? w _ hw104_2)).trans hw104_2), ((HB.out.cell (World.block_lt_of_cell? w _ hw105_0)).trans hw105_0), ((HB.out.cell (World.block_lt_of_cell? w _ hw105_1)).trans hw105_1), ((HB.out.cell (World.block_lt_of_cell? w _ hw105_2)).trans hw105_2), ((HB.out.cell (World.block_lt_of_cell? w _ hw106_0)).trans hw106_0), ((HB.out.cell (World.block_lt_of_cell? w _ hw106_1)).trans hw106_1), ((HB.out.cell (World.block_lt_of_cell? w _ hw106_2)).trans hw106_2)⟩ (fun hHeld => ?_)
             clear hK K
             refine nm_ 45 ?_
             refine pu_ 31 46 34 4294967295 ?_
             refine pu_ 32 47 34 8589934591 ?_
             refine pu_ 33 48 34 17179869183 ?_
             refine eQ (bU HT_.out (by kernel_rfl)) ?_
             try go_wp2
             go_roundg k1
             case measure => have := HK1.out; omega
             case rel => exact ⟨(wrap64 (x10_1 + 1)), (by first | rfl | (simp; done) | (simp [*]; done)), H', ⟨by have := HK1.out; omega⟩, ⟨by repeat (first | (with_reducible first | exact HB.out | apply ah | apply af | apply ag | refine av ?_ GE102.out) | exact HB.out)⟩⟩
          ·rw [if_neg c11] at H
           exact absurd H (by simp)
         ·rw [if_neg c10] at H
          exact absurd H (by simp)
        ·rw [if_neg c8] at H
         have c8b0 : decide (0 < x10_1) = false := decide_eq_false c8
         clear c8
         have H' := aa.mk H
         clear H
         have p101 : 0 ≤ (x10_1 : Int) := of_decide_eq_true (by first | (with_reducible assumption) | assumption)
         have q101 : x10_1 < (l0.length : Int) := of_decide_eq_true (by first | (with_reducible assumption) | assumption)
         obtain ⟨ad101, e101, hx101_0, hx101_1, hx101_2⟩ := dS HR0.out x10_1 p101 q101
         cases e101
         replace hx101_0 := (HB.out.cell (World.block_lt_of_cell? w _ hx101_0)).trans hx101_0
         replace hx101_1 := (HB.out.cell (World.block_lt_of_cell? w _ hx101_1)).trans hx101_1
         replace hx101_2 := (HB.out.cell (World.block_lt_of_cell? w _ hx101_2)).trans hx101_2
         replace p101 := eq_true p101
         replace q101 := eq_true q101
         try go_wp2_with (first | ((with_reducible refine bf (N := 4) rfl ?_); refine aY ?hg (N := 4) ?hd (cs := #[.int .i64 0, .int .i64 0, .int .i64 0]) (t := 151) ?hr ?_; (case hd => rfl); (case hg => rfl); (case hr => first | (go_simp; done) | (go_simp; rfl)); intro gb102 hg w32 hbox hb; have n0_ := aa.mk (az (by repeat (first | (with_reducible first | exact HB.out | apply ah | apply af | apply ag) | exact HB.out)) hb); have n1_ := aa.mk (hbox); have n2_ := aa.mk ((by rw [hg]; exact (ay (by repeat (first | (with_reducible first | exact HB.out | apply ah | apply af | apply ag) | exact HB.out))) : w.heap.size ≤ gb102)); have n3_ := aa.mk ((by rw [hg]; exact (ay (by repeat (first | (with_reducible first | exact HB.out | apply ah | apply af | apply ag) | exact HB.out))) : w.heap.size ≤ gb102)); clear HB; have HB := n0_; have BK102 := n1_; have GW102 := n2_; have GE102 := n3_; clear n0_ n1_ n2_ n3_; clear hb hbox hg; have hcz33_0 : w32.cell? ⟨gb102, 0, none⟩ = some (.int .i64 0) := (ae BK102.out 0).trans rfl; have hcz33_1 : w32.cell? ⟨gb102, 1, none⟩ = some (.int .i64 0) := (ae BK102.out 1).trans rfl; have hcz33_2 : w32.cell? ⟨gb102, 2, none⟩ = some (.int .i64 0) := (ae BK102.out 2).trans rfl; have hfz33_0 := ai BK102.out 0; have hfz33_1 := ai BK102.out 1; have hfz33_2 := ai BK102.out 2))
         have n0_ : aa ((((w32.setCell ⟨gb102, 0, none⟩ (.int .i64 ((ax l0 x10_1).f0))).setCell ⟨gb102, 1, none⟩ (.int .i64 ((ax l0 x10_1).f1))).setCell ⟨gb102, 2, none⟩ (.int .i64 ((ax l0 x10_1).f2))).heap[gb102]? = some (.cells #[.int .i64 ((ax l0 x10_1).f0), .int .i64 ((ax l0 x10_1).f1), .int .i64 ((ax l0 x10_1).f2)] 151 (0, 0))) := ⟨by (with_reducible repeat (first | refine ak ?_ _ | refine au ?_ | refine aj ?_ _)); refine aW (cs := #[.int .i64 ((ax l0 x10_1).f0), .int .i64 ((ax l0 x10_1).f1), .int .i64 0]) ?_ 2 _ rfl; (with_reducible repeat (first | refine ak ?_ _ | refine au ?_ | refine aj ?_ _)); refine aW (cs := #[.int .i64 ((ax l0 x10_1).f0), .int .i64 0, .int .i64 0]) ?_ 1 _ rfl; (with_reducible repeat (first | refine ak ?_ _ | refine au ?_ | refine aj ?_ _)); refine aW (cs := #[.int .i64 0, .int .i64 0, .int .i64 0]) ?_ 0 _ rfl; (with_reducible repeat (first | refine ak ?_ _ | refine au ?_ | refine aj ?_ _)); exact BK102.out⟩
         have n1_ : aa (Below w.heap.size w (((w32.setCell ⟨gb102, 0, none⟩ (.int .i64 ((ax l0 x10_1).f0))).setCell ⟨gb102, 1, none⟩ (.int .i64 ((ax l0 x10_1).f1))).setCell ⟨gb102, 2, none⟩ (.int .i64 ((ax l0 x10_1).f2)))) := ⟨by repeat (first | (with_reducible first | exact HB.out | apply ah | apply af | apply ag | refine av ?_ GE102.out) | exact HB.out)⟩
         (try clear BK102)
         (try clear HB)
         generalize (((w32.setCell ⟨gb102, 0, none⟩ (.int .i64 ((ax l0 x10_1).f0))).setCell ⟨gb102, 1, none⟩ (.int .i64 ((ax l0 x10_1).f1))).setCell ⟨gb102, 2, none⟩ (.int .i64 ((ax l0 x10_1).f2))) = w34 at n0_ n1_ ⊢
         have BK102 := n0_
         have HB := n1_
         clear n0_ n1_
         have n0_ := aa.mk (au BK102.out)
         have n1_ := aa.mk (ag HB.out)
         clear BK102
         clear HB
         have BK102 := n0_
         have HB := n1_
         clear n0_ n1_
         refine dG (n := 34) (S := fun w' => w'.cell? ⟨gb102, 0, none⟩ = some (.int .i64 ((ax l0 x10_1).f0)) ∧ w'.cell? ⟨gb102, 1, none⟩ = some (.int .i64 ((ax l0 x10_1).f1)) ∧ w'.cell? ⟨gb102, 2, none⟩ = some (.int .i64 ((ax l0 x10_1).f2))) (ds := []) #[yF,yF,yF,yF,yF,yF,yF,yF,yF,yF,yF,yF,yF,yF,yF,yF,yF,yF,yF,yF,yF,yF,yF,yF,yF,yF,yF,yF,yF,yF,yF,yF,yF,yF] (by kernel_rfl) rfl rfl ⟨(ae BK102.out 0).trans rfl, (ae BK102.out 1).trans rfl, (ae BK102.out 2).trans rfl⟩ (fun hHeld => ?_); refine bG aG.tab6 aG.vJ (fun HT_ HW_ => ?_)
         generalize w34.drew = w35 at BK102 HB hHeld ⊢
         refine tk_ 0 15 34 1 ?_
         refine on_ 1 16 34 3 (fun K hK => ?_)
         refine dO Tryz.func150 (by kernel_rfl) rfl #[.agg #[.int .i64 ((ax l0 x10_1).f0), .int .i64 ((ax l0 x10_1).f1), .int .i64 ((ax l0 x10_1).f2)]] (by rfl) rfl rfl (by (try simp only [List.map_toArray, List.map_cons, List.map_nil]); first | done | rfl | (simp only [List.length_drop, List.length_take]; rfl)) ?_
         with_reducible refine (dz.calls ((ax l0 x10_1).f0) ((ax l0 x10_1).f1) ((ax l0 x10_1).f2) true _ A6.out).mono ?_
         rintro e w36 ⟨rfl, hb⟩
         refine ⟨_, rfl, ?_⟩
         have n0_ := aa.mk (aK (g := gb102) (o := .cells #[.int .i64 ((ax l0 x10_1).f0), .int .i64 ((ax l0 x10_1).f1), .int .i64 ((ax l0 x10_1).f2)] 151 (0, 0)) (by (with_reducible repeat (first | refine ak ?_ _ | refine au ?_ | refine aj ?_ _)); exact BK102.out) hb)
         have n1_ := aa.mk (az (by repeat (first | (with_reducible first | exact HB.out | apply ah | apply af | apply ag | refine av ?_ GE102.out) | exact HB.out)) hb)
         clear BK102
         clear HB
         have BK102 := n0_
         have HB := n1_
         clear n0_ n1_
         (try clear hb)
         (try clear hb2)
         (try clear hk)
         (try clear hi)
         refine hK.out _ _ ⟨(ae BK102.out 0).trans rfl, (ae BK102.out 1).trans rfl, (ae BK102.out 2).trans rfl⟩ (fun hHeld => ?_)
         clear hK K
         refine nm_ 16 ?_
         refine pu_ 2 17 34 7 ?_
         refine pu_ 3 18 34 15 ?_
         refine pu_ 4 19 34 31 ?_
         refine pu_ 5 20 34 63 ?_
         refine pu_ 6 21 34 127 ?_
         refine pn_ 7 22 34 255 ?_
         refine pn_ 8 23 34 511 ?_
         refine pn_ 9 24 34 1023 ?_
         refine pn_ 10 25 34 2047 ?_
         refine pn_ 11 26 34 4095 ?_
         refine pn_ 12 27 34 8191 ?_
         refine pn_ 13 28 34 16383 ?_
         refine pn_ 14 29 34 32767 ?_
         refine pn_ 15 30 34 65535 ?_
         refine pn_ 16 31 34 131071 ?_
         refine pn_ 17 32 34 262143 ?_
         refine pn_ 18 33 34 524287 ?_
         refine pn_ 19 34 34 1048575 ?_
         refine pn_ 20 35 34 2097151 ?_
         refine pn_ 21 36 34 4194303 ?_
         refine pn_ 22 37 34 8388607 ?_
         refine pn_ 23 38 34 16777215 ?_
         refine pn_ 24 39 34 33554431 ?_
         refine pn_ 25 40 34 67108863 ?_
         refine pn_ 26 41 34 134217727 ?_
         refine pn_ 27 42 34 268435455 ?_
         refine pn_ 28 43 34 536870911 ?_
         refine pn_ 29 44 34 1073741823 ?_
         refine pn_ 30 45 34 2147483647 ?_
         refine pn_ 31 46 34 4294967295 ?_
         refine pu_ 32 47 34 8589934591 ?_
         refine pu_ 33 48 34 17179869183 ?_
         refine eQ (bU HT_.out (by kernel_rfl)) ?_
         try go_wp2
         go_roundg k1
         case measure => have := HK1.out; omega
         case rel => exact ⟨(wrap64 (x10_1 + 1)), (by first | rfl | (simp; done) | (simp [*]; done)), H', ⟨by have := HK1.out; omega⟩, ⟨by repeat (first | (with_reducible first | exact HB.out | apply ah | apply af | apply ag | refine av ?_ GE102.out) | exact HB.out)⟩⟩
       ·replace c7 := Bool.eq_false_iff.mpr c7
        subst c7
        have H1 : (some 9) = some r := by rw [if_neg (show ¬ (false = true) by decide)] at H; exact H
        clear H
        have H := H1
        clear H1
        obtain rfl := Option.some.inj H
        have p101 : 0 ≤ (x10_1 : Int) := of_decide_eq_true (by first | (with_reducible assumption) | assumption)
        have q101 : x10_1 < (l0.length : Int) := of_decide_eq_true (by first | (with_reducible assumption) | assumption)
        obtain ⟨ad101, e101, hx101_0, hx101_1, hx101_2⟩ := dS HR0.out x10_1 p101 q101
        cases e101
        replace hx101_0 := (HB.out.cell (World.block_lt_of_cell? w _ hx101_0)).trans hx101_0
        replace hx101_1 := (HB.out.cell (World.block_lt_of_cell? w _ hx101_1)).trans hx101_1
        replace hx101_2 := (HB.out.cell (World.block_lt_of_cell? w _ hx101_2)).trans hx101_2
        replace p101 := eq_true p101
        replace q101 := eq_true q101
        try go_wp2_with (first | ((with_reducible refine bf (N := 4) rfl ?_); refine aY ?hg (N := 4) ?hd (cs := #[.int .i64 0, .int .i64 0, .int .i64 0]) (t := 151) ?hr ?_; (case hd => rfl); (case hg => rfl); (case hr => first | (go_simp; done) | (go_simp; rfl)); intro gb102 hg w37 hbox hb; have n0_ := aa.mk (az (by repeat (first | (with_reducible first | exact HB.out | apply ah | apply af | apply ag) | exact HB.out)) hb); have n1_ := aa.mk (hbox); have n2_ := aa.mk ((by rw [hg]; exact (ay (by repeat (first | (with_reducible first | exact HB.out | apply ah | apply af | apply ag) | exact HB.out))) : w.heap.size ≤ gb102)); have n3_ := aa.mk ((by rw [hg]; exact (ay (by repeat (first | (with_reducible first | exact HB.out | apply ah | apply af | apply ag) | exact HB.out))) : w.heap.size ≤ gb102)); clear HB; have HB := n0_; have BK102 := n1_; have GW102 := n2_; have GE102 := n3_; clear n0_ n1_ n2_ n3_; clear hb hbox hg; have hcz38_0 : w37.cell? ⟨gb102, 0, none⟩ = some (.int .i64 0) := (ae BK102.out 0).trans rfl; have hcz38_1 : w37.cell? ⟨gb102, 1, none⟩ = some (.int .i64 0) := (ae BK102.out 1).trans rfl; have hcz38_2 : w37.cell? ⟨gb102, 2, none⟩ = some (.int .i64 0) := (ae BK102.out 2).trans rfl; have hfz38_0 := ai BK102.out 0; have hfz38_1 := ai BK102.out 1; have hfz38_2 := ai BK102.out 2))
        have n0_ : aa ((((w37.setCell ⟨gb102, 0, none⟩ (.int .i64 ((ax l0 x10_1).f0))).setCell ⟨gb102, 1, none⟩ (.int .i64 ((ax l0 x10_1).f1))).setCell ⟨gb102, 2, none⟩ (.int .i64 ((ax l0 x10_1).f2))).heap[gb102]? = some (.cells #[.int .i64 ((ax l0 x10_1).f0), .int .i64 ((ax l0 x10_1).f1), .int .i64 ((ax l0 x10_1).f2)] 151 (0, 0))) := ⟨by (with_reducible repeat (first | refine ak ?_ _ | refine au ?_ | refine aj ?_ _)); refine aW (cs := #[.int .i64 ((ax l0 x10_1).f0), .int .i64 ((ax l0 x10_1).f1), .int .i64 0]) ?_ 2 _ rfl; (with_reducible repeat (first | refine ak ?_ _ | refine au ?_ | refine aj ?_ _)); refine aW (cs := #[.int .i64 ((ax l0 x10_1).f0), .int .i64 0, .int .i64 0]) ?_ 1 _ rfl; (with_reducible repeat (first | refine ak ?_ _ | refine au ?_ | refine aj ?_ _)); refine aW (cs := #[.int .i64 0, .int .i64 0, .int .i64 0]) ?_ 0 _ rfl; (with_reducible repeat (first | refine ak ?_ _ | refine au ?_ | refine aj ?_ _)); exact BK102.out⟩
        have n1_ : aa (Below w.heap.size w (((w37.setCell ⟨gb102, 0, none⟩ (.int .i64 ((ax l0 x10_1).f0))).setCell ⟨gb102, 1, none⟩ (.int .i64 ((ax l0 x10_1).f1))).setCell ⟨gb102, 2, none⟩ (.int .i64 ((ax l0 x10_1).f2)))) := ⟨by repeat (first | (with_reducible first | exact HB.out | apply ah | apply af | apply ag | refine av ?_ GE102.out) | exact HB.out)⟩
        (try clear BK102)
        (try clear HB)
        generalize (((w37.setCell ⟨gb102, 0, none⟩ (.int .i64 ((ax l0 x10_1).f0))).setCell ⟨gb102, 1, none⟩ (.int .i64 ((ax l0 x10_1).f1))).setCell ⟨gb102, 2, none⟩ (.int .i64 ((ax l0 x10_1).f2))) = w39 at n0_ n1_ ⊢
        have BK102 := n0_
        have HB := n1_
        clear n0_ n1_
        have n0_ := aa.mk (au BK102.out)
        have n1_ := aa.mk (ag HB.out)
        clear BK102
        clear HB
        have BK102 := n0_
        have HB := n1_
        clear n0_ n1_
        refine dG (n := 34) (S := fun w' => w'.cell? ⟨gb102, 0, none⟩ = some (.int .i64 ((ax l0 x10_1).f0)) ∧ w'.cell? ⟨gb102, 1, none⟩ = some (.int .i64 ((ax l0 x10_1).f1)) ∧ w'.cell? ⟨gb102, 2, none⟩ = some (.int .i64 ((ax l0 x10_1).f2))) (ds := []) #[yF,yF,yF,yF,yF,yF,yF,yF,yF,yF,yF,yF,yF,yF,yF,yF,yF,yF,yF,yF,yF,yF,yF,yF,yF,yF,yF,yF,yF,yF,yF,yF,yF,yF] (by kernel_rfl) rfl rfl ⟨(ae BK102.out 0).trans rfl, (ae BK102.out 1).trans rfl, (ae BK102.out 2).trans rfl⟩ (fun hHeld => ?_); refine bG aG.tab6 aG.vJ (fun HT_ HW_ => ?_)
        generalize w39.drew = w40 at BK102 HB hHeld ⊢
        refine tk_ 0 15 34 1 ?_
        refine on_ 1 16 34 3 (fun K hK => ?_)
        refine dO Tryz.func150 (by kernel_rfl) rfl #[.agg #[.int .i64 ((ax l0 x10_1).f0), .int .i64 ((ax l0 x10_1).f1), .int .i64 ((ax l0 x10_1).f2)]] (by rfl) rfl rfl (by (try simp only [List.map_toArray, List.map_cons, List.map_nil]); first | done | rfl | (simp only [List.length_drop, List.length_take]; rfl)) ?_
        with_reducible refine (dz.calls ((ax l0 x10_1).f0) ((ax l0 x10_1).f1) ((ax l0 x10_1).f2) false _ A6.out).mono ?_
        rintro e w41 ⟨rfl, hb⟩
        refine ⟨_, rfl, ?_⟩
        have n0_ := aa.mk (aK (g := gb102) (o := .cells #[.int .i64 ((ax l0 x10_1).f0), .int .i64 ((ax l0 x10_1).f1), .int .i64 ((ax l0 x10_1).f2)] 151 (0, 0)) (by (with_reducible repeat (first | refine ak ?_ _ | refine au ?_ | refine aj ?_ _)); exact BK102.out) hb)
        have n1_ := aa.mk (az (by repeat (first | (with_reducible first | exact HB.out | apply ah | apply af | apply ag | refine av ?_ GE102.out) | exact HB.out)) hb)
        clear BK102
        clear HB
        have BK102 := n0_
        have HB := n1_
        clear n0_ n1_
        (try clear hb)
        (try clear hb2)
        (try clear hk)
        (try clear hi)
        refine hK.out _ _ ⟨(ae BK102.out 0).trans rfl, (ae BK102.out 1).trans rfl, (ae BK102.out 2).trans rfl⟩ (fun hHeld => ?_)
        clear hK K
        refine nm_ 16 ?_
        refine pu_ 2 17 34 7 ?_
        refine pu_ 3 18 34 15 ?_
        refine pn_ 4 19 34 31 ?_
        refine pn_ 5 20 34 63 ?_
        refine pn_ 6 21 34 127 ?_
        refine pn_ 7 22 34 255 ?_
        refine pn_ 8 23 34 511 ?_
        refine pn_ 9 24 34 1023 ?_
        refine pn_ 10 25 34 2047 ?_
        refine pn_ 11 26 34 4095 ?_
        refine pn_ 12 27 34 8191 ?_
        refine pn_ 13 28 34 16383 ?_
        refine pn_ 14 29 34 32767 ?_
        refine pn_ 15 30 34 65535 ?_
        refine pn_ 16 31 34 131071 ?_
        refine pn_ 17 32 34 262143 ?_
        refine pn_ 18 33 34 524287 ?_
        refine pn_ 19 34 34 1048575 ?_
        refine pn_ 20 35 34 2097151 ?_
        refine pn_ 21 36 34 4194303 ?_
        refine pn_ 22 37 34 8388607 ?_
        refine pn_ 23 38 34 16777215 ?_
        refine pn_ 24 39 34 33554431 ?_
        refine pn_ 25 40 34 67108863 ?_
        refine pn_ 26 41 34 134217727 ?_
        refine pn_ 27 42 34 268435455 ?_
        refine pn_ 28 43 34 536870911 ?_
        refine pn_ 29 44 34 1073741823 ?_
        refine pn_ 30 45 34 2147483647 ?_
        refine pn_ 31 46 34 4294967295 ?_
        refine pn_ 32 47 34 8589934591 ?_
        refine pu_ 33 48 34 17179869183 ?_
        refine eQ (bU HT_.out (by kernel_rfl)) ?_
        try go_wp2
        go_ret
        exact ⟨by first | rfl | (simp [aD, aC] <;> rfl) | (simp [*, aD, aC] <;> rfl), by repeat (first | (with_reducible first | exact HB.out | apply ah | apply af | apply ag | refine av ?_ GE102.out) | exact HB.out)⟩
      ·rw [if_neg c5] at H
       exact absurd H (by simp)
     ·rw [if_neg c4] at H
      exact absurd H (by simp)
    ·rw [if_neg c3] at H
     have c3b0 : decide (x10_1 < (l0.length : Int)) = false := decide_eq_false c3
     clear c3
     obtain rfl := Option.some.inj H
     go_wp2
     go_ret
     exact ⟨by first | rfl | (simp [aD, aC] <;> rfl) | (simp [*, aD, aC] <;> rfl), by repeat (first | (with_reducible first | exact HB.out | apply ah | apply af | apply ag) | exact HB.out)⟩
def dR.f (l0 : List (S151)) : Option ((List (S151)) × Int) := if (l0.length : Int) > 1024 then (some (([] : List (S151)), 51)) else (some (l0, 0))
set_option maxHeartbeats 8000000 in
set_option maxRecDepth 100000 in
theorem dR.calls (P0_ : Nat → Prop) (u9000_ : Value) (l0 : List (S151)) (r1 : List (S151)) (r2 : Int) (w0 w : World) (hB : Below w0.heap.size w0 w) (ho0 : Kd.R k151 151 w w0.heap.size P0_ u9000_ l0) (h : dR.f l0 = some (r1, r2)) :
 Calls Tryz.prog 165 #[u9000_] w fun e w' => ∃ v0_ : Value, e = .returned (.tuple #[v0_, .int .i64 r2]) ∧ Kd.R k151 151 w' w0.heap.size (fun k_ => (P0_ k_ ∨ w.heap.size ≤ k_)) v0_ r1 ∧ Below w0.heap.size w0 w' ∧ Kept w w' (fun k_ => P0_ k_) := by
 have HO0 := aa.mk (show Kd.R k151 151 w w0.heap.size (fun k_ => (P0_ k_ ∨ w.heap.size ≤ k_)) u9000_ l0 from Kd.aX ho0 (fun k_ hk => (.inl hk)))
 have HK := aa.mk (Kept.refl w (fun k_ => P0_ k_))
 have HW0 := aa.mk hB.size
 have HB := aa.mk hB
 clear hB
 have H : (if (l0.length : Int) > 1024 then (some (([] : List (S151)), 51)) else (some (l0, 0))) = some (r1, r2) := h
 clear h
 by_cases c2 : (l0.length : Int) > 1024
 ·rw [if_pos c2] at H
  have c2b0 : decide (1024 < (l0.length : Int)) = true := decide_eq_true c2
  have c2b1 : decide (1024 < l0.length) = true := decide_eq_true (by omega)
  clear c2
  simp only [Option.some.injEq, Prod.mk.injEq] at H
  obtain ⟨rfl, rfl⟩ := H
  obtain ⟨Ao3, co3, eo3⟩ := Kd.aZ HO0.out
  subst eo3
  go_enter Tryz.func165, Tryz.ntmps165
  go_wp2
  go_ret2
  exact ⟨_, by first | rfl | (simp [aD, aC] <;> rfl) | (simp [*, aD, aC] <;> rfl), by first | exact Kd.bW _ _ _ _ _ | exact Kd.N_nil _ _ _ _ _ | exact Kd.V_nil _ _ _ _ _ | exact Kd.Q_nil _ _ _ _ _ | exact Kd.jv _ _ _ _ _, by repeat (first | (with_reducible first | exact HB.out | apply ah | apply af | apply ag) | exact HB.out), by repeat (first | (with_reducible first | exact HK.out | apply Kept.alloc | apply Kept.drewN | apply Kept.drew) | exact HK.out)⟩
 ·rw [if_neg c2] at H
  have c2b0 : decide (1024 < (l0.length : Int)) = false := decide_eq_false c2
  have c2b1 : decide (1024 < l0.length) = false := decide_eq_false (by omega)
  clear c2
  simp only [Option.some.injEq, Prod.mk.injEq] at H
  obtain ⟨rfl, rfl⟩ := H
  obtain ⟨Ao4, co4, eo4⟩ := Kd.aZ HO0.out
  subst eo4
  go_enter Tryz.func165, Tryz.ntmps165
  go_wp2
  go_ret2
  exact ⟨_, by first | rfl | (simp [aD, aC] <;> rfl) | (simp [*, aD, aC] <;> rfl), by (with_reducible repeat (first | apply Kd.bQ | apply Kd.bT | apply Kd.dC)); exact HO0.out, by repeat (first | (with_reducible first | exact HB.out | apply ah | apply af | apply ag) | exact HB.out), by repeat (first | (with_reducible first | exact HK.out | apply Kept.alloc | apply Kept.drewN | apply Kept.drew) | exact HK.out)⟩
def gY.f (a0 : Int) (a1 : Int) : Option (Bool) := if a0 ≥ 0 then (if a1 ≥ 0 then (if a0 ≤ 65536 then (some (decide (a1 ≤ (wrap64 (65536 - a0))))) else (some false)) else (some false)) else (some false)
mutual
def bM.l0 : Nat → List (S151) → Int → Option (Int)
 | 0, _, _ => none
 | k + 1, x0, x3 => if x3 < (x0.length : Int) then (if 0 ≤ x3 then (if ((ax x0 x3).f2) < 1 then (bM.j1 k x0 x3 true ((ax x0 x3).f0) ((ax x0 x3).f1) ((ax x0 x3).f2)) else ((gY.f ((ax x0 x3).f0) ((ax x0 x3).f2)).bind fun t103 => (if t103 = true then ((gY.f ((ax x0 x3).f1) ((ax x0 x3).f2)).bind fun t104 => (bM.j1 k x0 x3 (!t104) ((ax x0 x3).f0) ((ax x0 x3).f1) ((ax x0 x3).f2))) else (bM.j1 k x0 x3 true ((ax x0 x3).f0) ((ax x0 x3).f1) ((ax x0 x3).f2))))) else (none)) else (some 0)
def bM.j1 : Nat → List (S151) → Int → Bool → Int → Int → Int → Option (Int)
 | 0, _, _, _, _, _, _ => none
 | k + 1, x0, x3, x37, x103000, x103001, x103002 => if x37 = true then (some 9) else (if x3 > 0 then (if 0 ≤ (wrap64 (x3 - 1)) then (if (wrap64 (x3 - 1)) < (x0.length : Int) then (if x103000 < (wrap64 (((ax x0 (wrap64 (x3 - 1))).f0) + ((ax x0 (wrap64 (x3 - 1))).f2))) then (some 9) else (if x103000 = (wrap64 (((ax x0 (wrap64 (x3 - 1))).f0) + ((ax x0 (wrap64 (x3 - 1))).f2))) then (if x103001 = (wrap64 (((ax x0 (wrap64 (x3 - 1))).f1) + ((ax x0 (wrap64 (x3 - 1))).f2))) then (some 9) else (bM.l0 k x0 (wrap64 (x3 + 1)))) else (bM.l0 k x0 (wrap64 (x3 + 1))))) else (none)) else (none)) else (bM.l0 k x0 (wrap64 (x3 + 1))))
end
def bM.f (k : Nat) (l0 : List (S151)) : Option (Int) := if (l0.length : Int) > 1024 then (some 9) else (bM.l0 k l0 0)
def toE (x : S151) : Flag.Ex := ⟨x.f0, x.f1, x.f2⟩
def near (n : Int) : Prop := -1099511627776 ≤ n ∧ n ≤ 1099511627776
structure Near (x : S151) : Prop where
  v : near x.f0
  p : near x.f1
  n : near x.f2
  q : -1 ≤ x.f1
theorem wL {a b : S151} (ha : Near a) (hb : Near b) (hn : 0 < a.f2) : bL.f a.f0 a.f1 a.f2 b.f0 b.f1 b.f2 = some (decide (Flag.kL (toE a) (toE b))) := by
  obtain ⟨⟨a1, a2⟩, ⟨a3, a4⟩, ⟨a5, a6⟩, a7⟩ := ha
  obtain ⟨⟨b1, b2⟩, ⟨b3, b4⟩, ⟨b5, b6⟩, b7⟩ := hb
  unfold bL.f Flag.kL toE
  dsimp only
  rw [w64 (n := a.f0 + a.f2) (by omega), w64 (n := a.f1 + a.f2) (by omega)]
  congr 1
  by_cases h0 : a.f0 + a.f2 = b.f0
  · by_cases h1 : a.f1 = -1
    · by_cases h2 : b.f1 = -1
      · simp [h0, h1, h2]
      · simp [h0, h1, h2]
    · have h3 : 0 ≤ a.f1 := by omega
      have h4 : ¬ a.f1 < 0 := by omega
      by_cases h2 : b.f1 = -1
      · have h5 : ¬ (-1 = a.f1 + a.f2) := by omega
        simp [h0, h1, h2, h3, h4, h5]
      · by_cases h6 : a.f1 + a.f2 = b.f1
        · have h7 : b.f1 = a.f1 + a.f2 := h6.symm
          have h8 : ¬ (a.f1 + a.f2 = -1) := by omega
          have h9 : (a.f1 == -1) = false := by simp [h1]
          have h10 : (a.f1 + a.f2 == -1) = false := by simp [h8]
          simp [h0, h1, h3, h7, h9, h10]
        · have h7 : ¬ (b.f1 = a.f1 + a.f2) := fun h => h6 h.symm
          simp [h0, h1, h2, h3, h4, h6, h7]
  · simp [h0]
theorem zZ (pre : List S151) (x : S151) (t : List S151) {i : Int} (h : i = pre.length) : ax (pre ++ x :: t) i = x := by
  subst h; simp [ax]
structure InM (x : S151) : Prop where
  v : 0 ≤ x.f0
  e : x.f0 + x.f2 ≤ 1099511627776
  p0 : -1 ≤ x.f1
  p1 : x.f1 ≤ 1099511627776
  n : 0 < x.f2
theorem InM.near {x : S151} (h : InM x) : Near x := by
  obtain ⟨h1, h2, h3, h4, h5⟩ := h
  exact ⟨⟨by omega, by omega⟩, ⟨by omega, by omega⟩, ⟨by omega, by omega⟩, h3⟩
theorem okIn {x : S151} (h : Flag.pY (toE x)) : InM x := by
  obtain ⟨h1, h2, h3, h4, h5⟩ := h
  simp only [toE] at h1 h2 h3 h4 h5
  exact ⟨h2, by omega, by omega, by omega, h1⟩
theorem uH {a b : Int} : cO.f a b = some (decide (0 ≤ a) && decide (0 ≤ b) && decide (a + b ≤ 65536)) := by
  unfold cO.f
  rw [mn_min]
  by_cases h : min a b ≥ 0
  · rw [if_pos h]
    by_cases h1 : a ≤ 65536
    · rw [if_pos h1, w64 (by omega)]
      congr 1
      rw [Bool.eq_iff_iff]
      simp only [Bool.and_eq_true, decide_eq_true_eq]
      omega
    · rw [if_neg h1]
      congr 1
      symm
      rw [Bool.eq_false_iff]
      simp only [ne_eq, Bool.and_eq_true, decide_eq_true_eq]
      omega
  · rw [if_neg h]
    congr 1
    symm
    rw [Bool.eq_false_iff]
    simp only [ne_eq, Bool.and_eq_true, decide_eq_true_eq]
    omega
theorem may_x {a b c : Int} : dz.f a b c = some (Flag.mayE ⟨a, b, c⟩) := by
  unfold dz.f
  rw [uH, uH]
  unfold Flag.mayE
  by_cases h : c > 0
  · rw [if_pos h]
    have h1 : 0 < c := h
    have h2 : 0 ≤ c := by omega
    simp only [Option.bind_some, h1, h2, decide_true, Bool.true_and, Bool.and_true]
    split
    · rename_i h3; rw [h3]; simp
    · rename_i h3; simp only [Bool.not_eq_true] at h3; rw [h3]; simp
  · rw [if_neg h]
    have h1 : ¬ 0 < c := h
    simp [h1]
def chk : Option Flag.Ex → List Flag.Ex → Bool
  | none, t => Flag.mapB t
  | some y, t => Flag.qw y t
def okB (o : Option Flag.Ex) (x : Flag.Ex) : Bool := match o with
  | none => true
  | some y => decide (y.v + y.n ≤ x.v) && !decide (Flag.kL y x)
theorem xx (o : Option Flag.Ex) (x : Flag.Ex) (t : List Flag.Ex) : chk o (x :: t) = (Flag.mayE x && okB o x && chk (some x) t) := by
  cases o with
  | none => simp [chk, Flag.mapB, okB]
  | some y => simp [chk, Flag.qw, okB, Bool.and_assoc]
theorem zS (o : Option Flag.Ex) : chk o [] = true := by cases o <;> rfl
theorem oC (l : List S151) (hl : l.length ≤ 1024) (t : List S151) : ∀ (pre : List S151) (k : Nat), l = pre ++ t → t.length < k → (∀ y, pre.getLast? = some y → Flag.pY (toE y)) →
    aG.l0 k l l (l.length : Int) (pre.length : Int) = some (if chk (pre.getLast?.map toE) (t.map toE) = true then 0 else 9) := by
  induction t with
  | nil =>
    intro pre k he hk _
    obtain ⟨k, rfl⟩ : ∃ k', k = k' + 1 := ⟨k - 1, by simp at hk; omega⟩
    rw [aG.l0, if_neg (by rw [he]; simp)]
    simp [zS]
  | cons x t ih =>
    intro pre k he hk hp
    obtain ⟨k, rfl⟩ : ∃ k', k = k' + 1 := ⟨k - 1, by simp at hk; omega⟩
    have hlen : l.length = pre.length + t.length + 1 := by rw [he]; simp; omega
    have hx : ax l (pre.length : Int) = x := by rw [he]; exact zZ pre x t rfl
    rw [aG.l0, if_pos (by omega), if_pos (by omega), if_pos (by omega), hx, may_x, Option.bind_some, List.map_cons, xx]
    have e0 : Flag.mayE ⟨x.f0, x.f1, x.f2⟩ = Flag.mayE (toE x) := rfl
    rw [e0]
    by_cases hm : Flag.mayE (toE x) = true
    · rw [if_pos hm, hm]
      have hok := Flag.nN.1 hm
      have hnext := ih (pre ++ [x]) k (by rw [he]; simp) (by simp at hk; omega) (fun y hy => by
        have : y = x := by simpa using hy.symm
        rw [this]; exact hok)
      have e1 : wrap64 ((pre.length : Int) + 1) = ((pre ++ [x]).length : Int) := by rw [w64 (by omega)]; simp
      rw [e1, hnext]
      have e2 : (pre ++ [x]).getLast?.map toE = some (toE x) := by simp
      rw [e2]
      rcases List.eq_nil_or_concat pre with rfl | ⟨q, y, rfl⟩
      · rw [if_neg (by simp)]
        simp [okB]
      · rw [List.concat_eq_append] at *
        have e3 : wrap64 (((q ++ [y]).length : Int) - 1) = (q.length : Int) := by rw [w64 (by omega)]; simp
        have hy : ax l (q.length : Int) = y := by rw [he, List.append_assoc]; exact zZ q y (x :: t) rfl
        have hoky := hp y (by simp)
        rw [if_pos (by simp), e3, if_pos (by omega), if_pos (by rw [hlen]; simp; omega), hy]
        have iy := okIn hoky
        have ix := okIn hok
        have n1 := iy.near
        rw [w64 (n := y.f0 + y.f2) (by have := iy.v; have := iy.e; have := iy.n; omega), wL n1 ix.near iy.n]
        have e4 : (q ++ [y]).getLast?.map toE = some (toE y) := by simp
        rw [e4]
        by_cases hg : y.f0 + y.f2 > x.f0
        · rw [if_pos hg]
          have : ¬ ((toE y).v + (toE y).n ≤ (toE x).v) := by simp only [toE]; omega
          simp [okB, this]
        · rw [if_neg hg, Option.bind_some]
          have : (toE y).v + (toE y).n ≤ (toE x).v := by simp only [toE]; omega
          by_cases hgo : Flag.kL (toE y) (toE x)
          · simp [okB, this, hgo]
          · simp [okB, this, hgo]
    · rw [if_neg hm]
      simp only [Bool.not_eq_true] at hm
      simp [hm]
theorem ui (l : List S151) {k : Nat} (hk : l.length < k) : aG.f k l = some (Flag.gX (l.map toE)) := by
  unfold aG.f Flag.gX
  by_cases h : l.length ≤ 1024
  · rw [if_neg (by omega)]
    have := oC l h l [] k rfl hk (fun y hy => by simp at hy)
    rw [show ((0 : Int) = (([] : List S151).length : Int)) from rfl, this]
    by_cases hb : Flag.mapB (l.map toE) = true <;> simp [chk, h, hb]
  · rw [if_pos (by omega)]
    simp [h]
def Ah (v n : Int) : Bool := decide (0 ≤ v) && decide (0 ≤ n) && decide (v + n ≤ 65536)
theorem zN {a b : Int} : cO.f a b = some (Ah a b) := uH
def dh.l0 : Nat → Int → List (S75) → Int → Int → Option (Int)
 | 0, _, _, _, _ => none
 | k + 1, x3, x9, x10, x11 => if x11 < x10 then (if 0 ≤ x11 then (if x11 < (x9.length : Int) then (if ((dI x9 x11).f0) ≤ x3 then (some 9) else (if ((dI x9 x11).f0) > 255 then (some 9) else ((aG.f k ((dI x9 x11).f1)).bind fun t103 => (if t103 = 0 then (dh.l0 k ((dI x9 x11).f0) x9 x10 (wrap64 (x11 + 1))) else (some 9))))) else (none)) else (none)) else (some 0)
def dh.f (k : Nat) (l0 : List (S75)) : Option (Int) := if (l0.length : Int) > 9 then (some 9) else (dh.l0 k (-1) l0 (l0.length : Int) 0)
set_option maxHeartbeats 8000000 in
set_option maxRecDepth 100000 in
theorem dh.calls (k : Nat) (A0 : Option Addr) (c0 : Nat) (l0 : List (S75)) (r : Int) (w : World) (hr0 : Kd.C k75 w A0 l0.length l0) (hc0 : l0.length ≤ c0) (h : dh.f k l0 = some r) :
 Calls Tryz.prog 82 #[.slice A0 l0.length c0] w fun e w' => e = .returned (.int .i64 r) ∧ Below w.heap.size w w' := by
 have hu75 := Tryz.underlying75
 have HR0 := aa.mk hr0
 have HC0 := aa.mk hc0
 clear hr0 hc0
 have HB := aa.mk (Below.refl w.heap.size w)
 have H : (if (l0.length : Int) > 9 then (some 9) else (dh.l0 k (-1) l0 (l0.length : Int) 0)) = some r := h
 clear h
 by_cases c2 : (l0.length : Int) > 9
 ·rw [if_pos c2] at H
  have c2b0 : decide (9 < (l0.length : Int)) = true := decide_eq_true c2
  have c2b1 : decide (9 < l0.length) = true := decide_eq_true (by omega)
  clear c2
  obtain rfl := Option.some.inj H
  go_enter Tryz.func82, Tryz.ntmps82
  go_wp2
  go_ret
  exact ⟨by first | rfl | (simp [aD, aC] <;> rfl) | (simp [*, aD, aC] <;> rfl), by repeat (first | (with_reducible first | exact HB.out | apply ah | apply af | apply ag) | exact HB.out)⟩
 ·rw [if_neg c2] at H
  have c2b0 : decide (9 < (l0.length : Int)) = false := decide_eq_false c2
  have c2b1 : decide (9 < l0.length) = false := decide_eq_false (by omega)
  clear c2
  have H' := aa.mk H
  clear H
  go_enter Tryz.func82, Tryz.ntmps82
  go_wp2
  go_loopg [3, 11] k (fun kq v3 v11 w' => ∃ (x3_1 : Int) (x11_1 : Int), v3 = .int .i64 x3_1 ∧ v11 = .int .i64 x11_1 ∧ aa (dh.l0 kq x3_1 l0 (l0.length : Int) x11_1 = some r) ∧ aa (kq ≤ k) ∧ aa (Below w.heap.size w w'))
  case atStart => exact ⟨((-1)), (0), (by first | rfl | (simp; done) | (simp [*]; done)), (by first | rfl | (simp; done) | (simp [*]; done)), H', ⟨Nat.le_refl _⟩, ⟨by repeat (first | (with_reducible first | exact HB.out | apply ah | apply af | apply ag) | exact HB.out)⟩⟩
  case round =>
   clear H'
   try clear c2
   try clear c2b0
   try clear c2b1
   try clear p2
   obtain ⟨x3_1, x11_1, rfl, rfl, HA, HK1, HB⟩ := hrel
   cases gk with
   | zero => exact absurd HA.out (by simp [dh.l0])
   | succ k1 =>
    have H := HA.out
    clear HA
    simp only [dh.l0] at H
    by_cases c3 : x11_1 < (l0.length : Int)
    ·rw [if_pos c3] at H
     have c3b0 : decide (x11_1 < (l0.length : Int)) = true := decide_eq_true c3
     clear c3
     by_cases c4 : 0 ≤ x11_1
     ·rw [if_pos c4] at H
      have c4b0 : decide (0 ≤ x11_1) = true := decide_eq_true c4
      clear c4
      by_cases c5 : x11_1 < (l0.length : Int)
      ·rw [if_pos c5] at H
       have c5b0 : decide (x11_1 < (l0.length : Int)) = true := decide_eq_true c5
       clear c5
       by_cases c6 : ((dI l0 x11_1).f0) ≤ x3_1
       ·rw [if_pos c6] at H
        have c6b0 : decide (((dI l0 x11_1).f0) ≤ x3_1) = true := decide_eq_true c6
        clear c6
        obtain rfl := Option.some.inj H
        have p101 : 0 ≤ (x11_1 : Int) := of_decide_eq_true (by first | (with_reducible assumption) | assumption)
        have q101 : x11_1 < (l0.length : Int) := of_decide_eq_true (by first | (with_reducible assumption) | assumption)
        obtain ⟨ad101, A101_1, c101_1, e101, hx101_0, hx101_1, hl101_1, hi101_1⟩ := oO HR0.out x11_1 p101 q101
        cases e101
        replace hx101_0 := (HB.out.cell (World.block_lt_of_cell? w _ hx101_0)).trans hx101_0
        replace hx101_1 := (HB.out.cell (World.block_lt_of_cell? w _ hx101_1)).trans hx101_1
        have HR101_1 := aa.mk hi101_1
        have HC101_1 := aa.mk hl101_1
        clear hi101_1 hl101_1
        replace p101 := eq_true p101
        replace q101 := eq_true q101
        go_wp2_with (first | ((with_reducible refine bf (N := 5) rfl ?_); refine aY ?hg (N := 5) ?hd (cs := #[.int .i64 0, .slice none 0 0]) (t := 75) ?hr ?_; (case hd => rfl); (case hg => rfl); (case hr => first | (go_simp; done) | (go_simp; rfl)); intro gb102 hg w7 hbox hb; have n0_ := aa.mk (az (by repeat (first | (with_reducible first | exact HB.out | apply ah | apply af | apply ag) | exact HB.out)) hb); have n1_ := aa.mk (hbox); have n2_ := aa.mk ((by rw [hg]; exact (ay (by repeat (first | (with_reducible first | exact HB.out | apply ah | apply af | apply ag) | exact HB.out))) : w.heap.size ≤ gb102)); have n3_ := aa.mk ((by rw [hg]; exact (ay (by repeat (first | (with_reducible first | exact HB.out | apply ah | apply af | apply ag) | exact HB.out))) : w.heap.size ≤ gb102)); clear HB; have HB := n0_; have BK102 := n1_; have GW102 := n2_; have GE102 := n3_; clear n0_ n1_ n2_ n3_; clear hb hbox hg; have hcz8_0 : w7.cell? ⟨gb102, 0, none⟩ = some (.int .i64 0) := (ae BK102.out 0).trans rfl; have hcz8_1 : w7.cell? ⟨gb102, 1, none⟩ = some (.slice none 0 0) := (ae BK102.out 1).trans rfl; have hfz8_0 := ai BK102.out 0; have hfz8_1 := ai BK102.out 1))
        go_ret
        exact ⟨by first | rfl | (simp [aD, aC] <;> rfl) | (simp [*, aD, aC] <;> rfl), by repeat (first | (with_reducible first | exact HB.out | apply ah | apply af | apply ag | refine av ?_ GE102.out) | exact HB.out)⟩
       ·rw [if_neg c6] at H
        have c6b0 : decide (((dI l0 x11_1).f0) ≤ x3_1) = false := decide_eq_false c6
        clear c6
        by_cases c9 : ((dI l0 x11_1).f0) > 255
        ·rw [if_pos c9] at H
         have c9b0 : decide (255 < ((dI l0 x11_1).f0)) = true := decide_eq_true c9
         clear c9
         obtain rfl := Option.some.inj H
         have p101 : 0 ≤ (x11_1 : Int) := of_decide_eq_true (by first | (with_reducible assumption) | assumption)
         have q101 : x11_1 < (l0.length : Int) := of_decide_eq_true (by first | (with_reducible assumption) | assumption)
         obtain ⟨ad101, A101_1, c101_1, e101, hx101_0, hx101_1, hl101_1, hi101_1⟩ := oO HR0.out x11_1 p101 q101
         cases e101
         replace hx101_0 := (HB.out.cell (World.block_lt_of_cell? w _ hx101_0)).trans hx101_0
         replace hx101_1 := (HB.out.cell (World.block_lt_of_cell? w _ hx101_1)).trans hx101_1
         have HR101_1 := aa.mk hi101_1
         have HC101_1 := aa.mk hl101_1
         clear hi101_1 hl101_1
         replace p101 := eq_true p101
         replace q101 := eq_true q101
         go_wp2_with (first | ((with_reducible refine bf (N := 5) rfl ?_); refine aY ?hg (N := 5) ?hd (cs := #[.int .i64 0, .slice none 0 0]) (t := 75) ?hr ?_; (case hd => rfl); (case hg => rfl); (case hr => first | (go_simp; done) | (go_simp; rfl)); intro gb102 hg w10 hbox hb; have n0_ := aa.mk (az (by repeat (first | (with_reducible first | exact HB.out | apply ah | apply af | apply ag) | exact HB.out)) hb); have n1_ := aa.mk (hbox); have n2_ := aa.mk ((by rw [hg]; exact (ay (by repeat (first | (with_reducible first | exact HB.out | apply ah | apply af | apply ag) | exact HB.out))) : w.heap.size ≤ gb102)); have n3_ := aa.mk ((by rw [hg]; exact (ay (by repeat (first | (with_reducible first | exact HB.out | apply ah | apply af | apply ag) | exact HB.out))) : w.heap.size ≤ gb102)); clear HB; have HB := n0_; have BK102 := n1_; have GW102 := n2_; have GE102 := n3_; clear n0_ n1_ n2_ n3_; clear hb hbox hg; have hcz11_0 : w10.cell? ⟨gb102, 0, none⟩ = some (.int .i64 0) := (ae BK102.out 0).trans rfl; have hcz11_1 : w10.cell? ⟨gb102, 1, none⟩ = some (.slice none 0 0) := (ae BK102.out 1).trans rfl; have hfz11_0 := ai BK102.out 0; have hfz11_1 := ai BK102.out 1))
         go_ret
         exact ⟨by first | rfl | (simp [aD, aC] <;> rfl) | (simp [*, aD, aC] <;> rfl), by repeat (first | (with_reducible first | exact HB.out | apply ah | apply af | apply ag | refine av ?_ GE102.out) | exact HB.out)⟩
        ·rw [if_neg c9] at H
         have c9b0 : decide (255 < ((dI l0 x11_1).f0)) = false := decide_eq_false c9
         clear c9
         replace H := Option.bind_eq_some_iff.mp H
         obtain ⟨t103, A120, H⟩ := H
         replace H : (if t103 = 0 then (dh.l0 k1 ((dI l0 x11_1).f0) l0 (l0.length : Int) (wrap64 (x11_1 + 1))) else (some 9)) = some r := H
         have A12 := aa.mk A120
         clear A120
         by_cases c13 : t103 = 0
         ·rw [if_pos c13] at H
          have c13b0 : (t103 == 0) = true := beq_iff_eq.mpr c13
          have c13b1 : (t103 != 0) = false := bne_eq_false_iff_eq.mpr c13
          clear c13
          have H' := aa.mk H
          clear H
          have p101 : 0 ≤ (x11_1 : Int) := of_decide_eq_true (by first | (with_reducible assumption) | assumption)
          have q101 : x11_1 < (l0.length : Int) := of_decide_eq_true (by first | (with_reducible assumption) | assumption)
          obtain ⟨ad101, A101_1, c101_1, e101, hx101_0, hx101_1, hl101_1, hi101_1⟩ := oO HR0.out x11_1 p101 q101
          cases e101
          replace hx101_0 := (HB.out.cell (World.block_lt_of_cell? w _ hx101_0)).trans hx101_0
          replace hx101_1 := (HB.out.cell (World.block_lt_of_cell? w _ hx101_1)).trans hx101_1
          have HR101_1 := aa.mk hi101_1
          have HC101_1 := aa.mk hl101_1
          clear hi101_1 hl101_1
          replace p101 := eq_true p101
          replace q101 := eq_true q101
          go_wp2_with (first | ((with_reducible refine bf (N := 5) rfl ?_); refine aY ?hg (N := 5) ?hd (cs := #[.int .i64 0, .slice none 0 0]) (t := 75) ?hr ?_; (case hd => rfl); (case hg => rfl); (case hr => first | (go_simp; done) | (go_simp; rfl)); intro gb102 hg w14 hbox hb; have n0_ := aa.mk (az (by repeat (first | (with_reducible first | exact HB.out | apply ah | apply af | apply ag) | exact HB.out)) hb); have n1_ := aa.mk (hbox); have n2_ := aa.mk ((by rw [hg]; exact (ay (by repeat (first | (with_reducible first | exact HB.out | apply ah | apply af | apply ag) | exact HB.out))) : w.heap.size ≤ gb102)); have n3_ := aa.mk ((by rw [hg]; exact (ay (by repeat (first | (with_reducible first | exact HB.out | apply ah | apply af | apply ag) | exact HB.out))) : w.heap.size ≤ gb102)); clear HB; have HB := n0_; have BK102 := n1_; have GW102 := n2_; have GE102 := n3_; clear n0_ n1_ n2_ n3_; clear hb hbox hg; have hcz15_0 : w14.cell? ⟨gb102, 0, none⟩ = some (.int .i64 0) := (ae BK102.out 0).trans rfl; have hcz15_1 : w14.cell? ⟨gb102, 1, none⟩ = some (.slice none 0 0) := (ae BK102.out 1).trans rfl; have hfz15_0 := ai BK102.out 0; have hfz15_1 := ai BK102.out 1) | (go_at_call 124; (with_reducible refine (aG.calls k1 _ _ ((dI l0 x11_1).f1) t103 _ ?side1 ?side2 A12.out).mono ?_); (case side1 => exact Kd.aN HR101_1.out (by repeat (first | (with_reducible first | exact HB.out | apply ah | apply af | apply ag | refine av ?_ GE102.out) | exact HB.out))); (case side2 => exact HC101_1.out); rintro e w16 ⟨rfl, hb⟩; have n0_ := aa.mk (aK (g := gb102) (o := .cells #[.int .i64 ((dI l0 x11_1).f0), .slice A101_1 ((dI l0 x11_1).f1).length c101_1] 75 (0, 0)) (by (with_reducible repeat (first | refine ak ?_ _ | refine au ?_ | refine aj ?_ _)); refine aW (cs := #[.int .i64 ((dI l0 x11_1).f0), .slice none 0 0]) ?_ 1 _ rfl; (with_reducible repeat (first | refine ak ?_ _ | refine au ?_ | refine aj ?_ _)); refine aW (cs := #[.int .i64 0, .slice none 0 0]) ?_ 0 _ rfl; (with_reducible repeat (first | refine ak ?_ _ | refine au ?_ | refine aj ?_ _)); exact BK102.out) hb); have n1_ := aa.mk (az (by repeat (first | (with_reducible first | exact HB.out | apply ah | apply af | apply ag | refine av ?_ GE102.out) | exact HB.out)) hb); clear BK102; clear HB; have BK102 := n0_; have HB := n1_; clear n0_ n1_; (try clear hb); (try clear hb2); (try clear hk); (try clear hi); have hcz17_0 : w16.cell? ⟨gb102, 0, none⟩ = some (.int .i64 ((dI l0 x11_1).f0)) := (ae BK102.out 0).trans rfl; have hcz17_1 : w16.cell? ⟨gb102, 1, none⟩ = some (.slice A101_1 ((dI l0 x11_1).f1).length c101_1) := (ae BK102.out 1).trans rfl; have hfz17_0 := ai BK102.out 0; have hfz17_1 := ai BK102.out 1))
          go_roundg k1
          case measure => have := HK1.out; omega
          case rel => exact ⟨((dI l0 x11_1).f0), (wrap64 (x11_1 + 1)), (by first | rfl | (simp; done) | (simp [*]; done)), (by first | rfl | (simp; done) | (simp [*]; done)), H', ⟨by have := HK1.out; omega⟩, ⟨by repeat (first | (with_reducible first | exact HB.out | apply ah | apply af | apply ag | refine av ?_ GE102.out) | exact HB.out)⟩⟩
         ·rw [if_neg c13] at H
          have c13b0 : (t103 == 0) = false := beq_eq_false_iff_ne.mpr c13
          have c13b1 : (t103 != 0) = true := bne_iff_ne.mpr c13
          obtain rfl := Option.some.inj H
          have p101 : 0 ≤ (x11_1 : Int) := of_decide_eq_true (by first | (with_reducible assumption) | assumption)
          have q101 : x11_1 < (l0.length : Int) := of_decide_eq_true (by first | (with_reducible assumption) | assumption)
          obtain ⟨ad101, A101_1, c101_1, e101, hx101_0, hx101_1, hl101_1, hi101_1⟩ := oO HR0.out x11_1 p101 q101
          cases e101
          replace hx101_0 := (HB.out.cell (World.block_lt_of_cell? w _ hx101_0)).trans hx101_0
          replace hx101_1 := (HB.out.cell (World.block_lt_of_cell? w _ hx101_1)).trans hx101_1
          have HR101_1 := aa.mk hi101_1
          have HC101_1 := aa.mk hl101_1
          clear hi101_1 hl101_1
          replace p101 := eq_true p101
          replace q101 := eq_true q101
          go_wp2_with (first | ((with_reducible refine bf (N := 5) rfl ?_); refine aY ?hg (N := 5) ?hd (cs := #[.int .i64 0, .slice none 0 0]) (t := 75) ?hr ?_; (case hd => rfl); (case hg => rfl); (case hr => first | (go_simp; done) | (go_simp; rfl)); intro gb102 hg w18 hbox hb; have n0_ := aa.mk (az (by repeat (first | (with_reducible first | exact HB.out | apply ah | apply af | apply ag) | exact HB.out)) hb); have n1_ := aa.mk (hbox); have n2_ := aa.mk ((by rw [hg]; exact (ay (by repeat (first | (with_reducible first | exact HB.out | apply ah | apply af | apply ag) | exact HB.out))) : w.heap.size ≤ gb102)); have n3_ := aa.mk ((by rw [hg]; exact (ay (by repeat (first | (with_reducible first | exact HB.out | apply ah | apply af | apply ag) | exact HB.out))) : w.heap.size ≤ gb102)); clear HB; have HB := n0_; have BK102 := n1_; have GW102 := n2_; have GE102 := n3_; clear n0_ n1_ n2_ n3_; clear hb hbox hg; have hcz19_0 : w18.cell? ⟨gb102, 0, none⟩ = some (.int .i64 0) := (ae BK102.out 0).trans rfl; have hcz19_1 : w18.cell? ⟨gb102, 1, none⟩ = some (.slice none 0 0) := (ae BK102.out 1).trans rfl; have hfz19_0 := ai BK102.out 0; have hfz19_1 := ai BK102.out 1) | (go_at_call 124; (with_reducible refine (aG.calls k1 _ _ ((dI l0 x11_1).f1) t103 _ ?side1 ?side2 A12.out).mono ?_); (case side1 => exact Kd.aN HR101_1.out (by repeat (first | (with_reducible first | exact HB.out | apply ah | apply af | apply ag | refine av ?_ GE102.out) | exact HB.out))); (case side2 => exact HC101_1.out); rintro e w20 ⟨rfl, hb⟩; have n0_ := aa.mk (aK (g := gb102) (o := .cells #[.int .i64 ((dI l0 x11_1).f0), .slice A101_1 ((dI l0 x11_1).f1).length c101_1] 75 (0, 0)) (by (with_reducible repeat (first | refine ak ?_ _ | refine au ?_ | refine aj ?_ _)); refine aW (cs := #[.int .i64 ((dI l0 x11_1).f0), .slice none 0 0]) ?_ 1 _ rfl; (with_reducible repeat (first | refine ak ?_ _ | refine au ?_ | refine aj ?_ _)); refine aW (cs := #[.int .i64 0, .slice none 0 0]) ?_ 0 _ rfl; (with_reducible repeat (first | refine ak ?_ _ | refine au ?_ | refine aj ?_ _)); exact BK102.out) hb); have n1_ := aa.mk (az (by repeat (first | (with_reducible first | exact HB.out | apply ah | apply af | apply ag | refine av ?_ GE102.out) | exact HB.out)) hb); clear BK102; clear HB; have BK102 := n0_; have HB := n1_; clear n0_ n1_; (try clear hb); (try clear hb2); (try clear hk); (try clear hi)))
          go_ret
          exact ⟨by first | rfl | (simp [aD, aC] <;> rfl) | (simp [*, aD, aC] <;> rfl), by repeat (first | (with_reducible first | exact HB.out | apply ah | apply af | apply ag | refine av ?_ GE102.out) | exact HB.out)⟩
      ·rw [if_neg c5] at H
       exact absurd H (by simp)
     ·rw [if_neg c4] at H
      exact absurd H (by simp)
    ·rw [if_neg c3] at H
     have c3b0 : decide (x11_1 < (l0.length : Int)) = false := decide_eq_false c3
     clear c3
     obtain rfl := Option.some.inj H
     go_wp2
     go_ret
     exact ⟨by first | rfl | (simp [aD, aC] <;> rfl) | (simp [*, aD, aC] <;> rfl), by repeat (first | (with_reducible first | exact HB.out | apply ah | apply af | apply ag) | exact HB.out)⟩
def toM (x : S75) : Flag.Mp := ⟨x.f0, x.f1.map toE⟩
theorem rd_map (pre : List S75) (x : S75) (t : List S75) {i : Int} (h : i = pre.length) : dI (pre ++ x :: t) i = x := by
  unfold dI
  rw [h, Int.toNat_natCast, List.getD_eq_getElem?_getD, List.getElem?_append_right (Nat.le_refl _), Nat.sub_self]; rfl
theorem wP (l : List S75) (hl : l.length ≤ 9) (t : List S75) : ∀ (pre : List S75) (e : Int) (k : Nat), l = pre ++ t → 1100 + t.length < k → dh.l0 k e l (l.length : Int) (pre.length : Int) = some (if Flag.risM e (t.map toM) = true then 0 else 9) := by
  induction t with
  | nil =>
    intro pre e k h hk
    obtain ⟨k, rfl⟩ : ∃ m, k = m + 1 := ⟨k - 1, by omega⟩
    rw [dh.l0, if_neg (by rw [h]; simp)]
    rfl
  | cons x t ih =>
    intro pre e k h hk
    rw [List.length_cons] at hk
    obtain ⟨k, rfl⟩ : ∃ m, k = m + 1 := ⟨k - 1, by omega⟩
    have hlen : l.length = pre.length + t.length + 1 := by rw [h]; simp; omega
    have hr : dI l (pre.length : Int) = x := by rw [h]; exact rd_map pre x t rfl
    have e1 : wrap64 ((pre.length : Int) + 1) = ((pre ++ [x]).length : Int) := by rw [w64 (by omega)]; simp
    rw [dh.l0, if_pos (by omega), if_pos (by omega), if_pos (by omega), hr, e1, List.map_cons, Flag.risM]
    show _ = some (if (decide (e < x.f0) && decide (x.f0 ≤ 255) && decide (Flag.gX (x.f1.map toE) = 0) && Flag.risM x.f0 (t.map toM)) = true then 0 else 9)
    by_cases c1 : x.f0 ≤ e
    · rw [if_pos c1, decide_eq_false (show ¬ e < x.f0 by omega)]
      simp
    · rw [if_neg c1, decide_eq_true (show e < x.f0 by omega)]
      by_cases c2 : x.f0 > 255
      · rw [if_pos c2, decide_eq_false (show ¬ x.f0 ≤ 255 by omega)]
        simp
      · rw [if_neg c2, decide_eq_true (show x.f0 ≤ 255 by omega)]
        by_cases c4 : x.f1.length ≤ 1024
        · rw [ui x.f1 (by omega), Option.bind_some]
          by_cases c3 : Flag.gX (x.f1.map toE) = 0
          · rw [if_pos c3, decide_eq_true c3, ih (pre ++ [x]) x.f0 k (by rw [h]; simp) (by omega)]
            simp
          · rw [if_neg c3, decide_eq_false c3]
            simp
        · have e9 : Flag.gX (x.f1.map toE) = 9 := by unfold Flag.gX; rw [if_neg]; intro hh; apply c4; simpa using hh.1
          have ex : aG.f k x.f1 = some 9 := by unfold aG.f; rw [if_pos (by omega)]
          rw [ex, Option.bind_some, e9, if_neg (by omega)]
          simp
theorem yL (l : List S75) : dh.f 1200 l = some (Flag.fT (l.map toM)) := by
  unfold dh.f Flag.fT
  rw [List.length_map]
  by_cases c : (l.length : Int) > 9
  · rw [if_pos c, if_neg (by omega)]
  · rw [if_neg c]
    have h := wP l (by omega) l [] (-1) 1200 rfl (by omega)
    rw [show (([] : List S75).length : Int) = 0 from rfl] at h
    rw [h]
    by_cases c2 : Flag.risM (-1) (l.map toM) = true
    · rw [if_pos c2, if_pos ⟨by omega, c2⟩]
    · rw [if_neg c2, if_neg (fun hh => c2 hh.2)]
def cmp_isNaN_int.f (a0 : Int) : Option (Bool) := some (a0 != a0)
set_option maxHeartbeats 8000000 in
set_option maxRecDepth 100000 in
theorem cmp_isNaN_int.calls (a0 : Int) (r : Bool) (w : World) (h : cmp_isNaN_int.f a0 = some r) :
 Calls Tryz.prog 158 #[.int .i64 a0] w fun e w' => e = .returned (.bool r) ∧ bI w w' := by
 have H : (some (a0 != a0)) = some r := h
 clear h
 obtain rfl := Option.some.inj H
 go_enter Tryz.func158, Tryz.ntmps158
 go_wp2
 go_ret
 exact ⟨by first | rfl | (simp; done) | (simp [*]; done), by repeat (first | exact bI.refl _ | apply bI.step)⟩
def cmp_Compare_int.f (a0 : Int) (a1 : Int) : Option (Int) := (cmp_isNaN_int.f a0).bind fun t101 => ((cmp_isNaN_int.f a1).bind fun t102 => (if t101 = true then (if t102 = true then (some 0) else (some (-1))) else (if t102 = true then (some 1) else (if a0 < a1 then (some (-1)) else (if a0 > a1 then (some 1) else (some 0))))))
set_option maxHeartbeats 8000000 in
set_option maxRecDepth 100000 in
theorem cmp_Compare_int.calls (a0 : Int) (a1 : Int) (r : Int) (w : World) (h : cmp_Compare_int.f a0 a1 = some r) :
 Calls Tryz.prog 132 #[.int .i64 a0, .int .i64 a1] w fun e w' => e = .returned (.int .i64 r) ∧ bI w w' := by
 have H : ((cmp_isNaN_int.f a0).bind fun t101 => ((cmp_isNaN_int.f a1).bind fun t102 => (if t101 = true then (if t102 = true then (some 0) else (some (-1))) else (if t102 = true then (some 1) else (if a0 < a1 then (some (-1)) else (if a0 > a1 then (some 1) else (some 0))))))) = some r := h
 clear h
 replace H := Option.bind_eq_some_iff.mp H
 obtain ⟨t101, A30, H⟩ := H
 replace H : ((cmp_isNaN_int.f a1).bind fun t102 => (if t101 = true then (if t102 = true then (some 0) else (some (-1))) else (if t102 = true then (some 1) else (if a0 < a1 then (some (-1)) else (if a0 > a1 then (some 1) else (some 0)))))) = some r := H
 have A3 := aa.mk A30
 clear A30
 replace H := Option.bind_eq_some_iff.mp H
 obtain ⟨t102, A40, H⟩ := H
 replace H : (if t101 = true then (if t102 = true then (some 0) else (some (-1))) else (if t102 = true then (some 1) else (if a0 < a1 then (some (-1)) else (if a0 > a1 then (some 1) else (some 0))))) = some r := H
 have A4 := aa.mk A40
 clear A40
 by_cases c5 : t101 = true
 ·subst c5
  have H1 : (if t102 = true then (some 0) else (some (-1))) = some r := by rw [if_pos rfl] at H; exact H
  clear H
  have H := H1
  clear H1
  by_cases c6 : t102 = true
  ·subst c6
   have H1 : (some 0) = some r := by rw [if_pos rfl] at H; exact H
   clear H
   have H := H1
   clear H1
   obtain rfl := Option.some.inj H
   go_enter Tryz.func132, Tryz.ntmps132
   go_wp2_with (first | ((with_reducible refine bB (f := 158) rfl ?_); refine dN (some 8) rfl rfl Tryz.func158 (by kernel_rfl) rfl #[.int .i64 a0] rfl (by (try simp only [List.map_toArray, List.map_cons, List.map_nil]); first | done | rfl | (simp only [List.length_drop, List.length_take]; rfl)) ?_; (with_reducible refine (cmp_isNaN_int.calls a0 true _ A3.out).mono ?_); rintro e w' ⟨rfl, ⟨nd, rfl⟩⟩; refine ⟨_, rfl, ?_⟩) | ((with_reducible refine bB (f := 158) rfl ?_); refine dN (some 10) rfl rfl Tryz.func158 (by kernel_rfl) rfl #[.int .i64 a1] rfl (by (try simp only [List.map_toArray, List.map_cons, List.map_nil]); first | done | rfl | (simp only [List.length_drop, List.length_take]; rfl)) ?_; (with_reducible refine (cmp_isNaN_int.calls a1 true _ A4.out).mono ?_); rintro e w' ⟨rfl, ⟨nd, rfl⟩⟩; refine ⟨_, rfl, ?_⟩))
   go_ret
   exact ⟨by first | rfl | (simp; done) | (simp [*]; done), by repeat (first | exact bI.refl _ | apply bI.step)⟩
  ·replace c6 := Bool.eq_false_iff.mpr c6
   subst c6
   have H1 : (some (-1)) = some r := by rw [if_neg (show ¬ (false = true) by decide)] at H; exact H
   clear H
   have H := H1
   clear H1
   obtain rfl := Option.some.inj H
   go_enter Tryz.func132, Tryz.ntmps132
   go_wp2_with (first | ((with_reducible refine bB (f := 158) rfl ?_); refine dN (some 8) rfl rfl Tryz.func158 (by kernel_rfl) rfl #[.int .i64 a0] rfl (by (try simp only [List.map_toArray, List.map_cons, List.map_nil]); first | done | rfl | (simp only [List.length_drop, List.length_take]; rfl)) ?_; (with_reducible refine (cmp_isNaN_int.calls a0 true _ A3.out).mono ?_); rintro e w' ⟨rfl, ⟨nd, rfl⟩⟩; refine ⟨_, rfl, ?_⟩) | ((with_reducible refine bB (f := 158) rfl ?_); refine dN (some 10) rfl rfl Tryz.func158 (by kernel_rfl) rfl #[.int .i64 a1] rfl (by (try simp only [List.map_toArray, List.map_cons, List.map_nil]); first | done | rfl | (simp only [List.length_drop, List.length_take]; rfl)) ?_; (with_reducible refine (cmp_isNaN_int.calls a1 false _ A4.out).mono ?_); rintro e w' ⟨rfl, ⟨nd, rfl⟩⟩; refine ⟨_, rfl, ?_⟩))
   go_ret
   exact ⟨by first | rfl | (simp; done) | (simp [*]; done), by repeat (first | exact bI.refl _ | apply bI.step)⟩
 ·replace c5 := Bool.eq_false_iff.mpr c5
  subst c5
  have H1 : (if t102 = true then (some 1) else (if a0 < a1 then (some (-1)) else (if a0 > a1 then (some 1) else (some 0)))) = some r := by rw [if_neg (show ¬ (false = true) by decide)] at H; exact H
  clear H
  have H := H1
  clear H1
  by_cases c7 : t102 = true
  ·subst c7
   have H1 : (some 1) = some r := by rw [if_pos rfl] at H; exact H
   clear H
   have H := H1
   clear H1
   obtain rfl := Option.some.inj H
   go_enter Tryz.func132, Tryz.ntmps132
   go_wp2_with (first | ((with_reducible refine bB (f := 158) rfl ?_); refine dN (some 8) rfl rfl Tryz.func158 (by kernel_rfl) rfl #[.int .i64 a0] rfl (by (try simp only [List.map_toArray, List.map_cons, List.map_nil]); first | done | rfl | (simp only [List.length_drop, List.length_take]; rfl)) ?_; (with_reducible refine (cmp_isNaN_int.calls a0 false _ A3.out).mono ?_); rintro e w' ⟨rfl, ⟨nd, rfl⟩⟩; refine ⟨_, rfl, ?_⟩) | ((with_reducible refine bB (f := 158) rfl ?_); refine dN (some 10) rfl rfl Tryz.func158 (by kernel_rfl) rfl #[.int .i64 a1] rfl (by (try simp only [List.map_toArray, List.map_cons, List.map_nil]); first | done | rfl | (simp only [List.length_drop, List.length_take]; rfl)) ?_; (with_reducible refine (cmp_isNaN_int.calls a1 true _ A4.out).mono ?_); rintro e w' ⟨rfl, ⟨nd, rfl⟩⟩; refine ⟨_, rfl, ?_⟩))
   go_ret
   exact ⟨by first | rfl | (simp; done) | (simp [*]; done), by repeat (first | exact bI.refl _ | apply bI.step)⟩
  ·replace c7 := Bool.eq_false_iff.mpr c7
   subst c7
   have H1 : (if a0 < a1 then (some (-1)) else (if a0 > a1 then (some 1) else (some 0))) = some r := by rw [if_neg (show ¬ (false = true) by decide)] at H; exact H
   clear H
   have H := H1
   clear H1
   by_cases c8 : a0 < a1
   ·rw [if_pos c8] at H
    have c8b0 : decide (a0 < a1) = true := decide_eq_true c8
    clear c8
    obtain rfl := Option.some.inj H
    go_enter Tryz.func132, Tryz.ntmps132
    go_wp2_with (first | ((with_reducible refine bB (f := 158) rfl ?_); refine dN (some 8) rfl rfl Tryz.func158 (by kernel_rfl) rfl #[.int .i64 a0] rfl (by (try simp only [List.map_toArray, List.map_cons, List.map_nil]); first | done | rfl | (simp only [List.length_drop, List.length_take]; rfl)) ?_; (with_reducible refine (cmp_isNaN_int.calls a0 false _ A3.out).mono ?_); rintro e w' ⟨rfl, ⟨nd, rfl⟩⟩; refine ⟨_, rfl, ?_⟩) | ((with_reducible refine bB (f := 158) rfl ?_); refine dN (some 10) rfl rfl Tryz.func158 (by kernel_rfl) rfl #[.int .i64 a1] rfl (by (try simp only [List.map_toArray, List.map_cons, List.map_nil]); first | done | rfl | (simp only [List.length_drop, List.length_take]; rfl)) ?_; (with_reducible refine (cmp_isNaN_int.calls a1 false _ A4.out).mono ?_); rintro e w' ⟨rfl, ⟨nd, rfl⟩⟩; refine ⟨_, rfl, ?_⟩))
    go_ret
    exact ⟨by first | rfl | (simp; done) | (simp [*]; done), by repeat (first | exact bI.refl _ | apply bI.step)⟩
   ·rw [if_neg c8] at H
    have c8b0 : decide (a0 < a1) = false := decide_eq_false c8
    clear c8
    by_cases c9 : a0 > a1
    ·rw [if_pos c9] at H
     have c9b0 : decide (a1 < a0) = true := decide_eq_true c9
     clear c9
     obtain rfl := Option.some.inj H
     go_enter Tryz.func132, Tryz.ntmps132
     go_wp2_with (first | ((with_reducible refine bB (f := 158) rfl ?_); refine dN (some 8) rfl rfl Tryz.func158 (by kernel_rfl) rfl #[.int .i64 a0] rfl (by (try simp only [List.map_toArray, List.map_cons, List.map_nil]); first | done | rfl | (simp only [List.length_drop, List.length_take]; rfl)) ?_; (with_reducible refine (cmp_isNaN_int.calls a0 false _ A3.out).mono ?_); rintro e w' ⟨rfl, ⟨nd, rfl⟩⟩; refine ⟨_, rfl, ?_⟩) | ((with_reducible refine bB (f := 158) rfl ?_); refine dN (some 10) rfl rfl Tryz.func158 (by kernel_rfl) rfl #[.int .i64 a1] rfl (by (try simp only [List.map_toArray, List.map_cons, List.map_nil]); first | done | rfl | (simp only [List.length_drop, List.length_take]; rfl)) ?_; (with_reducible refine (cmp_isNaN_int.calls a1 false _ A4.out).mono ?_); rintro e w' ⟨rfl, ⟨nd, rfl⟩⟩; refine ⟨_, rfl, ?_⟩))
     go_ret
     exact ⟨by first | rfl | (simp; done) | (simp [*]; done), by repeat (first | exact bI.refl _ | apply bI.step)⟩
    ·rw [if_neg c9] at H
     have c9b0 : decide (a1 < a0) = false := decide_eq_false c9
     clear c9
     obtain rfl := Option.some.inj H
     go_enter Tryz.func132, Tryz.ntmps132
     go_wp2_with (first | ((with_reducible refine bB (f := 158) rfl ?_); refine dN (some 8) rfl rfl Tryz.func158 (by kernel_rfl) rfl #[.int .i64 a0] rfl (by (try simp only [List.map_toArray, List.map_cons, List.map_nil]); first | done | rfl | (simp only [List.length_drop, List.length_take]; rfl)) ?_; (with_reducible refine (cmp_isNaN_int.calls a0 false _ A3.out).mono ?_); rintro e w' ⟨rfl, ⟨nd, rfl⟩⟩; refine ⟨_, rfl, ?_⟩) | ((with_reducible refine bB (f := 158) rfl ?_); refine dN (some 10) rfl rfl Tryz.func158 (by kernel_rfl) rfl #[.int .i64 a1] rfl (by (try simp only [List.map_toArray, List.map_cons, List.map_nil]); first | done | rfl | (simp only [List.length_drop, List.length_take]; rfl)) ?_; (with_reducible refine (cmp_isNaN_int.calls a1 false _ A4.out).mono ?_); rintro e w' ⟨rfl, ⟨nd, rfl⟩⟩; refine ⟨_, rfl, ?_⟩))
     go_ret
     exact ⟨by first | rfl | (simp; done) | (simp [*]; done), by repeat (first | exact bI.refl _ | apply bI.step)⟩
def df.l0 : Nat → Int → List Int → Int → Int → Option (Int)
 | 0, _, _, _, _ => none
 | k + 1, x3, x6, x7, x8 => if x8 < x7 then (if 0 ≤ x8 then (if x8 < (x6.length : Int) then (if (rd x6 x8) = x3 then (df.l0 k x3 x6 x7 (wrap64 (x8 + 1))) else (some (rd x6 x8))) else (none)) else (none)) else (some x3)
def df.f (k : Nat) (l0 : List Int) : Option (Int) := df.l0 k 0 l0 (l0.length : Int) 0
set_option maxHeartbeats 8000000 in
set_option maxRecDepth 100000 in
theorem df.calls (k : Nat) (A0 : Option Addr) (c0 : Nat) (l0 : List Int) (r : Int) (w : World) (hr0 : Kd.C (Kd.int .i64) w A0 l0.length l0) (hc0 : l0.length ≤ c0) (h : df.f k l0 = some r) :
 Calls Tryz.prog 170 #[.slice A0 l0.length c0] w fun e w' => e = .returned (.int .i64 r) ∧ bI w w' := by
 have HR0 := aa.mk hr0
 have HC0 := aa.mk hc0
 clear hr0 hc0
 have H : (df.l0 k 0 l0 (l0.length : Int) 0) = some r := h
 clear h
 have H' := aa.mk H
 clear H
 go_enter Tryz.func170, Tryz.ntmps170
 go_wp2
 go_loopg [8] k (fun kq v8 w' => ∃ (x8_1 : Int), v8 = .int .i64 x8_1 ∧ aa (df.l0 kq 0 l0 (l0.length : Int) x8_1 = some r) ∧ aa (kq ≤ k) ∧ bI w w')
 case atStart => exact ⟨(0), (by first | rfl | (simp; done) | (simp [*]; done)), H', ⟨Nat.le_refl _⟩, by repeat (first | exact bI.refl _ | apply bI.step)⟩
 case round =>
  clear H'
  try clear c1
  obtain ⟨x8_1, rfl, HA, HK1, ⟨m1, rfl⟩⟩ := hrel
  cases gk with
  | zero => exact absurd HA.out (by simp [df.l0])
  | succ k1 =>
   have H := HA.out
   clear HA
   simp only [df.l0] at H
   by_cases c2 : x8_1 < (l0.length : Int)
   ·rw [if_pos c2] at H
    have c2b0 : decide (x8_1 < (l0.length : Int)) = true := decide_eq_true c2
    clear c2
    by_cases c3 : 0 ≤ x8_1
    ·rw [if_pos c3] at H
     have c3b0 : decide (0 ≤ x8_1) = true := decide_eq_true c3
     clear c3
     by_cases c4 : x8_1 < (l0.length : Int)
     ·rw [if_pos c4] at H
      have c4b0 : decide (x8_1 < (l0.length : Int)) = true := decide_eq_true c4
      clear c4
      by_cases c5 : (rd l0 x8_1) = 0
      ·rw [if_pos c5] at H
       have c5b0 : ((rd l0 x8_1) == 0) = true := beq_iff_eq.mpr c5
       have c5b1 : ((rd l0 x8_1) != 0) = false := bne_eq_false_iff_eq.mpr c5
       clear c5
       have H' := aa.mk H
       clear H
       have p101 : 0 ≤ (x8_1 : Int) := of_decide_eq_true (by first | (with_reducible assumption) | assumption)
       have q101 : x8_1 < (l0.length : Int) := of_decide_eq_true (by first | (with_reducible assumption) | assumption)
       obtain ⟨ad101, e101, hx101_0⟩ := Kd.uX HR0.out x8_1 p101 q101
       cases e101
       replace p101 := eq_true p101
       replace q101 := eq_true q101
       go_wp2
       go_roundg k1
       case measure => have := HK1.out; omega
       case rel => exact ⟨(wrap64 (x8_1 + 1)), (by first | rfl | (simp; done) | (simp [*]; done)), H', ⟨by have := HK1.out; omega⟩, by repeat (first | exact bI.refl _ | apply bI.step)⟩
      ·rw [if_neg c5] at H
       have c5b0 : ((rd l0 x8_1) == 0) = false := beq_eq_false_iff_ne.mpr c5
       have c5b1 : ((rd l0 x8_1) != 0) = true := bne_iff_ne.mpr c5
       obtain rfl := Option.some.inj H
       have p101 : 0 ≤ (x8_1 : Int) := of_decide_eq_true (by first | (with_reducible assumption) | assumption)
       have q101 : x8_1 < (l0.length : Int) := of_decide_eq_true (by first | (with_reducible assumption) | assumption)
       obtain ⟨ad101, e101, hx101_0⟩ := Kd.uX HR0.out x8_1 p101 q101
       cases e101
       replace p101 := eq_true p101
       replace q101 := eq_true q101
       go_wp2
       go_ret
       exact ⟨by first | rfl | (simp; done) | (simp [*]; done), by repeat (first | exact bI.refl _ | apply bI.step)⟩
     ·rw [if_neg c4] at H
      exact absurd H (by simp)
    ·rw [if_neg c3] at H
     exact absurd H (by simp)
   ·rw [if_neg c2] at H
    have c2b0 : decide (x8_1 < (l0.length : Int)) = false := decide_eq_false c2
    clear c2
    obtain rfl := Option.some.inj H
    go_wp2
    go_ret
    exact ⟨by first | rfl | (simp; done) | (simp [*]; done), by repeat (first | exact bI.refl _ | apply bI.step)⟩
def dB.f (a0_0 : Int) (a0_1 : Int) (a1 : Int) : Option (Bool) := if a0_1 > 0 then (if a0_0 ≥ 0 then (if a0_0 < a1 then (some (decide (a0_1 ≤ (wrap64 (a1 - a0_0))))) else (some false)) else (some false)) else (some false)
set_option maxHeartbeats 8000000 in
set_option maxRecDepth 100000 in
theorem dB.calls (a0_0 : Int) (a0_1 : Int) (a1 : Int) (r : Bool) (w : World) (h : dB.f a0_0 a0_1 a1 = some r) :
 Calls Tryz.prog 104 #[.agg #[.int .i64 a0_0, .int .i64 a0_1], .int .i64 a1] w fun e w' => e = .returned (.bool r) ∧ Below w.heap.size w w' := by
 have hu93 := Tryz.underlying93
 have HB := aa.mk (Below.refl w.heap.size w)
 have H : (if a0_1 > 0 then (if a0_0 ≥ 0 then (if a0_0 < a1 then (some (decide (a0_1 ≤ (wrap64 (a1 - a0_0))))) else (some false)) else (some false)) else (some false)) = some r := h
 clear h
 by_cases c3 : a0_1 > 0
 ·rw [if_pos c3] at H
  have c3b0 : decide (0 < a0_1) = true := decide_eq_true c3
  clear c3
  by_cases c4 : a0_0 ≥ 0
  ·rw [if_pos c4] at H
   have c4b0 : decide (0 ≤ a0_0) = true := decide_eq_true c4
   clear c4
   by_cases c5 : a0_0 < a1
   ·rw [if_pos c5] at H
    have c5b0 : decide (a0_0 < a1) = true := decide_eq_true c5
    clear c5
    obtain rfl := Option.some.inj H
    go_enter Tryz.func104, Tryz.ntmps104
    go_wp2_with (first | ((with_reducible refine bf (N := 2) rfl ?_); refine aY ?hg (N := 2) ?hd (cs := #[.int .i64 a0_0, .int .i64 a0_1]) (t := 93) ?hr ?_; (case hd => rfl); (case hg => rfl); (case hr => first | (go_simp; done) | (go_simp; rfl)); intro gb101 hg w6 hbox hb; have n0_ := aa.mk (az (by repeat (first | (with_reducible first | exact HB.out | apply ah | apply af | apply ag) | exact HB.out)) hb); have n1_ := aa.mk (hbox); have n2_ := aa.mk ((by rw [hg]; exact (ay (by repeat (first | (with_reducible first | exact HB.out | apply ah | apply af | apply ag) | exact HB.out))) : w.heap.size ≤ gb101)); have n3_ := aa.mk ((by rw [hg]; exact (ay (by repeat (first | (with_reducible first | exact HB.out | apply ah | apply af | apply ag) | exact HB.out))) : w.heap.size ≤ gb101)); clear HB; have HB := n0_; have BK101 := n1_; have GW101 := n2_; have GE101 := n3_; clear n0_ n1_ n2_ n3_; clear hb hbox hg; have hcz7_0 : w6.cell? ⟨gb101, 0, none⟩ = some (.int .i64 a0_0) := (ae BK101.out 0).trans rfl; have hcz7_1 : w6.cell? ⟨gb101, 1, none⟩ = some (.int .i64 a0_1) := (ae BK101.out 1).trans rfl; have hfz7_0 := ai BK101.out 0; have hfz7_1 := ai BK101.out 1))
    go_ret
    exact ⟨by first | rfl | (simp [aD, aC] <;> rfl) | (simp [*, aD, aC] <;> rfl), by repeat (first | (with_reducible first | exact HB.out | apply ah | apply af | apply ag | refine av ?_ GE101.out) | exact HB.out)⟩
   ·rw [if_neg c5] at H
    have c5b0 : decide (a0_0 < a1) = false := decide_eq_false c5
    clear c5
    obtain rfl := Option.some.inj H
    go_enter Tryz.func104, Tryz.ntmps104
    go_wp2_with (first | ((with_reducible refine bf (N := 2) rfl ?_); refine aY ?hg (N := 2) ?hd (cs := #[.int .i64 a0_0, .int .i64 a0_1]) (t := 93) ?hr ?_; (case hd => rfl); (case hg => rfl); (case hr => first | (go_simp; done) | (go_simp; rfl)); intro gb101 hg w8 hbox hb; have n0_ := aa.mk (az (by repeat (first | (with_reducible first | exact HB.out | apply ah | apply af | apply ag) | exact HB.out)) hb); have n1_ := aa.mk (hbox); have n2_ := aa.mk ((by rw [hg]; exact (ay (by repeat (first | (with_reducible first | exact HB.out | apply ah | apply af | apply ag) | exact HB.out))) : w.heap.size ≤ gb101)); have n3_ := aa.mk ((by rw [hg]; exact (ay (by repeat (first | (with_reducible first | exact HB.out | apply ah | apply af | apply ag) | exact HB.out))) : w.heap.size ≤ gb101)); clear HB; have HB := n0_; have BK101 := n1_; have GW101 := n2_; have GE101 := n3_; clear n0_ n1_ n2_ n3_; clear hb hbox hg; have hcz9_0 : w8.cell? ⟨gb101, 0, none⟩ = some (.int .i64 a0_0) := (ae BK101.out 0).trans rfl; have hcz9_1 : w8.cell? ⟨gb101, 1, none⟩ = some (.int .i64 a0_1) := (ae BK101.out 1).trans rfl; have hfz9_0 := ai BK101.out 0; have hfz9_1 := ai BK101.out 1))
    go_ret
    exact ⟨by first | rfl | (simp [aD, aC] <;> rfl) | (simp [*, aD, aC] <;> rfl), by repeat (first | (with_reducible first | exact HB.out | apply ah | apply af | apply ag | refine av ?_ GE101.out) | exact HB.out)⟩
  ·rw [if_neg c4] at H
   have c4b0 : decide (0 ≤ a0_0) = false := decide_eq_false c4
   clear c4
   obtain rfl := Option.some.inj H
   go_enter Tryz.func104, Tryz.ntmps104
   go_wp2_with (first | ((with_reducible refine bf (N := 2) rfl ?_); refine aY ?hg (N := 2) ?hd (cs := #[.int .i64 a0_0, .int .i64 a0_1]) (t := 93) ?hr ?_; (case hd => rfl); (case hg => rfl); (case hr => first | (go_simp; done) | (go_simp; rfl)); intro gb101 hg w10 hbox hb; have n0_ := aa.mk (az (by repeat (first | (with_reducible first | exact HB.out | apply ah | apply af | apply ag) | exact HB.out)) hb); have n1_ := aa.mk (hbox); have n2_ := aa.mk ((by rw [hg]; exact (ay (by repeat (first | (with_reducible first | exact HB.out | apply ah | apply af | apply ag) | exact HB.out))) : w.heap.size ≤ gb101)); have n3_ := aa.mk ((by rw [hg]; exact (ay (by repeat (first | (with_reducible first | exact HB.out | apply ah | apply af | apply ag) | exact HB.out))) : w.heap.size ≤ gb101)); clear HB; have HB := n0_; have BK101 := n1_; have GW101 := n2_; have GE101 := n3_; clear n0_ n1_ n2_ n3_; clear hb hbox hg; have hcz11_0 : w10.cell? ⟨gb101, 0, none⟩ = some (.int .i64 a0_0) := (ae BK101.out 0).trans rfl; have hcz11_1 : w10.cell? ⟨gb101, 1, none⟩ = some (.int .i64 a0_1) := (ae BK101.out 1).trans rfl; have hfz11_0 := ai BK101.out 0; have hfz11_1 := ai BK101.out 1))
   go_ret
   exact ⟨by first | rfl | (simp [aD, aC] <;> rfl) | (simp [*, aD, aC] <;> rfl), by repeat (first | (with_reducible first | exact HB.out | apply ah | apply af | apply ag | refine av ?_ GE101.out) | exact HB.out)⟩
 ·rw [if_neg c3] at H
  have c3b0 : decide (0 < a0_1) = false := decide_eq_false c3
  clear c3
  obtain rfl := Option.some.inj H
  go_enter Tryz.func104, Tryz.ntmps104
  go_wp2_with (first | ((with_reducible refine bf (N := 2) rfl ?_); refine aY ?hg (N := 2) ?hd (cs := #[.int .i64 a0_0, .int .i64 a0_1]) (t := 93) ?hr ?_; (case hd => rfl); (case hg => rfl); (case hr => first | (go_simp; done) | (go_simp; rfl)); intro gb101 hg w12 hbox hb; have n0_ := aa.mk (az (by repeat (first | (with_reducible first | exact HB.out | apply ah | apply af | apply ag) | exact HB.out)) hb); have n1_ := aa.mk (hbox); have n2_ := aa.mk ((by rw [hg]; exact (ay (by repeat (first | (with_reducible first | exact HB.out | apply ah | apply af | apply ag) | exact HB.out))) : w.heap.size ≤ gb101)); have n3_ := aa.mk ((by rw [hg]; exact (ay (by repeat (first | (with_reducible first | exact HB.out | apply ah | apply af | apply ag) | exact HB.out))) : w.heap.size ≤ gb101)); clear HB; have HB := n0_; have BK101 := n1_; have GW101 := n2_; have GE101 := n3_; clear n0_ n1_ n2_ n3_; clear hb hbox hg; have hcz13_0 : w12.cell? ⟨gb101, 0, none⟩ = some (.int .i64 a0_0) := (ae BK101.out 0).trans rfl; have hcz13_1 : w12.cell? ⟨gb101, 1, none⟩ = some (.int .i64 a0_1) := (ae BK101.out 1).trans rfl; have hfz13_0 := ai BK101.out 0; have hfz13_1 := ai BK101.out 1))
  go_ret
  exact ⟨by first | rfl | (simp [aD, aC] <;> rfl) | (simp [*, aD, aC] <;> rfl), by repeat (first | (with_reducible first | exact HB.out | apply ah | apply af | apply ag | refine av ?_ GE101.out) | exact HB.out)⟩
end Go.Proofs.YtjeeejoelmmfmaaGreat.Fn
