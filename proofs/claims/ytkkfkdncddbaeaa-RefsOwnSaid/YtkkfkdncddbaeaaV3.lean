/- Part 3 of the walk: printed by programs of this session (by way of the kit's print) or told by hand. -/
import Derived.Test.YtkkfkdncddbaeaaV2
import Derived.Test.YtkkfkdncddbaeaaProg
import Derived.Deep.RegionLaw
import Derived.StillTailTactics
import Derived.IntWalk
namespace Go.Proofs.Ytkkfkdncddbaeaa.Fn
open Go.RowKit Go.Proofs.YtkkfkdncddbaeaaW.PrintWords Go.Proofs.YtkkfkdncddbaeaaW.PrintLast Go.Proofs.YtkkfkdncddbaeaaW.PrintMore
attribute [local go_sem] max2_int min2_int max_two min_two max_three min_three max_four min_four
set_option linter.unusedVariables false
set_option linter.unusedSimpArgs false
def errW : Option Int → Value
  | none => .nilIface
  | some c => .iface 0 (.int .i64 c)
theorem errW_none : errW none = .nilIface := rfl
theorem errW_some (c : Int) : errW (some c) = .iface 0 (.int .i64 c) := rfl
theorem info24 : (Try.prog.info? 24).map (fun i => (i.zero, i.size, i.bytes)) = some (some (.agg #[(.int .i64 0), (.int .i64 0), (.int .i64 0)]), 3, 24) := by kernel_rfl
theorem info86 : (Try.prog.info? 86).map (fun i => (i.zero, i.size, i.bytes)) = some (some (.agg #[(.int .i64 0), (.slice none 0 0)]), 2, 32) := by kernel_rfl
theorem info88 : (Try.prog.info? 88).map (fun i => (i.zero, i.size, i.bytes)) = some (some (.agg #[(.int .i64 0), (.int .i64 0), (.int .i64 0), (.int .i64 0)]), 4, 32) := by kernel_rfl
theorem info94 : (Try.prog.info? 94).map (fun i => (i.zero, i.size, i.bytes)) = some (some (.agg #[(.int .i64 0), (.slice none 0 0)]), 2, 32) := by kernel_rfl
theorem info96 : (Try.prog.info? 96).map (fun i => (i.zero, i.size, i.bytes)) = some (some (.agg #[(.int .i64 0), (.int .i64 0), (.int .i64 0)]), 3, 24) := by kernel_rfl
structure S24 where
  f0 : Int
  f1 : Int
  f2 : Int
def z24 : S24 := ⟨(0 : Int), (0 : Int), (0 : Int)⟩
def k24 : Kd S24 := Kd.iso (Kd.pair (Kd.int .i64) (Kd.pair (Kd.int .i64) (Kd.int .i64))) (fun x : S24 => (x.f0, x.f1, x.f2))
theorem k24_open {w : World} {x : S24} {cs : List Value} (h : k24.K w x cs) : cs = [.int .i64 x.f0, .int .i64 x.f1, .int .i64 x.f2] := by
  obtain ⟨_, _, rfl, rfl, ⟨_, _, rfl, rfl, rfl⟩⟩ := h
  exact rfl
theorem k24_openM {w : World} {base : Nat} {ok : Nat → Prop} {x : S24} {cs : List Value} (h : k24.M w base ok x cs) : cs = [.int .i64 x.f0, .int .i64 x.f1, .int .i64 x.f2] := by
  obtain ⟨_, _, rfl, rfl, ⟨_, _, rfl, rfl, rfl⟩⟩ := h
  exact rfl
theorem k24_mk (w : World) (x : S24)  : k24.K w x [.int .i64 x.f0, .int .i64 x.f1, .int .i64 x.f2] := ⟨[.int .i64 x.f0], [.int .i64 x.f1, .int .i64 x.f2], rfl, rfl, ⟨[.int .i64 x.f1], [.int .i64 x.f2], rfl, rfl, rfl⟩⟩
theorem k24_mkM (w : World) (base : Nat) (ok : Nat → Prop) (x : S24)  : k24.M w base ok x [.int .i64 x.f0, .int .i64 x.f1, .int .i64 x.f2] := ⟨[.int .i64 x.f0], [.int .i64 x.f1, .int .i64 x.f2], rfl, rfl, ⟨[.int .i64 x.f1], [.int .i64 x.f2], rfl, rfl, rfl⟩⟩
def rd_T24 (xs : List S24) (i : Int) : S24 := xs.getD i.toNat z24
theorem at_T24 {w : World} {A : Option Addr} {n : Nat} {xs : List S24} (h : Kd.C k24 w A n xs) (i : Int) (h0 : 0 ≤ i) (h1 : i < n) : ∃ ad , A = some ad ∧ w.cell? (ad.add (i.toNat * 3)) = some (.int .i64 (rd_T24 xs i).f0) ∧ w.cell? ⟨(ad.add (i.toNat * 3)).block, (ad.add (i.toNat * 3)).off + 1, none⟩ = some (.int .i64 (rd_T24 xs i).f1) ∧ w.cell? ⟨(ad.add (i.toNat * 3)).block, (ad.add (i.toNat * 3)).off + 2, none⟩ = some (.int .i64 (rd_T24 xs i).f2) := by
  obtain ⟨ad, c, e, _, hK, hc0⟩ := Kd.C_get h z24 i h0 h1
  have hc : ∀ j u, c[j]? = some u → w.cell? (ad.add (i.toNat * 3 + j)) = some u := hc0
  obtain rfl := k24_open hK
  exact ⟨ad, e, hc 0 _ rfl, by rw [← add_field _ _ 1 (by omega)]; exact hc 1 _ rfl, by rw [← add_field _ _ 2 (by omega)]; exact hc 2 _ rfl⟩
structure S40 where
  f0 : Int
  f1 : Int
def z40 : S40 := ⟨(0 : Int), (0 : Int)⟩
def k40 : Kd S40 := Kd.iso (Kd.pair (Kd.int .i64) (Kd.int .i64)) (fun x : S40 => (x.f0, x.f1))
theorem k40_open {w : World} {x : S40} {cs : List Value} (h : k40.K w x cs) : cs = [.int .i64 x.f0, .int .i64 x.f1] := by
  obtain ⟨_, _, rfl, rfl, rfl⟩ := h
  exact rfl
theorem k40_openM {w : World} {base : Nat} {ok : Nat → Prop} {x : S40} {cs : List Value} (h : k40.M w base ok x cs) : cs = [.int .i64 x.f0, .int .i64 x.f1] := by
  obtain ⟨_, _, rfl, rfl, rfl⟩ := h
  exact rfl
theorem k40_mkM (w : World) (base : Nat) (ok : Nat → Prop) (x : S40)  : k40.M w base ok x [.int .i64 x.f0, .int .i64 x.f1] := ⟨[.int .i64 x.f0], [.int .i64 x.f1], rfl, rfl, rfl⟩
def rd_T40 (xs : List S40) (i : Int) : S40 := xs.getD i.toNat z40
theorem at_T40 {w : World} {A : Option Addr} {n : Nat} {xs : List S40} (h : Kd.C k40 w A n xs) (i : Int) (h0 : 0 ≤ i) (h1 : i < n) : ∃ ad , A = some ad ∧ w.cell? (ad.add (i.toNat * 2)) = some (.int .i64 (rd_T40 xs i).f0) ∧ w.cell? ⟨(ad.add (i.toNat * 2)).block, (ad.add (i.toNat * 2)).off + 1, none⟩ = some (.int .i64 (rd_T40 xs i).f1) := by
  obtain ⟨ad, c, e, _, hK, hc0⟩ := Kd.C_get h z40 i h0 h1
  have hc : ∀ j u, c[j]? = some u → w.cell? (ad.add (i.toNat * 2 + j)) = some u := hc0
  obtain rfl := k40_open hK
  exact ⟨ad, e, hc 0 _ rfl, by rw [← add_field _ _ 1 (by omega)]; exact hc 1 _ rfl⟩
structure S94 where
  f0 : Int
  f1 : (List S24)
def z94 : S94 := ⟨(0 : Int), ([] : List S24)⟩
def k94 : Kd S94 := Kd.iso (Kd.pair (Kd.int .i64) (Kd.slice 24 k24)) (fun x : S94 => (x.f0, x.f1))
theorem k94_open {w : World} {x : S94} {cs : List Value} (h : k94.K w x cs) : ∃ A1 c1, cs = [.int .i64 x.f0, .slice A1 x.f1.length c1] ∧ x.f1.length ≤ c1 ∧ k24.C w A1 x.f1.length x.f1 := by
  obtain ⟨_, _, rfl, rfl, ⟨A1, c1, rfl, l1, g1⟩⟩ := h
  exact ⟨A1, c1, rfl, l1, g1⟩
theorem k94_mk (w : World) (x : S94) {A1 : Option Addr} {c1 : Nat} (l1 : x.f1.length ≤ c1) (g1 : k24.C w A1 x.f1.length x.f1) : k94.K w x [.int .i64 x.f0, .slice A1 x.f1.length c1] := ⟨[.int .i64 x.f0], [.slice A1 x.f1.length c1], rfl, rfl, ⟨A1, c1, rfl, l1, g1⟩⟩
theorem k94_mkM (w : World) (base : Nat) (ok : Nat → Prop) (x : S94) {v1 : Value} (g1 : k24.R 24 w base ok v1 x.f1) : k94.M w base ok x [.int .i64 x.f0, v1] := ⟨[.int .i64 x.f0], [v1], rfl, rfl, ⟨v1, rfl, g1⟩⟩
theorem k94_mkF (W : World) (ok : Nat → Prop) (x : S94) {A1 : Option Addr} {c1 : Nat} (l1 : x.f1.length ≤ c1) (g1 : Kd.F k24 W ok A1 x.f1.length x.f1) : Kd.FK k94 W ok x [.int .i64 x.f0, .slice A1 x.f1.length c1] := fun W2 hW => k94_mk W2 x l1 (g1 W2 hW)
def rd_T94 (xs : List S94) (i : Int) : S94 := xs.getD i.toNat z94
theorem at_T94 {w : World} {A : Option Addr} {n : Nat} {xs : List S94} (h : Kd.C k94 w A n xs) (i : Int) (h0 : 0 ≤ i) (h1 : i < n) : ∃ ad A1 c1, A = some ad ∧ w.cell? (ad.add (i.toNat * 2)) = some (.int .i64 (rd_T94 xs i).f0) ∧ w.cell? ⟨(ad.add (i.toNat * 2)).block, (ad.add (i.toNat * 2)).off + 1, none⟩ = some (.slice A1 (rd_T94 xs i).f1.length c1) ∧ (rd_T94 xs i).f1.length ≤ c1 ∧ k24.C w A1 (rd_T94 xs i).f1.length (rd_T94 xs i).f1 := by
  obtain ⟨ad, c, e, _, hK, hc0⟩ := Kd.C_get h z94 i h0 h1
  have hc : ∀ j u, c[j]? = some u → w.cell? (ad.add (i.toNat * 2 + j)) = some u := hc0
  obtain ⟨A1, c1, rfl, l1, g1⟩ := k94_open hK
  exact ⟨ad, A1, c1, e, hc 0 _ rfl, by rw [← add_field _ _ 1 (by omega)]; exact hc 1 _ rfl, l1, g1⟩
structure S88 where
  f0 : Int
  f1 : Int
  f2 : Int
  f3 : Int
def z88 : S88 := ⟨(0 : Int), (0 : Int), (0 : Int), (0 : Int)⟩
def k88 : Kd S88 := Kd.iso (Kd.pair (Kd.int .i64) (Kd.pair (Kd.int .i64) (Kd.pair (Kd.int .i64) (Kd.int .i64)))) (fun x : S88 => (x.f0, x.f1, x.f2, x.f3))
theorem k88_open {w : World} {x : S88} {cs : List Value} (h : k88.K w x cs) : cs = [.int .i64 x.f0, .int .i64 x.f1, .int .i64 x.f2, .int .i64 x.f3] := by
  obtain ⟨_, _, rfl, rfl, ⟨_, _, rfl, rfl, ⟨_, _, rfl, rfl, rfl⟩⟩⟩ := h
  exact rfl
theorem k88_openM {w : World} {base : Nat} {ok : Nat → Prop} {x : S88} {cs : List Value} (h : k88.M w base ok x cs) : cs = [.int .i64 x.f0, .int .i64 x.f1, .int .i64 x.f2, .int .i64 x.f3] := by
  obtain ⟨_, _, rfl, rfl, ⟨_, _, rfl, rfl, ⟨_, _, rfl, rfl, rfl⟩⟩⟩ := h
  exact rfl
theorem k88_mkM (w : World) (base : Nat) (ok : Nat → Prop) (x : S88)  : k88.M w base ok x [.int .i64 x.f0, .int .i64 x.f1, .int .i64 x.f2, .int .i64 x.f3] := ⟨[.int .i64 x.f0], [.int .i64 x.f1, .int .i64 x.f2, .int .i64 x.f3], rfl, rfl, ⟨[.int .i64 x.f1], [.int .i64 x.f2, .int .i64 x.f3], rfl, rfl, ⟨[.int .i64 x.f2], [.int .i64 x.f3], rfl, rfl, rfl⟩⟩⟩
def rd_T88 (xs : List S88) (i : Int) : S88 := xs.getD i.toNat z88
theorem at_T88 {w : World} {A : Option Addr} {n : Nat} {xs : List S88} (h : Kd.C k88 w A n xs) (i : Int) (h0 : 0 ≤ i) (h1 : i < n) : ∃ ad , A = some ad ∧ w.cell? (ad.add (i.toNat * 4)) = some (.int .i64 (rd_T88 xs i).f0) ∧ w.cell? ⟨(ad.add (i.toNat * 4)).block, (ad.add (i.toNat * 4)).off + 1, none⟩ = some (.int .i64 (rd_T88 xs i).f1) ∧ w.cell? ⟨(ad.add (i.toNat * 4)).block, (ad.add (i.toNat * 4)).off + 2, none⟩ = some (.int .i64 (rd_T88 xs i).f2) ∧ w.cell? ⟨(ad.add (i.toNat * 4)).block, (ad.add (i.toNat * 4)).off + 3, none⟩ = some (.int .i64 (rd_T88 xs i).f3) := by
  obtain ⟨ad, c, e, _, hK, hc0⟩ := Kd.C_get h z88 i h0 h1
  have hc : ∀ j u, c[j]? = some u → w.cell? (ad.add (i.toNat * 4 + j)) = some u := hc0
  obtain rfl := k88_open hK
  exact ⟨ad, e, hc 0 _ rfl, by rw [← add_field _ _ 1 (by omega)]; exact hc 1 _ rfl, by rw [← add_field _ _ 2 (by omega)]; exact hc 2 _ rfl, by rw [← add_field _ _ 3 (by omega)]; exact hc 3 _ rfl⟩
structure S96 where
  f0 : Int
  f1 : Int
  f2 : Int
def z96 : S96 := ⟨(0 : Int), (0 : Int), (0 : Int)⟩
def k96 : Kd S96 := Kd.iso (Kd.pair (Kd.int .i64) (Kd.pair (Kd.int .i64) (Kd.int .i64))) (fun x : S96 => (x.f0, x.f1, x.f2))
theorem k96_open {w : World} {x : S96} {cs : List Value} (h : k96.K w x cs) : cs = [.int .i64 x.f0, .int .i64 x.f1, .int .i64 x.f2] := by
  obtain ⟨_, _, rfl, rfl, ⟨_, _, rfl, rfl, rfl⟩⟩ := h
  exact rfl
theorem k96_openM {w : World} {base : Nat} {ok : Nat → Prop} {x : S96} {cs : List Value} (h : k96.M w base ok x cs) : cs = [.int .i64 x.f0, .int .i64 x.f1, .int .i64 x.f2] := by
  obtain ⟨_, _, rfl, rfl, ⟨_, _, rfl, rfl, rfl⟩⟩ := h
  exact rfl
theorem k96_mkM (w : World) (base : Nat) (ok : Nat → Prop) (x : S96)  : k96.M w base ok x [.int .i64 x.f0, .int .i64 x.f1, .int .i64 x.f2] := ⟨[.int .i64 x.f0], [.int .i64 x.f1, .int .i64 x.f2], rfl, rfl, ⟨[.int .i64 x.f1], [.int .i64 x.f2], rfl, rfl, rfl⟩⟩
def rd_T96 (xs : List S96) (i : Int) : S96 := xs.getD i.toNat z96
theorem at_T96 {w : World} {A : Option Addr} {n : Nat} {xs : List S96} (h : Kd.C k96 w A n xs) (i : Int) (h0 : 0 ≤ i) (h1 : i < n) : ∃ ad , A = some ad ∧ w.cell? (ad.add (i.toNat * 3)) = some (.int .i64 (rd_T96 xs i).f0) ∧ w.cell? ⟨(ad.add (i.toNat * 3)).block, (ad.add (i.toNat * 3)).off + 1, none⟩ = some (.int .i64 (rd_T96 xs i).f1) ∧ w.cell? ⟨(ad.add (i.toNat * 3)).block, (ad.add (i.toNat * 3)).off + 2, none⟩ = some (.int .i64 (rd_T96 xs i).f2) := by
  obtain ⟨ad, c, e, _, hK, hc0⟩ := Kd.C_get h z96 i h0 h1
  have hc : ∀ j u, c[j]? = some u → w.cell? (ad.add (i.toNat * 3 + j)) = some u := hc0
  obtain rfl := k96_open hK
  exact ⟨ad, e, hc 0 _ rfl, by rw [← add_field _ _ 1 (by omega)]; exact hc 1 _ rfl, by rw [← add_field _ _ 2 (by omega)]; exact hc 2 _ rfl⟩
structure S86 where
  f0 : Int
  f1 : (List S24)
def z86 : S86 := ⟨(0 : Int), ([] : List S24)⟩
def k86 : Kd S86 := Kd.iso (Kd.pair (Kd.int .i64) (Kd.slice 24 k24)) (fun x : S86 => (x.f0, x.f1))
theorem k86_open {w : World} {x : S86} {cs : List Value} (h : k86.K w x cs) : ∃ A1 c1, cs = [.int .i64 x.f0, .slice A1 x.f1.length c1] ∧ x.f1.length ≤ c1 ∧ k24.C w A1 x.f1.length x.f1 := by
  obtain ⟨_, _, rfl, rfl, ⟨A1, c1, rfl, l1, g1⟩⟩ := h
  exact ⟨A1, c1, rfl, l1, g1⟩
theorem k86_mk (w : World) (x : S86) {A1 : Option Addr} {c1 : Nat} (l1 : x.f1.length ≤ c1) (g1 : k24.C w A1 x.f1.length x.f1) : k86.K w x [.int .i64 x.f0, .slice A1 x.f1.length c1] := ⟨[.int .i64 x.f0], [.slice A1 x.f1.length c1], rfl, rfl, ⟨A1, c1, rfl, l1, g1⟩⟩
def rd_T86 (xs : List S86) (i : Int) : S86 := xs.getD i.toNat z86
theorem at_T86 {w : World} {A : Option Addr} {n : Nat} {xs : List S86} (h : Kd.C k86 w A n xs) (i : Int) (h0 : 0 ≤ i) (h1 : i < n) : ∃ ad A1 c1, A = some ad ∧ w.cell? (ad.add (i.toNat * 2)) = some (.int .i64 (rd_T86 xs i).f0) ∧ w.cell? ⟨(ad.add (i.toNat * 2)).block, (ad.add (i.toNat * 2)).off + 1, none⟩ = some (.slice A1 (rd_T86 xs i).f1.length c1) ∧ (rd_T86 xs i).f1.length ≤ c1 ∧ k24.C w A1 (rd_T86 xs i).f1.length (rd_T86 xs i).f1 := by
  obtain ⟨ad, c, e, _, hK, hc0⟩ := Kd.C_get h z86 i h0 h1
  have hc : ∀ j u, c[j]? = some u → w.cell? (ad.add (i.toNat * 2 + j)) = some u := hc0
  obtain ⟨A1, c1, rfl, l1, g1⟩ := k86_open hK
  exact ⟨ad, A1, c1, e, hc 0 _ rfl, by rw [← add_field _ _ 1 (by omega)]; exact hc 1 _ rfl, l1, g1⟩
structure S118 where
  f0 : Int
  f1 : Int
  f2 : Int
  f3 : Int
abbrev yF : Bool := false
theorem w64 {n : Int} (h : -9223372036854775808 ≤ n ∧ n < 9223372036854775808) : wrap64 n = n := by unfold wrap64; omega
theorem mx_max (a b : Int) : mx a b = max a b := by unfold mx; omega
theorem mn_min (a b : Int) : mn a b = min a b := by unfold mn; omega
namespace Flag
structure Ex where
  v : Int
  p : Int
  n : Int
def valAt (x : Ex) (i : Int) : Int := if x.p < 0 then x.p else x.p + (i - x.v)
def lookE : List Ex → Int → Option Int
  | [], _ => none
  | x :: t, i => if x.v ≤ i ∧ i < x.v + x.n then some (valAt x i) else lookE t i
def goesOn (a b : Ex) : Prop := a.v + a.n = b.v ∧ ((a.p < 0 ∧ b.p = a.p) ∨ (0 ≤ a.p ∧ b.p = a.p + a.n))
instance (a b : Ex) : Decidable (goesOn a b) := inferInstanceAs (Decidable (_ ∧ _))
abbrev okE (x : Ex) : Prop := 0 < x.n
def NF : List Ex → Prop
  | [] => True
  | [x] => okE x
  | x :: y :: t => okE x ∧ x.v + x.n ≤ y.v ∧ ¬ goesOn x y ∧ NF (y :: t)
theorem NF.head {x : Ex} {t : List Ex} (h : NF (x :: t)) : okE x := by
  cases t with
  | nil => exact h
  | cons y t => exact h.1
theorem NF.tail {x : Ex} {t : List Ex} (h : NF (x :: t)) : NF t := by
  cases t with
  | nil => trivial
  | cons y t => exact h.2.2.2
theorem NF.all {l : List Ex} (h : NF l) : ∀ x ∈ l, okE x := by
  induction l with
  | nil => intro x hx; cases hx
  | cons y t ih =>
    intro x hx
    cases hx with
    | head => exact h.head
    | tail _ hx => exact ih h.tail x hx
theorem NF.after {x : Ex} {t : List Ex} (h : NF (x :: t)) : ∀ y ∈ t, x.v + x.n ≤ y.v := by
  induction t generalizing x with
  | nil => intro y hy; cases hy
  | cons z t ih =>
    intro y hy
    cases hy with
    | head => exact h.2.1
    | tail _ hy =>
      have h1 := ih h.tail y hy
      have h2 := h.2.1
      have h3 := h.tail.head
      omega
theorem lookE_none {l : List Ex} {i : Int} (h : ∀ x ∈ l, i < x.v) : lookE l i = none := by
  induction l with
  | nil => rfl
  | cons x t ih =>
    have h1 := h x List.mem_cons_self
    rw [lookE, if_neg (by omega)]
    exact ih (fun y hy => h y (List.mem_cons_of_mem _ hy))
theorem lookE_some_mem {l : List Ex} {i r : Int} (h : lookE l i = some r) : ∃ x ∈ l, x.v ≤ i ∧ i < x.v + x.n ∧ r = valAt x i := by
  induction l with
  | nil => simp [lookE] at h
  | cons x t ih =>
    rw [lookE] at h
    split at h
    · rename_i hx
      exact ⟨x, List.mem_cons_self, hx.1, hx.2, (Option.some.inj h).symm⟩
    · obtain ⟨y, hy, r⟩ := ih h
      exact ⟨y, List.mem_cons_of_mem _ hy, r⟩
theorem lookE_head {x : Ex} {t : List Ex} {i : Int} (h1 : x.v ≤ i) (h2 : i < x.v + x.n) : lookE (x :: t) i = some (valAt x i) := by rw [lookE, if_pos ⟨h1, h2⟩]
theorem lookE_before {x : Ex} {t : List Ex} {i : Int} (h : NF (x :: t)) (h1 : i < x.v) : lookE (x :: t) i = none := by
  apply lookE_none
  intro y hy
  cases hy with
  | head => exact h1
  | tail _ hy =>
    have := h.after y hy
    have := h.head
    unfold okE at this
    omega
theorem lookE_tail {x : Ex} {t : List Ex} {i : Int} (h1 : ¬ (x.v ≤ i ∧ i < x.v + x.n)) : lookE (x :: t) i = lookE t i := by rw [lookE, if_neg h1]
theorem valAt_start (x : Ex) : valAt x x.v = x.p := by unfold valAt; split <;> omega
theorem NF.ext {l m : List Ex} (hl : NF l) (hm : NF m) (h : ∀ i, lookE l i = lookE m i) : l = m := by
  induction l generalizing m with
  | nil =>
    cases m with
    | nil => rfl
    | cons y t =>
      have h1 := h y.v
      have := hm.head
      rw [lookE_head (Int.le_refl _) (by omega)] at h1
      simp [lookE] at h1
  | cons x t ih =>
    cases m with
    | nil =>
      have h1 := h x.v
      have := hl.head
      rw [lookE_head (Int.le_refl _) (by omega)] at h1
      simp [lookE] at h1
    | cons y u =>
      have ox := hl.head
      have oy := hm.head
      have hx0 := ox
      have hy0 := oy
      have hv : x.v = y.v := by
        rcases Int.lt_trichotomy x.v y.v with h1 | h1 | h1
        · have h2 := h x.v
          rw [lookE_head (Int.le_refl _) (by omega), lookE_before hm h1] at h2
          cases h2
        · exact h1
        · have h2 := h y.v
          rw [lookE_before hl h1, lookE_head (Int.le_refl _) (by omega)] at h2
          cases h2
      have hp : x.p = y.p := by
        have h2 := h x.v
        rw [lookE_head (Int.le_refl _) (by omega), lookE_head (by omega) (by omega), valAt_start, hv, valAt_start] at h2
        exact Option.some.inj h2
      have key : ∀ {x y : Ex} {t u : List Ex}, NF (x :: t) → NF (y :: u) → (∀ i, lookE (x :: t) i = lookE (y :: u) i) → x.v = y.v → x.p = y.p → ¬ x.n < y.n := by
        intro x y t u hl hm h hv hp hn
        have ox := hl.head
        have oy := hm.head
        have hx0 := ox
        have h2 := h (x.v + x.n)
        rw [lookE_head (x := y) (by omega) (by omega), lookE_tail (by omega)] at h2
        obtain ⟨z, hz, hz1, hz2, hz3⟩ := lookE_some_mem h2
        cases t with
        | nil => cases hz
        | cons z0 t =>
          have a1 := hl.2.1
          have hz0 : z = z0 := by
            cases hz with
            | head => rfl
            | tail _ hz =>
              have := hl.tail.after z hz
              have := hl.tail.head
              omega
          subst hz0
          have hzv : z.v = x.v + x.n := by omega
          apply hl.2.2.1
          refine ⟨hzv.symm, ?_⟩
          rw [← hzv, valAt_start] at hz3
          unfold valAt at hz3
          by_cases hxp : x.p < 0
          · rw [if_pos (by omega)] at hz3
            exact .inl ⟨hxp, by omega⟩
          · rw [if_neg (by omega)] at hz3
            exact .inr ⟨by omega, by omega⟩
      have hn : x.n = y.n := by
        have k1 := key hl hm h hv hp
        have k2 := key hm hl (fun i => (h i).symm) hv.symm hp.symm
        omega
      have hxy : x = y := by
        cases x
        cases y
        simp_all
      subst hxy
      congr 1
      refine ih hl.tail hm.tail fun i => ?_
      by_cases hi : x.v ≤ i ∧ i < x.v + x.n
      · have e1 : ∀ {t : List Ex}, NF (x :: t) → lookE t i = none := by
          intro t ht
          apply lookE_none
          intro z hz
          have := ht.after z hz
          omega
        rw [e1 hl, e1 hm]
      · have h2 := h i
        rwa [lookE_tail hi, lookE_tail hi] at h2
theorem lookE_append (l m : List Ex) (i : Int) : lookE (l ++ m) i = match lookE l i with | some r => some r | none => lookE m i := by
  induction l with
  | nil => rfl
  | cons x t ih =>
    rw [List.cons_append, lookE, lookE]
    split
    · rfl
    · exact ih
def lastOk (l : List Ex) (x : Ex) : Prop := ∀ y, l.getLast? = some y → y.v + y.n ≤ x.v ∧ ¬ goesOn y x
theorem NF_snoc {l : List Ex} {x : Ex} : NF (l ++ [x]) ↔ NF l ∧ okE x ∧ lastOk l x := by
  induction l with
  | nil => simp [NF, lastOk]
  | cons y t ih =>
    cases t with
    | nil => simp [NF, lastOk]; intros; constructor <;> intro h <;> simp_all
    | cons z t =>
      have e : lastOk (y :: z :: t) x ↔ lastOk (z :: t) x := by simp [lastOk]
      rw [e]
      have e2 : y :: z :: t ++ [x] = y :: z :: (t ++ [x]) := rfl
      have e3 : z :: t ++ [x] = z :: (t ++ [x]) := rfl
      rw [e3] at ih
      rw [e2]
      simp only [NF, ih]
      constructor <;> intro h <;> simp_all
def addE (l : List Ex) (x : Ex) : List Ex :=
  if x.n ≤ 0 then l else
    match l.getLast? with
    | none => [x]
    | some y => if goesOn y x then l.dropLast ++ [⟨y.v, y.p, y.n + x.n⟩] else l ++ [x]
theorem getLast?_split {l : List Ex} {y : Ex} (h : l.getLast? = some y) : l = l.dropLast ++ [y] := by
  have hne : l ≠ [] := by rintro rfl; simp at h
  have h2 := List.dropLast_concat_getLast hne
  rw [List.getLast?_eq_some_getLast hne] at h
  injection h with h
  rw [h] at h2
  exact h2.symm
theorem addE_split {l : List Ex} {y x : Ex} (hx : 0 < x.n) (hg : goesOn y x) : addE (l ++ [y]) x = l ++ [⟨y.v, y.p, y.n + x.n⟩] := by
  unfold addE
  rw [if_neg (by omega)]
  simp [hg]
theorem addE_empty {l : List Ex} {x : Ex} (hx : x.n ≤ 0) : addE l x = l := by unfold addE; rw [if_pos hx]
theorem addE_new {l : List Ex} {x : Ex} (hx : 0 < x.n) (h : ∀ y, l.getLast? = some y → ¬ goesOn y x) : addE l x = l ++ [x] := by
  unfold addE
  rw [if_neg (by omega)]
  cases hl : l.getLast? with
  | none =>
    have : l = [] := List.getLast?_eq_none_iff.1 hl
    simp [this]
  | some y => simp [h y hl]
theorem goesOn_val {y x : Ex} (hg : goesOn y x) (hy : okE y) (i : Int) : valAt ⟨y.v, y.p, y.n + x.n⟩ i = valAt x i := by
  obtain ⟨h1, h2⟩ := hg
  unfold valAt
  dsimp only
  rcases h2 with ⟨a, b⟩ | ⟨a, b⟩
  · rw [if_pos a, if_pos (by omega), b]
  · by_cases hn : x.p < 0
    · exact absurd hy (by unfold okE; omega)
    · rw [if_neg (by omega), if_neg hn]; omega
def endsBy (l : List Ex) (b : Int) : Prop := ∀ x ∈ l, x.v + x.n ≤ b
theorem endsBy.last {l : List Ex} {b : Int} (h : endsBy l b) {y : Ex} (hy : l.getLast? = some y) : y.v + y.n ≤ b := h y (List.mem_of_getLast? hy)
theorem endsBy.mono {l : List Ex} {a b : Int} (h : endsBy l a) (hab : a ≤ b) : endsBy l b := fun x hx => Int.le_trans (h x hx) hab
theorem endsBy_nil (b : Int) : endsBy [] b := fun x hx => by cases hx
theorem addE_spec {l : List Ex} {x : Ex} (hl : NF l) (he : endsBy l x.v) :
    NF (addE l x) ∧ endsBy (addE l x) (max x.v (x.v + x.n)) ∧ ∀ i, lookE (addE l x) i = if x.v ≤ i ∧ i < x.v + x.n then some (valAt x i) else lookE l i := by
  by_cases hx : x.n ≤ 0
  · rw [addE_empty hx]
    refine ⟨hl, he.mono (by omega), fun i => ?_⟩
    rw [if_neg (by omega)]
  have hx : 0 < x.n := by omega
  have okx : okE x := hx
  by_cases hg : ∃ y, l.getLast? = some y ∧ goesOn y x
  · obtain ⟨y, hy, hg⟩ := hg
    obtain ⟨m, rfl⟩ : ∃ m, l = m ++ [y] := ⟨_, getLast?_split hy⟩
    rw [addE_split hx hg]
    obtain ⟨hm, hyo, hlast⟩ := NF_snoc.1 hl
    have hend : y.v + y.n = x.v := hg.1
    refine ⟨NF_snoc.2 ⟨hm, (by unfold okE at *; show 0 < y.n + x.n; omega), fun z hz => ?_⟩, ?_, fun i => ?_⟩
    · obtain ⟨h1, h2⟩ := hlast z hz
      exact ⟨h1, h2⟩
    · intro z hz
      rcases List.mem_append.1 hz with hz | hz
      · have := he z (List.mem_append_left _ hz)
        omega
      · have : z = ⟨y.v, y.p, y.n + x.n⟩ := by simpa using hz
        subst this
        show y.v + (y.n + x.n) ≤ _
        omega
    · rw [lookE_append, lookE_append]
      cases hm' : lookE m i with
      | some r =>
        obtain ⟨z, hz, hz1, hz2, _⟩ := lookE_some_mem hm'
        have := he z (List.mem_append_left _ hz)
        simp only
        rw [if_neg (by omega)]
      | none =>
        simp only [lookE]
        by_cases h1 : x.v ≤ i ∧ i < x.v + x.n
        · rw [if_pos (by unfold okE at *; omega), if_pos h1, goesOn_val hg hyo i]
        · rw [if_neg h1]
          by_cases h2 : y.v ≤ i ∧ i < y.v + y.n
          · rw [if_pos (by omega), if_pos h2]; rfl
          · rw [if_neg (by omega), if_neg h2]
  · have hg' : ∀ y, l.getLast? = some y → ¬ goesOn y x := fun y hy hgo => hg ⟨y, hy, hgo⟩
    rw [addE_new hx hg']
    refine ⟨NF_snoc.2 ⟨hl, okx, fun y hy => ⟨he.last hy, hg' y hy⟩⟩, ?_, fun i => ?_⟩
    · intro z hz
      rcases List.mem_append.1 hz with hz | hz
      · have := he z hz
        omega
      · have : z = x := by simpa using hz
        subst this
        omega
    · rw [lookE_append]
      cases hm' : lookE l i with
      | some r =>
        obtain ⟨z, hz, hz1, hz2, _⟩ := lookE_some_mem hm'
        have := he z hz
        simp only
        rw [if_neg (by omega)]
      | none =>
        simp only [lookE]
end Flag
namespace Flag
def Rising : List Ex → Prop
  | [] => True
  | x :: t => (0 < x.n → ∀ y ∈ t, 0 < y.n → x.v + x.n ≤ y.v) ∧ Rising t
def joinE (l : List Ex) : List Ex := l.foldl addE []
theorem lookE_skip {x : Ex} (h : x.n ≤ 0) (t : List Ex) (i : Int) : lookE (x :: t) i = lookE t i := by rw [lookE, if_neg (by omega)]
theorem fold_spec {ps : List Ex} : ∀ {acc : List Ex} {b : Int}, NF acc → endsBy acc b → Rising ps → (∀ y ∈ ps, 0 < y.n → b ≤ y.v) →
    NF (ps.foldl addE acc) ∧ ∀ i, lookE (ps.foldl addE acc) i = match lookE acc i with | some r => some r | none => lookE ps i := by
  induction ps with
  | nil =>
    intro acc b ha _ _ _
    refine ⟨ha, fun i => ?_⟩
    show lookE acc i = _
    cases lookE acc i <;> rfl
  | cons x t ih =>
    intro acc b ha he hr hb
    rw [List.foldl_cons]
    by_cases hx : x.n ≤ 0
    · rw [addE_empty hx]
      obtain ⟨h1, h2⟩ := ih ha he hr.2 (fun y hy => hb y (List.mem_cons_of_mem _ hy))
      refine ⟨h1, fun i => ?_⟩
      rw [h2, lookE_skip hx]
    · have hx : 0 < x.n := by omega
      have hxy := hr.1 hx
      have hbx := hb x List.mem_cons_self hx
      obtain ⟨g1, g2, g3⟩ := addE_spec ha (he.mono hbx)
      obtain ⟨h1, h2⟩ := ih g1 g2 hr.2 (fun y hy hy0 => by have := hxy y hy hy0; omega)
      refine ⟨h1, fun i => ?_⟩
      rw [h2, g3, lookE]
      by_cases hi : x.v ≤ i ∧ i < x.v + x.n
      · rw [if_pos hi, if_pos hi]
        cases hl : lookE acc i with
        | none => rfl
        | some r =>
          obtain ⟨z, hz, h3, h4, _⟩ := lookE_some_mem hl
          have := he z hz
          omega
      · rw [if_neg hi, if_neg hi]
theorem lower (ps : List Ex) : ∃ b, ∀ y ∈ ps, b ≤ y.v := by
  induction ps with
  | nil => exact ⟨0, fun y hy => by cases hy⟩
  | cons x t ih =>
    obtain ⟨b, hb⟩ := ih
    refine ⟨min b x.v, fun y hy => ?_⟩
    cases hy with
    | head => omega
    | tail _ hy => have := hb y hy; omega
theorem joinE_spec {ps : List Ex} (h : Rising ps) : NF (joinE ps) ∧ ∀ i, lookE (joinE ps) i = lookE ps i := by
  obtain ⟨b, hb⟩ := lower ps
  obtain ⟨h1, h2⟩ := fold_spec (ps := ps) (acc := []) (b := b) trivial (endsBy_nil _) h (fun y hy _ => hb y hy)
  exact ⟨h1, fun i => by rw [joinE, h2]; rfl⟩
def part (x : Ex) (a b : Int) : Ex := ⟨max a x.v, if x.p < 0 then x.p else x.p + (max a x.v - x.v), min b (x.v + x.n) - max a x.v⟩
theorem part_val (x : Ex) (a b i : Int) : valAt (part x a b) i = valAt x i := by
  unfold valAt part
  dsimp only
  by_cases h : x.p < 0
  · rw [if_pos h, if_pos h, if_pos h]
  · rw [if_neg h, if_neg h, if_neg (by omega)]
    omega
theorem lookE_part (l : List Ex) (a b i : Int) : lookE (l.map (part · a b)) i = if a ≤ i ∧ i < b then lookE l i else none := by
  induction l with
  | nil => simp [lookE]
  | cons x t ih =>
    rw [List.map_cons, lookE, lookE, ih, part_val x a b i]
    by_cases h1 : a ≤ i ∧ i < b
    · rw [if_pos h1, if_pos h1]
      by_cases h2 : x.v ≤ i ∧ i < x.v + x.n
      · rw [if_pos h2, if_pos (by dsimp only [part]; omega)]
      · rw [if_neg h2, if_neg (by dsimp only [part]; omega)]
    · rw [if_neg h1, if_neg h1, if_neg (by dsimp only [part]; omega)]
theorem Rising_part {l : List Ex} (h : Rising l) (a b : Int) (hp : ∀ x ∈ l, 0 < x.n) : Rising (l.map (part · a b)) := by
  induction l with
  | nil => trivial
  | cons x t ih =>
    have ih := ih h.2 (fun y hy => hp y (List.mem_cons_of_mem _ hy))
    have hx := hp x List.mem_cons_self
    refine ⟨fun hn y hy hy0 => ?_, ih⟩
    obtain ⟨z, hz, rfl⟩ := List.mem_map.1 hy
    have h1 := h.1 hx z hz (hp z (List.mem_cons_of_mem _ hz))
    dsimp only [part] at hn hy0 ⊢
    omega
theorem NF.rising {l : List Ex} (h : NF l) : Rising l := by
  induction l with
  | nil => trivial
  | cons x t ih => exact ⟨fun _ y hy _ => h.after y hy, ih h.tail⟩
theorem Rising_append {l m : List Ex} (hl : Rising l) (hm : Rising m) (h : ∀ x ∈ l, 0 < x.n → ∀ y ∈ m, 0 < y.n → x.v + x.n ≤ y.v) : Rising (l ++ m) := by
  induction l with
  | nil => exact hm
  | cons x t ih =>
    refine ⟨fun hx y hy hy0 => ?_, ih hl.2 (fun z hz => h z (List.mem_cons_of_mem _ hz))⟩
    rcases List.mem_append.1 hy with hy | hy
    · exact hl.1 hx y hy hy0
    · exact h x List.mem_cons_self hx y hy hy0
theorem joinE_filter (ps : List Ex) : joinE ps = joinE (ps.filter fun x => decide (0 < x.n)) := by
  unfold joinE
  suffices h : ∀ acc : List Ex, ps.foldl addE acc = (ps.filter fun x => decide (0 < x.n)).foldl addE acc from h []
  induction ps with
  | nil => intro acc; rfl
  | cons x t ih =>
    intro acc
    rw [List.foldl_cons, List.filter_cons]
    by_cases hx : 0 < x.n
    · rw [if_pos (by simpa using hx), List.foldl_cons]; exact ih _
    · rw [if_neg (by simpa using hx), addE_empty (by omega)]; exact ih _
def okMap (x : Ex) : Prop := 0 < x.n ∧ 0 ≤ x.v ∧ x.v + x.n ≤ 65536 ∧ 0 ≤ x.p ∧ x.p + x.n ≤ 65536
structure Map5 (l : List Ex) : Prop where
  len : l.length ≤ 1024
  ok : ∀ x ∈ l, okMap x
  nf : NF l
def put3 (l : List Ex) (a b : Int) (by_ : List Ex) : List Ex := l.map (part · 0 a) ++ (by_ ++ l.map (part · b 65536))
theorem put3_spec {l : List Ex} {by_ : List Ex} {a b : Int} (hl : Map5 l) (hab : a ≤ b) (hby : Rising by_) (hin : ∀ x ∈ by_, a ≤ x.v ∧ x.v + x.n ≤ b) :
    NF (joinE (put3 l a b by_)) ∧ ∀ i, lookE (joinE (put3 l a b by_)) i = if a ≤ i ∧ i < b then lookE by_ i else lookE l i := by
  have hnp : ∀ x ∈ l, 0 < x.n := fun x hx => (hl.ok x hx).1
  have hr : Rising (put3 l a b by_) := by
    refine Rising_append (Rising_part hl.nf.rising 0 a hnp) (Rising_append hby (Rising_part hl.nf.rising b 65536 hnp) ?_) ?_
    · intro x hx _ y hy _
      obtain ⟨z, hz, rfl⟩ := List.mem_map.1 hy
      have := (hin x hx).2
      dsimp only [part]
      omega
    · intro x hx hx0 y hy hy0
      obtain ⟨z, hz, rfl⟩ := List.mem_map.1 hx
      rcases List.mem_append.1 hy with hy | hy
      · have := (hin y hy).1
        dsimp only [part] at hx0 ⊢
        omega
      · obtain ⟨u, hu, rfl⟩ := List.mem_map.1 hy
        dsimp only [part] at hx0 hy0 ⊢
        omega
  obtain ⟨h1, h2⟩ := joinE_spec hr
  refine ⟨h1, fun i => ?_⟩
  rw [h2, put3, lookE_append, lookE_append, lookE_part l 0 a i, lookE_part l b 65536 i]
  have hout : ∀ r, lookE by_ i = some r → a ≤ i ∧ i < b := by
    intro r hr
    obtain ⟨x, hx, h3, h4, _⟩ := lookE_some_mem hr
    have := hin x hx
    omega
  have hl65 : ∀ r, lookE l i = some r → 0 ≤ i ∧ i < 65536 := by
    intro r hr
    obtain ⟨x, hx, h3, h4, _⟩ := lookE_some_mem hr
    obtain ⟨_, h5, h6, _⟩ := hl.ok x hx
    omega
  by_cases hi : a ≤ i ∧ i < b
  · rw [if_neg (by omega), if_pos hi, if_neg (by omega)]
    cases lookE by_ i <;> rfl
  · rw [if_neg hi]
    have hby0 : lookE by_ i = none := by
      cases hc : lookE by_ i with
      | none => rfl
      | some r => exact absurd (hout r hc) hi
    rw [hby0]
    cases hc : lookE l i with
    | none => simp
    | some r =>
      have := hl65 r hc
      by_cases h3 : i < a
      · rw [if_pos (by omega)]
      · rw [if_neg (by omega), if_pos (by omega)]
end Flag
namespace Flag
def looks : List Ex → Int → Int → List Ex
  | [], at_, e => [⟨at_, -1, e - at_⟩]
  | x :: t, at_, e => if (part x at_ e).n ≤ 0 then looks t at_ e else ⟨at_, -1, (part x at_ e).v - at_⟩ :: part x at_ e :: looks t ((part x at_ e).v + (part x at_ e).n) e
theorem looks_from (l : List Ex) : ∀ (at_ e : Int), ∀ y ∈ looks l at_ e, at_ ≤ y.v := by
  induction l with
  | nil =>
    intro at_ e y hy
    have : y = ⟨at_, -1, e - at_⟩ := by simpa [looks] using hy
    rw [this]
    exact Int.le_refl _
  | cons x t ih =>
    intro at_ e y hy
    rw [looks] at hy
    split at hy
    · exact ih at_ e y hy
    · rename_i hn
      rcases List.mem_cons.1 hy with rfl | hy
      · exact Int.le_refl _
      · rcases List.mem_cons.1 hy with rfl | hy
        · dsimp only [part]
          omega
        · have := ih _ e y hy
          dsimp only [part] at this hn
          omega
theorem looks_rising (l : List Ex) : ∀ (at_ e : Int), Rising (looks l at_ e) := by
  induction l with
  | nil =>
    intro at_ e
    exact ⟨fun _ y hy => (by cases hy), trivial⟩
  | cons x t ih =>
    intro at_ e
    rw [looks]
    split
    · exact ih at_ e
    · rename_i hn
      refine ⟨fun _ y hy _ => ?_, fun _ y hy _ => ?_, ih _ e⟩
      · rcases List.mem_cons.1 hy with rfl | hy
        · dsimp only
          omega
        · have := looks_from t _ e y hy
          dsimp only [part] at this hn ⊢
          omega
      · exact looks_from t _ e y hy
theorem looks_look (l : List Ex) : ∀ (at_ e i : Int), Rising l → (∀ x ∈ l, 0 < x.n) →
    lookE (looks l at_ e) i = if at_ ≤ i ∧ i < e then some ((lookE l i).getD (-1)) else none := by
  induction l with
  | nil =>
    intro at_ e i _ _
    simp only [looks, lookE]
    by_cases h : at_ ≤ i ∧ i < e
    · rw [if_pos (by omega), if_pos h]
      rfl
    · rw [if_neg (by omega), if_neg h]
  | cons x t ih =>
    intro at_ e i hr hp
    have hr2 := hr.2
    have hp2 : ∀ y ∈ t, 0 < y.n := fun y hy => hp y (List.mem_cons_of_mem _ hy)
    have hx := hp x List.mem_cons_self
    have hxt := hr.1 hx
    rw [looks]
    split
    · rename_i hn
      rw [ih at_ e i hr2 hp2]
      by_cases h : at_ ≤ i ∧ i < e
      · rw [if_pos h, if_pos h, lookE, if_neg]
        dsimp only [part] at hn
        omega
      · rw [if_neg h, if_neg h]
    · rename_i hn
      rw [lookE, lookE, ih _ e i hr2 hp2, part_val]
      by_cases h : at_ ≤ i ∧ i < e
      · rw [if_pos h]
        by_cases h1 : i < (part x at_ e).v
        · have hl : lookE (x :: t) i = none := by
            apply lookE_none
            intro y hy
            rcases List.mem_cons.1 hy with rfl | hy
            · dsimp only [part] at h1
              omega
            · have := hxt y hy (hp2 y hy)
              dsimp only [part] at h1
              omega
          rw [if_pos (by dsimp only; omega), hl]
          simp [valAt]
        · rw [if_neg (by dsimp only; omega)]
          by_cases h2 : i < (part x at_ e).v + (part x at_ e).n
          · rw [if_pos (by omega), lookE, if_pos (by dsimp only [part] at h1 h2; omega)]
            rfl
          · rw [if_neg (by omega), if_pos (by omega), lookE, if_neg (by dsimp only [part] at h1 h2; omega)]
      · rw [if_neg h, if_neg (by dsimp only [part] at hn ⊢; omega), if_neg (by dsimp only [part] at hn ⊢; omega), if_neg (by dsimp only [part] at hn ⊢; omega)]
theorem lookM_spec {l : List Ex} (h : NF l) (at_ e : Int) : NF (joinE (looks l at_ e)) ∧ ∀ i, lookE (joinE (looks l at_ e)) i = if at_ ≤ i ∧ i < e then some ((lookE l i).getD (-1)) else none := by
  obtain ⟨h1, h2⟩ := joinE_spec (looks_rising l at_ e)
  exact ⟨h1, fun i => by rw [h2, looks_look l at_ e i h.rising h.all]⟩
end Flag
namespace Flag
theorem lookE_mem {l : List Ex} (h : NF l) {z : Ex} (hz : z ∈ l) {i : Int} (h1 : z.v ≤ i) (h2 : i < z.v + z.n) : lookE l i = some (valAt z i) := by
  induction l with
  | nil => cases hz
  | cons x t ih =>
    rcases List.mem_cons.1 hz with rfl | hz
    · exact lookE_head h1 h2
    · have h3 := h.after z hz
      rw [lookE_tail (by omega)]
      exact ih h.tail hz
theorem okMap_of {m : List Ex} (h : NF m) (hr : ∀ i r, lookE m i = some r → 0 ≤ i ∧ i < 65536 ∧ 0 ≤ r ∧ r < 65536) : ∀ z ∈ m, okMap z := by
  intro z hz
  have h0 := h.all z hz
  have a := hr z.v _ (lookE_mem h hz (Int.le_refl _) (by omega))
  have b := hr (z.v + z.n - 1) _ (lookE_mem h hz (by omega) (by omega))
  rw [valAt_start] at a
  unfold valAt at b
  rw [if_neg (by omega)] at b
  exact ⟨h0, by omega, by omega, by omega, by omega⟩
theorem okMap_look {l : List Ex} (h : ∀ x ∈ l, okMap x) {i r : Int} (hl : lookE l i = some r) : 0 ≤ i ∧ i < 65536 ∧ 0 ≤ r ∧ r < 65536 := by
  obtain ⟨x, hx, h1, h2, rfl⟩ := lookE_some_mem hl
  obtain ⟨a, b, c, d, e⟩ := h x hx
  unfold valAt
  rw [if_neg (by omega)]
  omega
def mayE (x : Ex) : Bool := decide (0 < x.n) && (decide (0 ≤ x.v) && decide (x.v + x.n ≤ 65536)) && (decide (0 ≤ x.p) && decide (x.p + x.n ≤ 65536))
theorem mayE_iff {x : Ex} : mayE x = true ↔ okMap x := by simp [mayE, okMap, and_assoc]
def restB : Ex → List Ex → Bool
  | _, [] => true
  | x, y :: t => mayE y && decide (x.v + x.n ≤ y.v) && !decide (goesOn x y) && restB y t
def mapB : List Ex → Bool
  | [] => true
  | x :: t => mayE x && restB x t
theorem restB_iff {x : Ex} {t : List Ex} (hx : okMap x) : restB x t = true ↔ (∀ y ∈ t, okMap y) ∧ NF (x :: t) := by
  induction t generalizing x with
  | nil => simp [restB, NF, okE, hx.1]
  | cons y t ih =>
    simp only [restB, Bool.and_eq_true, Bool.not_eq_true', decide_eq_true_eq, decide_eq_false_iff_not, mayE_iff, NF]
    constructor
    · rintro ⟨⟨⟨h1, h2⟩, h3⟩, h4⟩
      obtain ⟨h5, h6⟩ := (ih h1).1 h4
      refine ⟨fun z hz => ?_, hx.1, h2, h3, h6⟩
      rcases List.mem_cons.1 hz with rfl | hz
      · exact h1
      · exact h5 z hz
    · rintro ⟨h1, _, h2, h3, h4⟩
      have hy := h1 y List.mem_cons_self
      exact ⟨⟨⟨hy, h2⟩, h3⟩, (ih hy).2 ⟨fun z hz => h1 z (List.mem_cons_of_mem _ hz), h4⟩⟩
theorem mapB_iff {l : List Ex} : mapB l = true ↔ (∀ y ∈ l, okMap y) ∧ NF l := by
  cases l with
  | nil => simp [mapB, NF]
  | cons x t =>
    simp only [mapB, Bool.and_eq_true, mayE_iff]
    constructor
    · rintro ⟨h1, h2⟩
      obtain ⟨h3, h4⟩ := (restB_iff h1).1 h2
      refine ⟨fun z hz => ?_, h4⟩
      rcases List.mem_cons.1 hz with rfl | hz
      · exact h1
      · exact h3 z hz
    · rintro ⟨h1, h2⟩
      have hx := h1 x List.mem_cons_self
      exact ⟨hx, (restB_iff hx).2 ⟨fun z hz => h1 z (List.mem_cons_of_mem _ hz), h2⟩⟩
def checkE (l : List Ex) : Int := if l.length ≤ 1024 ∧ mapB l = true then 0 else 9
theorem checkE_ok {l : List Ex} : checkE l = 0 ↔ Map5 l := by
  unfold checkE
  split
  · rename_i h
    exact ⟨fun _ => ⟨h.1, (mapB_iff.1 h.2).1, (mapB_iff.1 h.2).2⟩, fun _ => rfl⟩
  · rename_i h
    refine ⟨fun h1 => by simp at h1, fun h1 => absurd ⟨h1.len, mapB_iff.2 ⟨h1.ok, h1.nf⟩⟩ h⟩
theorem checkE_or (l : List Ex) : checkE l = 0 ∨ checkE l = 9 := by unfold checkE; split <;> simp
end Flag
def extent_goesOn.f (a0_0 : Int) (a0_1 : Int) (a0_2 : Int) (a1_0 : Int) (a1_1 : Int) (a1_2 : Int) : Option (Bool) :=
  some ((wrap64 (a0_0 + a0_2) == a1_0) && ((a0_1 == -1) == (a1_1 == -1)) && ((a0_1 == -1) || (wrap64 (a0_1 + a0_2) == a1_1)))
set_option maxHeartbeats 1000000 in
set_option maxRecDepth 100000 in
theorem extent_goesOn.calls (a0_0 : Int) (a0_1 : Int) (a0_2 : Int) (a1_0 : Int) (a1_1 : Int) (a1_2 : Int) (r : Bool) (w : World) (h : extent_goesOn.f a0_0 a0_1 a0_2 a1_0 a1_1 a1_2 = some r) :
    Calls Try.prog 98 #[.agg #[.int .i64 a0_0, .int .i64 a0_1, .int .i64 a0_2], .agg #[.int .i64 a1_0, .int .i64 a1_1, .int .i64 a1_2]] w fun e w' => e = .returned (.bool r) ∧ Below w.heap.size w w' := by
  obtain rfl := Option.some.inj h
  clear h
  have hu24 := Try.underlying24
  have fin : ∀ {w' : World} {b : Bool}, b = ((wrap64 (a0_0 + a0_2) == a1_0) && ((a0_1 == -1) == (a1_1 == -1)) && ((a0_1 == -1) || (wrap64 (a0_1 + a0_2) == a1_1))) → Below w.heap.size w w' → Ending.returned (.bool b) = Ending.returned (.bool ((wrap64 (a0_0 + a0_2) == a1_0) && ((a0_1 == -1) == (a1_1 == -1)) && ((a0_1 == -1) || (wrap64 (a0_1 + a0_2) == a1_1)))) ∧ Below w.heap.size w w' := fun hb hw => ⟨by rw [hb], hw⟩
  have FIN := Aside0.mk @fin
  clear fin
  have hbel : ∀ (o1 o2 : Obj), Below w.heap.size w ((w.alloc o1).alloc o2) := fun o1 o2 => ((Below.refl _ _).alloc (Nat.le_refl _) _).alloc (by simp) _
  have HBEL := Aside0.mk hbel
  clear hbel
  by_cases h0 : wrap64 (a0_0 + a0_2) = a1_0
  · have b0 : (wrap64 (a0_0 + a0_2) == a1_0) = true := beq_iff_eq.mpr h0
    have b0' : (wrap64 (a0_0 + a0_2) != a1_0) = false := bne_eq_false_iff_eq.mpr h0
    clear h0
    by_cases h1 : a0_1 = -1
    · have b1 : (a0_1 == -1) = true := beq_iff_eq.mpr h1
      clear h1
      by_cases h2 : a1_1 = -1
      · have b2 : (a1_1 == -1) = true := beq_iff_eq.mpr h2
        clear h2
        go_enter Try.func98, Try.ntmps98
        go_wp2
        go_ret
        exact FIN.out (by simp [b0, b1, b2]) (HBEL.out _ _)
      · have b2 : (a1_1 == -1) = false := beq_eq_false_iff_ne.mpr h2
        clear h2
        go_enter Try.func98, Try.ntmps98
        go_wp2
        go_ret
        exact FIN.out (by simp [b0, b1, b2]) (HBEL.out _ _)
    · have b1 : (a0_1 == -1) = false := beq_eq_false_iff_ne.mpr h1
      clear h1
      by_cases h2 : a1_1 = -1
      · have b2 : (a1_1 == -1) = true := beq_iff_eq.mpr h2
        clear h2
        go_enter Try.func98, Try.ntmps98
        go_wp2
        go_ret
        exact FIN.out (by simp [b0, b1, b2]) (HBEL.out _ _)
      · have b2 : (a1_1 == -1) = false := beq_eq_false_iff_ne.mpr h2
        clear h2
        go_enter Try.func98, Try.ntmps98
        go_wp2
        go_ret
        exact FIN.out (by simp [b0, b1, b2]) (HBEL.out _ _)
  · have b0 : (wrap64 (a0_0 + a0_2) == a1_0) = false := beq_eq_false_iff_ne.mpr h0
    have b0' : (wrap64 (a0_0 + a0_2) != a1_0) = true := bne_iff_ne.mpr h0
    clear h0
    go_enter Try.func98, Try.ntmps98
    go_wp2
    go_ret
    exact FIN.out (by simp [b0]) (HBEL.out _ _)
def addG (xs : List S24) (x : S24) : List S24 :=
  if x.f2 ≤ 0 then xs else
    if 0 < xs.length ∧ extent_goesOn.f (rd_T24 xs (xs.length - 1)).f0 (rd_T24 xs (xs.length - 1)).f1 (rd_T24 xs (xs.length - 1)).f2 x.f0 x.f1 x.f2 = some true then
      xs.set ((xs.length : Int) - 1).toNat ⟨(rd_T24 xs (xs.length - 1)).f0, (rd_T24 xs (xs.length - 1)).f1, wrap64 ((rd_T24 xs (xs.length - 1)).f2 + x.f2)⟩
    else xs ++ [x]
def AddPost (b : Nat) (v : Value) (xs : List S24) (w w0 : World) (ok : Nat → Prop) (base : Nat) (w' : World) : Prop :=
  ∃ v', w'.heap[b]? = some (.cells #[v'] 140 (0, 0)) ∧ Kd.R k24 24 w' base ok v' xs ∧ Below base w0 w' ∧ w.heap.size ≤ w'.heap.size ∧
    (∀ i, i < w.heap.size → i ≠ b → some i ≠ v.ownBlock → w'.heap[i]? = w.heap[i]?) ∧ (v'.ownBlock = v.ownBlock ∨ ∃ k, v'.ownBlock = some k ∧ w.heap.size ≤ k)
set_option maxHeartbeats 4000000 in
set_option maxRecDepth 100000 in
theorem list_add.calls (b : Nat) (v : Value) (xs : List S24) (x0 x1 x2 : Int) (w w0 : World) (ok : Nat → Prop) (base : Nat)
    (hb : w.heap[b]? = some (.cells #[v] 140 (0, 0))) (HO : Kd.R k24 24 w base ok v xs) (hokb : ∀ k, ok k → k ≠ b) (hfresh : ∀ k, w.heap.size ≤ k → ok k)
    (hB : Below base w0 w) (hbase : base ≤ b) (hlen : xs.length < 2147483648) :
    Calls Try.prog 93 #[.pointer (some ⟨b, 0, none⟩), .agg #[.int .i64 x0, .int .i64 x1, .int .i64 x2]] w fun e w' => e = .returned (.tuple #[]) ∧ AddPost b v (addG xs ⟨x0, x1, x2⟩) w w0 ok base w' := by
  have hcb : w.cell? ⟨b, 0, none⟩ = some v := blk_cell hb 0
  have hfb : w.frozen? ⟨b, 0, none⟩ = false := blk_frozen hb 0
  have hu24 := Try.underlying24
  have hblt : b < w.heap.size := blk_lt hb
  have hvb : some b ≠ v.ownBlock := Kd.R_away HO hokb
  have HO' := Aside0.mk HO
  have HB' := Aside0.mk hB
  have HF' := Aside0.mk hfresh
  have HK' := Aside0.mk hokb
  have HV' := Aside0.mk hvb
  have HBS' := Aside0.mk hbase
  have HBK := Aside0.mk hb
  clear HO hB hfresh hokb hbase hvb hb
  by_cases h2 : x2 ≤ 0
  · have hd : decide (x2 ≤ 0) = true := decide_eq_true h2
    go_enter Try.func93, Try.ntmps93
    go_wp2
    refine bodyPost_ret (results_none rfl _ _ _) rfl ⟨rfl, v, ?_, ?_, ?_, ?_, ?_, ?_⟩
    · exact (Below.heap_alloc _ _ _ hblt).trans HBK.out
    · rw [addG, if_pos h2]; exact Kd.R_alloc HO'.out _
    · exact HB'.out.alloc (by have := HBS'.out; omega) _
    · simp
    · intro i hi _ _; exact Below.heap_alloc _ _ _ hi
    · exact .inl rfl
  · have hd : decide (x2 ≤ 0) = false := decide_eq_false h2
    obtain ⟨A, c, rfl, hlc, hC⟩ := Kd.R_reads HO'.out
    have HC' := Aside0.mk hC
    clear hC
    by_cases hn : xs.length = 0
    · have hd1 : decide (0 < xs.length) = false := decide_eq_false (by omega)
      have hd2 : decide (0 < (xs.length : Int)) = false := decide_eq_false (by omega)
      have hag : addG xs ⟨x0, x1, x2⟩ = xs ++ [⟨x0, x1, x2⟩] := by
        rw [addG, if_neg h2, if_neg (by rintro ⟨h, _⟩; omega)]
      have HAG := Aside0.mk hag
      have HN := Aside0.mk hn
      clear hag hn
      go_enter Try.func93, Try.ntmps93
      go_wp2_with fail
      obtain ⟨W1, hW1⟩ : ∃ W, W = w.alloc (.cells #[.int .i64 x0, .int .i64 x1, .int .i64 x2] 24) := ⟨_, rfl⟩
      rw [← hW1]
      have hbx : W1.heap[w.heap.size]? = some (.cells #[.int .i64 x0, .int .i64 x1, .int .i64 x2] 24 (0, 0)) := by rw [hW1]; simpa using heap_alloc_new w _
      have hsz : W1.heap.size = w.heap.size + 1 := by rw [hW1]; simp
      have hkp : ∀ i, i < w.heap.size → W1.heap[i]? = w.heap[i]? := fun i hi => by rw [hW1]; exact Below.heap_alloc _ _ _ hi
      have hO1 : Kd.R k24 24 W1 base ok (.slice A xs.length c) xs := by rw [hW1]; exact Kd.R_alloc HO'.out _
      have hB1 : Below base w0 W1 := by rw [hW1]; exact HB'.out.alloc (by have := HBS'.out; omega) _
      have hb1 : W1.heap[b]? = some (.cells #[.slice A xs.length c] 140 (0, 0)) := (hkp b hblt).trans HBK.out
      clear hW1
      have hcb1 : W1.cell? ⟨b, 0, none⟩ = some (.slice A xs.length c) := (blk_cell hb1 0).trans rfl
      have hfb1 := blk_frozen hb1 0
      have hx0 : W1.cell? ⟨w.heap.size, 0, none⟩ = some (.int .i64 x0) := (blk_cell hbx 0).trans rfl
      have hx1 : W1.cell? ⟨w.heap.size, 1, none⟩ = some (.int .i64 x1) := (blk_cell hbx 1).trans rfl
      have hx2 : W1.cell? ⟨w.heap.size, 2, none⟩ = some (.int .i64 x2) := (blk_cell hbx 2).trans rfl
      have HBX := Aside0.mk hbx
      have HSZ := Aside0.mk hsz
      have HKP := Aside0.mk hkp
      have HO1 := Aside0.mk hO1
      have HB1 := Aside0.mk hB1
      have HBK1 := Aside0.mk hb1
      clear hbx hsz hkp hO1 hB1 hb1 hcb hfb
      go_quiet (fail)
      obtain ⟨w2, hw2⟩ : ∃ W, W = W1.drewN nq := ⟨_, rfl⟩
      rw [← hw2]
      have hs2 : W1.heap.size ≤ w2.heap.size := by rw [hw2]; exact Nat.le_refl _
      have hk2 : ∀ i, i < W1.heap.size → w2.heap[i]? = W1.heap[i]? := fun i hi => by rw [hw2]; rfl
      have hB2 : Below base w0 w2 := by rw [hw2]; exact pw_below_drewN HB1.out _
      clear hw2
      have hbx2 := (hk2 w.heap.size (by rw [HSZ.out]; omega)).trans HBX.out
      have hb2 := (hk2 b (by rw [HSZ.out]; omega)).trans HBK1.out
      have hO2 : Kd.R k24 24 w2 base ok (.slice A xs.length c) xs := Kd.R_step HO1.out (fun k _ hk => hk2 k hk)
      have hcb2 : w2.cell? ⟨b, 0, none⟩ = some (.slice A xs.length c) := (blk_cell hb2 0).trans rfl
      have hfb2 := blk_frozen hb2 0
      have hy0 : w2.cell? ⟨w.heap.size, 0, none⟩ = some (.int .i64 x0) := (blk_cell hbx2 0).trans rfl
      have hy1 : w2.cell? ⟨w.heap.size, 1, none⟩ = some (.int .i64 x1) := (blk_cell hbx2 1).trans rfl
      have hy2 : w2.cell? ⟨w.heap.size, 2, none⟩ = some (.int .i64 x2) := (blk_cell hbx2 2).trans rfl
      have HK2 := Aside0.mk hk2
      have HS2 := Aside0.mk hs2
      have HB2 := Aside0.mk hB2
      have HO2 := Aside0.mk hO2
      have HBK2 := Aside0.mk hb2
      have hcb2a : ∀ o, (w2.alloc o).cell? ⟨b, 0, none⟩ = some (.slice A xs.length c) := fun o => (blk_cell (blk_alloc hb2 o) 0).trans rfl
      clear hk2 hs2 hB2 hO2 hbx2 hb2 hcb1 hfb1 hx0 hx1 hx2
      go_wp2_with fail
      go_region_law ((refine Kd.R_append_step k24 (w0 := w0) (W := w2.drew) base rfl (.tmp 41) (.tmp 43) 140 24 (.agg #[(.int .i64 0), (.int .i64 0), (.int .i64 0)]) 24 rfl Try.underlying140 info24 rfl (by decide) (by omega) (.slice A xs.length c) xs (⟨x0, x1, x2⟩ : S24) [.int .i64 x0, .int .i64 x1, .int .i64 x2] ok (fun _ => False) rfl rfl ?aP (fun _ hk => hk.elim) ?aF ?aO ?aB ?aS ?aL ?_; (case aP => exact k24_mkM _ _ _ (⟨x0, x1, x2⟩ : S24)); (case aF => intro k hk; exact HF'.out k (Nat.le_trans (by show w.heap.size ≤ w2.heap.size; have := HS2.out; rw [HSZ.out] at this; omega) hk)); (case aO => exact Kd.R_drew HO2.out); (case aB => exact below_drew HB2.out); (case aS => show base ≤ w2.heap.size; have := HBS'.out; have := HS2.out; rw [HSZ.out] at this; omega); (case aL => omega); intro v1 w3 hO3 hB3 hg3 hat3; obtain ⟨A1, c1, rfl⟩ := Kd.R_slice hO3; have hl3 : (xs ++ [(⟨x0, x1, x2⟩ : S24)]).length = xs.length + 1 := (by simp); rw [hl3] at hO3 hat3; clear hl3; have hb3 := blk_grown (w := w2.drew) (w1 := w3) HBK2.out hg3 HV'.out; have hcb3 : w3.cell? ⟨b, 0, none⟩ = some (.slice A xs.length c) := (blk_cell hb3 0).trans rfl; have hfb3 := blk_frozen hb3 0; have HO3 := Aside0.mk hO3; have HB3 := Aside0.mk hB3; have HG3 := Aside0.mk hg3; have HA3 := Aside0.mk hat3; have HBK3 := Aside0.mk hb3; clear hO3 hB3 hg3 hat3 hb3))
      go_wp2
      all_goals
        go_end0
        refine ⟨rfl, .slice A1 (xs.length + 1) c1, (by simpa using blk_set HBK3.out 0 (.slice A1 (xs.length + 1) c1)), ?_, ?_, ?_, ?_, ?_⟩
        · rw [HAG.out]
          exact Kd.R_far (p := ⟨b, 0, none⟩) HO3.out (fun k hk => HK'.out k hk) _
        · exact HB3.out.setCell (p := ⟨b, 0, none⟩) HBS'.out _
        · have h1 := HG3.out.size
          have h2 := HS2.out
          rw [HSZ.out] at h2
          have h3 : (w3.setCell ⟨b, 0, none⟩ (.slice A1 (xs.length + 1) c1)).heap.size = w3.heap.size := by simp [World.setCell]
          rw [h3]
          have h4 : w2.drew.heap.size = w2.heap.size := rfl
          omega
        · intro i hi hib hiv
          rw [Below.heap_setCell _ _ _ _ (by simpa using hib)]
          have h2 := HS2.out
          rw [HSZ.out] at h2
          rw [HG3.out.block i (show i < w2.heap.size by omega) hiv]
          show w2.heap[i]? = _
          rw [HK2.out i (by rw [HSZ.out]; omega), HKP.out i hi]
        · rcases HA3.out with h1 | ⟨k, h1, h2⟩
          · exact .inl h1
          · exact .inr ⟨k, h1, by have h3 := HS2.out; rw [HSZ.out] at h3; have h4 : w2.drew.heap.size = w2.heap.size := rfl; omega⟩
    · have hn1 : 0 < xs.length := by omega
      have hd1 : decide (0 < xs.length) = true := decide_eq_true hn1
      have hd2 : decide (0 < (xs.length : Int)) = true := decide_eq_true (by omega)
      obtain ⟨q, hq⟩ : ∃ q, extent_goesOn.f (rd_T24 xs (xs.length - 1)).f0 (rd_T24 xs (xs.length - 1)).f1 (rd_T24 xs (xs.length - 1)).f2 x0 x1 x2 = some q := ⟨_, rfl⟩
      cases q
      · have hag : addG xs ⟨x0, x1, x2⟩ = xs ++ [⟨x0, x1, x2⟩] := by
          rw [addG, if_neg h2, if_neg (by rintro ⟨_, h⟩; rw [hq] at h; cases h)]
        have HAG := Aside0.mk hag
        have HQ := Aside0.mk hq
        clear hag hq
        go_enter Try.func93, Try.ntmps93
        go_wp2_with fail
        obtain ⟨W1, hW1⟩ : ∃ W, W = w.alloc (.cells #[.int .i64 x0, .int .i64 x1, .int .i64 x2] 24) := ⟨_, rfl⟩
        rw [← hW1]
        have hbx : W1.heap[w.heap.size]? = some (.cells #[.int .i64 x0, .int .i64 x1, .int .i64 x2] 24 (0, 0)) := by rw [hW1]; simpa using heap_alloc_new w _
        have hsz : W1.heap.size = w.heap.size + 1 := by rw [hW1]; simp
        have hkp : ∀ i, i < w.heap.size → W1.heap[i]? = w.heap[i]? := fun i hi => by rw [hW1]; exact Below.heap_alloc _ _ _ hi
        have hO1 : Kd.R k24 24 W1 base ok (.slice A xs.length c) xs := by rw [hW1]; exact Kd.R_alloc HO'.out _
        have hB1 : Below base w0 W1 := by rw [hW1]; exact HB'.out.alloc (by have := HBS'.out; omega) _
        have hb1 : W1.heap[b]? = some (.cells #[.slice A xs.length c] 140 (0, 0)) := (hkp b hblt).trans HBK.out
        clear hW1
        have hcb1 : W1.cell? ⟨b, 0, none⟩ = some (.slice A xs.length c) := (blk_cell hb1 0).trans rfl
        have hfb1 := blk_frozen hb1 0
        have hx0 : W1.cell? ⟨w.heap.size, 0, none⟩ = some (.int .i64 x0) := (blk_cell hbx 0).trans rfl
        have hx1 : W1.cell? ⟨w.heap.size, 1, none⟩ = some (.int .i64 x1) := (blk_cell hbx 1).trans rfl
        have hx2 : W1.cell? ⟨w.heap.size, 2, none⟩ = some (.int .i64 x2) := (blk_cell hbx 2).trans rfl
        have HBX := Aside0.mk hbx
        have HSZ := Aside0.mk hsz
        have HKP := Aside0.mk hkp
        have HO1 := Aside0.mk hO1
        have HB1 := Aside0.mk hB1
        have HBK1 := Aside0.mk hb1
        clear hbx hsz hkp hO1 hB1 hb1 hcb hfb
        obtain ⟨g, cap, hv, hgb, hgl, cells, hgc⟩ := Kd.R_form HO1.out hn1
        injection hv with hv1 _ hv2
        subst hv1 hv2
        obtain ⟨j, hj⟩ : ∃ j : Int, j = (xs.length : Int) - 1 := ⟨_, rfl⟩
        have hi0 : 0 ≤ j := by omega
        have hi1 : j < (xs.length : Int) := by omega
        have hwr : IntKind.i64.wrap ((xs.length : Int) - 1) = j := by rw [hj]; exact IntWalk.i64_in _ (by omega)
        have hwr2 : (xs.length : Int) - 1 = j := hj.symm
        have hwr3 : IntKind.i64.wrap j = j := IntWalk.i64_in _ (by omega)
        have HJ := Aside0.mk hj
        clear hj
        have he := Kd.R_elem HO1.out z24 j hi0 hi1
        obtain ⟨ce, hcl, hM, hcc, hfz⟩ := he
        obtain rfl := k24_openM hM
        have e0 : W1.cell? ⟨g, j.toNat * 3, none⟩ = some (.int .i64 (xs.getD j.toNat z24).f0) := hcc 0 _ rfl
        have e1 : W1.cell? ⟨g, j.toNat * 3 + 1, none⟩ = some (.int .i64 (xs.getD j.toNat z24).f1) := hcc 1 _ rfl
        have e2 : W1.cell? ⟨g, j.toNat * 3 + 2, none⟩ = some (.int .i64 (xs.getD j.toNat z24).f2) := hcc 2 _ rfl
        obtain ⟨y, hy⟩ : ∃ y, y = xs.getD j.toNat z24 := ⟨_, rfl⟩
        rw [← hy] at e0 e1 e2 hM hcc
        have hqy : extent_goesOn.f y.f0 y.f1 y.f2 x0 x1 x2 = some false := by rw [hy, HJ.out]; exact HQ.out
        have HQY := Aside0.mk hqy
        have HY := Aside0.mk hy
        clear hy hqy
        have HCC := Aside0.mk hcc
        have HM := Aside0.mk hM
        have HGC := Aside0.mk hgc
        clear hcc hM hgc hfz hcl
        go_still_tail 11, (by kernel_rfl)
        change wpList _ _ _ _ _ W1.drew
        go_wp2_with (go_at_call 98; refine (extent_goesOn.calls _ _ _ _ _ _ false _ HQY.out).mono ?_; rintro e w2 ⟨rfl, hbw⟩; have HBW := Aside0.mk hbw; clear hbw)
        have hs2 : W1.heap.size ≤ w2.heap.size := HBW.out.size
        have hk2 : ∀ i, i < W1.heap.size → w2.heap[i]? = W1.heap[i]? := fun i hi => HBW.out.block i hi
        have hB2 : Below base w0 w2 := HB1.out.trans ⟨HBW.out.os, HBW.out.tape, HBW.out.output, HBW.out.size, fun k hk => HBW.out.block k (by show k < W1.heap.size; rw [HSZ.out]; have := HBS'.out; omega)⟩
        have hbx2 := (hk2 w.heap.size (by rw [HSZ.out]; omega)).trans HBX.out
        have hb2 := (hk2 b (by rw [HSZ.out]; omega)).trans HBK1.out
        have hO2 : Kd.R k24 24 w2 base ok (.slice (some ⟨g, 0, none⟩) xs.length c) xs := Kd.R_step HO1.out (fun k _ hk => hk2 k hk)
        have hcb2 : w2.cell? ⟨b, 0, none⟩ = some (.slice (some ⟨g, 0, none⟩) xs.length c) := (blk_cell hb2 0).trans rfl
        have hfb2 := blk_frozen hb2 0
        have hy0 : w2.cell? ⟨w.heap.size, 0, none⟩ = some (.int .i64 x0) := (blk_cell hbx2 0).trans rfl
        have hy1 : w2.cell? ⟨w.heap.size, 1, none⟩ = some (.int .i64 x1) := (blk_cell hbx2 1).trans rfl
        have hy2 : w2.cell? ⟨w.heap.size, 2, none⟩ = some (.int .i64 x2) := (blk_cell hbx2 2).trans rfl
        have HK2 := Aside0.mk hk2
        have HS2 := Aside0.mk hs2
        have HB2 := Aside0.mk hB2
        have HO2 := Aside0.mk hO2
        have HBK2 := Aside0.mk hb2
        have hcb2a : ∀ o, (w2.alloc o).cell? ⟨b, 0, none⟩ = some (.slice (some ⟨g, 0, none⟩) xs.length c) := fun o => (blk_cell (blk_alloc hb2 o) 0).trans rfl
        clear hk2 hs2 hB2 hO2 hbx2 hb2 hcb1 hfb1 hx0 hx1 hx2
        go_wp2_with fail
        go_region_law ((refine Kd.R_append_step k24 (w0 := w0) (W := w2.drew) base rfl (.tmp 41) (.tmp 43) 140 24 (.agg #[(.int .i64 0), (.int .i64 0), (.int .i64 0)]) 24 rfl Try.underlying140 info24 rfl (by decide) (by omega) (.slice (some ⟨g, 0, none⟩) xs.length c) xs (⟨x0, x1, x2⟩ : S24) [.int .i64 x0, .int .i64 x1, .int .i64 x2] ok (fun _ => False) rfl rfl ?aP (fun _ hk => hk.elim) ?aF ?aO ?aB ?aS ?aL ?_; (case aP => exact k24_mkM _ _ _ (⟨x0, x1, x2⟩ : S24)); (case aF => intro k hk; exact HF'.out k (Nat.le_trans (by show w.heap.size ≤ w2.heap.size; have := HS2.out; rw [HSZ.out] at this; omega) hk)); (case aO => exact Kd.R_drew HO2.out); (case aB => exact below_drew HB2.out); (case aS => show base ≤ w2.heap.size; have := HBS'.out; have := HS2.out; rw [HSZ.out] at this; omega); (case aL => omega); intro v1 w3 hO3 hB3 hg3 hat3; obtain ⟨A1, c1, rfl⟩ := Kd.R_slice hO3; have hl3 : (xs ++ [(⟨x0, x1, x2⟩ : S24)]).length = xs.length + 1 := (by simp); rw [hl3] at hO3 hat3; clear hl3; have hb3 := blk_grown (w := w2.drew) (w1 := w3) HBK2.out hg3 HV'.out; have hcb3 : w3.cell? ⟨b, 0, none⟩ = some (.slice (some ⟨g, 0, none⟩) xs.length c) := (blk_cell hb3 0).trans rfl; have hfb3 := blk_frozen hb3 0; have HO3 := Aside0.mk hO3; have HB3 := Aside0.mk hB3; have HG3 := Aside0.mk hg3; have HA3 := Aside0.mk hat3; have HBK3 := Aside0.mk hb3; clear hO3 hB3 hg3 hat3 hb3))
        go_wp2
        all_goals
          go_end0
          refine ⟨rfl, .slice A1 (xs.length + 1) c1, (by simpa using blk_set HBK3.out 0 (.slice A1 (xs.length + 1) c1)), ?_, ?_, ?_, ?_, ?_⟩
          · rw [HAG.out]
            exact Kd.R_far (p := ⟨b, 0, none⟩) HO3.out (fun k hk => HK'.out k hk) _
          · exact HB3.out.setCell (p := ⟨b, 0, none⟩) HBS'.out _
          · have h1 := HG3.out.size
            have h2 := HS2.out
            rw [HSZ.out] at h2
            have h3 : (w3.setCell ⟨b, 0, none⟩ (.slice A1 (xs.length + 1) c1)).heap.size = w3.heap.size := by simp [World.setCell]
            rw [h3]
            have h4 : w2.drew.heap.size = w2.heap.size := rfl
            omega
          · intro i hi hib hiv
            rw [Below.heap_setCell _ _ _ _ (by simpa using hib)]
            have h2 := HS2.out
            rw [HSZ.out] at h2
            rw [HG3.out.block i (show i < w2.heap.size by omega) hiv]
            show w2.heap[i]? = _
            rw [HK2.out i (by rw [HSZ.out]; omega), HKP.out i hi]
          · rcases HA3.out with h1 | ⟨k, h1, h2⟩
            · exact .inl h1
            · exact .inr ⟨k, h1, by have h3 := HS2.out; rw [HSZ.out] at h3; have h4 : w2.drew.heap.size = w2.heap.size := rfl; omega⟩
      · have hag : addG xs ⟨x0, x1, x2⟩ = xs.set ((xs.length : Int) - 1).toNat ⟨(rd_T24 xs (xs.length - 1)).f0, (rd_T24 xs (xs.length - 1)).f1, wrap64 ((rd_T24 xs (xs.length - 1)).f2 + x2)⟩ := by
          rw [addG, if_neg h2, if_pos ⟨hn1, hq⟩]
        have HAG := Aside0.mk hag
        have HQ := Aside0.mk hq
        clear hag hq
        go_enter Try.func93, Try.ntmps93
        go_wp2_with fail
        obtain ⟨W1, hW1⟩ : ∃ W, W = w.alloc (.cells #[.int .i64 x0, .int .i64 x1, .int .i64 x2] 24) := ⟨_, rfl⟩
        rw [← hW1]
        have hbx : W1.heap[w.heap.size]? = some (.cells #[.int .i64 x0, .int .i64 x1, .int .i64 x2] 24 (0, 0)) := by rw [hW1]; simpa using heap_alloc_new w _
        have hsz : W1.heap.size = w.heap.size + 1 := by rw [hW1]; simp
        have hkp : ∀ i, i < w.heap.size → W1.heap[i]? = w.heap[i]? := fun i hi => by rw [hW1]; exact Below.heap_alloc _ _ _ hi
        have hO1 : Kd.R k24 24 W1 base ok (.slice A xs.length c) xs := by rw [hW1]; exact Kd.R_alloc HO'.out _
        have hB1 : Below base w0 W1 := by rw [hW1]; exact HB'.out.alloc (by have := HBS'.out; omega) _
        have hb1 : W1.heap[b]? = some (.cells #[.slice A xs.length c] 140 (0, 0)) := (hkp b hblt).trans HBK.out
        clear hW1
        have hcb1 : W1.cell? ⟨b, 0, none⟩ = some (.slice A xs.length c) := (blk_cell hb1 0).trans rfl
        have hfb1 := blk_frozen hb1 0
        have hx0 : W1.cell? ⟨w.heap.size, 0, none⟩ = some (.int .i64 x0) := (blk_cell hbx 0).trans rfl
        have hx1 : W1.cell? ⟨w.heap.size, 1, none⟩ = some (.int .i64 x1) := (blk_cell hbx 1).trans rfl
        have hx2 : W1.cell? ⟨w.heap.size, 2, none⟩ = some (.int .i64 x2) := (blk_cell hbx 2).trans rfl
        have HBX := Aside0.mk hbx
        have HSZ := Aside0.mk hsz
        have HKP := Aside0.mk hkp
        have HO1 := Aside0.mk hO1
        have HB1 := Aside0.mk hB1
        have HBK1 := Aside0.mk hb1
        clear hbx hsz hkp hO1 hB1 hb1 hcb hfb
        obtain ⟨g, cap, hv, hgb, hgl, cells, hgc⟩ := Kd.R_form HO1.out hn1
        injection hv with hv1 _ hv2
        subst hv1 hv2
        obtain ⟨j, hj⟩ : ∃ j : Int, j = (xs.length : Int) - 1 := ⟨_, rfl⟩
        have hi0 : 0 ≤ j := by omega
        have hi1 : j < (xs.length : Int) := by omega
        have hwr : IntKind.i64.wrap ((xs.length : Int) - 1) = j := by rw [hj]; exact IntWalk.i64_in _ (by omega)
        have hwr2 : (xs.length : Int) - 1 = j := hj.symm
        have hwr3 : IntKind.i64.wrap j = j := IntWalk.i64_in _ (by omega)
        have HJ := Aside0.mk hj
        clear hj
        have he := Kd.R_elem HO1.out z24 j hi0 hi1
        obtain ⟨ce, hcl, hM, hcc, hfz⟩ := he
        obtain rfl := k24_openM hM
        have e0 : W1.cell? ⟨g, j.toNat * 3, none⟩ = some (.int .i64 (xs.getD j.toNat z24).f0) := hcc 0 _ rfl
        have e1 : W1.cell? ⟨g, j.toNat * 3 + 1, none⟩ = some (.int .i64 (xs.getD j.toNat z24).f1) := hcc 1 _ rfl
        have e2 : W1.cell? ⟨g, j.toNat * 3 + 2, none⟩ = some (.int .i64 (xs.getD j.toNat z24).f2) := hcc 2 _ rfl
        obtain ⟨y, hy⟩ : ∃ y, y = xs.getD j.toNat z24 := ⟨_, rfl⟩
        rw [← hy] at e0 e1 e2 hM hcc
        have hqy : extent_goesOn.f y.f0 y.f1 y.f2 x0 x1 x2 = some true := by rw [hy, HJ.out]; exact HQ.out
        have HQY := Aside0.mk hqy
        have HY := Aside0.mk hy
        clear hy hqy
        have HCC := Aside0.mk hcc
        have HM := Aside0.mk hM
        have HGC := Aside0.mk hgc
        clear hcc hM hgc hfz hcl
        go_still_tail 11, (by kernel_rfl)
        change wpList _ _ _ _ _ W1.drew
        go_wp2_with (go_at_call 98; refine (extent_goesOn.calls _ _ _ _ _ _ true _ HQY.out).mono ?_; rintro e w2 ⟨rfl, hbw⟩; have HBW := Aside0.mk hbw; clear hbw)
        have hs2 : W1.heap.size ≤ w2.heap.size := HBW.out.size
        have hk2 : ∀ i, i < W1.heap.size → w2.heap[i]? = W1.heap[i]? := fun i hi => HBW.out.block i hi
        have hB2 : Below base w0 w2 := HB1.out.trans ⟨HBW.out.os, HBW.out.tape, HBW.out.output, HBW.out.size, fun k hk => HBW.out.block k (by show k < W1.heap.size; rw [HSZ.out]; have := HBS'.out; omega)⟩
        have hbx2 := (hk2 w.heap.size (by rw [HSZ.out]; omega)).trans HBX.out
        have hb2 := (hk2 b (by rw [HSZ.out]; omega)).trans HBK1.out
        have hO2 : Kd.R k24 24 w2 base ok (.slice (some ⟨g, 0, none⟩) xs.length c) xs := Kd.R_step HO1.out (fun k _ hk => hk2 k hk)
        have hcb2 : w2.cell? ⟨b, 0, none⟩ = some (.slice (some ⟨g, 0, none⟩) xs.length c) := (blk_cell hb2 0).trans rfl
        have hfb2 := blk_frozen hb2 0
        have hy0 : w2.cell? ⟨w.heap.size, 0, none⟩ = some (.int .i64 x0) := (blk_cell hbx2 0).trans rfl
        have hy1 : w2.cell? ⟨w.heap.size, 1, none⟩ = some (.int .i64 x1) := (blk_cell hbx2 1).trans rfl
        have hy2 : w2.cell? ⟨w.heap.size, 2, none⟩ = some (.int .i64 x2) := (blk_cell hbx2 2).trans rfl
        obtain ⟨ce2, hcl2, hM2, hcc2, hfz2⟩ := Kd.R_elem hO2 z24 j hi0 hi1
        rw [← HY.out] at hM2
        obtain rfl := k24_openM hM2
        have f0 : w2.cell? ⟨g, j.toNat * 3, none⟩ = some (.int .i64 y.f0) := hcc2 0 _ rfl
        have f1 : w2.cell? ⟨g, j.toNat * 3 + 1, none⟩ = some (.int .i64 y.f1) := hcc2 1 _ rfl
        have f2 : w2.cell? ⟨g, j.toNat * 3 + 2, none⟩ = some (.int .i64 y.f2) := hcc2 2 _ rfl
        obtain ⟨s, hs⟩ : ∃ s : Int, s = wrap64 (y.f2 + x2) := ⟨_, rfl⟩
        have hsw : IntKind.i64.wrap (y.f2 + x2) = s := by rw [hs]; exact IntWalk.i64_left _
        have hsw2 : wrap64 (y.f2 + x2) = s := hs.symm
        have HSS := Aside0.mk hs
        have HCC2 := Aside0.mk hcc2
        have HK2 := Aside0.mk hk2
        have HS2 := Aside0.mk hs2
        have HB2 := Aside0.mk hB2
        have HO2 := Aside0.mk hO2
        have HBK2 := Aside0.mk hb2
        clear hs hcc2 hM2 hcl2 hfz2 hk2 hs2 hB2 hO2 hbx2 hb2 hcb1 hfb1 hx0 hx1 hx2 e0 e1 e2
        go_wp2_with fail
        go_still_tail 13, (by kernel_rfl)
        change wpList _ _ _ _ _ w2.drew
        refine Kd.R_store k24 (w0 := w0) (W := w2.drew) base rfl rfl 3 (.tmp 37) (.tmp 35) rfl 24 j 2 xs (⟨y.f0, y.f1, s⟩ : S24) (.int .i64 s) [.int .i64 s] [.int .i64 y.f0, .int .i64 y.f1, .int .i64 y.f2] ok (fun _ => False) rfl rfl rfl rfl (by kernel_rfl) (by simp [Value.oneCell']) (Kd.R_drew HO2.out) hi0 hi1 rfl (fun j u hu => HCC2.out j u hu) (Nat.le_refl 3) (k24_mkM _ _ _ (⟨y.f0, y.f1, s⟩ : S24)) (fun _ hk => hk.elim) (below_drew HB2.out) ?_
        intro w3 hO3 hB3 hg3
        have HO3 := Aside0.mk hO3
        have HB3 := Aside0.mk hB3
        have HG3 := Aside0.mk hg3
        clear hO3 hB3 hg3
        go_wp2
        refine bodyPost_ret (results_none rfl _ _ _) rfl ⟨rfl, .slice (some ⟨g, 0, none⟩) xs.length c, blk_grown (w := w2.drew) (w1 := w3) HBK2.out HG3.out (by simpa [Value.ownBlock] using HV'.out), ?_, HB3.out, ?_, ?_, .inl rfl⟩
        · have hyy : y = rd_T24 xs j := HY.out
          rw [HAG.out, ← HJ.out, ← hyy, ← HSS.out]
          exact HO3.out
        · have h1 := HG3.out.size
          have h2 := HS2.out
          rw [HSZ.out] at h2
          have h4 : w2.drew.heap.size = w2.heap.size := rfl
          omega
        · intro i hi hib hiv
          have h2 := HS2.out
          rw [HSZ.out] at h2
          rw [HG3.out.block i (show i < w2.heap.size by omega) (by simpa [Value.ownBlock] using hiv)]
          show w2.heap[i]? = _
          rw [HK2.out i (by rw [HSZ.out]; omega), HKP.out i hi]
def RS (w0 : World) (base : Nat) (B : List Nat) (b : Nat) (xs : List S24) (W : World) : Prop :=
  ∃ v, W.heap[b]? = some (.cells #[v] 140 (0, 0)) ∧ Kd.R k24 24 W base (fun k => k ∉ B) v xs ∧ Below base w0 W ∧ base ≤ b ∧ b ∈ B ∧ ∀ i ∈ B, i < W.heap.size
theorem RS.below {w0 W W1 : World} {base b : Nat} {B : List Nat} {xs : List S24} (h : RS w0 base B b xs W) (hb : Below W.heap.size W W1) : RS w0 base B b xs W1 := by
  obtain ⟨v, h1, h2, h3, h4, h5, h6⟩ := h
  have hlt := h6 b h5
  refine ⟨v, (hb.block b hlt).trans h1, Kd.R_below h2 hb, below_then h3 (by omega) hb, h4, h5, fun i hi => Nat.lt_of_lt_of_le (h6 i hi) hb.size⟩
theorem RS.push {w0 W W1 : World} {base b bx : Nat} {B : List Nat} {xs : List S24} (h : RS w0 base B b xs W) (hb : Below W.heap.size W W1) (h1 : W.heap.size ≤ bx) (h2 : bx < W1.heap.size) : RS w0 base (bx :: B) b xs W1 := by
  obtain ⟨v, g1, g2, g3, g4, g5, g6⟩ := h
  have hlt := g6 b g5
  refine ⟨v, (hb.block b hlt).trans g1, Kd.R_mono (Kd.R_below (Kd.R_mono (Kd.R_bound g2) (ok' := fun k => k ∉ bx :: B) (fun k hk => ?_)) hb) (fun _ hk => hk), below_then g3 (by omega) hb, g4, List.mem_cons_of_mem _ g5, fun i hi => ?_⟩
  · intro hm
    rcases List.mem_cons.1 hm with rfl | hm
    · have := hk.2.2.1; omega
    · exact hk.1 hm
  · rcases List.mem_cons.1 hi with rfl | hi
    · exact h2
    · exact Nat.lt_of_lt_of_le (g6 i hi) hb.size
theorem RS.drop {w0 W : World} {base b bx : Nat} {B : List Nat} {xs : List S24} (h : RS w0 base (bx :: B) b xs W) (hb : b ∈ B) : RS w0 base B b xs W := by
  obtain ⟨v, g1, g2, g3, g4, g5, g6⟩ := h
  exact ⟨v, g1, Kd.R_mono g2 (fun k hk hm => hk (List.mem_cons_of_mem _ hm)), g3, g4, hb, fun i hi => g6 i (List.mem_cons_of_mem _ hi)⟩
theorem RS.set {w0 W : World} {base b bx o : Nat} {B : List Nat} {xs : List S24} (h : RS w0 base B b xs W) (hx : bx ∈ B) (hne : b ≠ bx) (hbase : base ≤ bx) (u : Value) : RS w0 base B b xs (W.setCell ⟨bx, o, none⟩ u) := by
  obtain ⟨v, g1, g2, g3, g4, g5, g6⟩ := h
  refine ⟨v, blk_far g1 hne u, Kd.R_far (p := ⟨bx, o, none⟩) g2 (fun k hk e => hk (by rw [e]; exact hx)) u, g3.setCell (p := ⟨bx, o, none⟩) hbase u, g4, g5, fun i hi => by simpa [World.setCell] using g6 i hi⟩
theorem RS.cell {w0 W : World} {base b : Nat} {B : List Nat} {xs : List S24} (h : RS w0 base B b xs W) : ∃ A c, W.cell? ⟨b, 0, none⟩ = some (.slice A xs.length c) ∧ Kd.R k24 24 W base (fun k => k ∉ B) (.slice A xs.length c) xs := by
  obtain ⟨v, g1, g2, g3, g4, g5, g6⟩ := h
  obtain ⟨A, c, rfl⟩ := Kd.R_slice g2
  exact ⟨A, c, (blk_cell g1 0).trans rfl, g2⟩
theorem RS.old {w0 W : World} {base b : Nat} {B : List Nat} {xs : List S24} (h : RS w0 base B b xs W) : Below base w0 W := by
  obtain ⟨v, g1, g2, g3, g4, g5, g6⟩ := h
  exact g3
theorem RS.add {w0 W : World} {base b : Nat} {B : List Nat} {xs : List S24} (h : RS w0 base B b xs W) (x : S24) (hlen : xs.length < 2147483648) :
    Calls Try.prog 93 #[.pointer (some ⟨b, 0, none⟩), .agg #[.int .i64 x.f0, .int .i64 x.f1, .int .i64 x.f2]] W fun e w' => e = .returned (.tuple #[]) ∧ RS w0 base B b (addG xs x) w' ∧ W.heap.size ≤ w'.heap.size ∧ (∀ i ∈ B, i ≠ b → w'.heap[i]? = W.heap[i]?) := by
  obtain ⟨v, g1, g2, g3, g4, g5, g6⟩ := h
  refine (list_add.calls b v xs x.f0 x.f1 x.f2 W w0 (fun k => k ∉ B) base g1 g2 (fun k hk e => hk (e ▸ g5)) (fun k hk hm => by have := g6 k hm; omega) g3 g4 hlen).mono ?_
  rintro e w' ⟨rfl, v', h1, h2, h3, h4, h5, h6⟩
  refine ⟨rfl, ⟨v', h1, h2, h3, g4, g5, fun i hi => Nat.lt_of_lt_of_le (g6 i hi) h4⟩, h4, fun i hi hne => h5 i (g6 i hi) hne ?_⟩
  intro he
  exact (Kd.R_away g2 (g := i) (fun k hk e => hk (e ▸ hi))) he
theorem RS.of_nil {w0 W : World} {base b : Nat} {B : List Nat} (h1 : W.heap[b]? = some (.cells #[.slice none 0 0] 140 (0, 0))) (h3 : Below base w0 W) (h4 : base ≤ b) (h5 : b ∈ B) (h6 : ∀ i ∈ B, i < W.heap.size) : RS w0 base B b [] W :=
  ⟨.slice none 0 0, h1, Kd.R_nil _ _ _ _ _, h3, h4, h5, h6⟩
theorem addG_length (xs : List S24) (x : S24) : (addG xs x).length ≤ xs.length + 1 := by
  unfold addG
  split
  · omega
  · split
    · rw [List.length_set]; omega
    · simp
theorem addG_fold_length (ps : List S24) : ∀ xs : List S24, (ps.foldl addG xs).length ≤ xs.length + ps.length := by
  induction ps with
  | nil => intro xs; simp
  | cons p t ih =>
    intro xs
    have h1 := ih (addG xs p)
    have h2 := addG_length xs p
    simp only [List.foldl_cons, List.length_cons]
    omega
set_option maxHeartbeats 1000000 in
set_option maxRecDepth 100000 in
theorem lay_by.calls (w0 w : World) (base b7 b9 b10 : Nat) (B : List Nat) (xs l3 : List S24) (A3 : Option Addr) (c3 : Nat) (lb : Bool)
    (h : RS w0 base B b9 xs w) (h7 : b7 ∈ B) (h10 : b10 ∈ B) (n7 : b7 ≠ b9) (n10 : b10 ≠ b9) (n710 : b7 ≠ b10) (hb10 : base ≤ b10)
    (hc7 : w.heap[b7]? = some (.cells #[.slice A3 l3.length c3] 22 (0, 0))) (hc10 : w.heap[b10]? = some (.cells #[.bool lb] 4 (0, 0)))
    (hr : Kd.C k24 w0 A3 l3.length l3) (hw0 : w0.heap.size ≤ base) (hlen : xs.length + l3.length < 2147483648) :
    Calls Try.prog 137 #[.pointer (some ⟨b7, 0, none⟩), .pointer (some ⟨b9, 0, none⟩), .pointer (some ⟨b10, 0, none⟩)] w fun e w' =>
      e = .returned (.tuple #[]) ∧ RS w0 base B b9 (l3.foldl addG xs) w' ∧ w.heap.size ≤ w'.heap.size ∧ w'.heap[b10]? = some (.cells #[.bool true] 4 (0, 0)) ∧ (∀ i ∈ B, i ≠ b9 → i ≠ b10 → w'.heap[i]? = w.heap[i]?) := by
  have hu24 := Try.underlying24
  have hcc7 : w.cell? ⟨b7, 0, none⟩ = some (.slice A3 l3.length c3) := (blk_cell hc7 0).trans rfl
  have HR := Aside0.mk hr
  have H := Aside0.mk h
  have H7 := Aside0.mk hc7
  have H10 := Aside0.mk hc10
  have HW := Aside0.mk hw0
  have HLEN := Aside0.mk hlen
  have HB7 := Aside0.mk h7
  have HB10 := Aside0.mk h10
  have HN := Aside0.mk (And.intro n7 (And.intro n10 (And.intro n710 hb10)))
  have hll : l3.length < 2147483648 := by omega
  clear hr h hc7 hc10 hw0 hlen h7 h10 n7 n10 n710 hb10
  go_enter Try.func137, Try.ntmps137
  go_wp2_with fail
  go_loopg [7] l3.length (fun gk v7 W => ∃ i : Int, v7 = .int .i64 i ∧ Aside0 (0 ≤ i ∧ i + gk = l3.length) ∧ Aside0 (RS w0 base B b9 ((l3.take i.toNat).foldl addG xs) W ∧ w.heap.size ≤ W.heap.size ∧ ∀ k ∈ B, k ≠ b9 → W.heap[k]? = w.heap[k]?))
  case atStart => exact ⟨0, rfl, ⟨Int.le_refl _, by simp⟩, ⟨by simpa using H.out, Nat.le_refl _, fun _ _ _ => rfl⟩⟩
  case round =>
    obtain ⟨i, rfl, HI, HS⟩ := hrel
    cases gk with
    | zero =>
      have hi : i = l3.length := by have := HI.out.2; omega
      have hd : decide (i < (l3.length : Int)) = false := decide_eq_false (by omega)
      have HII := Aside0.mk hi
      clear hi
      have hk10 := (HS.out.2.2 b10 HB10.out HN.out.2.1).trans H10.out
      have hcc10 : wr.cell? ⟨b10, 0, none⟩ = some (.bool lb) := (blk_cell hk10 0).trans rfl
      have hfz10 := blk_frozen hk10 0
      have HK10 := Aside0.mk hk10
      clear hk10
      go_wp2
      go_end0
      refine ⟨rfl, ?_, ?_, by simpa using blk_set HK10.out 0 (.bool true), ?_⟩
      · have h1 := HS.out.1
        rw [HII.out, Int.toNat_natCast, List.take_length] at h1
        exact h1.set HB10.out (Ne.symm HN.out.2.1) HN.out.2.2.2 _
      · have := HS.out.2.1
        simpa [World.setCell] using this
      · intro k hk hk9 hk10
        rw [Below.heap_setCell _ _ _ _ (by simpa using hk10)]
        exact HS.out.2.2 k hk hk9
    | succ k1 =>
      have hp0 : 0 ≤ i := HI.out.1
      have hp1 : i < (l3.length : Int) := by have := HI.out.2; omega
      have hd : decide (i < (l3.length : Int)) = true := decide_eq_true hp1
      have hC : Kd.C k24 wr A3 l3.length l3 := Kd.C_below HR.out ((HS.out.1.old).mono HW.out)
      obtain ⟨ad, e3, g0, g1, g2⟩ := at_T24 hC i hp0 hp1
      cases e3
      obtain ⟨x, hx⟩ : ∃ x, x = rd_T24 l3 i := ⟨_, rfl⟩
      rw [← hx] at g0 g1 g2
      have HX := Aside0.mk hx
      have HP := Aside0.mk (And.intro hp0 hp1)
      clear hx hC
      go_wp2_with fail
      refine ((HS.out.1.below ((Below.refl _ _).alloc (Nat.le_refl _) _)).add x ?len).mono ?_
      case len =>
        have h1 := addG_fold_length (l3.take i.toNat) xs
        have h2 : (l3.take i.toNat).length ≤ l3.length := by rw [List.length_take]; omega
        have := HLEN.out
        omega
      rintro e w2 ⟨rfl, h2, hs2, hk2⟩
      have H2 := Aside0.mk h2
      have HS2 := Aside0.mk hs2
      have HK2 := Aside0.mk hk2
      clear h2 hs2 hk2 g0 g1 g2
      go_wp2
      go_roundg k1
      case measure => omega
      case rel =>
        refine ⟨i + 1, by first | rfl | (simp; done), ⟨by have := HP.out.1; omega, by have := HI.out.2; omega⟩, ⟨?_, ?_, ?_⟩⟩
        · have h1 := H2.out
          have h3 : (i + 1).toNat = i.toNat + 1 := by have := HP.out.1; omega
          have h4 : i.toNat < l3.length := by have := HP.out; omega
          rw [h3, List.take_succ_eq_append_getElem h4, List.foldl_append]
          have h5 : x = l3[i.toNat] := by rw [HX.out]; unfold rd_T24; rw [List.getD_eq_getElem?_getD, List.getElem?_eq_getElem h4]; rfl
          rw [← h5]
          exact h1
        · have h1 := HS2.out
          have h2 := HS.out.2.1
          simp at h1
          omega
        · intro k hk hk9
          rw [HK2.out k hk hk9]
          have h1 : k < wr.heap.size := by
            obtain ⟨_, _, _, _, _, _, h6⟩ := HS.out.1
            exact h6 k hk
          rw [Below.heap_alloc _ _ _ h1]
          exact HS.out.2.2 k hk hk9
def extent_part.f (a0_0 : Int) (a0_1 : Int) (a0_2 : Int) (a1 : Int) (a2 : Int) : Option (Int × Int × Int) :=
  some (mx a1 a0_0, if a0_1 = -1 then a0_1 else wrap64 (a0_1 + wrap64 (mx a1 a0_0 - a0_0)), wrap64 (mn a2 (wrap64 (a0_0 + a0_2)) - mx a1 a0_0))
set_option maxHeartbeats 1000000 in
set_option maxRecDepth 100000 in
theorem extent_part.calls (a0_0 : Int) (a0_1 : Int) (a0_2 : Int) (a1 : Int) (a2 : Int) (r1 : Int) (r2 : Int) (r3 : Int) (w : World) (h : extent_part.f a0_0 a0_1 a0_2 a1 a2 = some (r1, r2, r3)) :
    Calls Try.prog 94 #[.agg #[.int .i64 a0_0, .int .i64 a0_1, .int .i64 a0_2], .int .i64 a1, .int .i64 a2] w fun e w' => e = .returned (.agg #[.int .i64 r1, .int .i64 r2, .int .i64 r3]) ∧ Below w.heap.size w w' := by
  have hu24 := Try.underlying24
  simp only [extent_part.f, Option.some.injEq, Prod.mk.injEq] at h
  obtain ⟨rfl, rfl, rfl⟩ := h
  by_cases h1 : a0_1 = -1
  · have b1 : (a0_1 == -1) = true := beq_iff_eq.mpr h1
    have b2 : (a0_1 != -1) = false := bne_eq_false_iff_eq.mpr h1
    rw [if_pos h1]
    clear h1
    go_enter Try.func94, Try.ntmps94
    go_wp2_with fail
    generalize hm : mx a1 a0_0 = m
    generalize hs : wrap64 (a0_0 + a0_2) = s
    generalize hn : mn a2 s = n
    have hm' : (if a1 < a0_0 then a0_0 else a1) = m := hm
    have hn' : (if s < a2 then s else a2) = n := hn
    have HM := Aside0.mk hm
    have HS := Aside0.mk hs
    have HN := Aside0.mk hn
    clear hm hn
    go_quiet (fail)
    go_wp2
    have hz : (w.alloc (.cells #[.int .i64 a0_0, .int .i64 a0_1, .int .i64 a0_2] 24)).heap.size = w.heap.size + 1 := by simp
    refine bodyPost_ret (results_cell_row rfl _ _ (w.heap.size + 1) 24 #[.int .i64 m, .int .i64 (a0_1), .int .i64 (wrap64 (n - m))] (0, 0) _ rfl ?_ Try.underlying24 rfl (by kernel_rfl)) rfl ⟨?_, ?_⟩
    · refine blk_put (cs := #[.int .i64 m, .int .i64 (a0_1), .int .i64 0]) ?_ 2 _ rfl
      refine blk_put (cs := #[.int .i64 m, .int .i64 0, .int .i64 0]) ?_ 1 _ rfl
      refine blk_put (cs := #[.int .i64 0, .int .i64 0, .int .i64 0]) ?_ 0 _ rfl
      refine blk_drewN ?_ _
      rw [← hz]
      exact blk_new _ _
    · rw [HM.out, HS.out, HN.out]
    · repeat (first | refine Below.setCell ?_ (by simp) _ | refine pw_below_drewN ?_ _ | refine Below.alloc ?_ (by simp) _ | exact Below.refl _ _)
  · have b1 : (a0_1 == -1) = false := beq_eq_false_iff_ne.mpr h1
    have b2 : (a0_1 != -1) = true := bne_iff_ne.mpr h1
    rw [if_neg h1]
    clear h1
    go_enter Try.func94, Try.ntmps94
    go_wp2_with fail
    generalize hm : mx a1 a0_0 = m
    generalize hs : wrap64 (a0_0 + a0_2) = s
    generalize hn : mn a2 s = n
    have hm' : (if a1 < a0_0 then a0_0 else a1) = m := hm
    have hn' : (if s < a2 then s else a2) = n := hn
    have HM := Aside0.mk hm
    have HS := Aside0.mk hs
    have HN := Aside0.mk hn
    clear hm hn
    go_quiet (fail)
    go_wp2
    have hz : (w.alloc (.cells #[.int .i64 a0_0, .int .i64 a0_1, .int .i64 a0_2] 24)).heap.size = w.heap.size + 1 := by simp
    refine bodyPost_ret (results_cell_row rfl _ _ (w.heap.size + 1) 24 #[.int .i64 m, .int .i64 (wrap64 (a0_1 + wrap64 (m - a0_0))), .int .i64 (wrap64 (n - m))] (0, 0) _ rfl ?_ Try.underlying24 rfl (by kernel_rfl)) rfl ⟨?_, ?_⟩
    · refine blk_put (cs := #[.int .i64 m, .int .i64 (wrap64 (a0_1 + wrap64 (m - a0_0))), .int .i64 0]) ?_ 2 _ rfl
      refine blk_put (cs := #[.int .i64 m, .int .i64 0, .int .i64 0]) ?_ 1 _ rfl
      refine blk_put (cs := #[.int .i64 0, .int .i64 0, .int .i64 0]) ?_ 0 _ rfl
      refine blk_far ?_ (by simp) _
      refine blk_drewN ?_ _
      rw [← hz]
      exact blk_new _ _
    · rw [HM.out, HS.out, HN.out]
    · repeat (first | refine Below.setCell ?_ (by simp) _ | refine pw_below_drewN ?_ _ | refine Below.alloc ?_ (by simp) _ | exact Below.refl _ _)
def partG (x : S24) (a b : Int) : S24 := ⟨mx a x.f0, if x.f1 = -1 then x.f1 else wrap64 (x.f1 + wrap64 (mx a x.f0 - x.f0)), wrap64 (mn b (wrap64 (x.f0 + x.f2)) - mx a x.f0)⟩
theorem partG_calls (x : S24) (a b : Int) (w : World) :
    Calls Try.prog 94 #[.agg #[.int .i64 x.f0, .int .i64 x.f1, .int .i64 x.f2], .int .i64 a, .int .i64 b] w fun e w' => e = .returned (.agg #[.int .i64 (partG x a b).f0, .int .i64 (partG x a b).f1, .int .i64 (partG x a b).f2]) ∧ Below w.heap.size w w' :=
  extent_part.calls x.f0 x.f1 x.f2 a b _ _ _ w rfl
def replStep (v n : Int) (by_ : List S24) (s : List S24 × Bool) (x : S24) : List S24 × Bool :=
  let o1 := addG s.1 (partG x 0 v)
  let c := !s.2 && decide (v < wrap64 (x.f0 + x.f2))
  (addG (if c then by_.foldl addG o1 else o1) (partG x (wrap64 (v + n)) 65536), s.2 || c)
def replG (l : List S24) (v n : Int) (by_ : List S24) : List S24 :=
  let s := l.foldl (replStep v n by_) ([], false)
  if s.2 then s.1 else by_.foldl addG s.1
def extent_replaced.f (l0 : List (S24)) (a1 : Int) (a2 : Int) (l3 : List (S24)) : Option ((List (S24))) :=
  if l0.length ≤ 1024 ∧ l3.length ≤ 1024 then some (replG l0 a1 a2 l3) else none
theorem replStep_length (v n : Int) (by_ : List S24) (s : List S24 × Bool) (x : S24) : (replStep v n by_ s x).1.length ≤ s.1.length + by_.length + 2 := by
  simp only [replStep]
  have h1 := addG_length s.1 (partG x 0 v)
  have h2 := addG_fold_length by_ (addG s.1 (partG x 0 v))
  split
  · have := addG_length (by_.foldl addG (addG s.1 (partG x 0 v))) (partG x (wrap64 (v + n)) 65536); omega
  · have := addG_length (addG s.1 (partG x 0 v)) (partG x (wrap64 (v + n)) 65536); omega
theorem replFold_length (v n : Int) (by_ l : List S24) : ∀ s : List S24 × Bool, (l.foldl (replStep v n by_) s).1.length ≤ s.1.length + l.length * (by_.length + 2) := by
  induction l with
  | nil => intro s; simp
  | cons x t ih =>
    intro s
    have h1 := ih (replStep v n by_ s x)
    have h2 := replStep_length v n by_ s x
    simp only [List.foldl_cons, List.length_cons, Nat.succ_mul]
    omega
set_option maxHeartbeats 4000000 in
set_option maxRecDepth 100000 in
theorem extent_replaced.calls (A0 : Option Addr) (c0 : Nat) (l0 : List (S24)) (a1 : Int) (a2 : Int) (A3 : Option Addr) (c3 : Nat) (l3 : List (S24)) (r : List (S24)) (w : World) (hr0 : Kd.C k24 w A0 l0.length l0) (hc0 : l0.length ≤ c0) (hr3 : Kd.C k24 w A3 l3.length l3) (hc3 : l3.length ≤ c3) (h : extent_replaced.f l0 a1 a2 l3 = some r) :
    Calls Try.prog 88 #[.slice A0 l0.length c0, .int .i64 a1, .int .i64 a2, .slice A3 l3.length c3] w fun e w' => ∃ v0_ : Value, e = .returned (v0_) ∧ Kd.R k24 24 w' w.heap.size (fun _ => True) v0_ r ∧ Below w.heap.size w w' := by
  have hu24 := Try.underlying24
  have hmf : ∀ (fn : Fn) (first cap : Array Value) (w : World), (Instr.makeFunc fn first cap).run Try.prog w = .ok (.func fn first cap) w := fun _ _ _ _ => rfl
  unfold extent_replaced.f at h
  split at h
  · rename_i hlen
    obtain rfl := Option.some.inj h
    clear h
    have HR0 := Aside0.mk hr0
    have HR3 := Aside0.mk hr3
    have HLEN := Aside0.mk hlen
    have hl0 : l0.length ≤ 1024 := hlen.1
    clear hr0 hc0 hr3 hc3 hlen
    go_enter Try.func88, Try.ntmps88
    go_wp2_with fail
    obtain ⟨W0, hW0⟩ : ∃ W, W = ((w.alloc (.cells #[.slice A3 l3.length c3] 22)).alloc (.cells #[.slice none 0 0] 140)).alloc (.cells #[.bool false] 4) := ⟨_, rfl⟩
    rw [← hW0]
    obtain ⟨b7, hb7⟩ : ∃ b, b = w.heap.size := ⟨_, rfl⟩
    obtain ⟨b9, hb9⟩ : ∃ b, b = w.heap.size + 1 := ⟨_, rfl⟩
    obtain ⟨b10, hb10⟩ : ∃ b, b = w.heap.size + 2 := ⟨_, rfl⟩
    have hp7 : W0.heap[b7]? = some (.cells #[.slice A3 l3.length c3] 22 (0, 0)) := by rw [hW0, hb7]; exact blk_alloc (blk_alloc (blk_new w _) _) _
    have hp9 : W0.heap[b9]? = some (.cells #[.slice none 0 0] 140 (0, 0)) := by rw [hW0, hb9]; refine blk_alloc ?_ _; have := blk_new (w.alloc (.cells #[.slice A3 l3.length c3] 22)) (.cells #[.slice none 0 0] 140); simpa using this
    have hp10 : W0.heap[b10]? = some (.cells #[.bool false] 4 (0, 0)) := by rw [hW0, hb10]; have := blk_new ((w.alloc (.cells #[.slice A3 l3.length c3] 22)).alloc (.cells #[.slice none 0 0] 140)) (.cells #[.bool false] 4); simpa using this
    have hsz : W0.heap.size = w.heap.size + 3 := by rw [hW0]; simp
    have hbel : Below w.heap.size w W0 := by rw [hW0]; exact (((Below.refl _ _).alloc (Nat.le_refl _) _).alloc (by simp) _).alloc (by simp; omega) _
    have hrs : RS w w.heap.size [b7, b9, b10] b9 [] W0 := RS.of_nil hp9 hbel (by omega) (by simp) (by intro k hk; simp at hk; rcases hk with rfl | rfl | rfl <;> omega)
    have e9 : w.heap.size + 1 = b9 := hb9.symm
    have e10 : w.heap.size + 1 + 1 = b10 := by omega
    have e7 : w.heap.size = b7 := hb7.symm
    have HE := Aside0.mk (And.intro hb7 (And.intro hb9 hb10))
    simp only [e10]
    simp only [e9]
    simp only [e7]
    have n79 : b7 ≠ b9 := by omega
    have n710 : b7 ≠ b10 := by omega
    have n910 : b10 ≠ b9 := by omega
    have HN := Aside0.mk (And.intro n79 (And.intro n710 n910))
    have H7 := Aside0.mk hp7
    have H10 := Aside0.mk hp10
    have HRS := Aside0.mk hrs
    have HBEL := Aside0.mk hbel
    have HSZ := Aside0.mk hsz
    clear hW0 hp7 hp9 hp10 hrs hbel e9 e10 e7 hsz n79 n710 n910 hb7 hb9 hb10
    go_loopg [17] l0.length (fun gk v17 W => ∃ i : Int, v17 = .int .i64 i ∧ Aside0 (0 ≤ i ∧ i + gk = l0.length) ∧ Aside0 (RS w w.heap.size [b7, b9, b10] b9 ((l0.take i.toNat).foldl (replStep a1 a2 l3) ([], false)).1 W ∧ W.heap[b10]? = some (.cells #[.bool ((l0.take i.toNat).foldl (replStep a1 a2 l3) ([], false)).2] 4 (0, 0)) ∧ W.heap[b7]? = some (.cells #[.slice A3 l3.length c3] 22 (0, 0))))
    case atStart => exact ⟨0, rfl, ⟨Int.le_refl _, by simp⟩, ⟨by simpa using HRS.out, by simpa using H10.out, H7.out⟩⟩
    case round =>
      obtain ⟨i, rfl, HI, HS⟩ := hrel
      obtain ⟨o, ho⟩ : ∃ o, o = ((l0.take i.toNat).foldl (replStep a1 a2 l3) ([], false)).1 := ⟨_, rfl⟩
      obtain ⟨lb, hlb⟩ : ∃ lb, lb = ((l0.take i.toNat).foldl (replStep a1 a2 l3) ([], false)).2 := ⟨_, rfl⟩
      have hol : o.length + l3.length + 8 < 2147483648 := by
        have h1 := replFold_length a1 a2 l3 (l0.take i.toNat) ([], false)
        rw [← ho] at h1
        have h2 : (l0.take i.toNat).length ≤ 1024 := by rw [List.length_take]; omega
        have h3 := HLEN.out.2
        have h4 : (l0.take i.toNat).length * (l3.length + 2) ≤ 1024 * 1026 := Nat.mul_le_mul h2 (by omega)
        simp only [List.length_nil] at h1
        omega
      rw [← ho, ← hlb] at HS
      have HOL := Aside0.mk hol
      have HO := Aside0.mk ho
      have HLB := Aside0.mk hlb
      clear ho hlb hol
      cases gk with
      | zero =>
        have hi : i = l0.length := by have := HI.out.2; omega
        have hd : decide (i < (l0.length : Int)) = false := decide_eq_false (by omega)
        have HII := Aside0.mk hi
        clear hi
        have hcc10 : wr.cell? ⟨b10, 0, none⟩ = some (.bool lb) := (blk_cell HS.out.2.1 0).trans rfl
        have hrep : replG l0 a1 a2 l3 = if lb then o else l3.foldl addG o := by
          unfold replG
          rw [HO.out, HLB.out, HII.out, Int.toNat_natCast, List.take_length]
        have HREP := Aside0.mk hrep
        clear hrep
        cases lb with
        | true =>
          obtain ⟨A, c, hcc9, hR⟩ := HS.out.1.cell
          have HR := Aside0.mk hR
          have HRR := Aside0.mk (HREP.out.trans (if_pos rfl))
          clear hR HREP
          go_wp2
          go_ret
          refine ⟨.slice A o.length c, rfl, ?_, HS.out.1.old⟩
          rw [HRR.out]
          exact Kd.R_mono HR.out (fun _ _ => trivial)
        | false =>
          go_wp2_with fail
          refine (lay_by.calls w wr w.heap.size b7 b9 b10 [b7, b9, b10] o l3 A3 c3 false HS.out.1 (by simp) (by simp) HN.out.1 HN.out.2.2 HN.out.2.1 (by have := HE.out; omega) HS.out.2.2 HS.out.2.1 HR3.out (Nat.le_refl _) (by have := HOL.out; omega)).mono ?_
          rintro e w2 ⟨rfl, h2, _, _, _⟩
          obtain ⟨A, c, hcc9, hR⟩ := h2.cell
          have H2 := Aside0.mk h2
          have HR := Aside0.mk hR
          have HRR := Aside0.mk (HREP.out.trans (if_neg (by simp)))
          clear hR h2 HREP
          go_wp2
          go_ret
          refine ⟨.slice A (l3.foldl addG o).length c, rfl, ?_, H2.out.old⟩
          rw [HRR.out]
          exact Kd.R_mono HR.out (fun _ _ => trivial)
      | succ k1 =>
        have hp0 : 0 ≤ i := HI.out.1
        have hp1 : i < (l0.length : Int) := by have := HI.out.2; omega
        have hd : decide (i < (l0.length : Int)) = true := decide_eq_true hp1
        have hC : Kd.C k24 wr A0 l0.length l0 := Kd.C_below HR0.out HS.out.1.old
        obtain ⟨ad, e3, g0, g1, g2⟩ := at_T24 hC i hp0 hp1
        cases e3
        obtain ⟨x, hx⟩ : ∃ x, x = rd_T24 l0 i := ⟨_, rfl⟩
        rw [← hx] at g0 g1 g2
        have hst : (l0.take (i + 1).toNat).foldl (replStep a1 a2 l3) ([], false) = replStep a1 a2 l3 (o, lb) x := by
          have h3 : (i + 1).toNat = i.toNat + 1 := by omega
          have h4 : i.toNat < l0.length := by omega
          have h5 : x = l0[i.toNat] := by rw [hx]; unfold rd_T24; rw [List.getD_eq_getElem?_getD, List.getElem?_eq_getElem h4]; rfl
          rw [h3, List.take_succ_eq_append_getElem h4, List.foldl_append, ← h5, HO.out, HLB.out]
          rfl
        have HST := Aside0.mk hst
        have HP := Aside0.mk (And.intro hp0 hp1)
        clear hx hC hst
        go_wp2_with fail
        obtain ⟨W1, hW1⟩ : ∃ W, W = wr.alloc (.cells #[.int .i64 x.f0, .int .i64 x.f1, .int .i64 x.f2] 24) := ⟨_, rfl⟩
        obtain ⟨bx, hbx⟩ : ∃ b, b = wr.heap.size := ⟨_, rfl⟩
        have hb1 : Below wr.heap.size wr W1 := by rw [hW1]; exact (Below.refl _ _).alloc (Nat.le_refl _) _
        have hx1 : W1.heap[bx]? = some (.cells #[.int .i64 x.f0, .int .i64 x.f1, .int .i64 x.f2] 24 (0, 0)) := by rw [hW1, hbx]; exact blk_new wr _
        rw [← hW1, ← hbx]
        have h1 : RS w w.heap.size (bx :: [b7, b9, b10]) b9 o W1 := HS.out.1.push hb1 (by omega) (by rw [hW1, hbx]; simp)
        have h10 : W1.heap[b10]? = some (.cells #[.bool lb] 4 (0, 0)) := (hb1.block b10 (blk_lt HS.out.2.1)).trans HS.out.2.1
        have h7 : W1.heap[b7]? = some (.cells #[.slice A3 l3.length c3] 22 (0, 0)) := (hb1.block b7 (blk_lt HS.out.2.2)).trans HS.out.2.2
        have nb : bx ≠ b9 ∧ bx ≠ b10 := by
          have h9 := HS.out.1
          obtain ⟨_, _, _, _, _, _, h6⟩ := h9
          have q1 := h6 b9 (by simp)
          have q2 := h6 b10 (by simp)
          omega
        have NB := Aside0.mk nb
        have H1 := Aside0.mk h1
        have HX1 := Aside0.mk hx1
        have H101 := Aside0.mk h10
        have H71 := Aside0.mk h7
        clear hW1 hbx hb1 h1 h10 h7 hx1 nb g0 g1 g2
        refine (partG_calls x 0 a1 W1).mono ?_
        rintro e w2 ⟨rfl, hb2⟩
        have h2 := H1.out.below hb2
        have hx2 := (hb2.block bx (blk_lt HX1.out)).trans HX1.out
        have h102 := (hb2.block b10 (blk_lt H101.out)).trans H101.out
        have h72 := (hb2.block b7 (blk_lt H71.out)).trans H71.out
        have H2 := Aside0.mk h2
        have HX2 := Aside0.mk hx2
        have H102 := Aside0.mk h102
        have H72 := Aside0.mk h72
        clear hb2 h2 hx2 h102 h72
        go_wp2_with fail
        refine (H2.out.add (partG x 0 a1) (by have := HOL.out; omega)).mono ?_
        rintro e w3 ⟨rfl, h3, hs3, hk3⟩
        have hx3 := (hk3 bx (by simp) NB.out.1).trans HX2.out
        have h103 := (hk3 b10 (by simp) HN.out.2.2).trans H102.out
        have h73 := (hk3 b7 (by simp) HN.out.1).trans H72.out
        have hcc10 : w3.cell? ⟨b10, 0, none⟩ = some (.bool lb) := (blk_cell h103 0).trans rfl
        have y0 : w3.cell? ⟨bx, 0, none⟩ = some (.int .i64 x.f0) := (blk_cell hx3 0).trans rfl
        have y1 : w3.cell? ⟨bx, 1, none⟩ = some (.int .i64 x.f1) := (blk_cell hx3 1).trans rfl
        have y2 : w3.cell? ⟨bx, 2, none⟩ = some (.int .i64 x.f2) := (blk_cell hx3 2).trans rfl
        have hl3 := addG_length o (partG x 0 a1)
        have H3 := Aside0.mk h3
        have HX3 := Aside0.mk hx3
        have H103 := Aside0.mk h103
        have H73 := Aside0.mk h73
        have HL3 := Aside0.mk hl3
        clear h3 hs3 hk3 hx3 h103 h73 hl3
        cases lb with
        | true =>
          have hstp : replStep a1 a2 l3 (o, true) x = (addG (addG o (partG x 0 a1)) (partG x (wrap64 (a1 + a2)) 65536), true) := by simp [replStep]
          have HSTP := Aside0.mk hstp
          clear hstp
          go_wp2_with fail
          refine (partG_calls x (wrap64 (a1 + a2)) 65536 w3).mono ?_
          rintro e w5 ⟨rfl, hb5⟩
          have h5 := H3.out.below hb5
          have h105 := (hb5.block b10 (blk_lt H103.out)).trans H103.out
          have h75 := (hb5.block b7 (blk_lt H73.out)).trans H73.out
          have H5 := Aside0.mk h5
          have H105 := Aside0.mk h105
          have H75 := Aside0.mk h75
          clear hb5 h5 h105 h75 hcc10 y0 y1 y2
          go_wp2_with fail
          refine (H5.out.add (partG x (wrap64 (a1 + a2)) 65536) (by have := HOL.out; have := HL3.out; omega)).mono ?_
          rintro e w6 ⟨rfl, h6, hs6, hk6⟩
          have H6 := Aside0.mk h6
          have H106 := Aside0.mk ((hk6 b10 (by simp) HN.out.2.2).trans H105.out)
          have H76 := Aside0.mk ((hk6 b7 (by simp) HN.out.1).trans H75.out)
          clear h6 hs6 hk6
          go_wp2
          go_roundg k1
          case measure => omega
          case rel =>
            refine ⟨i + 1, by first | rfl | (simp; done), ⟨by have := HP.out.1; omega, by have := HI.out.2; omega⟩, ?_⟩
            rw [HST.out, HSTP.out]
            exact ⟨H6.out.drop (by simp), H106.out, H76.out⟩
        | false =>
          by_cases hc : a1 < wrap64 (x.f0 + x.f2)
          · have hdc : decide (a1 < wrap64 (x.f0 + x.f2)) = true := decide_eq_true hc
            have hstp : replStep a1 a2 l3 (o, false) x = (addG (l3.foldl addG (addG o (partG x 0 a1))) (partG x (wrap64 (a1 + a2)) 65536), true) := by simp [replStep, hc]
            have HSTP := Aside0.mk hstp
            clear hc hstp
            go_wp2_with fail
            refine (lay_by.calls w w3 w.heap.size b7 b9 b10 (bx :: [b7, b9, b10]) (addG o (partG x 0 a1)) l3 A3 c3 false H3.out (by simp) (by simp) HN.out.1 HN.out.2.2 HN.out.2.1 (by have := HE.out; omega) H73.out H103.out HR3.out (Nat.le_refl _) (by have := HOL.out; have := HL3.out; omega)).mono ?_
            rintro e w4 ⟨rfl, h4, hs4, h104, hk4⟩
            have hx4 := (hk4 bx (by simp) NB.out.1 NB.out.2).trans HX3.out
            have h74 := (hk4 b7 (by simp) HN.out.1 HN.out.2.1).trans H73.out
            have hl4 := addG_fold_length l3 (addG o (partG x 0 a1))
            have H4 := Aside0.mk h4
            have HX4 := Aside0.mk hx4
            have H104 := Aside0.mk h104
            have H74 := Aside0.mk h74
            have HL4 := Aside0.mk hl4
            clear h4 hs4 h104 hk4 h74 hl4 y0 y1 y2 hcc10
            have hcc10 : w4.cell? ⟨b10, 0, none⟩ = some (.bool true) := (blk_cell H104.out 0).trans rfl
            have y0 : w4.cell? ⟨bx, 0, none⟩ = some (.int .i64 x.f0) := (blk_cell hx4 0).trans rfl
            have y1 : w4.cell? ⟨bx, 1, none⟩ = some (.int .i64 x.f1) := (blk_cell hx4 1).trans rfl
            have y2 : w4.cell? ⟨bx, 2, none⟩ = some (.int .i64 x.f2) := (blk_cell hx4 2).trans rfl
            clear hx4
            go_wp2_with fail
            refine (partG_calls x (wrap64 (a1 + a2)) 65536 w4).mono ?_
            rintro e w5 ⟨rfl, hb5⟩
            have h5 := H4.out.below hb5
            have h105 := (hb5.block b10 (blk_lt H104.out)).trans H104.out
            have h75 := (hb5.block b7 (blk_lt H74.out)).trans H74.out
            have H5 := Aside0.mk h5
            have H105 := Aside0.mk h105
            have H75 := Aside0.mk h75
            clear hb5 h5 h105 h75 hcc10 y0 y1 y2
            go_wp2_with fail
            refine (H5.out.add (partG x (wrap64 (a1 + a2)) 65536) (by have := HOL.out; have := HL3.out; have := HL4.out; omega)).mono ?_
            rintro e w6 ⟨rfl, h6, hs6, hk6⟩
            have H6 := Aside0.mk h6
            have H106 := Aside0.mk ((hk6 b10 (by simp) HN.out.2.2).trans H105.out)
            have H76 := Aside0.mk ((hk6 b7 (by simp) HN.out.1).trans H75.out)
            clear h6 hs6 hk6
            go_wp2
            go_roundg k1
            case measure => omega
            case rel =>
              refine ⟨i + 1, by first | rfl | (simp; done), ⟨by have := HP.out.1; omega, by have := HI.out.2; omega⟩, ?_⟩
              rw [HST.out, HSTP.out]
              exact ⟨H6.out.drop (by simp), H106.out, H76.out⟩
          · have hdc : decide (a1 < wrap64 (x.f0 + x.f2)) = false := decide_eq_false hc
            have hstp : replStep a1 a2 l3 (o, false) x = (addG (addG o (partG x 0 a1)) (partG x (wrap64 (a1 + a2)) 65536), false) := by simp [replStep, hc]
            have HSTP := Aside0.mk hstp
            clear hc hstp
            go_wp2_with fail
            refine (partG_calls x (wrap64 (a1 + a2)) 65536 w3).mono ?_
            rintro e w5 ⟨rfl, hb5⟩
            have h5 := H3.out.below hb5
            have h105 := (hb5.block b10 (blk_lt H103.out)).trans H103.out
            have h75 := (hb5.block b7 (blk_lt H73.out)).trans H73.out
            have H5 := Aside0.mk h5
            have H105 := Aside0.mk h105
            have H75 := Aside0.mk h75
            clear hb5 h5 h105 h75 hcc10 y0 y1 y2
            go_wp2_with fail
            refine (H5.out.add (partG x (wrap64 (a1 + a2)) 65536) (by have := HOL.out; have := HL3.out; omega)).mono ?_
            rintro e w6 ⟨rfl, h6, hs6, hk6⟩
            have H6 := Aside0.mk h6
            have H106 := Aside0.mk ((hk6 b10 (by simp) HN.out.2.2).trans H105.out)
            have H76 := Aside0.mk ((hk6 b7 (by simp) HN.out.1).trans H75.out)
            clear h6 hs6 hk6
            go_wp2
            go_roundg k1
            case measure => omega
            case rel =>
              refine ⟨i + 1, by first | rfl | (simp; done), ⟨by have := HP.out.1; omega, by have := HI.out.2; omega⟩, ?_⟩
              rw [HST.out, HSTP.out]
              exact ⟨H6.out.drop (by simp), H106.out, H76.out⟩
  · cases h
def lb (n k : Nat) : Array Bool := ((List.range n).map fun j => k.testBit j).toArray
section
variable {P : Program} {ops : Array Oper} {Q : Exit → Act → World → Prop} {md : Region.Mode} {S : World → Prop} {ds : List Nat}
theorem pu_ (i m n k : Nat) {oi : Oper} {v : Value} {fuel : Nat} {l : Array Bool} {a a' : Act} {w : World} (h : wpAnyLast P md ops Q S ds fuel (lb n k) a' w) (hi : ops[i]? = some oi := by exact rfl) (hN : oi.dst = some m := by exact rfl)
    (hc : anyB md ops l (lb n k) i = true := by exact any_of HT_.out (by kernel_rfl))
    (hQ : ∀ c a w, Q (.panic c) (a.put oi.dst v) w → Q (.panic c) a w := by exact fun _ _ _ h => h) (hy : Yields P ops oi v a := by exact Or.inl ⟨by rfl, by intro w'; go_simp; with_reducible rfl⟩)
    (ha : a.put (some m) v = a' := by (simp only [Act.put, List.setIfInBounds_toArray, List.set_cons_zero, List.set_cons_succ, i64_w, i32_w]; rfl)) : wpAnyLast P md ops Q S ds (fuel + 1) l a w := pure_ _ hi hN hc hQ hy ha h
theorem pn_ (i m n k : Nat) {oi : Oper} {fuel : Nat} {l : Array Bool} {a a' : Act} {w : World} (h : wpAnyLast P md ops Q S ds fuel (lb n k) a' w) (hi : ops[i]? = some oi := by exact rfl) (hN : oi.dst = some m := by exact rfl)
    (hc : anyB md ops l (lb n k) i = true := by exact any_of HT_.out (by kernel_rfl))
    (hQ : ∀ c a w, Q (.panic c) (a.put oi.dst undef) w → Q (.panic c) a w := by exact fun _ _ _ h => h) (hy : Yields P ops oi undef a := by exact Or.inr ⟨by rfl, rfl⟩)
    (ha : a.put (some m) undef = a' := by (simp only [Act.put, List.setIfInBounds_toArray, List.set_cons_zero, List.set_cons_succ, i64_w, i32_w]; rfl)) : wpAnyLast P md ops Q S ds (fuel + 1) l a w := pure_ _ hi hN hc hQ hy ha h
theorem tk_ (i m n k : Nat) {oi : Oper} {v : Value} {fuel : Nat} {l : Array Bool} {a a' : Act} {w : World} (h : wpAnyLast P md ops Q S ds fuel (lb n k) a' w) (hi : ops[i]? = some oi := by exact rfl) (hN : oi.dst = some m := by exact rfl)
    (hc : takeB md ops ds l (lb n k) i = true := by exact take_ofW HT_.out HW_.out (by kernel_rfl))
    (hQ : ∀ c a w, Q (.panic c) (a.put oi.dst v) w → Q (.panic c) a w := by exact fun _ _ _ h => h) (hy : YieldsIf P ops S oi v a := by exact Or.inl ⟨by rfl, by (intro w' hs; (repeat (obtain ⟨s0, hs⟩ := hs)); go_simp; with_reducible rfl)⟩) (hS : S w := by exact hHeld)
    (ha : a.put (some m) v = a' := by (simp only [Act.put, List.setIfInBounds_toArray, List.set_cons_zero, List.set_cons_succ, i64_w, i32_w]; rfl)) : wpAnyLast P md ops Q S ds (fuel + 1) l a w := take_ _ hi hN hc hQ hy hS ha h
theorem on_ (i m n k : Nat) {oi : Oper} {fuel : Nat} {l : Array Bool} {a : Act} {w : World}
    (h : ∀ K : Act → World → Prop, Shut (∀ a' w', S w' → (S w' → wpAnyLast P md ops Q S ds fuel (lb n k) a' w') → K a' w') → if Region.wanted oi (yielded ops a.tmps) = true then Oper.wp P oi a w K Q else K (a.put (some m) undef) w)
    (hi : ops[i]? = some oi := by exact rfl) (hN : oi.dst = some m := by exact rfl) (hc : readyB md ops l (lb n k) i = true := by exact one_of HT_.out (by kernel_rfl)) (hd : i ∉ ds := by decide) :
    wpAnyLast P md ops Q S ds (fuel + 1) l a w := one_ _ hi hN hc hd h
theorem nm_ (m : Nat) {fuel : Nat} {l : Array Bool} {a a' : Act} {v : Value} {w : World} (h : wpAnyLast P md ops Q S ds fuel l a' w) (ha : a.put (some m) v = a' := by (simp only [Act.put, List.setIfInBounds_toArray, List.set_cons_zero, List.set_cons_succ, i64_w, i32_w]; rfl)) : wpAnyLast P md ops Q S ds fuel l (a.put (some m) v) w := norm_ ha h
end
def extent_fits.f (a0 : Int) (a1 : Int) : Option (Bool) := if (mn a0 a1) ≥ 0 then (if a0 ≤ 65536 then (some (decide (a1 ≤ (wrap64 (65536 - a0))))) else (some false)) else (some false)
set_option maxHeartbeats 8000000 in
set_option maxRecDepth 100000 in
theorem extent_fits.calls (a0 : Int) (a1 : Int) (r : Bool) (w : World) (h : extent_fits.f a0 a1 = some r) :
 Calls Try.prog 92 #[.int .i64 a0, .int .i64 a1] w fun e w' => e = .returned (.bool r) ∧ Below w.heap.size w w' := by
 have HB := Aside0.mk (Below.refl w.heap.size w)
 have H : (if (mn a0 a1) ≥ 0 then (if a0 ≤ 65536 then (some (decide (a1 ≤ (wrap64 (65536 - a0))))) else (some false)) else (some false)) = some r := h
 clear h
 obtain ⟨ji3, hji3⟩ : ∃ j_ : Int, (mn a0 a1) = j_ := ⟨_, rfl⟩
 replace H : (if (ji3) ≥ 0 then (if a0 ≤ 65536 then (some (decide (a1 ≤ (wrap64 (65536 - a0))))) else (some false)) else (some false)) = some r := by first | (rw [hji3] at H; exact H) | (simp only [hji3] at H ⊢; exact H)
 have hji3_ : (if a1 < a0 then a1 else a0) = ji3 := hji3
 by_cases c4 : (ji3) ≥ 0
 ·rw [if_pos c4] at H
  have c4b0 : decide (0 ≤ (ji3)) = true := decide_eq_true c4
  clear c4
  by_cases c5 : a0 ≤ 65536
  ·rw [if_pos c5] at H
   have c5b0 : decide (a0 ≤ 65536) = true := decide_eq_true c5
   clear c5
   obtain rfl := Option.some.inj H
   go_enter Try.func92, Try.ntmps92
   go_wp2
   go_ret
   exact ⟨by first | rfl | (simp [errW_none, errW_some] <;> rfl) | (simp only [← hji3]; first | rfl | (simp [errW_none, errW_some] <;> rfl)) | (simp [*, errW_none, errW_some] <;> rfl), by repeat (first | (with_reducible first | exact HB.out | apply below_alloc | apply pw_below_drewN | apply below_drew1) | exact HB.out)⟩
  ·rw [if_neg c5] at H
   have c5b0 : decide (a0 ≤ 65536) = false := decide_eq_false c5
   clear c5
   obtain rfl := Option.some.inj H
   go_enter Try.func92, Try.ntmps92
   go_wp2
   go_ret
   exact ⟨by first | rfl | (simp [errW_none, errW_some] <;> rfl) | (simp only [← hji3]; first | rfl | (simp [errW_none, errW_some] <;> rfl)) | (simp [*, errW_none, errW_some] <;> rfl), by repeat (first | (with_reducible first | exact HB.out | apply below_alloc | apply pw_below_drewN | apply below_drew1) | exact HB.out)⟩
 ·rw [if_neg c4] at H
  have c4b0 : decide (0 ≤ (ji3)) = false := decide_eq_false c4
  clear c4
  obtain rfl := Option.some.inj H
  go_enter Try.func92, Try.ntmps92
  go_wp2
  go_ret
  exact ⟨by first | rfl | (simp [errW_none, errW_some] <;> rfl) | (simp only [← hji3]; first | rfl | (simp [errW_none, errW_some] <;> rfl)) | (simp [*, errW_none, errW_some] <;> rfl), by repeat (first | (with_reducible first | exact HB.out | apply below_alloc | apply pw_below_drewN | apply below_drew1) | exact HB.out)⟩
def extent_may.f (a0_0 : Int) (a0_1 : Int) (a0_2 : Int) : Option (Bool) := if a0_2 > 0 then ((extent_fits.f a0_0 a0_2).bind fun t102 => (if t102 = true then ((extent_fits.f a0_1 a0_2).bind fun t103 => (some t103)) else (some false))) else (some false)
set_option maxHeartbeats 8000000 in
set_option maxRecDepth 100000 in
theorem extent_may.calls (a0_0 : Int) (a0_1 : Int) (a0_2 : Int) (r : Bool) (w : World) (h : extent_may.f a0_0 a0_1 a0_2 = some r) :
 Calls Try.prog 86 #[.agg #[.int .i64 a0_0, .int .i64 a0_1, .int .i64 a0_2]] w fun e w' => e = .returned (.bool r) ∧ Below w.heap.size w w' := by
 have hu24 := Try.underlying24
 have HB := Aside0.mk (Below.refl w.heap.size w)
 have H : (if a0_2 > 0 then ((extent_fits.f a0_0 a0_2).bind fun t102 => (if t102 = true then ((extent_fits.f a0_1 a0_2).bind fun t103 => (some t103)) else (some false))) else (some false)) = some r := h
 clear h
 by_cases c2 : a0_2 > 0
 ·rw [if_pos c2] at H
  have c2b0 : decide (0 < a0_2) = true := decide_eq_true c2
  clear c2
  replace H := Option.bind_eq_some_iff.mp H
  obtain ⟨t102, A30, H⟩ := H
  replace H : (if t102 = true then ((extent_fits.f a0_1 a0_2).bind fun t103 => (some t103)) else (some false)) = some r := H
  have A3 := Aside0.mk A30
  clear A30
  by_cases c4 : t102 = true
  ·subst c4
   have H1 : ((extent_fits.f a0_1 a0_2).bind fun t103 => (some t103)) = some r := by rw [if_pos rfl] at H; exact H
   clear H
   have H := H1
   clear H1
   replace H := Option.bind_eq_some_iff.mp H
   obtain ⟨t103, A50, H⟩ := H
   replace H : (some t103) = some r := H
   have A5 := Aside0.mk A50
   clear A50
   obtain rfl := Option.some.inj H
   go_enter Try.func86, Try.ntmps86
   go_wp2_with (first | ((with_reducible refine gate_dst (N := 1) rfl ?_); refine box_event ?hg (N := 1) ?hd (cs := #[.int .i64 a0_0, .int .i64 a0_1, .int .i64 a0_2]) (t := 24) ?hr ?_; (case hd => rfl); (case hg => rfl); (case hr => first | (go_simp; done) | (go_simp; rfl)); intro gb101 hg w6 hbox hb; have n0_ := Aside0.mk (below_step (by repeat (first | (with_reducible first | exact HB.out | apply below_alloc | apply pw_below_drewN | apply below_drew1) | exact HB.out)) hb); have n1_ := Aside0.mk (hbox); have n2_ := Aside0.mk ((by rw [hg]; exact (below_size (by repeat (first | (with_reducible first | exact HB.out | apply below_alloc | apply pw_below_drewN | apply below_drew1) | exact HB.out))) : w.heap.size ≤ gb101)); have n3_ := Aside0.mk ((by rw [hg]; exact (below_size (by repeat (first | (with_reducible first | exact HB.out | apply below_alloc | apply pw_below_drewN | apply below_drew1) | exact HB.out))) : w.heap.size ≤ gb101)); clear HB; have HB := n0_; have BK101 := n1_; have GW101 := n2_; have GE101 := n3_; clear n0_ n1_ n2_ n3_; clear hb hbox hg; have hcz7_0 : w6.cell? ⟨gb101, 0, none⟩ = some (.int .i64 a0_0) := (blk_cell BK101.out 0).trans rfl; have hcz7_1 : w6.cell? ⟨gb101, 1, none⟩ = some (.int .i64 a0_1) := (blk_cell BK101.out 1).trans rfl; have hcz7_2 : w6.cell? ⟨gb101, 2, none⟩ = some (.int .i64 a0_2) := (blk_cell BK101.out 2).trans rfl; have hfz7_0 := blk_frozen BK101.out 0; have hfz7_1 := blk_frozen BK101.out 1; have hfz7_2 := blk_frozen BK101.out 2) | (go_at_call 92; (with_reducible refine (extent_fits.calls a0_0 a0_2 true _ A3.out).mono ?_); rintro e w8 ⟨rfl, hb⟩; have n0_ := Aside0.mk (blk_below (g := gb101) (o := .cells #[.int .i64 a0_0, .int .i64 a0_1, .int .i64 a0_2] 24 (0, 0)) (by (with_reducible repeat (first | refine blk_drewN ?_ _ | refine blk_drew ?_ | refine blk_alloc ?_ _)); exact BK101.out) hb); have n1_ := Aside0.mk (below_step (by repeat (first | (with_reducible first | exact HB.out | apply below_alloc | apply pw_below_drewN | apply below_drew1 | refine below_set ?_ GE101.out) | exact HB.out)) hb); clear BK101; clear HB; have BK101 := n0_; have HB := n1_; clear n0_ n1_; (try clear hb); (try clear hb2); (try clear hk); (try clear hi); have hcz9_0 : w8.cell? ⟨gb101, 0, none⟩ = some (.int .i64 a0_0) := (blk_cell BK101.out 0).trans rfl; have hcz9_1 : w8.cell? ⟨gb101, 1, none⟩ = some (.int .i64 a0_1) := (blk_cell BK101.out 1).trans rfl; have hcz9_2 : w8.cell? ⟨gb101, 2, none⟩ = some (.int .i64 a0_2) := (blk_cell BK101.out 2).trans rfl; have hfz9_0 := blk_frozen BK101.out 0; have hfz9_1 := blk_frozen BK101.out 1; have hfz9_2 := blk_frozen BK101.out 2) | (go_at_call 92; (with_reducible refine (extent_fits.calls a0_1 a0_2 t103 _ A5.out).mono ?_); rintro e w10 ⟨rfl, hb⟩; have n0_ := Aside0.mk (blk_below (g := gb101) (o := .cells #[.int .i64 a0_0, .int .i64 a0_1, .int .i64 a0_2] 24 (0, 0)) (by (with_reducible repeat (first | refine blk_drewN ?_ _ | refine blk_drew ?_ | refine blk_alloc ?_ _)); exact BK101.out) hb); have n1_ := Aside0.mk (below_step (by repeat (first | (with_reducible first | exact HB.out | apply below_alloc | apply pw_below_drewN | apply below_drew1 | refine below_set ?_ GE101.out) | exact HB.out)) hb); clear BK101; clear HB; have BK101 := n0_; have HB := n1_; clear n0_ n1_; (try clear hb); (try clear hb2); (try clear hk); (try clear hi)))
   go_ret
   exact ⟨by first | rfl | (simp [errW_none, errW_some] <;> rfl) | (simp [*, errW_none, errW_some] <;> rfl), by repeat (first | (with_reducible first | exact HB.out | apply below_alloc | apply pw_below_drewN | apply below_drew1 | refine below_set ?_ GE101.out) | exact HB.out)⟩
  ·replace c4 := Bool.eq_false_iff.mpr c4
   subst c4
   have H1 : (some false) = some r := by rw [if_neg (show ¬ (false = true) by decide)] at H; exact H
   clear H
   have H := H1
   clear H1
   obtain rfl := Option.some.inj H
   go_enter Try.func86, Try.ntmps86
   go_wp2_with (first | ((with_reducible refine gate_dst (N := 1) rfl ?_); refine box_event ?hg (N := 1) ?hd (cs := #[.int .i64 a0_0, .int .i64 a0_1, .int .i64 a0_2]) (t := 24) ?hr ?_; (case hd => rfl); (case hg => rfl); (case hr => first | (go_simp; done) | (go_simp; rfl)); intro gb101 hg w11 hbox hb; have n0_ := Aside0.mk (below_step (by repeat (first | (with_reducible first | exact HB.out | apply below_alloc | apply pw_below_drewN | apply below_drew1) | exact HB.out)) hb); have n1_ := Aside0.mk (hbox); have n2_ := Aside0.mk ((by rw [hg]; exact (below_size (by repeat (first | (with_reducible first | exact HB.out | apply below_alloc | apply pw_below_drewN | apply below_drew1) | exact HB.out))) : w.heap.size ≤ gb101)); have n3_ := Aside0.mk ((by rw [hg]; exact (below_size (by repeat (first | (with_reducible first | exact HB.out | apply below_alloc | apply pw_below_drewN | apply below_drew1) | exact HB.out))) : w.heap.size ≤ gb101)); clear HB; have HB := n0_; have BK101 := n1_; have GW101 := n2_; have GE101 := n3_; clear n0_ n1_ n2_ n3_; clear hb hbox hg; have hcz12_0 : w11.cell? ⟨gb101, 0, none⟩ = some (.int .i64 a0_0) := (blk_cell BK101.out 0).trans rfl; have hcz12_1 : w11.cell? ⟨gb101, 1, none⟩ = some (.int .i64 a0_1) := (blk_cell BK101.out 1).trans rfl; have hcz12_2 : w11.cell? ⟨gb101, 2, none⟩ = some (.int .i64 a0_2) := (blk_cell BK101.out 2).trans rfl; have hfz12_0 := blk_frozen BK101.out 0; have hfz12_1 := blk_frozen BK101.out 1; have hfz12_2 := blk_frozen BK101.out 2) | (go_at_call 92; (with_reducible refine (extent_fits.calls a0_0 a0_2 false _ A3.out).mono ?_); rintro e w13 ⟨rfl, hb⟩; have n0_ := Aside0.mk (blk_below (g := gb101) (o := .cells #[.int .i64 a0_0, .int .i64 a0_1, .int .i64 a0_2] 24 (0, 0)) (by (with_reducible repeat (first | refine blk_drewN ?_ _ | refine blk_drew ?_ | refine blk_alloc ?_ _)); exact BK101.out) hb); have n1_ := Aside0.mk (below_step (by repeat (first | (with_reducible first | exact HB.out | apply below_alloc | apply pw_below_drewN | apply below_drew1 | refine below_set ?_ GE101.out) | exact HB.out)) hb); clear BK101; clear HB; have BK101 := n0_; have HB := n1_; clear n0_ n1_; (try clear hb); (try clear hb2); (try clear hk); (try clear hi)))
   go_ret
   exact ⟨by first | rfl | (simp [errW_none, errW_some] <;> rfl) | (simp [*, errW_none, errW_some] <;> rfl), by repeat (first | (with_reducible first | exact HB.out | apply below_alloc | apply pw_below_drewN | apply below_drew1 | refine below_set ?_ GE101.out) | exact HB.out)⟩
 ·rw [if_neg c2] at H
  have c2b0 : decide (0 < a0_2) = false := decide_eq_false c2
  clear c2
  obtain rfl := Option.some.inj H
  go_enter Try.func86, Try.ntmps86
  go_wp2_with (first | ((with_reducible refine gate_dst (N := 1) rfl ?_); refine box_event ?hg (N := 1) ?hd (cs := #[.int .i64 a0_0, .int .i64 a0_1, .int .i64 a0_2]) (t := 24) ?hr ?_; (case hd => rfl); (case hg => rfl); (case hr => first | (go_simp; done) | (go_simp; rfl)); intro gb101 hg w14 hbox hb; have n0_ := Aside0.mk (below_step (by repeat (first | (with_reducible first | exact HB.out | apply below_alloc | apply pw_below_drewN | apply below_drew1) | exact HB.out)) hb); have n1_ := Aside0.mk (hbox); have n2_ := Aside0.mk ((by rw [hg]; exact (below_size (by repeat (first | (with_reducible first | exact HB.out | apply below_alloc | apply pw_below_drewN | apply below_drew1) | exact HB.out))) : w.heap.size ≤ gb101)); have n3_ := Aside0.mk ((by rw [hg]; exact (below_size (by repeat (first | (with_reducible first | exact HB.out | apply below_alloc | apply pw_below_drewN | apply below_drew1) | exact HB.out))) : w.heap.size ≤ gb101)); clear HB; have HB := n0_; have BK101 := n1_; have GW101 := n2_; have GE101 := n3_; clear n0_ n1_ n2_ n3_; clear hb hbox hg; have hcz15_0 : w14.cell? ⟨gb101, 0, none⟩ = some (.int .i64 a0_0) := (blk_cell BK101.out 0).trans rfl; have hcz15_1 : w14.cell? ⟨gb101, 1, none⟩ = some (.int .i64 a0_1) := (blk_cell BK101.out 1).trans rfl; have hcz15_2 : w14.cell? ⟨gb101, 2, none⟩ = some (.int .i64 a0_2) := (blk_cell BK101.out 2).trans rfl; have hfz15_0 := blk_frozen BK101.out 0; have hfz15_1 := blk_frozen BK101.out 1; have hfz15_2 := blk_frozen BK101.out 2))
  go_ret
  exact ⟨by first | rfl | (simp [errW_none, errW_some] <;> rfl) | (simp [*, errW_none, errW_some] <;> rfl), by repeat (first | (with_reducible first | exact HB.out | apply below_alloc | apply pw_below_drewN | apply below_drew1 | refine below_set ?_ GE101.out) | exact HB.out)⟩
def extent_Check.l0 : Nat → List (S24) → List (S24) → Int → Int → Option (Int)
 | 0, _, _, _, _ => none
 | k + 1, x0, x8, x9, x10 => if x10 < x9 then (if 0 ≤ x10 then (if x10 < (x8.length : Int) then ((extent_may.f ((rd_T24 x8 x10).f0) ((rd_T24 x8 x10).f1) ((rd_T24 x8 x10).f2)).bind fun t103 => (if t103 = true then (if x10 > 0 then (if 0 ≤ (wrap64 (x10 - 1)) then (if (wrap64 (x10 - 1)) < (x0.length : Int) then (if (wrap64 (((rd_T24 x0 (wrap64 (x10 - 1))).f0) + ((rd_T24 x0 (wrap64 (x10 - 1))).f2))) > ((rd_T24 x8 x10).f0) then (some 9) else ((extent_goesOn.f ((rd_T24 x0 (wrap64 (x10 - 1))).f0) ((rd_T24 x0 (wrap64 (x10 - 1))).f1) ((rd_T24 x0 (wrap64 (x10 - 1))).f2) ((rd_T24 x8 x10).f0) ((rd_T24 x8 x10).f1) ((rd_T24 x8 x10).f2)).bind fun t107 => (if t107 = true then (some 9) else (extent_Check.l0 k x0 x8 x9 (wrap64 (x10 + 1)))))) else (none)) else (none)) else (extent_Check.l0 k x0 x8 x9 (wrap64 (x10 + 1)))) else (some 9))) else (none)) else (none)) else (some 0)
def extent_Check.f (k : Nat) (l0 : List (S24)) : Option (Int) := if (l0.length : Int) > 1024 then (some 9) else (extent_Check.l0 k l0 l0 (l0.length : Int) 0)
theorem extent_Check.mono_l : ∀ k, (∀ y0 y1 y2 y3, LeO (extent_Check.l0 k y0 y1 y2 y3) (extent_Check.l0 (k + 1) y0 y1 y2 y3))
 | 0 => fun _ _ _ _ r h => by simp [extent_Check.l0] at h
 | k + 1 => by
  have ih0 := extent_Check.mono_l k
  ·intro y0 y1 y2 y3
   unfold extent_Check.l0
   repeat' first
   | (with_reducible exact ih0 _ _ _ _)
   | (with_reducible exact LeO.refl _)
   | (with_reducible exact LeO.none _)
   | (with_reducible refine LeO.ite ?_ ?_)
   | (with_reducible refine LeO.bind ?_ (fun _ => ?_))
   | exact ih0 _ _ _ _
   | exact LeO.none _
   | refine LeO.ite ?_ ?_
   | refine LeO.bind ?_ (fun _ => ?_)
theorem extent_Check.mono : ∀ a0 k, LeO (extent_Check.f k a0) (extent_Check.f (k + 1) a0) := by
 intro a0 k
 have ih0 := extent_Check.mono_l k
 unfold extent_Check.f
 repeat' first
  | (with_reducible exact ih0 _ _ _ _)
  | (with_reducible exact LeO.refl _)
  | (with_reducible exact LeO.none _)
  | (with_reducible refine LeO.ite ?_ ?_)
  | (with_reducible refine LeO.bind ?_ (fun _ => ?_))
  | exact ih0 _ _ _ _
  | exact LeO.none _
  | refine LeO.ite ?_ ?_
  | refine LeO.bind ?_ (fun _ => ?_)
def extent_Check.T6 : Bool × List (List Nat × List Nat) := (true, [([], []), ([0], [0]), ([1], [1]), ([2, 1], [2]), ([3], [3]), ([4, 3], [3, 4]), ([5, 3, 3], [3, 5]), ([6], [6]), ([6], [6]), ([8, 6], [6, 8]), ([7, 9, 6], [6, 7, 9]), ([10, 6], [6, 10]), ([11, 6], [6, 11]), ([6], [6]), ([6], [6]), ([14, 6], [6, 14]), ([13, 15, 6], [6, 13, 15]), ([16, 6], [6, 16]), ([17, 6], [6, 17]), ([12, 18, 6], [6, 12, 18]), ([6], [6]), ([20, 6], [6, 20]), ([19, 21, 6], [6, 19, 21]), ([22, 6, 6], [6, 22]), ([23], [23]), ([23], [23]), ([25, 23], [23, 25]), ([24, 26, 23], [23, 24, 26]), ([27, 23], [23, 27]), ([23], [23]), ([28, 29, 23, 23], [23, 28, 29]), ([23, 30, 6], [6, 23, 30]), ([6, 31, 3], [3, 6, 31]), ([3, 32], [3, 32])])
def extent_Check.B6 : List Nat := [0, 1, 3, 7, 15, 31, 63, 127, 127, 383, 1023, 2047, 4095, 127, 127, 16511, 57471, 123007, 254079, 524287, 127, 1048703, 4194303, 8388607, 16777215, 16777215, 50331647, 134217727, 268435455, 16777215, 1073741823, 2147483647, 4294967295, 8589934591]
theorem extent_Check.tab6 : rtab .any (opsOf Try.f36 6) = extent_Check.T6 := by kernel_rfl
theorem extent_Check.bits6 : waitsOk extent_Check.T6.2 extent_Check.B6 = true := by kernel_rfl
set_option maxHeartbeats 8000000 in
set_option maxRecDepth 100000 in
theorem extent_Check.calls (k : Nat) (A0 : Option Addr) (c0 : Nat) (l0 : List (S24)) (r : Int) (w : World) (hr0 : Kd.C k24 w A0 l0.length l0) (hc0 : l0.length ≤ c0) (h : extent_Check.f k l0 = some r) :
 Calls Try.prog 36 #[.slice A0 l0.length c0] w fun e w' => e = .returned (.int .i64 r) ∧ Below w.heap.size w w' := by
 have hu24 := Try.underlying24
 have HR0 := Aside0.mk hr0
 have HC0 := Aside0.mk hc0
 clear hr0 hc0
 have HB := Aside0.mk (Below.refl w.heap.size w)
 have H : (if (l0.length : Int) > 1024 then (some 9) else (extent_Check.l0 k l0 l0 (l0.length : Int) 0)) = some r := h
 clear h
 by_cases c2 : (l0.length : Int) > 1024
 ·rw [if_pos c2] at H
  have c2b0 : decide (1024 < (l0.length : Int)) = true := decide_eq_true c2
  have c2b1 : decide (1024 < l0.length) = true := decide_eq_true (by omega)
  clear c2
  obtain rfl := Option.some.inj H
  go_enter Try.func36, Try.ntmps36
  go_wp2
  go_ret
  exact ⟨by first | rfl | (simp [errW_none, errW_some] <;> rfl) | (simp [*, errW_none, errW_some] <;> rfl), by repeat (first | (with_reducible first | exact HB.out | apply below_alloc | apply pw_below_drewN | apply below_drew1) | exact HB.out)⟩
 ·rw [if_neg c2] at H
  have c2b0 : decide (1024 < (l0.length : Int)) = false := decide_eq_false c2
  have c2b1 : decide (1024 < l0.length) = false := decide_eq_false (by omega)
  clear c2
  have H' := Aside0.mk H
  clear H
  go_enter Try.func36, Try.ntmps36
  go_wp2
  go_loopg [10] k (fun kq v10 w' => ∃ (x10_1 : Int), v10 = .int .i64 x10_1 ∧ Aside0 (extent_Check.l0 kq l0 l0 (l0.length : Int) x10_1 = some r) ∧ Aside0 (kq ≤ k) ∧ Aside0 (Below w.heap.size w w'))
  case atStart => exact ⟨(0), (by first | rfl | (simp; done) | (simp [*]; done)), H', ⟨Nat.le_refl _⟩, ⟨by repeat (first | (with_reducible first | exact HB.out | apply below_alloc | apply pw_below_drewN | apply below_drew1) | exact HB.out)⟩⟩
  case round =>
   clear H'
   try clear c2
   try clear c2b0
   try clear c2b1
   try clear p2
   obtain ⟨x10_1, rfl, HA, HK1, HB⟩ := hrel
   cases gk with
   | zero => exact absurd HA.out (by simp [extent_Check.l0])
   | succ k1 =>
    have H := HA.out
    clear HA
    simp only [extent_Check.l0] at H
    by_cases c3 : x10_1 < (l0.length : Int)
    ·rw [if_pos c3] at H
     have c3b0 : decide (x10_1 < (l0.length : Int)) = true := decide_eq_true c3
     clear c3
     by_cases c4 : 0 ≤ x10_1
     ·rw [if_pos c4] at H
      have c4b0 : decide (0 ≤ x10_1) = true := decide_eq_true c4
      clear c4
      by_cases c5 : x10_1 < (l0.length : Int)
      ·rw [if_pos c5] at H
       have c5b0 : decide (x10_1 < (l0.length : Int)) = true := decide_eq_true c5
       clear c5
       replace H := Option.bind_eq_some_iff.mp H
       obtain ⟨t103, A60, H⟩ := H
       try dsimp only at H
       have A6 := Aside0.mk A60
       clear A60
       by_cases c7 : t103 = true
       ·subst c7
        have H1 : (if x10_1 > 0 then (if 0 ≤ (wrap64 (x10_1 - 1)) then (if (wrap64 (x10_1 - 1)) < (l0.length : Int) then (if (wrap64 (((rd_T24 l0 (wrap64 (x10_1 - 1))).f0) + ((rd_T24 l0 (wrap64 (x10_1 - 1))).f2))) > ((rd_T24 l0 x10_1).f0) then (some 9) else ((extent_goesOn.f ((rd_T24 l0 (wrap64 (x10_1 - 1))).f0) ((rd_T24 l0 (wrap64 (x10_1 - 1))).f1) ((rd_T24 l0 (wrap64 (x10_1 - 1))).f2) ((rd_T24 l0 x10_1).f0) ((rd_T24 l0 x10_1).f1) ((rd_T24 l0 x10_1).f2)).bind fun t107 => (if t107 = true then (some 9) else (extent_Check.l0 k1 l0 l0 (l0.length : Int) (wrap64 (x10_1 + 1)))))) else (none)) else (none)) else (extent_Check.l0 k1 l0 l0 (l0.length : Int) (wrap64 (x10_1 + 1)))) = some r := by rw [if_pos rfl] at H; exact H
        clear H
        have H := H1
        clear H1
        by_cases c8 : x10_1 > 0
        ·rw [if_pos c8] at H
         have c8b0 : decide (0 < x10_1) = true := decide_eq_true c8
         clear c8
         obtain ⟨ji9, hji9⟩ : ∃ j_ : Int, (wrap64 (x10_1 - 1)) = j_ := ⟨_, rfl⟩
         replace H : (if 0 ≤ (ji9) then (if (ji9) < (l0.length : Int) then (if (wrap64 (((rd_T24 l0 (ji9)).f0) + ((rd_T24 l0 (ji9)).f2))) > ((rd_T24 l0 x10_1).f0) then (some 9) else ((extent_goesOn.f ((rd_T24 l0 (ji9)).f0) ((rd_T24 l0 (ji9)).f1) ((rd_T24 l0 (ji9)).f2) ((rd_T24 l0 x10_1).f0) ((rd_T24 l0 x10_1).f1) ((rd_T24 l0 x10_1).f2)).bind fun t107 => (if t107 = true then (some 9) else (extent_Check.l0 k1 l0 l0 (l0.length : Int) (wrap64 (x10_1 + 1)))))) else (none)) else (none)) = some r := by first | (rw [hji9] at H; exact H) | (simp only [hji9] at H ⊢; exact H)
         (try rw [hji9] at A6)
         have hji9w : (IntKind.i64.wrap (x10_1 - 1)) = ji9 := (i64_w _).trans hji9
         by_cases c10 : 0 ≤ (ji9)
         ·rw [if_pos c10] at H
          have c10b0 : decide (0 ≤ (ji9)) = true := decide_eq_true c10
          clear c10
          by_cases c11 : (ji9) < (l0.length : Int)
          ·rw [if_pos c11] at H
           have c11b0 : decide ((ji9) < (l0.length : Int)) = true := decide_eq_true c11
           clear c11
           by_cases c12 : (wrap64 (((rd_T24 l0 (ji9)).f0) + ((rd_T24 l0 (ji9)).f2))) > ((rd_T24 l0 x10_1).f0)
           ·rw [if_pos c12] at H
            have c12b0 : decide (((rd_T24 l0 x10_1).f0) < (wrap64 (((rd_T24 l0 (ji9)).f0) + ((rd_T24 l0 (ji9)).f2)))) = true := decide_eq_true c12
            clear c12
            obtain rfl := Option.some.inj H
            have p101 : 0 ≤ (x10_1 : Int) := of_decide_eq_true (by first | (with_reducible assumption) | assumption)
            have q101 : x10_1 < (l0.length : Int) := of_decide_eq_true (by first | (with_reducible assumption) | assumption)
            obtain ⟨ad101, e101, hx101_0, hx101_1, hx101_2⟩ := at_T24 HR0.out x10_1 p101 q101
            cases e101
            replace hx101_0 := (HB.out.cell (World.block_lt_of_cell? w _ hx101_0)).trans hx101_0
            replace hx101_1 := (HB.out.cell (World.block_lt_of_cell? w _ hx101_1)).trans hx101_1
            replace hx101_2 := (HB.out.cell (World.block_lt_of_cell? w _ hx101_2)).trans hx101_2
            replace p101 := eq_true p101
            replace q101 := eq_true q101
            try go_wp2_with (first | ((with_reducible refine gate_dst (N := 4) rfl ?_); refine box_event ?hg (N := 4) ?hd (cs := #[.int .i64 0, .int .i64 0, .int .i64 0]) (t := 24) ?hr ?_; (case hd => rfl); (case hg => rfl); (case hr => first | (go_simp; done) | (go_simp; rfl)); intro gb102 hg w13 hbox hb; have n0_ := Aside0.mk (below_step (by repeat (first | (with_reducible first | exact HB.out | apply below_alloc | apply pw_below_drewN | apply below_drew1) | exact HB.out)) hb); have n1_ := Aside0.mk (hbox); have n2_ := Aside0.mk ((by rw [hg]; exact (below_size (by repeat (first | (with_reducible first | exact HB.out | apply below_alloc | apply pw_below_drewN | apply below_drew1) | exact HB.out))) : w.heap.size ≤ gb102)); have n3_ := Aside0.mk ((by rw [hg]; exact (below_size (by repeat (first | (with_reducible first | exact HB.out | apply below_alloc | apply pw_below_drewN | apply below_drew1) | exact HB.out))) : w.heap.size ≤ gb102)); clear HB; have HB := n0_; have BK102 := n1_; have GW102 := n2_; have GE102 := n3_; clear n0_ n1_ n2_ n3_; clear hb hbox hg; have hcz14_0 : w13.cell? ⟨gb102, 0, none⟩ = some (.int .i64 0) := (blk_cell BK102.out 0).trans rfl; have hcz14_1 : w13.cell? ⟨gb102, 1, none⟩ = some (.int .i64 0) := (blk_cell BK102.out 1).trans rfl; have hcz14_2 : w13.cell? ⟨gb102, 2, none⟩ = some (.int .i64 0) := (blk_cell BK102.out 2).trans rfl; have hfz14_0 := blk_frozen BK102.out 0; have hfz14_1 := blk_frozen BK102.out 1; have hfz14_2 := blk_frozen BK102.out 2))
            have n0_ : Aside0 ((((w13.setCell ⟨gb102, 0, none⟩ (.int .i64 ((rd_T24 l0 x10_1).f0))).setCell ⟨gb102, 1, none⟩ (.int .i64 ((rd_T24 l0 x10_1).f1))).setCell ⟨gb102, 2, none⟩ (.int .i64 ((rd_T24 l0 x10_1).f2))).heap[gb102]? = some (.cells #[.int .i64 ((rd_T24 l0 x10_1).f0), .int .i64 ((rd_T24 l0 x10_1).f1), .int .i64 ((rd_T24 l0 x10_1).f2)] 24 (0, 0))) := ⟨by (with_reducible repeat (first | refine blk_drewN ?_ _ | refine blk_drew ?_ | refine blk_alloc ?_ _)); refine blk_put (cs := #[.int .i64 ((rd_T24 l0 x10_1).f0), .int .i64 ((rd_T24 l0 x10_1).f1), .int .i64 0]) ?_ 2 _ rfl; (with_reducible repeat (first | refine blk_drewN ?_ _ | refine blk_drew ?_ | refine blk_alloc ?_ _)); refine blk_put (cs := #[.int .i64 ((rd_T24 l0 x10_1).f0), .int .i64 0, .int .i64 0]) ?_ 1 _ rfl; (with_reducible repeat (first | refine blk_drewN ?_ _ | refine blk_drew ?_ | refine blk_alloc ?_ _)); refine blk_put (cs := #[.int .i64 0, .int .i64 0, .int .i64 0]) ?_ 0 _ rfl; (with_reducible repeat (first | refine blk_drewN ?_ _ | refine blk_drew ?_ | refine blk_alloc ?_ _)); exact BK102.out⟩
            have n1_ : Aside0 (Below w.heap.size w (((w13.setCell ⟨gb102, 0, none⟩ (.int .i64 ((rd_T24 l0 x10_1).f0))).setCell ⟨gb102, 1, none⟩ (.int .i64 ((rd_T24 l0 x10_1).f1))).setCell ⟨gb102, 2, none⟩ (.int .i64 ((rd_T24 l0 x10_1).f2)))) := ⟨by repeat (first | (with_reducible first | exact HB.out | apply below_alloc | apply pw_below_drewN | apply below_drew1 | refine below_set ?_ GE102.out) | exact HB.out)⟩
            (try clear BK102)
            (try clear HB)
            generalize (((w13.setCell ⟨gb102, 0, none⟩ (.int .i64 ((rd_T24 l0 x10_1).f0))).setCell ⟨gb102, 1, none⟩ (.int .i64 ((rd_T24 l0 x10_1).f1))).setCell ⟨gb102, 2, none⟩ (.int .i64 ((rd_T24 l0 x10_1).f2))) = w15 at n0_ n1_ ⊢
            have BK102 := n0_
            have HB := n1_
            clear n0_ n1_
            have n0_ := Aside0.mk (blk_drew BK102.out)
            have n1_ := Aside0.mk (below_drew1 HB.out)
            clear BK102
            clear HB
            have BK102 := n0_
            have HB := n1_
            clear n0_ n1_
            have p104 : 0 ≤ ((ji9) : Int) := of_decide_eq_true (by first | (with_reducible assumption) | assumption)
            have q104 : (ji9) < (l0.length : Int) := of_decide_eq_true (by first | (with_reducible assumption) | assumption)
            obtain ⟨ad104, e104, hx104_0, hx104_1, hx104_2⟩ := at_T24 HR0.out (ji9) p104 q104
            have hw104_2 := hx104_2
            have hw104_1 := hx104_1
            have hw104_0 := hx104_0
            obtain rfl : ad101 = ad104 := (by injection e104)
            replace hx104_0 := (HB.out.cell (World.block_lt_of_cell? w _ hx104_0)).trans hx104_0
            replace hx104_1 := (HB.out.cell (World.block_lt_of_cell? w _ hx104_1)).trans hx104_1
            replace hx104_2 := (HB.out.cell (World.block_lt_of_cell? w _ hx104_2)).trans hx104_2
            replace p104 := eq_true p104
            replace q104 := eq_true q104
            have p105 : 0 ≤ ((ji9) : Int) := of_decide_eq_true (by first | (with_reducible assumption) | assumption)
            have q105 : (ji9) < (l0.length : Int) := of_decide_eq_true (by first | (with_reducible assumption) | assumption)
            obtain ⟨ad105, e105, hx105_0, hx105_1, hx105_2⟩ := at_T24 HR0.out (ji9) p105 q105
            have hw105_2 := hx105_2
            have hw105_1 := hx105_1
            have hw105_0 := hx105_0
            obtain rfl : ad101 = ad105 := (by injection e105)
            replace hx105_0 := (HB.out.cell (World.block_lt_of_cell? w _ hx105_0)).trans hx105_0
            replace hx105_1 := (HB.out.cell (World.block_lt_of_cell? w _ hx105_1)).trans hx105_1
            replace hx105_2 := (HB.out.cell (World.block_lt_of_cell? w _ hx105_2)).trans hx105_2
            replace p105 := eq_true p105
            replace q105 := eq_true q105
            refine start_ (n := 34) (S := fun w' => w'.cell? ⟨gb102, 0, none⟩ = some (.int .i64 ((rd_T24 l0 x10_1).f0)) ∧ w'.cell? ⟨gb102, 1, none⟩ = some (.int .i64 ((rd_T24 l0 x10_1).f1)) ∧ w'.cell? ⟨gb102, 2, none⟩ = some (.int .i64 ((rd_T24 l0 x10_1).f2)) ∧ w'.cell? (ad101.add (((ji9)).toNat * 3)) = some (.int .i64 ((rd_T24 l0 (ji9)).f0)) ∧ w'.cell? ⟨(ad101.add (((ji9)).toNat * 3)).block, (ad101.add (((ji9)).toNat * 3)).off + 1, none⟩ = some (.int .i64 ((rd_T24 l0 (ji9)).f1)) ∧ w'.cell? ⟨(ad101.add (((ji9)).toNat * 3)).block, (ad101.add (((ji9)).toNat * 3)).off + 2, none⟩ = some (.int .i64 ((rd_T24 l0 (ji9)).f2)) ∧ w'.cell? (ad101.add (((ji9)).toNat * 3)) = some (.int .i64 ((rd_T24 l0 (ji9)).f0)) ∧ w'.cell? ⟨(ad101.add (((ji9)).toNat * 3)).block, (ad101.add (((ji9)).toNat * 3)).off + 1, none⟩ = some (.int .i64 ((rd_T24 l0 (ji9)).f1)) ∧ w'.cell? ⟨(ad101.add (((ji9)).toNat * 3)).block, (ad101.add (((ji9)).toNat * 3)).off + 2, none⟩ = some (.int .i64 ((rd_T24 l0 (ji9)).f2))) (ds := []) #[yF,yF,yF,yF,yF,yF,yF,yF,yF,yF,yF,yF,yF,yF,yF,yF,yF,yF,yF,yF,yF,yF,yF,yF,yF,yF,yF,yF,yF,yF,yF,yF,yF,yF] (by kernel_rfl) rfl rfl ⟨(blk_cell BK102.out 0).trans rfl, (blk_cell BK102.out 1).trans rfl, (blk_cell BK102.out 2).trans rfl, ((HB.out.cell (World.block_lt_of_cell? w _ hw104_0)).trans hw104_0), ((HB.out.cell (World.block_lt_of_cell? w _ hw104_1)).trans hw104_1), ((HB.out.cell (World.block_lt_of_cell? w _ hw104_2)).trans hw104_2), ((HB.out.cell (World.block_lt_of_cell? w _ hw105_0)).trans hw105_0), ((HB.out.cell (World.block_lt_of_cell? w _ hw105_1)).trans hw105_1), ((HB.out.cell (World.block_lt_of_cell? w _ hw105_2)).trans hw105_2)⟩ (fun hHeld => ?_); refine with_tabW extent_Check.tab6 extent_Check.bits6 (fun HT_ HW_ => ?_)
            generalize w15.drew = w16 at BK102 HB hx104_0 hx104_1 hx104_2 hx105_0 hx105_1 hx105_2 hHeld ⊢
            refine tk_ 0 15 34 1 ?_
            refine on_ 1 16 34 3 (fun K hK => ?_)
            refine goes_ Try.func86 (by kernel_rfl) rfl #[.agg #[.int .i64 ((rd_T24 l0 x10_1).f0), .int .i64 ((rd_T24 l0 x10_1).f1), .int .i64 ((rd_T24 l0 x10_1).f2)]] (by rfl) rfl rfl (by (try simp only [List.map_toArray, List.map_cons, List.map_nil]); first | done | rfl | (simp only [List.length_drop, List.length_take]; rfl)) ?_
            with_reducible refine (extent_may.calls ((rd_T24 l0 x10_1).f0) ((rd_T24 l0 x10_1).f1) ((rd_T24 l0 x10_1).f2) true _ A6.out).mono ?_
            rintro e w17 ⟨rfl, hb⟩
            refine ⟨_, rfl, ?_⟩
            have n0_ := Aside0.mk (blk_below (g := gb102) (o := .cells #[.int .i64 ((rd_T24 l0 x10_1).f0), .int .i64 ((rd_T24 l0 x10_1).f1), .int .i64 ((rd_T24 l0 x10_1).f2)] 24 (0, 0)) (by (with_reducible repeat (first | refine blk_drewN ?_ _ | refine blk_drew ?_ | refine blk_alloc ?_ _)); exact BK102.out) hb)
            have n1_ := Aside0.mk (below_step (by repeat (first | (with_reducible first | exact HB.out | apply below_alloc | apply pw_below_drewN | apply below_drew1 | refine below_set ?_ GE102.out) | exact HB.out)) hb)
            clear BK102
            clear HB
            have BK102 := n0_
            have HB := n1_
            clear n0_ n1_
            (try clear hb)
            (try clear hb2)
            (try clear hk)
            (try clear hi)
            refine hK.out _ _ ⟨(blk_cell BK102.out 0).trans rfl, (blk_cell BK102.out 1).trans rfl, (blk_cell BK102.out 2).trans rfl, ((HB.out.cell (World.block_lt_of_cell? w _ hw104_0)).trans hw104_0), ((HB.out.cell (World.block_lt_of_cell? w _ hw104_1)).trans hw104_1), ((HB.out.cell (World.block_lt_of_cell? w _ hw104_2)).trans hw104_2), ((HB.out.cell (World.block_lt_of_cell? w _ hw105_0)).trans hw105_0), ((HB.out.cell (World.block_lt_of_cell? w _ hw105_1)).trans hw105_1), ((HB.out.cell (World.block_lt_of_cell? w _ hw105_2)).trans hw105_2)⟩ (fun hHeld => ?_)
            clear hK K
            refine nm_ 16 ?_
            refine pu_ 2 17 34 7 ?_
            refine pu_ 3 18 34 15 ?_
            refine pu_ 4 19 34 31 ?_
            refine pu_ 5 20 34 63 ?_
            refine pu_ 6 21 34 127 ?_
            refine pu_ 7 22 34 255 ?_
            refine pu_ 8 23 34 511 ?_
            refine pu_ 9 24 34 1023 ?_
            refine pu_ 10 25 34 2047 ?_
            refine pu_ 11 26 34 4095 ?_
            refine pu_ 13 28 34 12287 ?_
            refine pu_ 14 29 34 28671 ?_
            refine pu_ 15 30 34 61439 ?_
            refine pu_ 16 31 34 126975 ?_
            refine pu_ 17 32 34 258047 ?_
            refine pu_ 20 35 34 1306623 ?_
            refine tk_ 12 27 34 1310719 ?_
            refine tk_ 18 33 34 1572863 ?_
            refine pu_ 19 34 34 2097151 ?_
            refine tk_ 21 36 34 4194303 ?_
            refine pu_ 22 37 34 8388607 ?_
            refine pu_ 23 38 34 16777215 ?_
            refine pn_ 24 39 34 33554431 ?_
            refine pn_ 25 40 34 67108863 ?_
            refine pn_ 26 41 34 134217727 ?_
            refine pn_ 27 42 34 268435455 ?_
            refine pn_ 28 43 34 536870911 ?_
            refine pn_ 29 44 34 1073741823 ?_
            refine pn_ 30 45 34 2147483647 ?_
            refine pu_ 31 46 34 4294967295 ?_
            refine pu_ 32 47 34 8589934591 ?_
            refine pu_ 33 48 34 17179869183 ?_
            refine done_ (done_of HT_.out (by kernel_rfl)) ?_
            try go_wp2
            go_ret
            exact ⟨by first | rfl | (simp [errW_none, errW_some] <;> rfl) | (simp only [← hji9]; first | rfl | (simp [errW_none, errW_some] <;> rfl)) | (simp [*, errW_none, errW_some] <;> rfl), by repeat (first | (with_reducible first | exact HB.out | apply below_alloc | apply pw_below_drewN | apply below_drew1 | refine below_set ?_ GE102.out) | exact HB.out)⟩
           ·rw [if_neg c12] at H
            have c12b0 : decide (((rd_T24 l0 x10_1).f0) < (wrap64 (((rd_T24 l0 (ji9)).f0) + ((rd_T24 l0 (ji9)).f2)))) = false := decide_eq_false c12
            clear c12
            replace H := Option.bind_eq_some_iff.mp H
            obtain ⟨t107, A180, H⟩ := H
            replace H : (if t107 = true then (some 9) else (extent_Check.l0 k1 l0 l0 (l0.length : Int) (wrap64 (x10_1 + 1)))) = some r := H
            have A18 := Aside0.mk A180
            clear A180
            by_cases c19 : t107 = true
            ·subst c19
             have H1 : (some 9) = some r := by rw [if_pos rfl] at H; exact H
             clear H
             have H := H1
             clear H1
             obtain rfl := Option.some.inj H
             have p101 : 0 ≤ (x10_1 : Int) := of_decide_eq_true (by first | (with_reducible assumption) | assumption)
             have q101 : x10_1 < (l0.length : Int) := of_decide_eq_true (by first | (with_reducible assumption) | assumption)
             obtain ⟨ad101, e101, hx101_0, hx101_1, hx101_2⟩ := at_T24 HR0.out x10_1 p101 q101
             cases e101
             replace hx101_0 := (HB.out.cell (World.block_lt_of_cell? w _ hx101_0)).trans hx101_0
             replace hx101_1 := (HB.out.cell (World.block_lt_of_cell? w _ hx101_1)).trans hx101_1
             replace hx101_2 := (HB.out.cell (World.block_lt_of_cell? w _ hx101_2)).trans hx101_2
             replace p101 := eq_true p101
             replace q101 := eq_true q101
             try go_wp2_with (first | ((with_reducible refine gate_dst (N := 4) rfl ?_); refine box_event ?hg (N := 4) ?hd (cs := #[.int .i64 0, .int .i64 0, .int .i64 0]) (t := 24) ?hr ?_; (case hd => rfl); (case hg => rfl); (case hr => first | (go_simp; done) | (go_simp; rfl)); intro gb102 hg w20 hbox hb; have n0_ := Aside0.mk (below_step (by repeat (first | (with_reducible first | exact HB.out | apply below_alloc | apply pw_below_drewN | apply below_drew1) | exact HB.out)) hb); have n1_ := Aside0.mk (hbox); have n2_ := Aside0.mk ((by rw [hg]; exact (below_size (by repeat (first | (with_reducible first | exact HB.out | apply below_alloc | apply pw_below_drewN | apply below_drew1) | exact HB.out))) : w.heap.size ≤ gb102)); have n3_ := Aside0.mk ((by rw [hg]; exact (below_size (by repeat (first | (with_reducible first | exact HB.out | apply below_alloc | apply pw_below_drewN | apply below_drew1) | exact HB.out))) : w.heap.size ≤ gb102)); clear HB; have HB := n0_; have BK102 := n1_; have GW102 := n2_; have GE102 := n3_; clear n0_ n1_ n2_ n3_; clear hb hbox hg; have hcz21_0 : w20.cell? ⟨gb102, 0, none⟩ = some (.int .i64 0) := (blk_cell BK102.out 0).trans rfl; have hcz21_1 : w20.cell? ⟨gb102, 1, none⟩ = some (.int .i64 0) := (blk_cell BK102.out 1).trans rfl; have hcz21_2 : w20.cell? ⟨gb102, 2, none⟩ = some (.int .i64 0) := (blk_cell BK102.out 2).trans rfl; have hfz21_0 := blk_frozen BK102.out 0; have hfz21_1 := blk_frozen BK102.out 1; have hfz21_2 := blk_frozen BK102.out 2))
             have n0_ : Aside0 ((((w20.setCell ⟨gb102, 0, none⟩ (.int .i64 ((rd_T24 l0 x10_1).f0))).setCell ⟨gb102, 1, none⟩ (.int .i64 ((rd_T24 l0 x10_1).f1))).setCell ⟨gb102, 2, none⟩ (.int .i64 ((rd_T24 l0 x10_1).f2))).heap[gb102]? = some (.cells #[.int .i64 ((rd_T24 l0 x10_1).f0), .int .i64 ((rd_T24 l0 x10_1).f1), .int .i64 ((rd_T24 l0 x10_1).f2)] 24 (0, 0))) := ⟨by (with_reducible repeat (first | refine blk_drewN ?_ _ | refine blk_drew ?_ | refine blk_alloc ?_ _)); refine blk_put (cs := #[.int .i64 ((rd_T24 l0 x10_1).f0), .int .i64 ((rd_T24 l0 x10_1).f1), .int .i64 0]) ?_ 2 _ rfl; (with_reducible repeat (first | refine blk_drewN ?_ _ | refine blk_drew ?_ | refine blk_alloc ?_ _)); refine blk_put (cs := #[.int .i64 ((rd_T24 l0 x10_1).f0), .int .i64 0, .int .i64 0]) ?_ 1 _ rfl; (with_reducible repeat (first | refine blk_drewN ?_ _ | refine blk_drew ?_ | refine blk_alloc ?_ _)); refine blk_put (cs := #[.int .i64 0, .int .i64 0, .int .i64 0]) ?_ 0 _ rfl; (with_reducible repeat (first | refine blk_drewN ?_ _ | refine blk_drew ?_ | refine blk_alloc ?_ _)); exact BK102.out⟩
             have n1_ : Aside0 (Below w.heap.size w (((w20.setCell ⟨gb102, 0, none⟩ (.int .i64 ((rd_T24 l0 x10_1).f0))).setCell ⟨gb102, 1, none⟩ (.int .i64 ((rd_T24 l0 x10_1).f1))).setCell ⟨gb102, 2, none⟩ (.int .i64 ((rd_T24 l0 x10_1).f2)))) := ⟨by repeat (first | (with_reducible first | exact HB.out | apply below_alloc | apply pw_below_drewN | apply below_drew1 | refine below_set ?_ GE102.out) | exact HB.out)⟩
             (try clear BK102)
             (try clear HB)
             generalize (((w20.setCell ⟨gb102, 0, none⟩ (.int .i64 ((rd_T24 l0 x10_1).f0))).setCell ⟨gb102, 1, none⟩ (.int .i64 ((rd_T24 l0 x10_1).f1))).setCell ⟨gb102, 2, none⟩ (.int .i64 ((rd_T24 l0 x10_1).f2))) = w22 at n0_ n1_ ⊢
             have BK102 := n0_
             have HB := n1_
             clear n0_ n1_
             have n0_ := Aside0.mk (blk_drew BK102.out)
             have n1_ := Aside0.mk (below_drew1 HB.out)
             clear BK102
             clear HB
             have BK102 := n0_
             have HB := n1_
             clear n0_ n1_
             have p104 : 0 ≤ ((ji9) : Int) := of_decide_eq_true (by first | (with_reducible assumption) | assumption)
             have q104 : (ji9) < (l0.length : Int) := of_decide_eq_true (by first | (with_reducible assumption) | assumption)
             obtain ⟨ad104, e104, hx104_0, hx104_1, hx104_2⟩ := at_T24 HR0.out (ji9) p104 q104
             have hw104_2 := hx104_2
             have hw104_1 := hx104_1
             have hw104_0 := hx104_0
             obtain rfl : ad101 = ad104 := (by injection e104)
             replace hx104_0 := (HB.out.cell (World.block_lt_of_cell? w _ hx104_0)).trans hx104_0
             replace hx104_1 := (HB.out.cell (World.block_lt_of_cell? w _ hx104_1)).trans hx104_1
             replace hx104_2 := (HB.out.cell (World.block_lt_of_cell? w _ hx104_2)).trans hx104_2
             replace p104 := eq_true p104
             replace q104 := eq_true q104
             have p105 : 0 ≤ ((ji9) : Int) := of_decide_eq_true (by first | (with_reducible assumption) | assumption)
             have q105 : (ji9) < (l0.length : Int) := of_decide_eq_true (by first | (with_reducible assumption) | assumption)
             obtain ⟨ad105, e105, hx105_0, hx105_1, hx105_2⟩ := at_T24 HR0.out (ji9) p105 q105
             have hw105_2 := hx105_2
             have hw105_1 := hx105_1
             have hw105_0 := hx105_0
             obtain rfl : ad101 = ad105 := (by injection e105)
             replace hx105_0 := (HB.out.cell (World.block_lt_of_cell? w _ hx105_0)).trans hx105_0
             replace hx105_1 := (HB.out.cell (World.block_lt_of_cell? w _ hx105_1)).trans hx105_1
             replace hx105_2 := (HB.out.cell (World.block_lt_of_cell? w _ hx105_2)).trans hx105_2
             replace p105 := eq_true p105
             replace q105 := eq_true q105
             have p106 : 0 ≤ ((ji9) : Int) := of_decide_eq_true (by first | (with_reducible assumption) | assumption)
             have q106 : (ji9) < (l0.length : Int) := of_decide_eq_true (by first | (with_reducible assumption) | assumption)
             obtain ⟨ad106, e106, hx106_0, hx106_1, hx106_2⟩ := at_T24 HR0.out (ji9) p106 q106
             have hw106_2 := hx106_2
             have hw106_1 := hx106_1
             have hw106_0 := hx106_0
             obtain rfl : ad101 = ad106 := (by injection e106)
             replace hx106_0 := (HB.out.cell (World.block_lt_of_cell? w _ hx106_0)).trans hx106_0
             replace hx106_1 := (HB.out.cell (World.block_lt_of_cell? w _ hx106_1)).trans hx106_1
             replace hx106_2 := (HB.out.cell (World.block_lt_of_cell? w _ hx106_2)).trans hx106_2
             replace p106 := eq_true p106
             replace q106 := eq_true q106
             refine start_ (n := 34) (S := fun w' => w'.cell? ⟨gb102, 0, none⟩ = some (.int .i64 ((rd_T24 l0 x10_1).f0)) ∧ w'.cell? ⟨gb102, 1, none⟩ = some (.int .i64 ((rd_T24 l0 x10_1).f1)) ∧ w'.cell? ⟨gb102, 2, none⟩ = some (.int .i64 ((rd_T24 l0 x10_1).f2)) ∧ w'.cell? (ad101.add (((ji9)).toNat * 3)) = some (.int .i64 ((rd_T24 l0 (ji9)).f0)) ∧ w'.cell? ⟨(ad101.add (((ji9)).toNat * 3)).block, (ad101.add (((ji9)).toNat * 3)).off + 1, none⟩ = some (.int .i64 ((rd_T24 l0 (ji9)).f1)) ∧ w'.cell? ⟨(ad101.add (((ji9)).toNat * 3)).block, (ad101.add (((ji9)).toNat * 3)).off + 2, none⟩ = some (.int .i64 ((rd_T24 l0 (ji9)).f2)) ∧ w'.cell? (ad101.add (((ji9)).toNat * 3)) = some (.int .i64 ((rd_T24 l0 (ji9)).f0)) ∧ w'.cell? ⟨(ad101.add (((ji9)).toNat * 3)).block, (ad101.add (((ji9)).toNat * 3)).off + 1, none⟩ = some (.int .i64 ((rd_T24 l0 (ji9)).f1)) ∧ w'.cell? ⟨(ad101.add (((ji9)).toNat * 3)).block, (ad101.add (((ji9)).toNat * 3)).off + 2, none⟩ = some (.int .i64 ((rd_T24 l0 (ji9)).f2)) ∧ w'.cell? (ad101.add (((ji9)).toNat * 3)) = some (.int .i64 ((rd_T24 l0 (ji9)).f0)) ∧ w'.cell? ⟨(ad101.add (((ji9)).toNat * 3)).block, (ad101.add (((ji9)).toNat * 3)).off + 1, none⟩ = some (.int .i64 ((rd_T24 l0 (ji9)).f1)) ∧ w'.cell? ⟨(ad101.add (((ji9)).toNat * 3)).block, (ad101.add (((ji9)).toNat * 3)).off + 2, none⟩ = some (.int .i64 ((rd_T24 l0 (ji9)).f2))) (ds := []) #[yF,yF,yF,yF,yF,yF,yF,yF,yF,yF,yF,yF,yF,yF,yF,yF,yF,yF,yF,yF,yF,yF,yF,yF,yF,yF,yF,yF,yF,yF,yF,yF,yF,yF] (by kernel_rfl) rfl rfl ⟨(blk_cell BK102.out 0).trans rfl, (blk_cell BK102.out 1).trans rfl, (blk_cell BK102.out 2).trans rfl, ((HB.out.cell (World.block_lt_of_cell? w _ hw104_0)).trans hw104_0), ((HB.out.cell (World.block_lt_of_cell? w _ hw104_1)).trans hw104_1), ((HB.out.cell (World.block_lt_of_cell? w _ hw104_2)).trans hw104_2), ((HB.out.cell (World.block_lt_of_cell? w _ hw105_0)).trans hw105_0), ((HB.out.cell (World.block_lt_of_cell? w _ hw105_1)).trans hw105_1), ((HB.out.cell (World.block_lt_of_cell? w _ hw105_2)).trans hw105_2), ((HB.out.cell (World.block_lt_of_cell? w _ hw106_0)).trans hw106_0), ((HB.out.cell (World.block_lt_of_cell? w _ hw106_1)).trans hw106_1), ((HB.out.cell (World.block_lt_of_cell? w _ hw106_2)).trans hw106_2)⟩ (fun hHeld => ?_); refine with_tabW extent_Check.tab6 extent_Check.bits6 (fun HT_ HW_ => ?_)
             generalize w22.drew = w23 at BK102 HB hx104_0 hx104_1 hx104_2 hx105_0 hx105_1 hx105_2 hx106_0 hx106_1 hx106_2 hHeld ⊢
             refine tk_ 0 15 34 1 ?_
             refine on_ 1 16 34 3 (fun K hK => ?_)
             refine goes_ Try.func86 (by kernel_rfl) rfl #[.agg #[.int .i64 ((rd_T24 l0 x10_1).f0), .int .i64 ((rd_T24 l0 x10_1).f1), .int .i64 ((rd_T24 l0 x10_1).f2)]] (by rfl) rfl rfl (by (try simp only [List.map_toArray, List.map_cons, List.map_nil]); first | done | rfl | (simp only [List.length_drop, List.length_take]; rfl)) ?_
             with_reducible refine (extent_may.calls ((rd_T24 l0 x10_1).f0) ((rd_T24 l0 x10_1).f1) ((rd_T24 l0 x10_1).f2) true _ A6.out).mono ?_
             rintro e w24 ⟨rfl, hb⟩
             refine ⟨_, rfl, ?_⟩
             have n0_ := Aside0.mk (blk_below (g := gb102) (o := .cells #[.int .i64 ((rd_T24 l0 x10_1).f0), .int .i64 ((rd_T24 l0 x10_1).f1), .int .i64 ((rd_T24 l0 x10_1).f2)] 24 (0, 0)) (by (with_reducible repeat (first | refine blk_drewN ?_ _ | refine blk_drew ?_ | refine blk_alloc ?_ _)); exact BK102.out) hb)
             have n1_ := Aside0.mk (below_step (by repeat (first | (with_reducible first | exact HB.out | apply below_alloc | apply pw_below_drewN | apply below_drew1 | refine below_set ?_ GE102.out) | exact HB.out)) hb)
             clear BK102
             clear HB
             have BK102 := n0_
             have HB := n1_
             clear n0_ n1_
             (try clear hb)
             (try clear hb2)
             (try clear hk)
             (try clear hi)
             refine hK.out _ _ ⟨(blk_cell BK102.out 0).trans rfl, (blk_cell BK102.out 1).trans rfl, (blk_cell BK102.out 2).trans rfl, ((HB.out.cell (World.block_lt_of_cell? w _ hw104_0)).trans hw104_0), ((HB.out.cell (World.block_lt_of_cell? w _ hw104_1)).trans hw104_1), ((HB.out.cell (World.block_lt_of_cell? w _ hw104_2)).trans hw104_2), ((HB.out.cell (World.block_lt_of_cell? w _ hw105_0)).trans hw105_0), ((HB.out.cell (World.block_lt_of_cell? w _ hw105_1)).trans hw105_1), ((HB.out.cell (World.block_lt_of_cell? w _ hw105_2)).trans hw105_2), ((HB.out.cell (World.block_lt_of_cell? w _ hw106_0)).trans hw106_0), ((HB.out.cell (World.block_lt_of_cell? w _ hw106_1)).trans hw106_1), ((HB.out.cell (World.block_lt_of_cell? w _ hw106_2)).trans hw106_2)⟩ (fun hHeld => ?_)
             clear hK K
             refine nm_ 16 ?_
             refine pu_ 2 17 34 7 ?_
             refine pu_ 3 18 34 15 ?_
             refine pu_ 4 19 34 31 ?_
             refine pu_ 5 20 34 63 ?_
             refine pu_ 6 21 34 127 ?_
             refine pu_ 7 22 34 255 ?_
             refine pu_ 8 23 34 511 ?_
             refine pu_ 9 24 34 1023 ?_
             refine pu_ 10 25 34 2047 ?_
             refine pu_ 11 26 34 4095 ?_
             refine pu_ 13 28 34 12287 ?_
             refine pu_ 14 29 34 28671 ?_
             refine pu_ 15 30 34 61439 ?_
             refine pu_ 16 31 34 126975 ?_
             refine pu_ 17 32 34 258047 ?_
             refine pu_ 20 35 34 1306623 ?_
             refine tk_ 12 27 34 1310719 ?_
             refine tk_ 18 33 34 1572863 ?_
             refine pu_ 19 34 34 2097151 ?_
             refine tk_ 21 36 34 4194303 ?_
             refine pu_ 22 37 34 8388607 ?_
             refine pu_ 23 38 34 16777215 ?_
             refine pu_ 24 39 34 33554431 ?_
             refine pu_ 25 40 34 67108863 ?_
             refine pu_ 26 41 34 134217727 ?_
             refine pu_ 27 42 34 268435455 ?_
             refine tk_ 28 43 34 536870911 ?_
             refine tk_ 29 44 34 1073741823 ?_
             refine on_ 30 45 34 2147483647 (fun K hK => ?_)
             refine goes_ Try.func98 (by kernel_rfl) rfl #[.agg #[.int .i64 ((rd_T24 l0 (ji9)).f0), .int .i64 ((rd_T24 l0 (ji9)).f1), .int .i64 ((rd_T24 l0 (ji9)).f2)], .agg #[.int .i64 ((rd_T24 l0 x10_1).f0), .int .i64 ((rd_T24 l0 x10_1).f1), .int .i64 ((rd_T24 l0 x10_1).f2)]] (by rfl) rfl rfl (by (try simp only [List.map_toArray, List.map_cons, List.map_nil]); first | done | (simp only [hji9]; rfl) | rfl | (simp only [List.length_drop, List.length_take]; rfl)) ?_
             with_reducible refine (extent_goesOn.calls ((rd_T24 l0 (ji9)).f0) ((rd_T24 l0 (ji9)).f1) ((rd_T24 l0 (ji9)).f2) ((rd_T24 l0 x10_1).f0) ((rd_T24 l0 x10_1).f1) ((rd_T24 l0 x10_1).f2) true _ A18.out).mono ?_
             rintro e w25 ⟨rfl, hb⟩
             refine ⟨_, rfl, ?_⟩
             have n0_ := Aside0.mk (blk_below (g := gb102) (o := .cells #[.int .i64 ((rd_T24 l0 x10_1).f0), .int .i64 ((rd_T24 l0 x10_1).f1), .int .i64 ((rd_T24 l0 x10_1).f2)] 24 (0, 0)) (by (with_reducible repeat (first | refine blk_drewN ?_ _ | refine blk_drew ?_ | refine blk_alloc ?_ _)); exact BK102.out) hb)
             have n1_ := Aside0.mk (below_step (by repeat (first | (with_reducible first | exact HB.out | apply below_alloc | apply pw_below_drewN | apply below_drew1 | refine below_set ?_ GE102.out) | exact HB.out)) hb)
             clear BK102
             clear HB
             have BK102 := n0_
             have HB := n1_
             clear n0_ n1_
             (try clear hb)
             (try clear hb2)
             (try clear hk)
             (try clear hi)
             refine hK.out _ _ ⟨(blk_cell BK102.out 0).trans rfl, (blk_cell BK102.out 1).trans rfl, (blk_cell BK102.out 2).trans rfl, ((HB.out.cell (World.block_lt_of_cell? w _ hw104_0)).trans hw104_0), ((HB.out.cell (World.block_lt_of_cell? w _ hw104_1)).trans hw104_1), ((HB.out.cell (World.block_lt_of_cell? w _ hw104_2)).trans hw104_2), ((HB.out.cell (World.block_lt_of_cell? w _ hw105_0)).trans hw105_0), ((HB.out.cell (World.block_lt_of_cell? w _ hw105_1)).trans hw105_1), ((HB.out.cell (World.block_lt_of_cell? w _ hw105_2)).trans hw105_2), ((HB.out.cell (World.block_lt_of_cell? w _ hw106_0)).trans hw106_0), ((HB.out.cell (World.block_lt_of_cell? w _ hw106_1)).trans hw106_1), ((HB.out.cell (World.block_lt_of_cell? w _ hw106_2)).trans hw106_2)⟩ (fun hHeld => ?_)
             clear hK K
             refine nm_ 45 ?_
             refine pu_ 31 46 34 4294967295 ?_
             refine pu_ 32 47 34 8589934591 ?_
             refine pu_ 33 48 34 17179869183 ?_
             refine done_ (done_of HT_.out (by kernel_rfl)) ?_
             try go_wp2
             go_ret
             exact ⟨by first | rfl | (simp [errW_none, errW_some] <;> rfl) | (simp only [← hji9]; first | rfl | (simp [errW_none, errW_some] <;> rfl)) | (simp [*, errW_none, errW_some] <;> rfl), by repeat (first | (with_reducible first | exact HB.out | apply below_alloc | apply pw_below_drewN | apply below_drew1 | refine below_set ?_ GE102.out) | exact HB.out)⟩
            ·replace c19 := Bool.eq_false_iff.mpr c19
             subst c19
             have H1 : (extent_Check.l0 k1 l0 l0 (l0.length : Int) (wrap64 (x10_1 + 1))) = some r := by rw [if_neg (show ¬ (false = true) by decide)] at H; exact H
             clear H
             have H := H1
             clear H1
             have H' := Aside0.mk H
             clear H
             have p101 : 0 ≤ (x10_1 : Int) := of_decide_eq_true (by first | (with_reducible assumption) | assumption)
             have q101 : x10_1 < (l0.length : Int) := of_decide_eq_true (by first | (with_reducible assumption) | assumption)
             obtain ⟨ad101, e101, hx101_0, hx101_1, hx101_2⟩ := at_T24 HR0.out x10_1 p101 q101
             cases e101
             replace hx101_0 := (HB.out.cell (World.block_lt_of_cell? w _ hx101_0)).trans hx101_0
             replace hx101_1 := (HB.out.cell (World.block_lt_of_cell? w _ hx101_1)).trans hx101_1
             replace hx101_2 := (HB.out.cell (World.block_lt_of_cell? w _ hx101_2)).trans hx101_2
             replace p101 := eq_true p101
             replace q101 := eq_true q101
             try go_wp2_with (first | ((with_reducible refine gate_dst (N := 4) rfl ?_); refine box_event ?hg (N := 4) ?hd (cs := #[.int .i64 0, .int .i64 0, .int .i64 0]) (t := 24) ?hr ?_; (case hd => rfl); (case hg => rfl); (case hr => first | (go_simp; done) | (go_simp; rfl)); intro gb102 hg w26 hbox hb; have n0_ := Aside0.mk (below_step (by repeat (first | (with_reducible first | exact HB.out | apply below_alloc | apply pw_below_drewN | apply below_drew1) | exact HB.out)) hb); have n1_ := Aside0.mk (hbox); have n2_ := Aside0.mk ((by rw [hg]; exact (below_size (by repeat (first | (with_reducible first | exact HB.out | apply below_alloc | apply pw_below_drewN | apply below_drew1) | exact HB.out))) : w.heap.size ≤ gb102)); have n3_ := Aside0.mk ((by rw [hg]; exact (below_size (by repeat (first | (with_reducible first | exact HB.out | apply below_alloc | apply pw_below_drewN | apply below_drew1) | exact HB.out))) : w.heap.size ≤ gb102)); clear HB; have HB := n0_; have BK102 := n1_; have GW102 := n2_; have GE102 := n3_; clear n0_ n1_ n2_ n3_; clear hb hbox hg; have hcz27_0 : w26.cell? ⟨gb102, 0, none⟩ = some (.int .i64 0) := (blk_cell BK102.out 0).trans rfl; have hcz27_1 : w26.cell? ⟨gb102, 1, none⟩ = some (.int .i64 0) := (blk_cell BK102.out 1).trans rfl; have hcz27_2 : w26.cell? ⟨gb102, 2, none⟩ = some (.int .i64 0) := (blk_cell BK102.out 2).trans rfl; have hfz27_0 := blk_frozen BK102.out 0; have hfz27_1 := blk_frozen BK102.out 1; have hfz27_2 := blk_frozen BK102.out 2))
             have n0_ : Aside0 ((((w26.setCell ⟨gb102, 0, none⟩ (.int .i64 ((rd_T24 l0 x10_1).f0))).setCell ⟨gb102, 1, none⟩ (.int .i64 ((rd_T24 l0 x10_1).f1))).setCell ⟨gb102, 2, none⟩ (.int .i64 ((rd_T24 l0 x10_1).f2))).heap[gb102]? = some (.cells #[.int .i64 ((rd_T24 l0 x10_1).f0), .int .i64 ((rd_T24 l0 x10_1).f1), .int .i64 ((rd_T24 l0 x10_1).f2)] 24 (0, 0))) := ⟨by (with_reducible repeat (first | refine blk_drewN ?_ _ | refine blk_drew ?_ | refine blk_alloc ?_ _)); refine blk_put (cs := #[.int .i64 ((rd_T24 l0 x10_1).f0), .int .i64 ((rd_T24 l0 x10_1).f1), .int .i64 0]) ?_ 2 _ rfl; (with_reducible repeat (first | refine blk_drewN ?_ _ | refine blk_drew ?_ | refine blk_alloc ?_ _)); refine blk_put (cs := #[.int .i64 ((rd_T24 l0 x10_1).f0), .int .i64 0, .int .i64 0]) ?_ 1 _ rfl; (with_reducible repeat (first | refine blk_drewN ?_ _ | refine blk_drew ?_ | refine blk_alloc ?_ _)); refine blk_put (cs := #[.int .i64 0, .int .i64 0, .int .i64 0]) ?_ 0 _ rfl; (with_reducible repeat (first | refine blk_drewN ?_ _ | refine blk_drew ?_ | refine blk_alloc ?_ _)); exact BK102.out⟩
             have n1_ : Aside0 (Below w.heap.size w (((w26.setCell ⟨gb102, 0, none⟩ (.int .i64 ((rd_T24 l0 x10_1).f0))).setCell ⟨gb102, 1, none⟩ (.int .i64 ((rd_T24 l0 x10_1).f1))).setCell ⟨gb102, 2, none⟩ (.int .i64 ((rd_T24 l0 x10_1).f2)))) := ⟨by repeat (first | (with_reducible first | exact HB.out | apply below_alloc | apply pw_below_drewN | apply below_drew1 | refine below_set ?_ GE102.out) | exact HB.out)⟩
             (try clear BK102)
             (try clear HB)
             generalize (((w26.setCell ⟨gb102, 0, none⟩ (.int .i64 ((rd_T24 l0 x10_1).f0))).setCell ⟨gb102, 1, none⟩ (.int .i64 ((rd_T24 l0 x10_1).f1))).setCell ⟨gb102, 2, none⟩ (.int .i64 ((rd_T24 l0 x10_1).f2))) = w28 at n0_ n1_ ⊢
             have BK102 := n0_
             have HB := n1_
             clear n0_ n1_
             have n0_ := Aside0.mk (blk_drew BK102.out)
             have n1_ := Aside0.mk (below_drew1 HB.out)
             clear BK102
             clear HB
             have BK102 := n0_
             have HB := n1_
             clear n0_ n1_
             have p104 : 0 ≤ ((ji9) : Int) := of_decide_eq_true (by first | (with_reducible assumption) | assumption)
             have q104 : (ji9) < (l0.length : Int) := of_decide_eq_true (by first | (with_reducible assumption) | assumption)
             obtain ⟨ad104, e104, hx104_0, hx104_1, hx104_2⟩ := at_T24 HR0.out (ji9) p104 q104
             have hw104_2 := hx104_2
             have hw104_1 := hx104_1
             have hw104_0 := hx104_0
             obtain rfl : ad101 = ad104 := (by injection e104)
             replace hx104_0 := (HB.out.cell (World.block_lt_of_cell? w _ hx104_0)).trans hx104_0
             replace hx104_1 := (HB.out.cell (World.block_lt_of_cell? w _ hx104_1)).trans hx104_1
             replace hx104_2 := (HB.out.cell (World.block_lt_of_cell? w _ hx104_2)).trans hx104_2
             replace p104 := eq_true p104
             replace q104 := eq_true q104
             have p105 : 0 ≤ ((ji9) : Int) := of_decide_eq_true (by first | (with_reducible assumption) | assumption)
             have q105 : (ji9) < (l0.length : Int) := of_decide_eq_true (by first | (with_reducible assumption) | assumption)
             obtain ⟨ad105, e105, hx105_0, hx105_1, hx105_2⟩ := at_T24 HR0.out (ji9) p105 q105
             have hw105_2 := hx105_2
             have hw105_1 := hx105_1
             have hw105_0 := hx105_0
             obtain rfl : ad101 = ad105 := (by injection e105)
             replace hx105_0 := (HB.out.cell (World.block_lt_of_cell? w _ hx105_0)).trans hx105_0
             replace hx105_1 := (HB.out.cell (World.block_lt_of_cell? w _ hx105_1)).trans hx105_1
             replace hx105_2 := (HB.out.cell (World.block_lt_of_cell? w _ hx105_2)).trans hx105_2
             replace p105 := eq_true p105
             replace q105 := eq_true q105
             have p106 : 0 ≤ ((ji9) : Int) := of_decide_eq_true (by first | (with_reducible assumption) | assumption)
             have q106 : (ji9) < (l0.length : Int) := of_decide_eq_true (by first | (with_reducible assumption) | assumption)
             obtain ⟨ad106, e106, hx106_0, hx106_1, hx106_2⟩ := at_T24 HR0.out (ji9) p106 q106
             have hw106_2 := hx106_2
             have hw106_1 := hx106_1
             have hw106_0 := hx106_0
             obtain rfl : ad101 = ad106 := (by injection e106)
             replace hx106_0 := (HB.out.cell (World.block_lt_of_cell? w _ hx106_0)).trans hx106_0
             replace hx106_1 := (HB.out.cell (World.block_lt_of_cell? w _ hx106_1)).trans hx106_1
             replace hx106_2 := (HB.out.cell (World.block_lt_of_cell? w _ hx106_2)).trans hx106_2
             replace p106 := eq_true p106
             replace q106 := eq_true q106
             refine start_ (n := 34) (S := fun w' => w'.cell? ⟨gb102, 0, none⟩ = some (.int .i64 ((rd_T24 l0 x10_1).f0)) ∧ w'.cell? ⟨gb102, 1, none⟩ = some (.int .i64 ((rd_T24 l0 x10_1).f1)) ∧ w'.cell? ⟨gb102, 2, none⟩ = some (.int .i64 ((rd_T24 l0 x10_1).f2)) ∧ w'.cell? (ad101.add (((ji9)).toNat * 3)) = some (.int .i64 ((rd_T24 l0 (ji9)).f0)) ∧ w'.cell? ⟨(ad101.add (((ji9)).toNat * 3)).block, (ad101.add (((ji9)).toNat * 3)).off + 1, none⟩ = some (.int .i64 ((rd_T24 l0 (ji9)).f1)) ∧ w'.cell? ⟨(ad101.add (((ji9)).toNat * 3)).block, (ad101.add (((ji9)).toNat * 3)).off + 2, none⟩ = some (.int .i64 ((rd_T24 l0 (ji9)).f2)) ∧ w'.cell? (ad101.add (((ji9)).toNat * 3)) = some (.int .i64 ((rd_T24 l0 (ji9)).f0)) ∧ w'.cell? ⟨(ad101.add (((ji9)).toNat * 3)).block, (ad101.add (((ji9)).toNat * 3)).off + 1, none⟩ = some (.int .i64 ((rd_T24 l0 (ji9)).f1)) ∧ w'.cell? ⟨(ad101.add (((ji9)).toNat * 3)).block, (ad101.add (((ji9)).toNat * 3)).off + 2, none⟩ = some (.int .i64 ((rd_T24 l0 (ji9)).f2)) ∧ w'.cell? (ad101.add (((ji9)).toNat * 3)) = some (.int .i64 ((rd_T24 l0 (ji9)).f0)) ∧ w'.cell? ⟨(ad101.add (((ji9)).toNat * 3)).block, (ad101.add (((ji9)).toNat * 3)).off + 1, none⟩ = some (.int .i64 ((rd_T24 l0 (ji9)).f1)) ∧ w'.cell? ⟨(ad101.add (((ji9)).toNat * 3)).block, (ad101.add (((ji9)).toNat * 3)).off + 2, none⟩ = some (.int .i64 ((rd_T24 l0 (ji9)).f2))) (ds := []) #[yF,yF,yF,yF,yF,yF,yF,yF,yF,yF,yF,yF,yF,yF,yF,yF,yF,yF,yF,yF,yF,yF,yF,yF,yF,yF,yF,yF,yF,yF,yF,yF,yF,yF] (by kernel_rfl) rfl rfl ⟨(blk_cell BK102.out 0).trans rfl, (blk_cell BK102.out 1).trans rfl, (blk_cell BK102.out 2).trans rfl, ((HB.out.cell (World.block_lt_of_cell? w _ hw104_0)).trans hw104_0), ((HB.out.cell (World.block_lt_of_cell? w _ hw104_1)).trans hw104_1), ((HB.out.cell (World.block_lt_of_cell? w _ hw104_2)).trans hw104_2), ((HB.out.cell (World.block_lt_of_cell? w _ hw105_0)).trans hw105_0), ((HB.out.cell (World.block_lt_of_cell? w _ hw105_1)).trans hw105_1), ((HB.out.cell (World.block_lt_of_cell? w _ hw105_2)).trans hw105_2), ((HB.out.cell (World.block_lt_of_cell? w _ hw106_0)).trans hw106_0), ((HB.out.cell (World.block_lt_of_cell? w _ hw106_1)).trans hw106_1), ((HB.out.cell (World.block_lt_of_cell? w _ hw106_2)).trans hw106_2)⟩ (fun hHeld => ?_); refine with_tabW extent_Check.tab6 extent_Check.bits6 (fun HT_ HW_ => ?_)
             generalize w28.drew = w29 at BK102 HB hx104_0 hx104_1 hx104_2 hx105_0 hx105_1 hx105_2 hx106_0 hx106_1 hx106_2 hHeld ⊢
             refine tk_ 0 15 34 1 ?_
             refine on_ 1 16 34 3 (fun K hK => ?_)
             refine goes_ Try.func86 (by kernel_rfl) rfl #[.agg #[.int .i64 ((rd_T24 l0 x10_1).f0), .int .i64 ((rd_T24 l0 x10_1).f1), .int .i64 ((rd_T24 l0 x10_1).f2)]] (by rfl) rfl rfl (by (try simp only [List.map_toArray, List.map_cons, List.map_nil]); first | done | rfl | (simp only [List.length_drop, List.length_take]; rfl)) ?_
             with_reducible refine (extent_may.calls ((rd_T24 l0 x10_1).f0) ((rd_T24 l0 x10_1).f1) ((rd_T24 l0 x10_1).f2) true _ A6.out).mono ?_
             rintro e w30 ⟨rfl, hb⟩
             refine ⟨_, rfl, ?_⟩
             have n0_ := Aside0.mk (blk_below (g := gb102) (o := .cells #[.int .i64 ((rd_T24 l0 x10_1).f0), .int .i64 ((rd_T24 l0 x10_1).f1), .int .i64 ((rd_T24 l0 x10_1).f2)] 24 (0, 0)) (by (with_reducible repeat (first | refine blk_drewN ?_ _ | refine blk_drew ?_ | refine blk_alloc ?_ _)); exact BK102.out) hb)
             have n1_ := Aside0.mk (below_step (by repeat (first | (with_reducible first | exact HB.out | apply below_alloc | apply pw_below_drewN | apply below_drew1 | refine below_set ?_ GE102.out) | exact HB.out)) hb)
             clear BK102
             clear HB
             have BK102 := n0_
             have HB := n1_
             clear n0_ n1_
             (try clear hb)
             (try clear hb2)
             (try clear hk)
             (try clear hi)
             refine hK.out _ _ ⟨(blk_cell BK102.out 0).trans rfl, (blk_cell BK102.out 1).trans rfl, (blk_cell BK102.out 2).trans rfl, ((HB.out.cell (World.block_lt_of_cell? w _ hw104_0)).trans hw104_0), ((HB.out.cell (World.block_lt_of_cell? w _ hw104_1)).trans hw104_1), ((HB.out.cell (World.block_lt_of_cell? w _ hw104_2)).trans hw104_2), ((HB.out.cell (World.block_lt_of_cell? w _ hw105_0)).trans hw105_0), ((HB.out.cell (World.block_lt_of_cell? w _ hw105_1)).trans hw105_1), ((HB.out.cell (World.block_lt_of_cell? w _ hw105_2)).trans hw105_2), ((HB.out.cell (World.block_lt_of_cell? w _ hw106_0)).trans hw106_0), ((HB.out.cell (World.block_lt_of_cell? w _ hw106_1)).trans hw106_1), ((HB.out.cell (World.block_lt_of_cell? w _ hw106_2)).trans hw106_2)⟩ (fun hHeld => ?_)
             clear hK K
             refine nm_ 16 ?_
             refine pu_ 2 17 34 7 ?_
             refine pu_ 3 18 34 15 ?_
             refine pu_ 4 19 34 31 ?_
             refine pu_ 5 20 34 63 ?_
             refine pu_ 6 21 34 127 ?_
             refine pu_ 7 22 34 255 ?_
             refine pu_ 8 23 34 511 ?_
             refine pu_ 9 24 34 1023 ?_
             refine pu_ 10 25 34 2047 ?_
             refine pu_ 11 26 34 4095 ?_
             refine pu_ 13 28 34 12287 ?_
             refine pu_ 14 29 34 28671 ?_
             refine pu_ 15 30 34 61439 ?_
             refine pu_ 16 31 34 126975 ?_
             refine pu_ 17 32 34 258047 ?_
             refine pu_ 20 35 34 1306623 ?_
             refine tk_ 12 27 34 1310719 ?_
             refine tk_ 18 33 34 1572863 ?_
             refine pu_ 19 34 34 2097151 ?_
             refine tk_ 21 36 34 4194303 ?_
             refine pu_ 22 37 34 8388607 ?_
             refine pu_ 23 38 34 16777215 ?_
             refine pu_ 24 39 34 33554431 ?_
             refine pu_ 25 40 34 67108863 ?_
             refine pu_ 26 41 34 134217727 ?_
             refine pu_ 27 42 34 268435455 ?_
             refine tk_ 28 43 34 536870911 ?_
             refine tk_ 29 44 34 1073741823 ?_
             refine on_ 30 45 34 2147483647 (fun K hK => ?_)
             refine goes_ Try.func98 (by kernel_rfl) rfl #[.agg #[.int .i64 ((rd_T24 l0 (ji9)).f0), .int .i64 ((rd_T24 l0 (ji9)).f1), .int .i64 ((rd_T24 l0 (ji9)).f2)], .agg #[.int .i64 ((rd_T24 l0 x10_1).f0), .int .i64 ((rd_T24 l0 x10_1).f1), .int .i64 ((rd_T24 l0 x10_1).f2)]] (by rfl) rfl rfl (by (try simp only [List.map_toArray, List.map_cons, List.map_nil]); first | done | (simp only [hji9]; rfl) | rfl | (simp only [List.length_drop, List.length_take]; rfl)) ?_
             with_reducible refine (extent_goesOn.calls ((rd_T24 l0 (ji9)).f0) ((rd_T24 l0 (ji9)).f1) ((rd_T24 l0 (ji9)).f2) ((rd_T24 l0 x10_1).f0) ((rd_T24 l0 x10_1).f1) ((rd_T24 l0 x10_1).f2) false _ A18.out).mono ?_
             rintro e w31 ⟨rfl, hb⟩
             refine ⟨_, rfl, ?_⟩
             have n0_ := Aside0.mk (blk_below (g := gb102) (o := .cells #[.int .i64 ((rd_T24 l0 x10_1).f0), .int .i64 ((rd_T24 l0 x10_1).f1), .int .i64 ((rd_T24 l0 x10_1).f2)] 24 (0, 0)) (by (with_reducible repeat (first | refine blk_drewN ?_ _ | refine blk_drew ?_ | refine blk_alloc ?_ _)); exact BK102.out) hb)
             have n1_ := Aside0.mk (below_step (by repeat (first | (with_reducible first | exact HB.out | apply below_alloc | apply pw_below_drewN | apply below_drew1 | refine below_set ?_ GE102.out) | exact HB.out)) hb)
             clear BK102
             clear HB
             have BK102 := n0_
             have HB := n1_
             clear n0_ n1_
             (try clear hb)
             (try clear hb2)
             (try clear hk)
             (try clear hi)
             refine hK.out _ _ ⟨(blk_cell BK102.out 0).trans rfl, (blk_cell BK102.out 1).trans rfl, (blk_cell BK102.out 2).trans rfl, ((HB.out.cell (World.block_lt_of_cell? w _ hw104_0)).trans hw104_0), ((HB.out.cell (World.block_lt_of_cell? w _ hw104_1)).trans hw104_1), ((HB.out.cell (World.block_lt_of_cell? w _ hw104_2)).trans hw104_2), ((HB.out.cell (World.block_lt_of_cell? w _ hw105_0)).trans hw105_0), ((HB.out.cell (World.block_lt_of_cell? w _ hw105_1)).trans hw105_1), ((HB.out.cell (World.block_lt_of_cell? w _ hw105_2)).trans hw105_2), ((HB.out.cell (World.block_lt_of_cell? w _ hw106_0)).trans hw106_0), ((HB.out.cell (World.block_lt_of_cell? w _ hw106_1)).trans hw106_1), ((HB.out.cell (World.block_lt_of_cell? w _ hw106_2)).trans hw106_2)⟩ (fun hHeld => ?_)
             clear hK K
             refine nm_ 45 ?_
             refine pu_ 31 46 34 4294967295 ?_
             refine pu_ 32 47 34 8589934591 ?_
             refine pu_ 33 48 34 17179869183 ?_
             refine done_ (done_of HT_.out (by kernel_rfl)) ?_
             try go_wp2
             go_roundg k1
             case measure => have := HK1.out; omega
             case rel => exact ⟨(wrap64 (x10_1 + 1)), (by first | rfl | (simp; done) | (simp [*]; done)), H', ⟨by have := HK1.out; omega⟩, ⟨by repeat (first | (with_reducible first | exact HB.out | apply below_alloc | apply pw_below_drewN | apply below_drew1 | refine below_set ?_ GE102.out) | exact HB.out)⟩⟩
          ·rw [if_neg c11] at H
           exact absurd H (by simp)
         ·rw [if_neg c10] at H
          exact absurd H (by simp)
        ·rw [if_neg c8] at H
         have c8b0 : decide (0 < x10_1) = false := decide_eq_false c8
         clear c8
         have H' := Aside0.mk H
         clear H
         have p101 : 0 ≤ (x10_1 : Int) := of_decide_eq_true (by first | (with_reducible assumption) | assumption)
         have q101 : x10_1 < (l0.length : Int) := of_decide_eq_true (by first | (with_reducible assumption) | assumption)
         obtain ⟨ad101, e101, hx101_0, hx101_1, hx101_2⟩ := at_T24 HR0.out x10_1 p101 q101
         cases e101
         replace hx101_0 := (HB.out.cell (World.block_lt_of_cell? w _ hx101_0)).trans hx101_0
         replace hx101_1 := (HB.out.cell (World.block_lt_of_cell? w _ hx101_1)).trans hx101_1
         replace hx101_2 := (HB.out.cell (World.block_lt_of_cell? w _ hx101_2)).trans hx101_2
         replace p101 := eq_true p101
         replace q101 := eq_true q101
         try go_wp2_with (first | ((with_reducible refine gate_dst (N := 4) rfl ?_); refine box_event ?hg (N := 4) ?hd (cs := #[.int .i64 0, .int .i64 0, .int .i64 0]) (t := 24) ?hr ?_; (case hd => rfl); (case hg => rfl); (case hr => first | (go_simp; done) | (go_simp; rfl)); intro gb102 hg w32 hbox hb; have n0_ := Aside0.mk (below_step (by repeat (first | (with_reducible first | exact HB.out | apply below_alloc | apply pw_below_drewN | apply below_drew1) | exact HB.out)) hb); have n1_ := Aside0.mk (hbox); have n2_ := Aside0.mk ((by rw [hg]; exact (below_size (by repeat (first | (with_reducible first | exact HB.out | apply below_alloc | apply pw_below_drewN | apply below_drew1) | exact HB.out))) : w.heap.size ≤ gb102)); have n3_ := Aside0.mk ((by rw [hg]; exact (below_size (by repeat (first | (with_reducible first | exact HB.out | apply below_alloc | apply pw_below_drewN | apply below_drew1) | exact HB.out))) : w.heap.size ≤ gb102)); clear HB; have HB := n0_; have BK102 := n1_; have GW102 := n2_; have GE102 := n3_; clear n0_ n1_ n2_ n3_; clear hb hbox hg; have hcz33_0 : w32.cell? ⟨gb102, 0, none⟩ = some (.int .i64 0) := (blk_cell BK102.out 0).trans rfl; have hcz33_1 : w32.cell? ⟨gb102, 1, none⟩ = some (.int .i64 0) := (blk_cell BK102.out 1).trans rfl; have hcz33_2 : w32.cell? ⟨gb102, 2, none⟩ = some (.int .i64 0) := (blk_cell BK102.out 2).trans rfl; have hfz33_0 := blk_frozen BK102.out 0; have hfz33_1 := blk_frozen BK102.out 1; have hfz33_2 := blk_frozen BK102.out 2))
         have n0_ : Aside0 ((((w32.setCell ⟨gb102, 0, none⟩ (.int .i64 ((rd_T24 l0 x10_1).f0))).setCell ⟨gb102, 1, none⟩ (.int .i64 ((rd_T24 l0 x10_1).f1))).setCell ⟨gb102, 2, none⟩ (.int .i64 ((rd_T24 l0 x10_1).f2))).heap[gb102]? = some (.cells #[.int .i64 ((rd_T24 l0 x10_1).f0), .int .i64 ((rd_T24 l0 x10_1).f1), .int .i64 ((rd_T24 l0 x10_1).f2)] 24 (0, 0))) := ⟨by (with_reducible repeat (first | refine blk_drewN ?_ _ | refine blk_drew ?_ | refine blk_alloc ?_ _)); refine blk_put (cs := #[.int .i64 ((rd_T24 l0 x10_1).f0), .int .i64 ((rd_T24 l0 x10_1).f1), .int .i64 0]) ?_ 2 _ rfl; (with_reducible repeat (first | refine blk_drewN ?_ _ | refine blk_drew ?_ | refine blk_alloc ?_ _)); refine blk_put (cs := #[.int .i64 ((rd_T24 l0 x10_1).f0), .int .i64 0, .int .i64 0]) ?_ 1 _ rfl; (with_reducible repeat (first | refine blk_drewN ?_ _ | refine blk_drew ?_ | refine blk_alloc ?_ _)); refine blk_put (cs := #[.int .i64 0, .int .i64 0, .int .i64 0]) ?_ 0 _ rfl; (with_reducible repeat (first | refine blk_drewN ?_ _ | refine blk_drew ?_ | refine blk_alloc ?_ _)); exact BK102.out⟩
         have n1_ : Aside0 (Below w.heap.size w (((w32.setCell ⟨gb102, 0, none⟩ (.int .i64 ((rd_T24 l0 x10_1).f0))).setCell ⟨gb102, 1, none⟩ (.int .i64 ((rd_T24 l0 x10_1).f1))).setCell ⟨gb102, 2, none⟩ (.int .i64 ((rd_T24 l0 x10_1).f2)))) := ⟨by repeat (first | (with_reducible first | exact HB.out | apply below_alloc | apply pw_below_drewN | apply below_drew1 | refine below_set ?_ GE102.out) | exact HB.out)⟩
         (try clear BK102)
         (try clear HB)
         generalize (((w32.setCell ⟨gb102, 0, none⟩ (.int .i64 ((rd_T24 l0 x10_1).f0))).setCell ⟨gb102, 1, none⟩ (.int .i64 ((rd_T24 l0 x10_1).f1))).setCell ⟨gb102, 2, none⟩ (.int .i64 ((rd_T24 l0 x10_1).f2))) = w34 at n0_ n1_ ⊢
         have BK102 := n0_
         have HB := n1_
         clear n0_ n1_
         have n0_ := Aside0.mk (blk_drew BK102.out)
         have n1_ := Aside0.mk (below_drew1 HB.out)
         clear BK102
         clear HB
         have BK102 := n0_
         have HB := n1_
         clear n0_ n1_
         refine start_ (n := 34) (S := fun w' => w'.cell? ⟨gb102, 0, none⟩ = some (.int .i64 ((rd_T24 l0 x10_1).f0)) ∧ w'.cell? ⟨gb102, 1, none⟩ = some (.int .i64 ((rd_T24 l0 x10_1).f1)) ∧ w'.cell? ⟨gb102, 2, none⟩ = some (.int .i64 ((rd_T24 l0 x10_1).f2))) (ds := []) #[yF,yF,yF,yF,yF,yF,yF,yF,yF,yF,yF,yF,yF,yF,yF,yF,yF,yF,yF,yF,yF,yF,yF,yF,yF,yF,yF,yF,yF,yF,yF,yF,yF,yF] (by kernel_rfl) rfl rfl ⟨(blk_cell BK102.out 0).trans rfl, (blk_cell BK102.out 1).trans rfl, (blk_cell BK102.out 2).trans rfl⟩ (fun hHeld => ?_); refine with_tabW extent_Check.tab6 extent_Check.bits6 (fun HT_ HW_ => ?_)
         generalize w34.drew = w35 at BK102 HB hHeld ⊢
         refine tk_ 0 15 34 1 ?_
         refine on_ 1 16 34 3 (fun K hK => ?_)
         refine goes_ Try.func86 (by kernel_rfl) rfl #[.agg #[.int .i64 ((rd_T24 l0 x10_1).f0), .int .i64 ((rd_T24 l0 x10_1).f1), .int .i64 ((rd_T24 l0 x10_1).f2)]] (by rfl) rfl rfl (by (try simp only [List.map_toArray, List.map_cons, List.map_nil]); first | done | rfl | (simp only [List.length_drop, List.length_take]; rfl)) ?_
         with_reducible refine (extent_may.calls ((rd_T24 l0 x10_1).f0) ((rd_T24 l0 x10_1).f1) ((rd_T24 l0 x10_1).f2) true _ A6.out).mono ?_
         rintro e w36 ⟨rfl, hb⟩
         refine ⟨_, rfl, ?_⟩
         have n0_ := Aside0.mk (blk_below (g := gb102) (o := .cells #[.int .i64 ((rd_T24 l0 x10_1).f0), .int .i64 ((rd_T24 l0 x10_1).f1), .int .i64 ((rd_T24 l0 x10_1).f2)] 24 (0, 0)) (by (with_reducible repeat (first | refine blk_drewN ?_ _ | refine blk_drew ?_ | refine blk_alloc ?_ _)); exact BK102.out) hb)
         have n1_ := Aside0.mk (below_step (by repeat (first | (with_reducible first | exact HB.out | apply below_alloc | apply pw_below_drewN | apply below_drew1 | refine below_set ?_ GE102.out) | exact HB.out)) hb)
         clear BK102
         clear HB
         have BK102 := n0_
         have HB := n1_
         clear n0_ n1_
         (try clear hb)
         (try clear hb2)
         (try clear hk)
         (try clear hi)
         refine hK.out _ _ ⟨(blk_cell BK102.out 0).trans rfl, (blk_cell BK102.out 1).trans rfl, (blk_cell BK102.out 2).trans rfl⟩ (fun hHeld => ?_)
         clear hK K
         refine nm_ 16 ?_
         refine pu_ 2 17 34 7 ?_
         refine pu_ 3 18 34 15 ?_
         refine pu_ 4 19 34 31 ?_
         refine pu_ 5 20 34 63 ?_
         refine pu_ 6 21 34 127 ?_
         refine pn_ 7 22 34 255 ?_
         refine pn_ 8 23 34 511 ?_
         refine pn_ 9 24 34 1023 ?_
         refine pn_ 10 25 34 2047 ?_
         refine pn_ 11 26 34 4095 ?_
         refine pn_ 12 27 34 8191 ?_
         refine pn_ 13 28 34 16383 ?_
         refine pn_ 14 29 34 32767 ?_
         refine pn_ 15 30 34 65535 ?_
         refine pn_ 16 31 34 131071 ?_
         refine pn_ 17 32 34 262143 ?_
         refine pn_ 18 33 34 524287 ?_
         refine pn_ 19 34 34 1048575 ?_
         refine pn_ 20 35 34 2097151 ?_
         refine pn_ 21 36 34 4194303 ?_
         refine pn_ 22 37 34 8388607 ?_
         refine pn_ 23 38 34 16777215 ?_
         refine pn_ 24 39 34 33554431 ?_
         refine pn_ 25 40 34 67108863 ?_
         refine pn_ 26 41 34 134217727 ?_
         refine pn_ 27 42 34 268435455 ?_
         refine pn_ 28 43 34 536870911 ?_
         refine pn_ 29 44 34 1073741823 ?_
         refine pn_ 30 45 34 2147483647 ?_
         refine pn_ 31 46 34 4294967295 ?_
         refine pu_ 32 47 34 8589934591 ?_
         refine pu_ 33 48 34 17179869183 ?_
         refine done_ (done_of HT_.out (by kernel_rfl)) ?_
         try go_wp2
         go_roundg k1
         case measure => have := HK1.out; omega
         case rel => exact ⟨(wrap64 (x10_1 + 1)), (by first | rfl | (simp; done) | (simp [*]; done)), H', ⟨by have := HK1.out; omega⟩, ⟨by repeat (first | (with_reducible first | exact HB.out | apply below_alloc | apply pw_below_drewN | apply below_drew1 | refine below_set ?_ GE102.out) | exact HB.out)⟩⟩
       ·replace c7 := Bool.eq_false_iff.mpr c7
        subst c7
        have H1 : (some 9) = some r := by rw [if_neg (show ¬ (false = true) by decide)] at H; exact H
        clear H
        have H := H1
        clear H1
        obtain rfl := Option.some.inj H
        have p101 : 0 ≤ (x10_1 : Int) := of_decide_eq_true (by first | (with_reducible assumption) | assumption)
        have q101 : x10_1 < (l0.length : Int) := of_decide_eq_true (by first | (with_reducible assumption) | assumption)
        obtain ⟨ad101, e101, hx101_0, hx101_1, hx101_2⟩ := at_T24 HR0.out x10_1 p101 q101
        cases e101
        replace hx101_0 := (HB.out.cell (World.block_lt_of_cell? w _ hx101_0)).trans hx101_0
        replace hx101_1 := (HB.out.cell (World.block_lt_of_cell? w _ hx101_1)).trans hx101_1
        replace hx101_2 := (HB.out.cell (World.block_lt_of_cell? w _ hx101_2)).trans hx101_2
        replace p101 := eq_true p101
        replace q101 := eq_true q101
        try go_wp2_with (first | ((with_reducible refine gate_dst (N := 4) rfl ?_); refine box_event ?hg (N := 4) ?hd (cs := #[.int .i64 0, .int .i64 0, .int .i64 0]) (t := 24) ?hr ?_; (case hd => rfl); (case hg => rfl); (case hr => first | (go_simp; done) | (go_simp; rfl)); intro gb102 hg w37 hbox hb; have n0_ := Aside0.mk (below_step (by repeat (first | (with_reducible first | exact HB.out | apply below_alloc | apply pw_below_drewN | apply below_drew1) | exact HB.out)) hb); have n1_ := Aside0.mk (hbox); have n2_ := Aside0.mk ((by rw [hg]; exact (below_size (by repeat (first | (with_reducible first | exact HB.out | apply below_alloc | apply pw_below_drewN | apply below_drew1) | exact HB.out))) : w.heap.size ≤ gb102)); have n3_ := Aside0.mk ((by rw [hg]; exact (below_size (by repeat (first | (with_reducible first | exact HB.out | apply below_alloc | apply pw_below_drewN | apply below_drew1) | exact HB.out))) : w.heap.size ≤ gb102)); clear HB; have HB := n0_; have BK102 := n1_; have GW102 := n2_; have GE102 := n3_; clear n0_ n1_ n2_ n3_; clear hb hbox hg; have hcz38_0 : w37.cell? ⟨gb102, 0, none⟩ = some (.int .i64 0) := (blk_cell BK102.out 0).trans rfl; have hcz38_1 : w37.cell? ⟨gb102, 1, none⟩ = some (.int .i64 0) := (blk_cell BK102.out 1).trans rfl; have hcz38_2 : w37.cell? ⟨gb102, 2, none⟩ = some (.int .i64 0) := (blk_cell BK102.out 2).trans rfl; have hfz38_0 := blk_frozen BK102.out 0; have hfz38_1 := blk_frozen BK102.out 1; have hfz38_2 := blk_frozen BK102.out 2))
        have n0_ : Aside0 ((((w37.setCell ⟨gb102, 0, none⟩ (.int .i64 ((rd_T24 l0 x10_1).f0))).setCell ⟨gb102, 1, none⟩ (.int .i64 ((rd_T24 l0 x10_1).f1))).setCell ⟨gb102, 2, none⟩ (.int .i64 ((rd_T24 l0 x10_1).f2))).heap[gb102]? = some (.cells #[.int .i64 ((rd_T24 l0 x10_1).f0), .int .i64 ((rd_T24 l0 x10_1).f1), .int .i64 ((rd_T24 l0 x10_1).f2)] 24 (0, 0))) := ⟨by (with_reducible repeat (first | refine blk_drewN ?_ _ | refine blk_drew ?_ | refine blk_alloc ?_ _)); refine blk_put (cs := #[.int .i64 ((rd_T24 l0 x10_1).f0), .int .i64 ((rd_T24 l0 x10_1).f1), .int .i64 0]) ?_ 2 _ rfl; (with_reducible repeat (first | refine blk_drewN ?_ _ | refine blk_drew ?_ | refine blk_alloc ?_ _)); refine blk_put (cs := #[.int .i64 ((rd_T24 l0 x10_1).f0), .int .i64 0, .int .i64 0]) ?_ 1 _ rfl; (with_reducible repeat (first | refine blk_drewN ?_ _ | refine blk_drew ?_ | refine blk_alloc ?_ _)); refine blk_put (cs := #[.int .i64 0, .int .i64 0, .int .i64 0]) ?_ 0 _ rfl; (with_reducible repeat (first | refine blk_drewN ?_ _ | refine blk_drew ?_ | refine blk_alloc ?_ _)); exact BK102.out⟩
        have n1_ : Aside0 (Below w.heap.size w (((w37.setCell ⟨gb102, 0, none⟩ (.int .i64 ((rd_T24 l0 x10_1).f0))).setCell ⟨gb102, 1, none⟩ (.int .i64 ((rd_T24 l0 x10_1).f1))).setCell ⟨gb102, 2, none⟩ (.int .i64 ((rd_T24 l0 x10_1).f2)))) := ⟨by repeat (first | (with_reducible first | exact HB.out | apply below_alloc | apply pw_below_drewN | apply below_drew1 | refine below_set ?_ GE102.out) | exact HB.out)⟩
        (try clear BK102)
        (try clear HB)
        generalize (((w37.setCell ⟨gb102, 0, none⟩ (.int .i64 ((rd_T24 l0 x10_1).f0))).setCell ⟨gb102, 1, none⟩ (.int .i64 ((rd_T24 l0 x10_1).f1))).setCell ⟨gb102, 2, none⟩ (.int .i64 ((rd_T24 l0 x10_1).f2))) = w39 at n0_ n1_ ⊢
        have BK102 := n0_
        have HB := n1_
        clear n0_ n1_
        have n0_ := Aside0.mk (blk_drew BK102.out)
        have n1_ := Aside0.mk (below_drew1 HB.out)
        clear BK102
        clear HB
        have BK102 := n0_
        have HB := n1_
        clear n0_ n1_
        refine start_ (n := 34) (S := fun w' => w'.cell? ⟨gb102, 0, none⟩ = some (.int .i64 ((rd_T24 l0 x10_1).f0)) ∧ w'.cell? ⟨gb102, 1, none⟩ = some (.int .i64 ((rd_T24 l0 x10_1).f1)) ∧ w'.cell? ⟨gb102, 2, none⟩ = some (.int .i64 ((rd_T24 l0 x10_1).f2))) (ds := []) #[yF,yF,yF,yF,yF,yF,yF,yF,yF,yF,yF,yF,yF,yF,yF,yF,yF,yF,yF,yF,yF,yF,yF,yF,yF,yF,yF,yF,yF,yF,yF,yF,yF,yF] (by kernel_rfl) rfl rfl ⟨(blk_cell BK102.out 0).trans rfl, (blk_cell BK102.out 1).trans rfl, (blk_cell BK102.out 2).trans rfl⟩ (fun hHeld => ?_); refine with_tabW extent_Check.tab6 extent_Check.bits6 (fun HT_ HW_ => ?_)
        generalize w39.drew = w40 at BK102 HB hHeld ⊢
        refine tk_ 0 15 34 1 ?_
        refine on_ 1 16 34 3 (fun K hK => ?_)
        refine goes_ Try.func86 (by kernel_rfl) rfl #[.agg #[.int .i64 ((rd_T24 l0 x10_1).f0), .int .i64 ((rd_T24 l0 x10_1).f1), .int .i64 ((rd_T24 l0 x10_1).f2)]] (by rfl) rfl rfl (by (try simp only [List.map_toArray, List.map_cons, List.map_nil]); first | done | rfl | (simp only [List.length_drop, List.length_take]; rfl)) ?_
        with_reducible refine (extent_may.calls ((rd_T24 l0 x10_1).f0) ((rd_T24 l0 x10_1).f1) ((rd_T24 l0 x10_1).f2) false _ A6.out).mono ?_
        rintro e w41 ⟨rfl, hb⟩
        refine ⟨_, rfl, ?_⟩
        have n0_ := Aside0.mk (blk_below (g := gb102) (o := .cells #[.int .i64 ((rd_T24 l0 x10_1).f0), .int .i64 ((rd_T24 l0 x10_1).f1), .int .i64 ((rd_T24 l0 x10_1).f2)] 24 (0, 0)) (by (with_reducible repeat (first | refine blk_drewN ?_ _ | refine blk_drew ?_ | refine blk_alloc ?_ _)); exact BK102.out) hb)
        have n1_ := Aside0.mk (below_step (by repeat (first | (with_reducible first | exact HB.out | apply below_alloc | apply pw_below_drewN | apply below_drew1 | refine below_set ?_ GE102.out) | exact HB.out)) hb)
        clear BK102
        clear HB
        have BK102 := n0_
        have HB := n1_
        clear n0_ n1_
        (try clear hb)
        (try clear hb2)
        (try clear hk)
        (try clear hi)
        refine hK.out _ _ ⟨(blk_cell BK102.out 0).trans rfl, (blk_cell BK102.out 1).trans rfl, (blk_cell BK102.out 2).trans rfl⟩ (fun hHeld => ?_)
        clear hK K
        refine nm_ 16 ?_
        refine pu_ 2 17 34 7 ?_
        refine pu_ 3 18 34 15 ?_
        refine pn_ 4 19 34 31 ?_
        refine pn_ 5 20 34 63 ?_
        refine pn_ 6 21 34 127 ?_
        refine pn_ 7 22 34 255 ?_
        refine pn_ 8 23 34 511 ?_
        refine pn_ 9 24 34 1023 ?_
        refine pn_ 10 25 34 2047 ?_
        refine pn_ 11 26 34 4095 ?_
        refine pn_ 12 27 34 8191 ?_
        refine pn_ 13 28 34 16383 ?_
        refine pn_ 14 29 34 32767 ?_
        refine pn_ 15 30 34 65535 ?_
        refine pn_ 16 31 34 131071 ?_
        refine pn_ 17 32 34 262143 ?_
        refine pn_ 18 33 34 524287 ?_
        refine pn_ 19 34 34 1048575 ?_
        refine pn_ 20 35 34 2097151 ?_
        refine pn_ 21 36 34 4194303 ?_
        refine pn_ 22 37 34 8388607 ?_
        refine pn_ 23 38 34 16777215 ?_
        refine pn_ 24 39 34 33554431 ?_
        refine pn_ 25 40 34 67108863 ?_
        refine pn_ 26 41 34 134217727 ?_
        refine pn_ 27 42 34 268435455 ?_
        refine pn_ 28 43 34 536870911 ?_
        refine pn_ 29 44 34 1073741823 ?_
        refine pn_ 30 45 34 2147483647 ?_
        refine pn_ 31 46 34 4294967295 ?_
        refine pn_ 32 47 34 8589934591 ?_
        refine pu_ 33 48 34 17179869183 ?_
        refine done_ (done_of HT_.out (by kernel_rfl)) ?_
        try go_wp2
        go_ret
        exact ⟨by first | rfl | (simp [errW_none, errW_some] <;> rfl) | (simp [*, errW_none, errW_some] <;> rfl), by repeat (first | (with_reducible first | exact HB.out | apply below_alloc | apply pw_below_drewN | apply below_drew1 | refine below_set ?_ GE102.out) | exact HB.out)⟩
      ·rw [if_neg c5] at H
       exact absurd H (by simp)
     ·rw [if_neg c4] at H
      exact absurd H (by simp)
    ·rw [if_neg c3] at H
     have c3b0 : decide (x10_1 < (l0.length : Int)) = false := decide_eq_false c3
     clear c3
     obtain rfl := Option.some.inj H
     go_wp2
     go_ret
     exact ⟨by first | rfl | (simp [errW_none, errW_some] <;> rfl) | (simp [*, errW_none, errW_some] <;> rfl), by repeat (first | (with_reducible first | exact HB.out | apply below_alloc | apply pw_below_drewN | apply below_drew1) | exact HB.out)⟩
def extent_full.f (l0 : List (S24)) : Option ((List (S24)) × Int) := if (l0.length : Int) > 1024 then (some (([] : List (S24)), 51)) else (some (l0, 0))
set_option maxHeartbeats 8000000 in
set_option maxRecDepth 100000 in
theorem extent_full.calls (P0_ : Nat → Prop) (u9000_ : Value) (l0 : List (S24)) (r1 : List (S24)) (r2 : Int) (w0 w : World) (hB : Below w0.heap.size w0 w) (ho0 : Kd.R k24 24 w w0.heap.size P0_ u9000_ l0) (h : extent_full.f l0 = some (r1, r2)) :
 Calls Try.prog 87 #[u9000_] w fun e w' => ∃ v0_ : Value, e = .returned (.tuple #[v0_, .int .i64 r2]) ∧ Kd.R k24 24 w' w0.heap.size (fun k_ => (P0_ k_ ∨ w.heap.size ≤ k_)) v0_ r1 ∧ Below w0.heap.size w0 w' ∧ Kept w w' (fun k_ => P0_ k_) := by
 have HO0 := Aside0.mk (show Kd.R k24 24 w w0.heap.size (fun k_ => (P0_ k_ ∨ w.heap.size ≤ k_)) u9000_ l0 from Kd.R_mono ho0 (fun k_ hk => (.inl hk)))
 have HK := Aside0.mk (Kept.refl w (fun k_ => P0_ k_))
 have HW0 := Aside0.mk hB.size
 have HB := Aside0.mk hB
 clear hB
 have H : (if (l0.length : Int) > 1024 then (some (([] : List (S24)), 51)) else (some (l0, 0))) = some (r1, r2) := h
 clear h
 by_cases c2 : (l0.length : Int) > 1024
 ·rw [if_pos c2] at H
  have c2b0 : decide (1024 < (l0.length : Int)) = true := decide_eq_true c2
  have c2b1 : decide (1024 < l0.length) = true := decide_eq_true (by omega)
  clear c2
  simp only [Option.some.injEq, Prod.mk.injEq] at H
  obtain ⟨rfl, rfl⟩ := H
  obtain ⟨Ao3, co3, eo3⟩ := Kd.R_slice HO0.out
  subst eo3
  go_enter Try.func87, Try.ntmps87
  go_wp2
  go_ret2
  exact ⟨_, by first | rfl | (simp [errW_none, errW_some] <;> rfl) | (simp [*, errW_none, errW_some] <;> rfl), by first | exact Kd.R_nil _ _ _ _ _ | exact Kd.N_nil _ _ _ _ _ | exact Kd.V_nil _ _ _ _ _ | exact Kd.Q_nil _ _ _ _ _ | exact Kd.S_nil _ _ _ _ _, by repeat (first | (with_reducible first | exact HB.out | apply below_alloc | apply pw_below_drewN | apply below_drew1) | exact HB.out), by repeat (first | (with_reducible first | exact HK.out | apply Kept.alloc | apply Kept.drewN | apply Kept.drew) | exact HK.out)⟩
 ·rw [if_neg c2] at H
  have c2b0 : decide (1024 < (l0.length : Int)) = false := decide_eq_false c2
  have c2b1 : decide (1024 < l0.length) = false := decide_eq_false (by omega)
  clear c2
  simp only [Option.some.injEq, Prod.mk.injEq] at H
  obtain ⟨rfl, rfl⟩ := H
  obtain ⟨Ao4, co4, eo4⟩ := Kd.R_slice HO0.out
  subst eo4
  go_enter Try.func87, Try.ntmps87
  go_wp2
  go_ret2
  exact ⟨_, by first | rfl | (simp [errW_none, errW_some] <;> rfl) | (simp [*, errW_none, errW_some] <;> rfl), by (with_reducible repeat (first | apply Kd.R_alloc | apply Kd.R_drewN | apply Kd.R_drew)); exact HO0.out, by repeat (first | (with_reducible first | exact HB.out | apply below_alloc | apply pw_below_drewN | apply below_drew1) | exact HB.out), by repeat (first | (with_reducible first | exact HK.out | apply Kept.alloc | apply Kept.drewN | apply Kept.drew) | exact HK.out)⟩
def toE (x : S24) : Flag.Ex := ⟨x.f0, x.f1, x.f2⟩
theorem toE_inj {x y : S24} (h : toE x = toE y) : x = y := by
  cases x; cases y; simp only [toE, Flag.Ex.mk.injEq] at h; simp only [S24.mk.injEq]; exact h
theorem mapE_inj {l m : List S24} (h : l.map toE = m.map toE) : l = m := by
  induction l generalizing m with
  | nil => cases m with
    | nil => rfl
    | cons y t => simp at h
  | cons x t ih => cases m with
    | nil => simp at h
    | cons y u =>
      simp only [List.map_cons, List.cons.injEq] at h
      rw [toE_inj h.1, ih h.2]
def near (n : Int) : Prop := -1099511627776 ≤ n ∧ n ≤ 1099511627776
structure Near (x : S24) : Prop where
  v : near x.f0
  p : near x.f1
  n : near x.f2
  q : -1 ≤ x.f1
theorem goesOn_f {a b : S24} (ha : Near a) (hb : Near b) (hn : 0 < a.f2) : extent_goesOn.f a.f0 a.f1 a.f2 b.f0 b.f1 b.f2 = some (decide (Flag.goesOn (toE a) (toE b))) := by
  obtain ⟨⟨a1, a2⟩, ⟨a3, a4⟩, ⟨a5, a6⟩, a7⟩ := ha
  obtain ⟨⟨b1, b2⟩, ⟨b3, b4⟩, ⟨b5, b6⟩, b7⟩ := hb
  unfold extent_goesOn.f Flag.goesOn toE
  dsimp only
  rw [w64 (n := a.f0 + a.f2) (by omega), w64 (n := a.f1 + a.f2) (by omega)]
  congr 1
  by_cases h0 : a.f0 + a.f2 = b.f0
  · by_cases h1 : a.f1 = -1
    · by_cases h2 : b.f1 = -1
      · simp [h0, h1, h2]
      · simp [h0, h1, h2]
    · have h3 : 0 ≤ a.f1 := by omega
      have h4 : ¬ a.f1 < 0 := by omega
      by_cases h2 : b.f1 = -1
      · have h5 : ¬ (-1 = a.f1 + a.f2) := by omega
        simp [h0, h1, h2, h3, h4, h5]
      · by_cases h6 : a.f1 + a.f2 = b.f1
        · have h7 : b.f1 = a.f1 + a.f2 := h6.symm
          have h8 : ¬ (a.f1 + a.f2 = -1) := by omega
          have h9 : (a.f1 == -1) = false := by simp [h1]
          have h10 : (a.f1 + a.f2 == -1) = false := by simp [h8]
          simp [h0, h1, h3, h7, h9, h10]
        · have h7 : ¬ (b.f1 = a.f1 + a.f2) := fun h => h6 h.symm
          simp [h0, h1, h2, h3, h4, h6, h7]
  · simp [h0]
theorem rd_at (pre : List S24) (x : S24) (t : List S24) {i : Int} (h : i = pre.length) : rd_T24 (pre ++ x :: t) i = x := by
  subst h; simp [rd_T24]
theorem addG_toE {xs : List S24} {x : S24} (hs : ∀ y ∈ xs, Near y ∧ 0 < y.f2) (hx : Near x) : (addG xs x).map toE = Flag.addE (xs.map toE) (toE x) := by
  unfold addG
  by_cases h : x.f2 ≤ 0
  · rw [if_pos h, Flag.addE_empty h]
  · rw [if_neg h]
    rcases List.eq_nil_or_concat xs with rfl | ⟨pre, y, rfl⟩
    · simp [Flag.addE, toE, h]
    · rw [List.concat_eq_append] at hs ⊢
      have hr : rd_T24 (pre ++ [y]) (((pre ++ [y]).length : Int) - 1) = y := rd_at pre y [] (by simp)
      rw [hr]
      have hy := hs y (by simp)
      rw [goesOn_f hy.1 hx hy.2]
      by_cases hg : Flag.goesOn (toE y) (toE x)
      · rw [if_pos ⟨by simp, by simp [hg]⟩]
        obtain ⟨⟨b1, b2⟩, ⟨b3, b4⟩, ⟨b5, b6⟩, b7⟩ := hy.1
        obtain ⟨⟨c1, c2⟩, ⟨c3, c4⟩, ⟨c5, c6⟩, c7⟩ := hx
        rw [w64 (n := y.f2 + x.f2) (by omega), List.map_append]
        show _ = Flag.addE (pre.map toE ++ [toE y]) (toE x)
        rw [Flag.addE_split (show 0 < x.f2 by omega) hg]
        have e : (((pre ++ [y]).length : Int) - 1).toNat = pre.length := by simp
        rw [e]
        simp [toE]
      · rw [if_neg (by simp [hg]), Flag.addE_new (show 0 < x.f2 by omega)]
        · simp
        · intro z hz
          have : z = toE y := by simpa using hz.symm
          rw [this]; exact hg
structure InM (x : S24) : Prop where
  v : 0 ≤ x.f0
  e : x.f0 + x.f2 ≤ 1099511627776
  p0 : -1 ≤ x.f1
  p1 : x.f1 ≤ 1099511627776
  n : 0 < x.f2
theorem InM.near {x : S24} (h : InM x) : Near x := by
  obtain ⟨h1, h2, h3, h4, h5⟩ := h
  exact ⟨⟨by omega, by omega⟩, ⟨by omega, by omega⟩, ⟨by omega, by omega⟩, h3⟩
theorem addG_in {xs : List S24} {x : S24} (hs : ∀ y ∈ xs, InM y) (hx : x.f2 ≤ 0 ∨ InM x) : (addG xs x).map toE = Flag.addE (xs.map toE) (toE x) ∧ ∀ y ∈ addG xs x, InM y := by
  rcases hx with hx | hx
  · have e : addG xs x = xs := by unfold addG; rw [if_pos hx]
    rw [e]
    exact ⟨(Flag.addE_empty hx).symm, hs⟩
  · refine ⟨addG_toE (fun y hy => ⟨(hs y hy).near, (hs y hy).n⟩) hx.near, ?_⟩
    unfold addG
    have hn := hx.n
    rw [if_neg (by omega)]
    rcases List.eq_nil_or_concat xs with rfl | ⟨pre, y, rfl⟩
    · intro z hz
      have : z = x := by simpa using hz
      rw [this]; exact hx
    · rw [List.concat_eq_append] at hs ⊢
      have hr : rd_T24 (pre ++ [y]) (((pre ++ [y]).length : Int) - 1) = y := rd_at pre y [] (by simp)
      rw [hr]
      have hy := hs y (by simp)
      rw [goesOn_f hy.near hx.near hy.n]
      split
      · rename_i hg
        have hg : Flag.goesOn (toE y) (toE x) := by simpa using hg.2
        have hg1 : y.f0 + y.f2 = x.f0 := hg.1
        obtain ⟨h1, h2, h3, h4, h5⟩ := hy
        obtain ⟨g1, g2, g3, g4, g5⟩ := hx
        have e : (((pre ++ [y]).length : Int) - 1).toNat = pre.length := by simp
        rw [e, w64 (n := y.f2 + x.f2) (by omega)]
        intro z hz
        have hz : z ∈ pre ++ [(⟨y.f0, y.f1, y.f2 + x.f2⟩ : S24)] := by simpa using hz
        rcases List.mem_append.1 hz with hz | hz
        · exact hs z (List.mem_append_left _ hz)
        · have : z = ⟨y.f0, y.f1, y.f2 + x.f2⟩ := by simpa using hz
          rw [this]
          exact ⟨h1, show y.f0 + (y.f2 + x.f2) ≤ _ by omega, h3, h4, show 0 < y.f2 + x.f2 by omega⟩
      · intro z hz
        rcases List.mem_append.1 hz with hz | hz
        · exact hs z hz
        · have : z = x := by simpa using hz
          rw [this]; exact hx
theorem fold_in (ps : List S24) : ∀ xs : List S24, (∀ y ∈ xs, InM y) → (∀ x ∈ ps, x.f2 ≤ 0 ∨ InM x) → (ps.foldl addG xs).map toE = (ps.map toE).foldl Flag.addE (xs.map toE) ∧ ∀ y ∈ ps.foldl addG xs, InM y := by
  induction ps with
  | nil => intro xs hs _; exact ⟨rfl, hs⟩
  | cons x t ih =>
    intro xs hs hp
    obtain ⟨h1, h2⟩ := addG_in hs (hp x List.mem_cons_self)
    obtain ⟨h3, h4⟩ := ih _ h2 (fun y hy => hp y (List.mem_cons_of_mem _ hy))
    refine ⟨?_, h4⟩
    rw [List.foldl_cons, h3, h1]; rfl
theorem fold_join {ps : List S24} (hp : ∀ x ∈ ps, x.f2 ≤ 0 ∨ InM x) : (ps.foldl addG []).map toE = Flag.joinE (ps.map toE) ∧ ∀ y ∈ ps.foldl addG [], InM y :=
  fold_in ps [] (fun y hy => by cases hy) hp
theorem okIn {x : S24} (h : Flag.okMap (toE x)) : InM x := by
  obtain ⟨h1, h2, h3, h4, h5⟩ := h
  simp only [toE] at h1 h2 h3 h4 h5
  exact ⟨h2, by omega, by omega, by omega, h1⟩
theorem partG_toE {x : S24} (hx : Flag.okMap (toE x)) {a b : Int} (ha : near a) (hb : near b) : toE (partG x a b) = Flag.part (toE x) a b := by
  obtain ⟨h1, h2, h3, h4, h5⟩ := hx
  simp only [toE] at h1 h2 h3 h4 h5
  obtain ⟨a1, a2⟩ := ha
  obtain ⟨b1, b2⟩ := hb
  unfold partG toE Flag.part
  dsimp only
  rw [mx_max, mn_min, w64 (n := x.f0 + x.f2) (by omega), w64 (n := max a x.f0 - x.f0) (by omega), w64 (n := x.f1 + (max a x.f0 - x.f0)) (by omega), w64 (n := min b (x.f0 + x.f2) - max a x.f0) (by omega), if_neg (by omega), if_neg (by omega)]
theorem partG_in {x : S24} (hx : Flag.okMap (toE x)) {a b : Int} (ha : near a) (hb : near b) (ha0 : 0 ≤ a) : (partG x a b).f2 ≤ 0 ∨ InM (partG x a b) := by
  have e := partG_toE hx ha hb
  obtain ⟨h1, h2, h3, h4, h5⟩ := hx
  simp only [toE] at h1 h2 h3 h4 h5
  have e0 : (partG x a b).f0 = max a x.f0 := congrArg Flag.Ex.v e
  have e1 : (partG x a b).f1 = x.f1 + (max a x.f0 - x.f0) := (congrArg Flag.Ex.p e).trans (if_neg (show ¬ x.f1 < 0 by omega))
  have e2 : (partG x a b).f2 = min b (x.f0 + x.f2) - max a x.f0 := congrArg Flag.Ex.n e
  by_cases h : (partG x a b).f2 ≤ 0
  · exact .inl h
  · exact .inr ⟨by omega, by omega, by omega, by omega, by omega⟩
def piecesG (v e : Int) (by_ : List S24) : List S24 → Bool → List S24
  | [], d => if d then [] else by_
  | x :: t, d => partG x 0 v :: ((if !d && decide (v < wrap64 (x.f0 + x.f2)) then by_ else []) ++ partG x e 65536 :: piecesG v e by_ t (d || (!d && decide (v < wrap64 (x.f0 + x.f2)))))
theorem repl_pieces (v n : Int) (by_ : List S24) (l : List S24) : ∀ s : List S24 × Bool,
    (if (l.foldl (replStep v n by_) s).2 then (l.foldl (replStep v n by_) s).1 else by_.foldl addG (l.foldl (replStep v n by_) s).1) = (piecesG v (wrap64 (v + n)) by_ l s.2).foldl addG s.1 := by
  induction l with
  | nil =>
    intro s
    cases h : s.2 <;> simp [piecesG, h]
  | cons x t ih =>
    intro s
    rw [List.foldl_cons, ih, piecesG, List.foldl_cons, List.foldl_append, List.foldl_cons]
    simp only [replStep]
    cases h : (!s.2 && decide (v < wrap64 (x.f0 + x.f2))) <;> simp
theorem replG_pieces (l : List S24) (v n : Int) (by_ : List S24) : replG l v n by_ = (piecesG v (wrap64 (v + n)) by_ l false).foldl addG [] := repl_pieces v n by_ l ([], false)
theorem piecesG_in {v e : Int} {by_ l : List S24} (hv : 0 ≤ v ∧ v ≤ 65536) (he : 0 ≤ e ∧ e ≤ 65536) (hb : ∀ y ∈ by_, y.f2 ≤ 0 ∨ InM y) (hl : ∀ x ∈ l, Flag.okMap (toE x)) (d : Bool) : ∀ y ∈ piecesG v e by_ l d, y.f2 ≤ 0 ∨ InM y := by
  induction l generalizing d with
  | nil =>
    intro y hy
    cases d
    · exact hb y (by simpa [piecesG] using hy)
    · simp [piecesG] at hy
  | cons x t ih =>
    intro y hy
    have hx := hl x List.mem_cons_self
    have ht : ∀ x ∈ t, Flag.okMap (toE x) := fun z hz => hl z (List.mem_cons_of_mem _ hz)
    rw [piecesG] at hy
    rcases List.mem_cons.1 hy with rfl | hy
    · exact partG_in hx ⟨by omega, by omega⟩ ⟨by omega, by omega⟩ (by omega)
    · rcases List.mem_append.1 hy with hy | hy
      · split at hy
        · exact hb y hy
        · cases hy
      · rcases List.mem_cons.1 hy with rfl | hy
        · exact partG_in hx ⟨by omega, by omega⟩ ⟨by omega, by omega⟩ (by omega)
        · exact ih ht _ y hy
def fullP (x : Flag.Ex) : Bool := decide (0 < x.n)
theorem pieces_done {v e : Int} {by_ l : List S24} (hv : 0 ≤ v ∧ v ≤ 65536) (he : 0 ≤ e ∧ e ≤ 65536) (hl : ∀ x ∈ l, Flag.okMap (toE x)) (ha : ∀ x ∈ l, v ≤ x.f0) :
    ((piecesG v e by_ l true).map toE).filter fullP = ((l.map toE).map (Flag.part · e 65536)).filter fullP := by
  induction l with
  | nil => rfl
  | cons x t ih =>
    have hx := hl x List.mem_cons_self
    have ih := ih (fun z hz => hl z (List.mem_cons_of_mem _ hz)) (fun z hz => ha z (List.mem_cons_of_mem _ hz))
    have h0 := ha x List.mem_cons_self
    rw [piecesG]
    simp only [Bool.not_true, Bool.false_and, Bool.or_false, List.map_cons, Bool.false_eq_true, if_false, List.nil_append]
    rw [partG_toE hx ⟨by omega, by omega⟩ ⟨by omega, by omega⟩, partG_toE hx ⟨by omega, by omega⟩ ⟨by omega, by omega⟩]
    have e1 : fullP (Flag.part (toE x) 0 v) = false := by
      unfold fullP Flag.part toE
      apply decide_eq_false
      show ¬ 0 < min v (x.f0 + x.f2) - max 0 x.f0
      omega
    rw [List.filter_cons_of_neg (by simp [e1]), List.filter_cons, List.filter_cons, ih]
theorem pieces_not {v e : Int} {by_ l : List S24} (hve : v ≤ e) (hv : 0 ≤ v ∧ v ≤ 65536) (he : 0 ≤ e ∧ e ≤ 65536) (hl : ∀ x ∈ l, Flag.okMap (toE x)) (hn : Flag.NF (l.map toE)) :
    ((piecesG v e by_ l false).map toE).filter fullP = (((l.map toE).map (Flag.part · 0 v)) ++ (by_.map toE ++ ((l.map toE).map (Flag.part · e 65536)))).filter fullP := by
  induction l with
  | nil => simp [piecesG]
  | cons x t ih =>
    have hx := hl x List.mem_cons_self
    have ht : ∀ x ∈ t, Flag.okMap (toE x) := fun z hz => hl z (List.mem_cons_of_mem _ hz)
    have hnt : Flag.NF (t.map toE) := hn.tail
    have ih := ih ht hnt
    have hx0 := hx
    obtain ⟨h1, h2, h3, h4, h5⟩ := hx0
    simp only [toE] at h1 h2 h3 h4 h5
    rw [piecesG]
    rw [w64 (n := x.f0 + x.f2) (by omega)]
    by_cases hc : v < x.f0 + x.f2
    · simp only [hc, decide_true, Bool.not_false, Bool.true_and, Bool.or_true, if_true, List.map_cons, List.map_append]
      rw [partG_toE hx ⟨by omega, by omega⟩ ⟨by omega, by omega⟩, partG_toE hx ⟨by omega, by omega⟩ ⟨by omega, by omega⟩]
      have hat : ∀ y ∈ t, x.f0 + x.f2 ≤ y.f0 := fun y hy => hn.after (toE y) (List.mem_map_of_mem hy)
      have hd := pieces_done (by_ := by_) hv he ht (fun y hy => by have := hat y hy; omega)
      have hz : ((t.map toE).map (Flag.part · 0 v)).filter fullP = [] := by
        apply List.filter_eq_nil_iff.2
        intro y hy
        obtain ⟨z, hz, rfl⟩ := List.mem_map.1 hy
        obtain ⟨u, hu, rfl⟩ := List.mem_map.1 hz
        have := hat u hu
        have h9 : ¬ 0 < min v (u.f0 + u.f2) - max 0 u.f0 := by omega
        exact fun h => h9 (of_decide_eq_true h)
      simp only [List.cons_append, List.filter_cons, List.filter_append, List.map_cons, hd, hz, List.nil_append]
      try (split <;> simp)
    · have e1 : fullP (Flag.part (toE x) e 65536) = false := by
        unfold fullP Flag.part toE
        apply decide_eq_false
        show ¬ 0 < min 65536 (x.f0 + x.f2) - max e x.f0
        omega
      simp only [hc, decide_false, Bool.not_false, Bool.true_and, Bool.and_false, Bool.or_false, Bool.false_eq_true, if_false, List.map_cons, List.nil_append]
      rw [partG_toE hx ⟨by omega, by omega⟩ ⟨by omega, by omega⟩, partG_toE hx ⟨by omega, by omega⟩ ⟨by omega, by omega⟩]
      simp only [List.cons_append, List.filter_cons, List.filter_append, ih, e1]
      split <;> simp
theorem replG_put {l : List S24} {v n : Int} {by_ : List S24} (hm : Flag.Map5 (l.map toE)) (hv : 0 ≤ v) (hn : 0 ≤ n) (he : v + n ≤ 65536) (hb : ∀ y ∈ by_, y.f2 ≤ 0 ∨ InM y) :
    (replG l v n by_).map toE = Flag.joinE (Flag.put3 (l.map toE) v (v + n) (by_.map toE)) ∧ ∀ y ∈ replG l v n by_, InM y := by
  have hl : ∀ x ∈ l, Flag.okMap (toE x) := fun x hx => hm.ok _ (List.mem_map_of_mem hx)
  rw [replG_pieces, w64 (by omega)]
  obtain ⟨h1, h2⟩ := fold_join (piecesG_in ⟨hv, by omega⟩ ⟨by omega, he⟩ hb hl false)
  refine ⟨?_, h2⟩
  rw [h1, Flag.joinE_filter, Flag.put3, Flag.joinE_filter (_ ++ _)]
  exact congrArg Flag.joinE (pieces_not (by omega) ⟨hv, by omega⟩ ⟨by omega, he⟩ hl hm.nf)
theorem fits_x {a b : Int} : extent_fits.f a b = some (decide (0 ≤ a) && decide (0 ≤ b) && decide (a + b ≤ 65536)) := by
  unfold extent_fits.f
  rw [mn_min]
  by_cases h : min a b ≥ 0
  · rw [if_pos h]
    by_cases h1 : a ≤ 65536
    · rw [if_pos h1, w64 (by omega)]
      congr 1
      rw [Bool.eq_iff_iff]
      simp only [Bool.and_eq_true, decide_eq_true_eq]
      omega
    · rw [if_neg h1]
      congr 1
      symm
      rw [Bool.eq_false_iff]
      simp only [ne_eq, Bool.and_eq_true, decide_eq_true_eq]
      omega
  · rw [if_neg h]
    congr 1
    symm
    rw [Bool.eq_false_iff]
    simp only [ne_eq, Bool.and_eq_true, decide_eq_true_eq]
    omega
theorem may_x {a b c : Int} : extent_may.f a b c = some (Flag.mayE ⟨a, b, c⟩) := by
  unfold extent_may.f
  rw [fits_x, fits_x]
  unfold Flag.mayE
  by_cases h : c > 0
  · rw [if_pos h]
    have h1 : 0 < c := h
    have h2 : 0 ≤ c := by omega
    simp only [Option.bind_some, h1, h2, decide_true, Bool.true_and, Bool.and_true]
    split
    · rename_i h3; rw [h3]; simp
    · rename_i h3; simp only [Bool.not_eq_true] at h3; rw [h3]; simp
  · rw [if_neg h]
    have h1 : ¬ 0 < c := h
    simp [h1]
def chk : Option Flag.Ex → List Flag.Ex → Bool
  | none, t => Flag.mapB t
  | some y, t => Flag.restB y t
def okB (o : Option Flag.Ex) (x : Flag.Ex) : Bool := match o with
  | none => true
  | some y => decide (y.v + y.n ≤ x.v) && !decide (Flag.goesOn y x)
theorem chk_cons (o : Option Flag.Ex) (x : Flag.Ex) (t : List Flag.Ex) : chk o (x :: t) = (Flag.mayE x && okB o x && chk (some x) t) := by
  cases o with
  | none => simp [chk, Flag.mapB, okB]
  | some y => simp [chk, Flag.restB, okB, Bool.and_assoc]
theorem chk_nil (o : Option Flag.Ex) : chk o [] = true := by cases o <;> rfl
theorem check_x_loop (l : List S24) (hl : l.length ≤ 1024) (t : List S24) : ∀ (pre : List S24) (k : Nat), l = pre ++ t → t.length < k → (∀ y, pre.getLast? = some y → Flag.okMap (toE y)) →
    extent_Check.l0 k l l (l.length : Int) (pre.length : Int) = some (if chk (pre.getLast?.map toE) (t.map toE) = true then 0 else 9) := by
  induction t with
  | nil =>
    intro pre k he hk _
    obtain ⟨k, rfl⟩ : ∃ k', k = k' + 1 := ⟨k - 1, by simp at hk; omega⟩
    rw [extent_Check.l0, if_neg (by rw [he]; simp)]
    simp [chk_nil]
  | cons x t ih =>
    intro pre k he hk hp
    obtain ⟨k, rfl⟩ : ∃ k', k = k' + 1 := ⟨k - 1, by simp at hk; omega⟩
    have hlen : l.length = pre.length + t.length + 1 := by rw [he]; simp; omega
    have hx : rd_T24 l (pre.length : Int) = x := by rw [he]; exact rd_at pre x t rfl
    rw [extent_Check.l0, if_pos (by omega), if_pos (by omega), if_pos (by omega), hx, may_x, Option.bind_some, List.map_cons, chk_cons]
    have e0 : Flag.mayE ⟨x.f0, x.f1, x.f2⟩ = Flag.mayE (toE x) := rfl
    rw [e0]
    by_cases hm : Flag.mayE (toE x) = true
    · rw [if_pos hm, hm]
      have hok := Flag.mayE_iff.1 hm
      have hnext := ih (pre ++ [x]) k (by rw [he]; simp) (by simp at hk; omega) (fun y hy => by
        have : y = x := by simpa using hy.symm
        rw [this]; exact hok)
      have e1 : wrap64 ((pre.length : Int) + 1) = ((pre ++ [x]).length : Int) := by rw [w64 (by omega)]; simp
      rw [e1, hnext]
      have e2 : (pre ++ [x]).getLast?.map toE = some (toE x) := by simp
      rw [e2]
      rcases List.eq_nil_or_concat pre with rfl | ⟨q, y, rfl⟩
      · rw [if_neg (by simp)]
        simp [okB]
      · rw [List.concat_eq_append] at *
        have e3 : wrap64 (((q ++ [y]).length : Int) - 1) = (q.length : Int) := by rw [w64 (by omega)]; simp
        have hy : rd_T24 l (q.length : Int) = y := by rw [he, List.append_assoc]; exact rd_at q y (x :: t) rfl
        have hoky := hp y (by simp)
        rw [if_pos (by simp), e3, if_pos (by omega), if_pos (by rw [hlen]; simp; omega), hy]
        have iy := okIn hoky
        have ix := okIn hok
        have n1 := iy.near
        rw [w64 (n := y.f0 + y.f2) (by have := iy.v; have := iy.e; have := iy.n; omega), goesOn_f n1 ix.near iy.n]
        have e4 : (q ++ [y]).getLast?.map toE = some (toE y) := by simp
        rw [e4]
        by_cases hg : y.f0 + y.f2 > x.f0
        · rw [if_pos hg]
          have : ¬ ((toE y).v + (toE y).n ≤ (toE x).v) := by simp only [toE]; omega
          simp [okB, this]
        · rw [if_neg hg, Option.bind_some]
          have : (toE y).v + (toE y).n ≤ (toE x).v := by simp only [toE]; omega
          by_cases hgo : Flag.goesOn (toE y) (toE x)
          · simp [okB, this, hgo]
          · simp [okB, this, hgo]
    · rw [if_neg hm]
      simp only [Bool.not_eq_true] at hm
      simp [hm]
theorem check_x (l : List S24) {k : Nat} (hk : l.length < k) : extent_Check.f k l = some (Flag.checkE (l.map toE)) := by
  unfold extent_Check.f Flag.checkE
  by_cases h : l.length ≤ 1024
  · rw [if_neg (by omega)]
    have := check_x_loop l h l [] k rfl hk (fun y hy => by simp at hy)
    rw [show ((0 : Int) = (([] : List S24).length : Int)) from rfl, this]
    by_cases hb : Flag.mapB (l.map toE) = true <;> simp [chk, h, hb]
  · rw [if_pos (by omega)]
    simp [h]
theorem full_x (l : List S24) : extent_full.f l = some (if l.length > 1024 then ([], 51) else (l, 0)) := by
  unfold extent_full.f
  by_cases h : l.length > 1024
  · rw [if_pos (by omega), if_pos h]
  · rw [if_neg (by omega), if_neg h]
def fullS (l : List S24) : List S24 × Int := if l.length > 1024 then ([], 51) else (l, 0)
def fitsB (v n : Int) : Bool := decide (0 ≤ v) && decide (0 ≤ n) && decide (v + n ≤ 65536)
theorem fits_xB {a b : Int} : extent_fits.f a b = some (fitsB a b) := fits_x
theorem fitsB_iff {v n : Int} : fitsB v n = true ↔ 0 ≤ v ∧ 0 ≤ n ∧ v + n ≤ 65536 := by
  unfold fitsB; simp only [Bool.and_eq_true, decide_eq_true_eq, and_assoc]
def extent_Put.f (k : Nat) (l0 : List (S24)) (a1_0 : Int) (a1_1 : Int) (a1_2 : Int) : Option ((List (S24)) × Int) := (extent_Check.f k l0).bind fun t102 => (if t102 = 0 then ((extent_may.f a1_0 a1_1 a1_2).bind fun t103 => (if t103 = true then ((extent_replaced.f l0 a1_0 a1_2 (([(⟨a1_0, a1_1, a1_2⟩ : S24)] : List (S24)))).bind fun t107 => ((extent_full.f t107).bind fun bt110 => (some (bt110.1, bt110.2)))) else (some (([] : List (S24)), 4)))) else (some (([] : List (S24)), t102)))
theorem extent_Put.mono : ∀ a0 a1 a2 a3 k, LeO (extent_Put.f k a0 a1 a2 a3) (extent_Put.f (k + 1) a0 a1 a2 a3) := by
 intro a0 a1 a2 a3 k
 unfold extent_Put.f
 repeat' first
  | (with_reducible exact extent_Check.mono _ _)
  | (with_reducible exact LeO.refl _)
  | (with_reducible exact LeO.none _)
  | (with_reducible refine LeO.ite ?_ ?_)
  | (with_reducible refine LeO.bind ?_ (fun _ => ?_))
  | exact extent_Check.mono _ _
  | exact LeO.none _
  | refine LeO.ite ?_ ?_
  | refine LeO.bind ?_ (fun _ => ?_)
set_option maxHeartbeats 8000000 in
set_option maxRecDepth 100000 in
theorem extent_Put.calls (k : Nat) (A0 : Option Addr) (c0 : Nat) (l0 : List (S24)) (a1_0 : Int) (a1_1 : Int) (a1_2 : Int) (r1 : List (S24)) (r2 : Int) (w : World) (hr0 : Kd.C k24 w A0 l0.length l0) (hc0 : l0.length ≤ c0) (h : extent_Put.f k l0 a1_0 a1_1 a1_2 = some (r1, r2)) :
 Calls Try.prog 27 #[.slice A0 l0.length c0, .agg #[.int .i64 a1_0, .int .i64 a1_1, .int .i64 a1_2]] w fun e w' => ∃ v0_ : Value, e = .returned (.tuple #[v0_, .int .i64 r2]) ∧ Kd.R k24 24 w' w.heap.size (fun _ => True) v0_ r1 ∧ Below w.heap.size w w' := by
 have hu24 := Try.underlying24
 have HR0 := Aside0.mk hr0
 have HC0 := Aside0.mk hc0
 clear hr0 hc0
 have HB := Aside0.mk (Below.refl w.heap.size w)
 have H : ((extent_Check.f k l0).bind fun t102 => (if t102 = 0 then ((extent_may.f a1_0 a1_1 a1_2).bind fun t103 => (if t103 = true then ((extent_replaced.f l0 a1_0 a1_2 (([(⟨a1_0, a1_1, a1_2⟩ : S24)] : List (S24)))).bind fun t107 => ((extent_full.f t107).bind fun bt110 => (some (bt110.1, bt110.2)))) else (some (([] : List (S24)), 4)))) else (some (([] : List (S24)), t102)))) = some (r1, r2) := h
 clear h
 replace H := Option.bind_eq_some_iff.mp H
 obtain ⟨t102, A30, H⟩ := H
 replace H : (if t102 = 0 then ((extent_may.f a1_0 a1_1 a1_2).bind fun t103 => (if t103 = true then ((extent_replaced.f l0 a1_0 a1_2 (([(⟨a1_0, a1_1, a1_2⟩ : S24)] : List (S24)))).bind fun t107 => ((extent_full.f t107).bind fun bt110 => (some (bt110.1, bt110.2)))) else (some (([] : List (S24)), 4)))) else (some (([] : List (S24)), t102))) = some (r1, r2) := H
 have A3 := Aside0.mk A30
 clear A30
 by_cases c4 : t102 = 0
 ·rw [if_pos c4] at H
  have c4b0 : (t102 == 0) = true := beq_iff_eq.mpr c4
  have c4b1 : (t102 != 0) = false := bne_eq_false_iff_eq.mpr c4
  clear c4
  replace H := Option.bind_eq_some_iff.mp H
  obtain ⟨t103, A50, H⟩ := H
  replace H : (if t103 = true then ((extent_replaced.f l0 a1_0 a1_2 (([(⟨a1_0, a1_1, a1_2⟩ : S24)] : List (S24)))).bind fun t107 => ((extent_full.f t107).bind fun bt110 => (some (bt110.1, bt110.2)))) else (some (([] : List (S24)), 4))) = some (r1, r2) := H
  have A5 := Aside0.mk A50
  clear A50
  by_cases c6 : t103 = true
  ·subst c6
   have H1 : ((extent_replaced.f l0 a1_0 a1_2 (([(⟨a1_0, a1_1, a1_2⟩ : S24)] : List (S24)))).bind fun t107 => ((extent_full.f t107).bind fun bt110 => (some (bt110.1, bt110.2)))) = some (r1, r2) := by rw [if_pos rfl] at H; exact H
   clear H
   have H := H1
   clear H1
   obtain ⟨y104, hy104⟩ : ∃ y_ : List (S24), y_ = (([(⟨a1_0, a1_1, a1_2⟩ : S24)] : List (S24))) := ⟨_, rfl⟩
   replace H : ((extent_replaced.f l0 a1_0 a1_2 y104).bind fun t107 => ((extent_full.f t107).bind fun bt110 => (some (bt110.1, bt110.2)))) = some (r1, r2) := by first | (rw [hy104]; with_reducible exact H) | (have H2_ := (Option.bind_some _ _).symm.trans H; rw [hy104]; with_reducible exact H2_) | (have H2_ := (Option.bind_some _ _).symm.trans H; with_reducible exact H2_) | with_reducible exact H | (rw [hy104]; exact H) | exact H
   have Ny104 := Aside0.mk hy104
   clear hy104
   replace H := Option.bind_eq_some_iff.mp H
   obtain ⟨t107, A70, H⟩ := H
   replace H : ((extent_full.f t107).bind fun bt110 => (some (bt110.1, bt110.2))) = some (r1, r2) := H
   have A7 := Aside0.mk A70
   clear A70
   replace H := Option.bind_eq_some_iff.mp H
   obtain ⟨⟨t110, t113⟩, A80, H⟩ := H
   replace H : (some (t110, t113)) = some (r1, r2) := H
   have A8 := Aside0.mk A80
   clear A80
   simp only [Option.some.injEq, Prod.mk.injEq] at H
   obtain ⟨rfl, rfl⟩ := H
   go_enter Try.func27, Try.ntmps27
   go_wp2_with (first | ((with_reducible refine gate_dst (N := 3) rfl ?_); refine box_event ?hg (N := 3) ?hd (cs := #[.int .i64 a1_0, .int .i64 a1_1, .int .i64 a1_2]) (t := 24) ?hr ?_; (case hd => rfl); (case hg => rfl); (case hr => first | (go_simp; done) | (go_simp; rfl)); intro gb101 hg w9 hbox hb; have n0_ := Aside0.mk (below_step (by repeat (first | (with_reducible first | exact HB.out | apply below_alloc | apply pw_below_drewN | apply below_drew1) | exact HB.out)) hb); have n1_ := Aside0.mk (hbox); have n2_ := Aside0.mk ((by rw [hg]; exact (below_size (by repeat (first | (with_reducible first | exact HB.out | apply below_alloc | apply pw_below_drewN | apply below_drew1) | exact HB.out))) : w.heap.size ≤ gb101)); have n3_ := Aside0.mk ((by rw [hg]; exact (below_size (by repeat (first | (with_reducible first | exact HB.out | apply below_alloc | apply pw_below_drewN | apply below_drew1) | exact HB.out))) : w.heap.size ≤ gb101)); clear HB; have HB := n0_; have BK101 := n1_; have GW101 := n2_; have GE101 := n3_; clear n0_ n1_ n2_ n3_; clear hb hbox hg) | ((with_reducible refine gate_callee (f := 36) rfl ?_); refine goesL_ (some 8) rfl rfl Try.func36 (by kernel_rfl) rfl #[.slice A0 l0.length c0] rfl (by (try simp only [List.map_toArray, List.map_cons, List.map_nil]); first | done | rfl | (simp only [List.length_drop, List.length_take]; rfl)) ?_; (with_reducible refine (extent_Check.calls k _ _ l0 t102 _ ?side1 ?side2 A3.out).mono ?_); (case side1 => repeat (first | exact (Kd.C_below HR0.out HB.out) | (with_reducible refine Kd.C_alloc ?_ _) | (with_reducible refine Kd.C_drewN ?_ _) | (with_reducible refine Kd.C_drew ?_))); (case side2 => exact HC0.out); rintro e w10 ⟨rfl, hb⟩; refine ⟨_, rfl, ?_⟩; have n0_ := Aside0.mk (blk_below (g := gb101) (o := .cells #[.int .i64 a1_0, .int .i64 a1_1, .int .i64 a1_2] 24 (0, 0)) (by (with_reducible repeat (first | refine blk_drewN ?_ _ | refine blk_drew ?_ | refine blk_alloc ?_ _)); exact BK101.out) hb); have n1_ := Aside0.mk (below_step (by repeat (first | (with_reducible first | exact HB.out | apply below_alloc | apply pw_below_drewN | apply below_drew1 | refine below_set ?_ GE101.out) | exact HB.out)) hb); clear BK101; clear HB; have BK101 := n0_; have HB := n1_; clear n0_ n1_; (try clear hb); (try clear hb2); (try clear hk); (try clear hi); have hcz11_0 : w10.cell? ⟨gb101, 0, none⟩ = some (.int .i64 a1_0) := (blk_cell BK101.out 0).trans rfl; have hcz11_1 : w10.cell? ⟨gb101, 1, none⟩ = some (.int .i64 a1_1) := (blk_cell BK101.out 1).trans rfl; have hcz11_2 : w10.cell? ⟨gb101, 2, none⟩ = some (.int .i64 a1_2) := (blk_cell BK101.out 2).trans rfl; have hfz11_0 := blk_frozen BK101.out 0; have hfz11_1 := blk_frozen BK101.out 1; have hfz11_2 := blk_frozen BK101.out 2) | ((with_reducible refine gate_callee (f := 86) rfl ?_); refine goesL_ (some 13) rfl rfl Try.func86 (by kernel_rfl) rfl #[.agg #[.int .i64 a1_0, .int .i64 a1_1, .int .i64 a1_2]] rfl (by (try simp only [List.map_toArray, List.map_cons, List.map_nil]); first | done | rfl | (simp only [List.length_drop, List.length_take]; rfl)) ?_; (with_reducible refine (extent_may.calls a1_0 a1_1 a1_2 true _ A5.out).mono ?_); rintro e w12 ⟨rfl, hb⟩; refine ⟨_, rfl, ?_⟩; have n0_ := Aside0.mk (blk_below (g := gb101) (o := .cells #[.int .i64 a1_0, .int .i64 a1_1, .int .i64 a1_2] 24 (0, 0)) (by (with_reducible repeat (first | refine blk_drewN ?_ _ | refine blk_drew ?_ | refine blk_alloc ?_ _)); exact BK101.out) hb); have n1_ := Aside0.mk (below_step (by repeat (first | (with_reducible first | exact HB.out | apply below_alloc | apply pw_below_drewN | apply below_drew1 | refine below_set ?_ GE101.out) | exact HB.out)) hb); clear BK101; clear HB; have BK101 := n0_; have HB := n1_; clear n0_ n1_; (try clear hb); (try clear hb2); (try clear hk); (try clear hi); have hcz13_0 : w12.cell? ⟨gb101, 0, none⟩ = some (.int .i64 a1_0) := (blk_cell BK101.out 0).trans rfl; have hcz13_1 : w12.cell? ⟨gb101, 1, none⟩ = some (.int .i64 a1_1) := (blk_cell BK101.out 1).trans rfl; have hcz13_2 : w12.cell? ⟨gb101, 2, none⟩ = some (.int .i64 a1_2) := (blk_cell BK101.out 2).trans rfl; have hfz13_0 := blk_frozen BK101.out 0; have hfz13_1 := blk_frozen BK101.out 1; have hfz13_2 := blk_frozen BK101.out 2) | ((with_reducible refine gate_dst (N := 21) rfl ?_); refine Kd.R_lit k24 _ 24 ?hg (N := 21) ?hd (xs := ([(⟨a1_0, a1_1, a1_2⟩ : S24)] : List (S24))) (inner := [.int .i64 a1_0, .int .i64 a1_1, .int .i64 a1_2]) (ok := fun _ => True) (okp := fun _ => True) ?hr ?hp (fun _ hk => hk) trivial (Below.refl _ _) (Nat.le_refl _) (by simp) ?_; (case hd => rfl); (case hg => rfl); (case hr => first | (go_simp; done) | (go_simp; rfl)); (case hp => exact (Reps.c3 (show Kd.M k24 _ _ _ (⟨a1_0, a1_1, a1_2⟩ : S24) [.int .i64 a1_0, .int .i64 a1_1, .int .i64 a1_2] from (k24_mkM _ _ _ (⟨a1_0, a1_1, a1_2⟩ : S24) )) (Reps.none _ _))); intro v105 w14 ho15 hb hg_ hnew_; clear hg_ hnew_; (first | rw [← Ny104.out] at ho15 | (simp only [Int.reduceToNat] at ho15; rw [← Ny104.out] at ho15)); have n0_ := Aside0.mk (Kd.R_lower (Kd.R_newB ho15 (g := gb101) (o := .cells #[.int .i64 a1_0, .int .i64 a1_1, .int .i64 a1_2] 24 (0, 0)) (by (with_reducible repeat (first | refine blk_drewN ?_ _ | refine blk_drew ?_ | refine blk_alloc ?_ _)); exact BK101.out)) (below_size (by repeat (first | (with_reducible first | exact HB.out | apply below_alloc | apply pw_below_drewN | apply below_drew1 | refine below_set ?_ GE101.out) | exact HB.out)))); have n1_ := Aside0.mk (blk_below (g := gb101) (o := .cells #[.int .i64 a1_0, .int .i64 a1_1, .int .i64 a1_2] 24 (0, 0)) (by (with_reducible repeat (first | refine blk_drewN ?_ _ | refine blk_drew ?_ | refine blk_alloc ?_ _)); exact BK101.out) hb); have n2_ := Aside0.mk (below_step (by repeat (first | (with_reducible first | exact HB.out | apply below_alloc | apply pw_below_drewN | apply below_drew1 | refine below_set ?_ GE101.out) | exact HB.out)) hb); clear BK101; clear HB; have HO106 := n0_; have BK101 := n1_; have HB := n2_; clear n0_ n1_ n2_; clear hb ho15; obtain ⟨Ao16, co16, eo16⟩ := Kd.R_slice HO106.out; subst eo16) | ((with_reducible refine gate_callee (f := 88) rfl ?_); refine goesL_ (some 22) rfl rfl Try.func88 (by kernel_rfl) rfl #[.slice A0 l0.length c0, .int .i64 a1_0, .int .i64 a1_2, .slice Ao16 y104.length co16] rfl (by (try simp only [List.map_toArray, List.map_cons, List.map_nil]); first | done | rfl | (simp only [List.length_drop, List.length_take]; rfl)) ?_; (with_reducible refine (extent_replaced.calls _ _ l0 a1_0 a1_2 _ _ y104 t107 _ ?side1 ?side2 ?side3 ?side4 A7.out).mono ?_); (case side1 => repeat (first | exact (Kd.C_below HR0.out HB.out) | (with_reducible refine Kd.C_alloc ?_ _) | (with_reducible refine Kd.C_drewN ?_ _) | (with_reducible refine Kd.C_drew ?_))); (case side2 => exact HC0.out); (case side3 => repeat (first | exact (Kd.R_reads' HO106.out).2.2 | (with_reducible refine Kd.C_alloc ?_ _) | (with_reducible refine Kd.C_drewN ?_ _) | (with_reducible refine Kd.C_drew ?_))); (case side4 => exact (Kd.R_reads' HO106.out).2.1); rintro e w17 ⟨v108, rfl, ho0, hb⟩; refine ⟨_, rfl, ?_⟩; have n0_ := Aside0.mk (Kd.R_elder' (by (with_reducible repeat (first | apply Kd.R_alloc | apply Kd.R_drewN | apply Kd.R_drew)); exact HO106.out) (Kd.R_base ho0) hb); have n1_ := Aside0.mk (Kd.R_lower (Kd.R_newB (Kd.R_new' ho0 (Kd.R_lt (by (with_reducible repeat (first | apply Kd.R_alloc | apply Kd.R_drewN | apply Kd.R_drew)); exact HO106.out))) (g := gb101) (o := .cells #[.int .i64 a1_0, .int .i64 a1_1, .int .i64 a1_2] 24 (0, 0)) (by (with_reducible repeat (first | refine blk_drewN ?_ _ | refine blk_drew ?_ | refine blk_alloc ?_ _)); exact BK101.out)) (below_size (by repeat (first | (with_reducible first | exact HB.out | apply below_alloc | apply pw_below_drewN | apply below_drew1 | refine below_set ?_ GE101.out) | exact HB.out)))); have n2_ := Aside0.mk (blk_below (g := gb101) (o := .cells #[.int .i64 a1_0, .int .i64 a1_1, .int .i64 a1_2] 24 (0, 0)) (by (with_reducible repeat (first | refine blk_drewN ?_ _ | refine blk_drew ?_ | refine blk_alloc ?_ _)); exact BK101.out) hb); have n3_ := Aside0.mk (below_step (by repeat (first | (with_reducible first | exact HB.out | apply below_alloc | apply pw_below_drewN | apply below_drew1 | refine below_set ?_ GE101.out) | exact HB.out)) hb); clear HO106; clear BK101; clear HB; have HO106 := n0_; have HO109 := n1_; have BK101 := n2_; have HB := n3_; clear n0_ n1_ n2_ n3_; (try clear hb); (try clear hb2); (try clear hk); (try clear hi); (try clear ho0); obtain ⟨Ao18, co18, eo18⟩ := Kd.R_slice HO109.out; subst eo18) | ((with_reducible refine gate_callee (f := 87) rfl ?_); refine goesL_ (some 23) rfl rfl Try.func87 (by kernel_rfl) rfl #[.slice Ao18 t107.length co18] rfl (by (try simp only [List.map_toArray, List.map_cons, List.map_nil]); first | done | rfl | (simp only [List.length_drop, List.length_take]; rfl)) ?_; (with_reducible refine (extent_full.calls (fun k_ => some k_ = (.slice Ao18 t107.length co18 : Value).ownBlock) (.slice Ao18 t107.length co18) t107 t110 t113 w _ ?side1 ?side2 A8.out).mono ?_); (case side1 => repeat (first | (with_reducible first | exact HB.out | apply below_alloc | apply pw_below_drewN | apply below_drew1 | refine below_set ?_ GE101.out) | exact HB.out)); (case side2 => exact Kd.R_tight rfl HO109.out); rintro e w19 ⟨v111, rfl, ho0, hb, hkp⟩; refine ⟨_, rfl, ?_⟩; have n0_ := Aside0.mk (blk_kept (by (with_reducible repeat (first | refine blk_drewN ?_ _ | refine blk_drew ?_ | refine blk_alloc ?_ _)); exact BK101.out) hkp (fun hs_ => (fun e_ => (Kd.R_away HO109.out (fun _ hk => hk.2)) e_) hs_)); have n1_ := Aside0.mk (Kd.R_mono (ok' := fun k_ => k_ ≠ gb101 ∧ some k_ ≠ (v111 : Value).ownBlock) (Kd.R_keptB (HO106.out) hkp (fun k_ hk_ hs_ => (hk_.2) hs_)) (fun k_ hk_ => ⟨hk_.1.1.2, fun e_ => Or.elim (ho0.1 k_ e_.symm) (fun hs_ => hk_.2.1 hs_) (fun hn_ => Nat.not_le.2 hk_.2.2 hn_)⟩)); have n2_ := Aside0.mk (Kd.R_mono (ok' := fun k_ => some k_ ≠ (.slice Ao16 y104.length co16 : Value).ownBlock ∧ k_ ≠ gb101) ho0 (fun k_ hk_ => ⟨Or.elim hk_ (fun hs_ => fun e_ => (((HO106.out).1 k_ e_.symm).2) hs_) (fun hn_ => (Kd.fresh' (Kd.R_lt (by (with_reducible repeat (first | apply Kd.R_alloc | apply Kd.R_drewN | apply Kd.R_drew)); exact HO106.out)) k_ hn_)), Or.elim hk_ (fun hs_ => fun e_ => (Kd.R_away HO109.out (fun _ hk => hk.2)) (by rw [← e_]; exact hs_)) (fun hn_ => (Kd.freshB (g := gb101) (o := .cells #[.int .i64 a1_0, .int .i64 a1_1, .int .i64 a1_2] 24 (0, 0)) (by (with_reducible repeat (first | refine blk_drewN ?_ _ | refine blk_drew ?_ | refine blk_alloc ?_ _)); exact BK101.out) k_ hn_))⟩)); have n3_ := Aside0.mk (hb); clear BK101; clear HO106; clear HB; clear HO109; have BK101 := n0_; have HO106 := n1_; have HO112 := n2_; have HB := n3_; clear n0_ n1_ n2_ n3_; (try clear hb); (try clear hkp); (try clear ho0)))
   go_ret2
   exact ⟨_, by first | rfl | (simp [errW_none, errW_some] <;> rfl) | (simp [*, errW_none, errW_some] <;> rfl), by (with_reducible repeat (first | apply Kd.R_alloc | apply Kd.R_drewN | apply Kd.R_drew)); exact Kd.R_mono HO112.out (fun _ hk => trivial), by repeat (first | (with_reducible first | exact HB.out | apply below_alloc | apply pw_below_drewN | apply below_drew1 | refine below_set ?_ GE101.out) | exact HB.out)⟩
  ·replace c6 := Bool.eq_false_iff.mpr c6
   subst c6
   have H1 : (some (([] : List (S24)), 4)) = some (r1, r2) := by rw [if_neg (show ¬ (false = true) by decide)] at H; exact H
   clear H
   have H := H1
   clear H1
   simp only [Option.some.injEq, Prod.mk.injEq] at H
   obtain ⟨rfl, rfl⟩ := H
   go_enter Try.func27, Try.ntmps27
   go_wp2_with (first | ((with_reducible refine gate_dst (N := 3) rfl ?_); refine box_event ?hg (N := 3) ?hd (cs := #[.int .i64 a1_0, .int .i64 a1_1, .int .i64 a1_2]) (t := 24) ?hr ?_; (case hd => rfl); (case hg => rfl); (case hr => first | (go_simp; done) | (go_simp; rfl)); intro gb101 hg w20 hbox hb; have n0_ := Aside0.mk (below_step (by repeat (first | (with_reducible first | exact HB.out | apply below_alloc | apply pw_below_drewN | apply below_drew1) | exact HB.out)) hb); have n1_ := Aside0.mk (hbox); have n2_ := Aside0.mk ((by rw [hg]; exact (below_size (by repeat (first | (with_reducible first | exact HB.out | apply below_alloc | apply pw_below_drewN | apply below_drew1) | exact HB.out))) : w.heap.size ≤ gb101)); have n3_ := Aside0.mk ((by rw [hg]; exact (below_size (by repeat (first | (with_reducible first | exact HB.out | apply below_alloc | apply pw_below_drewN | apply below_drew1) | exact HB.out))) : w.heap.size ≤ gb101)); clear HB; have HB := n0_; have BK101 := n1_; have GW101 := n2_; have GE101 := n3_; clear n0_ n1_ n2_ n3_; clear hb hbox hg) | ((with_reducible refine gate_callee (f := 36) rfl ?_); refine goesL_ (some 8) rfl rfl Try.func36 (by kernel_rfl) rfl #[.slice A0 l0.length c0] rfl (by (try simp only [List.map_toArray, List.map_cons, List.map_nil]); first | done | rfl | (simp only [List.length_drop, List.length_take]; rfl)) ?_; (with_reducible refine (extent_Check.calls k _ _ l0 t102 _ ?side1 ?side2 A3.out).mono ?_); (case side1 => repeat (first | exact (Kd.C_below HR0.out HB.out) | (with_reducible refine Kd.C_alloc ?_ _) | (with_reducible refine Kd.C_drewN ?_ _) | (with_reducible refine Kd.C_drew ?_))); (case side2 => exact HC0.out); rintro e w21 ⟨rfl, hb⟩; refine ⟨_, rfl, ?_⟩; have n0_ := Aside0.mk (blk_below (g := gb101) (o := .cells #[.int .i64 a1_0, .int .i64 a1_1, .int .i64 a1_2] 24 (0, 0)) (by (with_reducible repeat (first | refine blk_drewN ?_ _ | refine blk_drew ?_ | refine blk_alloc ?_ _)); exact BK101.out) hb); have n1_ := Aside0.mk (below_step (by repeat (first | (with_reducible first | exact HB.out | apply below_alloc | apply pw_below_drewN | apply below_drew1 | refine below_set ?_ GE101.out) | exact HB.out)) hb); clear BK101; clear HB; have BK101 := n0_; have HB := n1_; clear n0_ n1_; (try clear hb); (try clear hb2); (try clear hk); (try clear hi); have hcz22_0 : w21.cell? ⟨gb101, 0, none⟩ = some (.int .i64 a1_0) := (blk_cell BK101.out 0).trans rfl; have hcz22_1 : w21.cell? ⟨gb101, 1, none⟩ = some (.int .i64 a1_1) := (blk_cell BK101.out 1).trans rfl; have hcz22_2 : w21.cell? ⟨gb101, 2, none⟩ = some (.int .i64 a1_2) := (blk_cell BK101.out 2).trans rfl; have hfz22_0 := blk_frozen BK101.out 0; have hfz22_1 := blk_frozen BK101.out 1; have hfz22_2 := blk_frozen BK101.out 2) | ((with_reducible refine gate_callee (f := 86) rfl ?_); refine goesL_ (some 13) rfl rfl Try.func86 (by kernel_rfl) rfl #[.agg #[.int .i64 a1_0, .int .i64 a1_1, .int .i64 a1_2]] rfl (by (try simp only [List.map_toArray, List.map_cons, List.map_nil]); first | done | rfl | (simp only [List.length_drop, List.length_take]; rfl)) ?_; (with_reducible refine (extent_may.calls a1_0 a1_1 a1_2 false _ A5.out).mono ?_); rintro e w23 ⟨rfl, hb⟩; refine ⟨_, rfl, ?_⟩; have n0_ := Aside0.mk (blk_below (g := gb101) (o := .cells #[.int .i64 a1_0, .int .i64 a1_1, .int .i64 a1_2] 24 (0, 0)) (by (with_reducible repeat (first | refine blk_drewN ?_ _ | refine blk_drew ?_ | refine blk_alloc ?_ _)); exact BK101.out) hb); have n1_ := Aside0.mk (below_step (by repeat (first | (with_reducible first | exact HB.out | apply below_alloc | apply pw_below_drewN | apply below_drew1 | refine below_set ?_ GE101.out) | exact HB.out)) hb); clear BK101; clear HB; have BK101 := n0_; have HB := n1_; clear n0_ n1_; (try clear hb); (try clear hb2); (try clear hk); (try clear hi)))
   go_ret2
   exact ⟨_, by first | rfl | (simp [errW_none, errW_some] <;> rfl) | (simp [*, errW_none, errW_some] <;> rfl), by first | exact Kd.R_nil _ _ _ _ _ | exact Kd.N_nil _ _ _ _ _ | exact Kd.V_nil _ _ _ _ _ | exact Kd.Q_nil _ _ _ _ _ | exact Kd.S_nil _ _ _ _ _, by repeat (first | (with_reducible first | exact HB.out | apply below_alloc | apply pw_below_drewN | apply below_drew1 | refine below_set ?_ GE101.out) | exact HB.out)⟩
 ·rw [if_neg c4] at H
  have c4b0 : (t102 == 0) = false := beq_eq_false_iff_ne.mpr c4
  have c4b1 : (t102 != 0) = true := bne_iff_ne.mpr c4
  simp only [Option.some.injEq, Prod.mk.injEq] at H
  obtain ⟨rfl, rfl⟩ := H
  go_enter Try.func27, Try.ntmps27
  go_wp2_with (first | ((with_reducible refine gate_dst (N := 3) rfl ?_); refine box_event ?hg (N := 3) ?hd (cs := #[.int .i64 a1_0, .int .i64 a1_1, .int .i64 a1_2]) (t := 24) ?hr ?_; (case hd => rfl); (case hg => rfl); (case hr => first | (go_simp; done) | (go_simp; rfl)); intro gb101 hg w24 hbox hb; have n0_ := Aside0.mk (below_step (by repeat (first | (with_reducible first | exact HB.out | apply below_alloc | apply pw_below_drewN | apply below_drew1) | exact HB.out)) hb); have n1_ := Aside0.mk (hbox); have n2_ := Aside0.mk ((by rw [hg]; exact (below_size (by repeat (first | (with_reducible first | exact HB.out | apply below_alloc | apply pw_below_drewN | apply below_drew1) | exact HB.out))) : w.heap.size ≤ gb101)); have n3_ := Aside0.mk ((by rw [hg]; exact (below_size (by repeat (first | (with_reducible first | exact HB.out | apply below_alloc | apply pw_below_drewN | apply below_drew1) | exact HB.out))) : w.heap.size ≤ gb101)); clear HB; have HB := n0_; have BK101 := n1_; have GW101 := n2_; have GE101 := n3_; clear n0_ n1_ n2_ n3_; clear hb hbox hg) | ((with_reducible refine gate_callee (f := 36) rfl ?_); refine goesL_ (some 8) rfl rfl Try.func36 (by kernel_rfl) rfl #[.slice A0 l0.length c0] rfl (by (try simp only [List.map_toArray, List.map_cons, List.map_nil]); first | done | rfl | (simp only [List.length_drop, List.length_take]; rfl)) ?_; (with_reducible refine (extent_Check.calls k _ _ l0 t102 _ ?side1 ?side2 A3.out).mono ?_); (case side1 => repeat (first | exact (Kd.C_below HR0.out HB.out) | (with_reducible refine Kd.C_alloc ?_ _) | (with_reducible refine Kd.C_drewN ?_ _) | (with_reducible refine Kd.C_drew ?_))); (case side2 => exact HC0.out); rintro e w25 ⟨rfl, hb⟩; refine ⟨_, rfl, ?_⟩; have n0_ := Aside0.mk (blk_below (g := gb101) (o := .cells #[.int .i64 a1_0, .int .i64 a1_1, .int .i64 a1_2] 24 (0, 0)) (by (with_reducible repeat (first | refine blk_drewN ?_ _ | refine blk_drew ?_ | refine blk_alloc ?_ _)); exact BK101.out) hb); have n1_ := Aside0.mk (below_step (by repeat (first | (with_reducible first | exact HB.out | apply below_alloc | apply pw_below_drewN | apply below_drew1 | refine below_set ?_ GE101.out) | exact HB.out)) hb); clear BK101; clear HB; have BK101 := n0_; have HB := n1_; clear n0_ n1_; (try clear hb); (try clear hb2); (try clear hk); (try clear hi)))
  go_ret2
  exact ⟨_, by first | rfl | (simp [errW_none, errW_some] <;> rfl) | (simp [*, errW_none, errW_some] <;> rfl), by first | exact Kd.R_nil _ _ _ _ _ | exact Kd.N_nil _ _ _ _ _ | exact Kd.V_nil _ _ _ _ _ | exact Kd.Q_nil _ _ _ _ _ | exact Kd.S_nil _ _ _ _ _, by repeat (first | (with_reducible first | exact HB.out | apply below_alloc | apply pw_below_drewN | apply below_drew1 | refine below_set ?_ GE101.out) | exact HB.out)⟩
theorem repl_x {l : List S24} {v n : Int} {by_ : List S24} (h : l.length ≤ 1024) (hb : by_.length ≤ 1024) : extent_replaced.f l v n by_ = some (replG l v n by_) := by
  unfold extent_replaced.f; rw [if_pos ⟨h, hb⟩]
def putS (l : List S24) (x : S24) : List S24 × Int :=
  if Flag.checkE (l.map toE) = 0 then (if Flag.mayE (toE x) = true then fullS (replG l x.f0 x.f2 [x]) else ([], 4)) else ([], 9)
theorem put_x {l : List S24} {x : S24} {k : Nat} (hk : l.length < k) : extent_Put.f k l x.f0 x.f1 x.f2 = some (putS l x) := by
  unfold extent_Put.f putS
  rw [check_x l hk, Option.bind_some, may_x]
  have e : (⟨x.f0, x.f1, x.f2⟩ : Flag.Ex) = toE x := rfl
  rw [e, Option.bind_some]
  rcases Flag.checkE_or (l.map toE) with h | h
  · have hm := Flag.checkE_ok.1 h
    have hl : l.length ≤ 1024 := by have := hm.len; simpa using this
    rw [if_pos h, if_pos h]
    by_cases h1 : Flag.mayE (toE x) = true
    · rw [if_pos h1, if_pos h1, repl_x hl (by simp), Option.bind_some, full_x, Option.bind_some]
      rfl
    · rw [if_neg h1, if_neg h1]
  · rw [h]; rfl
theorem replG_look {l : List S24} {v n : Int} {by_ : List S24} (hm : Flag.Map5 (l.map toE)) (hv : 0 ≤ v) (hn : 0 ≤ n) (he : v + n ≤ 65536) (hb : ∀ y ∈ by_, y.f2 ≤ 0 ∨ InM y)
    (hr : Flag.Rising (by_.map toE)) (hin : ∀ x ∈ by_.map toE, v ≤ x.v ∧ x.v + x.n ≤ v + n) :
    Flag.NF ((replG l v n by_).map toE) ∧ ∀ i, Flag.lookE ((replG l v n by_).map toE) i = if v ≤ i ∧ i < v + n then Flag.lookE (by_.map toE) i else Flag.lookE (l.map toE) i := by
  obtain ⟨h1, h2⟩ := replG_put hm hv hn he hb
  rw [h1]
  exact Flag.put3_spec hm (by omega) hr hin
theorem look_one (x : Flag.Ex) (i : Int) : Flag.lookE [x] i = if x.v ≤ i ∧ i < x.v + x.n then some (Flag.valAt x i) else none := rfl
theorem replG_one {l : List S24} {x : S24} (hm : Flag.Map5 (l.map toE)) (hx : Flag.okMap (toE x)) :
    Flag.NF ((replG l x.f0 x.f2 [x]).map toE) ∧ ∀ i, Flag.lookE ((replG l x.f0 x.f2 [x]).map toE) i = if x.f0 ≤ i ∧ i < x.f0 + x.f2 then some (Flag.valAt (toE x) i) else Flag.lookE (l.map toE) i := by
  have hin := okIn hx
  obtain ⟨h1, h2, h3, h4, h5⟩ := hx
  simp only [toE] at h1 h2 h3 h4 h5
  obtain ⟨g1, g2⟩ := replG_look (by_ := [x]) hm h2 (by omega) h3 (fun y hy => by
    have : y = x := by simpa using hy
    rw [this]; exact .inr hin) ⟨fun _ y hy => (by cases hy), trivial⟩ (fun y hy => by
    have : y = toE x := by simpa using hy
    rw [this]; exact ⟨Int.le_refl _, Int.le_refl _⟩)
  refine ⟨g1, fun i => ?_⟩
  rw [g2]
  split
  · rename_i h
    exact (look_one (toE x) i).trans (if_pos h)
  · rfl
theorem eqA24 (d : Nat) (w : World) (x0 y0 : Int) (x1 y1 : Int) (x2 y2 : Int) :
    (Op.equalIn (d + 2) 24 (.agg #[.int .i64 x0, .int .i64 x1, .int .i64 x2]) (.agg #[.int .i64 y0, .int .i64 y1, .int .i64 y2])).run Try.prog w = .ok (x0 == y0 && (x1 == y1 && (x2 == y2))) w := by
  refine eqA_of Try.underlying24 (by kernel_rfl) ?_
  refine eqf_cons (by rfl) (by go_simp; rfl) (by go_simp; rfl) (by go_simp) ?_
  refine eqf_cons (by rfl) (by go_simp; rfl) (by go_simp; rfl) (by go_simp) ?_
  exact eqf_last (by rfl) (by go_simp; rfl) (by go_simp; rfl) (by go_simp)
end Go.Proofs.Ytkkfkdncddbaeaa.Fn
namespace Go.Proofs.Ytkkfkdncddbaeaa.Fn
open Go.RowKit Go.Proofs.YtkkfkdncddbaeaaW.PrintWords Go.Proofs.YtkkfkdncddbaeaaW.PrintLast Go.Proofs.YtkkfkdncddbaeaaW.PrintMore
attribute [local go_sem] max2_int min2_int max_two min_two max_three min_three max_four min_four
set_option linter.unusedVariables false
set_option linter.unusedSimpArgs false
attribute [local go_sem high] eqA24
def flagstoneplain_SameExtents.l0 : Nat → List (S24) → List (S24) → Int → Option (Bool)
 | 0, _, _, _ => none
 | k + 1, x0, x1, x5 => if x5 < (x0.length : Int) then (if 0 ≤ x5 then (if x5 < (x1.length : Int) then (if (!(((rd_T24 x0 x5).f0) == ((rd_T24 x1 x5).f0)) || (!(((rd_T24 x0 x5).f1) == ((rd_T24 x1 x5).f1)) || (!(((rd_T24 x0 x5).f2) == ((rd_T24 x1 x5).f2))))) = true then (some false) else (flagstoneplain_SameExtents.l0 k x0 x1 (wrap64 (x5 + 1)))) else (none)) else (none)) else (some true)
def flagstoneplain_SameExtents.f (k : Nat) (l0 : List (S24)) (l1 : List (S24)) : Option (Bool) := if (l0.length : Int) = (l1.length : Int) then (flagstoneplain_SameExtents.l0 k l0 l1 0) else (some false)
theorem flagstoneplain_SameExtents.mono_l : ∀ k, (∀ y0 y1 y2, LeO (flagstoneplain_SameExtents.l0 k y0 y1 y2) (flagstoneplain_SameExtents.l0 (k + 1) y0 y1 y2))
 | 0 => fun _ _ _ r h => by simp [flagstoneplain_SameExtents.l0] at h
 | k + 1 => by
  have ih0 := flagstoneplain_SameExtents.mono_l k
  ·intro y0 y1 y2
   unfold flagstoneplain_SameExtents.l0
   repeat' first
   | (with_reducible exact ih0 _ _ _)
   | (with_reducible exact LeO.refl _)
   | (with_reducible exact LeO.none _)
   | (with_reducible refine LeO.ite ?_ ?_)
   | (with_reducible refine LeO.bind ?_ (fun _ => ?_))
   | exact ih0 _ _ _
   | exact LeO.none _
   | refine LeO.ite ?_ ?_
   | refine LeO.bind ?_ (fun _ => ?_)
theorem flagstoneplain_SameExtents.mono : ∀ a0 a1 k, LeO (flagstoneplain_SameExtents.f k a0 a1) (flagstoneplain_SameExtents.f (k + 1) a0 a1) := by
 intro a0 a1 k
 have ih0 := flagstoneplain_SameExtents.mono_l k
 unfold flagstoneplain_SameExtents.f
 repeat' first
  | (with_reducible exact ih0 _ _ _)
  | (with_reducible exact LeO.refl _)
  | (with_reducible exact LeO.none _)
  | (with_reducible refine LeO.ite ?_ ?_)
  | (with_reducible refine LeO.bind ?_ (fun _ => ?_))
  | exact ih0 _ _ _
  | exact LeO.none _
  | refine LeO.ite ?_ ?_
  | refine LeO.bind ?_ (fun _ => ?_)
set_option maxHeartbeats 8000000 in
set_option maxRecDepth 100000 in
theorem flagstoneplain_SameExtents.calls (k : Nat) (A0 : Option Addr) (c0 : Nat) (l0 : List (S24)) (A1 : Option Addr) (c1 : Nat) (l1 : List (S24)) (r : Bool) (w : World) (hr0 : Kd.C k24 w A0 l0.length l0) (hc0 : l0.length ≤ c0) (hr1 : Kd.C k24 w A1 l1.length l1) (hc1 : l1.length ≤ c1) (h : flagstoneplain_SameExtents.f k l0 l1 = some r) :
 Calls Try.prog 32 #[.slice A0 l0.length c0, .slice A1 l1.length c1] w fun e w' => e = .returned (.bool r) ∧ Drawn0 w w' := by
 have hu24 := Try.underlying24
 have HR0 := Aside0.mk hr0
 have HC0 := Aside0.mk hc0
 clear hr0 hc0
 have HR1 := Aside0.mk hr1
 have HC1 := Aside0.mk hc1
 clear hr1 hc1
 have H : (if (l0.length : Int) = (l1.length : Int) then (flagstoneplain_SameExtents.l0 k l0 l1 0) else (some false)) = some r := h
 clear h
 by_cases c3 : (l0.length : Int) = (l1.length : Int)
 ·rw [if_pos c3] at H
  have c3b0 : ((l0.length : Int) == (l1.length : Int)) = true := beq_iff_eq.mpr c3
  have c3b1 : ((l0.length : Int) != (l1.length : Int)) = false := bne_eq_false_iff_eq.mpr c3
  have c3b2 : (l0.length == l1.length) = true := by first | simpa using c3 | (simp at c3 ⊢; omega)
  clear c3
  have H' := Aside0.mk H
  clear H
  go_enter Try.func32, Try.ntmps32
  go_wp2
  repeat (go_quiet (fail); try go_wp2)
  go_loopg [5] k (fun kq v5 w' => ∃ (x5_1 : Int), v5 = .int .i64 x5_1 ∧ Aside0 (flagstoneplain_SameExtents.l0 kq l0 l1 x5_1 = some r) ∧ Aside0 (kq ≤ k) ∧ Drawn0 w w')
  case atStart => exact ⟨(0), (by first | rfl | (simp; done) | (simp [*]; done)), H', ⟨Nat.le_refl _⟩, by repeat (first | exact Drawn0.refl _ | apply Drawn0.step)⟩
  case round =>
   clear H'
   try clear c1
   try clear p2
   try clear c3
   try clear c3b0
   try clear c3b1
   try clear c3b2
   obtain ⟨x5_1, rfl, HA, HK1, ⟨m1, rfl⟩⟩ := hrel
   cases gk with
   | zero => exact absurd HA.out (by simp [flagstoneplain_SameExtents.l0])
   | succ k1 =>
    have H := HA.out
    clear HA
    simp only [flagstoneplain_SameExtents.l0] at H
    by_cases c4 : x5_1 < (l0.length : Int)
    ·rw [if_pos c4] at H
     have c4b0 : decide (x5_1 < (l0.length : Int)) = true := decide_eq_true c4
     clear c4
     by_cases c5 : 0 ≤ x5_1
     ·rw [if_pos c5] at H
      have c5b0 : decide (0 ≤ x5_1) = true := decide_eq_true c5
      clear c5
      by_cases c6 : x5_1 < (l1.length : Int)
      ·rw [if_pos c6] at H
       have c6b0 : decide (x5_1 < (l1.length : Int)) = true := decide_eq_true c6
       clear c6
       by_cases c7 : (!(((rd_T24 l0 x5_1).f0) == ((rd_T24 l1 x5_1).f0)) || (!(((rd_T24 l0 x5_1).f1) == ((rd_T24 l1 x5_1).f1)) || (!(((rd_T24 l0 x5_1).f2) == ((rd_T24 l1 x5_1).f2))))) = true
       ·rw [if_pos c7] at H
        have c7b0 : (!(((rd_T24 l0 x5_1).f0) == ((rd_T24 l1 x5_1).f0)) || (!(((rd_T24 l0 x5_1).f1) == ((rd_T24 l1 x5_1).f1)) || (!(((rd_T24 l0 x5_1).f2) == ((rd_T24 l1 x5_1).f2))))) = true := c7
        clear c7
        obtain rfl := Option.some.inj H
        have p101 : 0 ≤ (x5_1 : Int) := of_decide_eq_true (by first | (with_reducible assumption) | assumption)
        have q101 : x5_1 < (l0.length : Int) := of_decide_eq_true (by first | (with_reducible assumption) | assumption)
        obtain ⟨ad101, e101, hx101_0, hx101_1, hx101_2⟩ := at_T24 HR0.out x5_1 p101 q101
        cases e101
        replace p101 := eq_true p101
        replace q101 := eq_true q101
        have p102 : 0 ≤ (x5_1 : Int) := of_decide_eq_true (by first | (with_reducible assumption) | assumption)
        have q102 : x5_1 < (l1.length : Int) := of_decide_eq_true (by first | (with_reducible assumption) | assumption)
        obtain ⟨ad102, e102, hx102_0, hx102_1, hx102_2⟩ := at_T24 HR1.out x5_1 p102 q102
        cases e102
        replace p102 := eq_true p102
        replace q102 := eq_true q102
        go_wp2
        repeat (go_quiet (fail); try go_wp2)
        go_ret
        exact ⟨by first | rfl | (simp; done) | (simp [*]; done), by repeat (first | exact Drawn0.refl _ | apply Drawn0.step)⟩
       ·rw [if_neg c7] at H
        have c7b0 : (!(((rd_T24 l0 x5_1).f0) == ((rd_T24 l1 x5_1).f0)) || (!(((rd_T24 l0 x5_1).f1) == ((rd_T24 l1 x5_1).f1)) || (!(((rd_T24 l0 x5_1).f2) == ((rd_T24 l1 x5_1).f2))))) = false := by simpa using c7
        clear c7
        have H' := Aside0.mk H
        clear H
        have p101 : 0 ≤ (x5_1 : Int) := of_decide_eq_true (by first | (with_reducible assumption) | assumption)
        have q101 : x5_1 < (l0.length : Int) := of_decide_eq_true (by first | (with_reducible assumption) | assumption)
        obtain ⟨ad101, e101, hx101_0, hx101_1, hx101_2⟩ := at_T24 HR0.out x5_1 p101 q101
        cases e101
        replace p101 := eq_true p101
        replace q101 := eq_true q101
        have p102 : 0 ≤ (x5_1 : Int) := of_decide_eq_true (by first | (with_reducible assumption) | assumption)
        have q102 : x5_1 < (l1.length : Int) := of_decide_eq_true (by first | (with_reducible assumption) | assumption)
        obtain ⟨ad102, e102, hx102_0, hx102_1, hx102_2⟩ := at_T24 HR1.out x5_1 p102 q102
        cases e102
        replace p102 := eq_true p102
        replace q102 := eq_true q102
        go_wp2
        repeat (go_quiet (fail); try go_wp2)
        go_roundg k1
        case measure => have := HK1.out; omega
        case rel => exact ⟨(wrap64 (x5_1 + 1)), (by first | rfl | (simp; done) | (simp [*]; done)), H', ⟨by have := HK1.out; omega⟩, by repeat (first | exact Drawn0.refl _ | apply Drawn0.step)⟩
      ·rw [if_neg c6] at H
       exact absurd H (by simp)
     ·rw [if_neg c5] at H
      exact absurd H (by simp)
    ·rw [if_neg c4] at H
     have c4b0 : decide (x5_1 < (l0.length : Int)) = false := decide_eq_false c4
     clear c4
     obtain rfl := Option.some.inj H
     go_wp2
     repeat (go_quiet (fail); try go_wp2)
     go_ret
     exact ⟨by first | rfl | (simp; done) | (simp [*]; done), by repeat (first | exact Drawn0.refl _ | apply Drawn0.step)⟩
 ·rw [if_neg c3] at H
  have c3b0 : ((l0.length : Int) == (l1.length : Int)) = false := beq_eq_false_iff_ne.mpr c3
  have c3b1 : ((l0.length : Int) != (l1.length : Int)) = true := bne_iff_ne.mpr c3
  have c3b2 : (l0.length == l1.length) = false := by first | simpa using c3 | (simp at c3 ⊢; omega)
  obtain rfl := Option.some.inj H
  go_enter Try.func32, Try.ntmps32
  go_wp2
  repeat (go_quiet (fail); try go_wp2)
  go_ret
  exact ⟨by first | rfl | (simp; done) | (simp [*]; done), by repeat (first | exact Drawn0.refl _ | apply Drawn0.step)⟩
end Go.Proofs.Ytkkfkdncddbaeaa.Fn
namespace Go.Proofs.Ytkkfkdncddbaeaa.Fn
open Go.RowKit Go.Proofs.YtkkfkdncddbaeaaW.PrintWords Go.Proofs.YtkkfkdncddbaeaaW.PrintLast Go.Proofs.YtkkfkdncddbaeaaW.PrintMore
attribute [local go_sem] max2_int min2_int max_two min_two max_three min_three max_four min_four
set_option linter.unusedVariables false
set_option linter.unusedSimpArgs false
def flagstoneplain_CopyExtents.f (l0 : List (S24)) : Option ((List (S24))) := if ([] : List (S24)).length + l0.length < 5864062014805 then (some (([] : List (S24)) ++ l0)) else (none)
set_option maxHeartbeats 8000000 in
set_option maxRecDepth 100000 in
theorem flagstoneplain_CopyExtents.calls (A0 : Option Addr) (c0 : Nat) (l0 : List (S24)) (r : List (S24)) (w : World) (hr0 : Kd.C k24 w A0 l0.length l0) (hc0 : l0.length ≤ c0) (h : flagstoneplain_CopyExtents.f l0 = some r) :
 Calls Try.prog 26 #[.slice A0 l0.length c0] w fun e w' => ∃ v0_ : Value, e = .returned (v0_) ∧ Kd.R k24 24 w' w.heap.size (fun _ => True) v0_ r ∧ Below w.heap.size w w' := by
 have HR0 := Aside0.mk hr0
 have HC0 := Aside0.mk hc0
 clear hr0 hc0
 have HB := Aside0.mk (Below.refl w.heap.size w)
 have H : (if ([] : List (S24)).length + l0.length < 5864062014805 then (some (([] : List (S24)) ++ l0)) else (none)) = some r := h
 clear h
 by_cases c2 : ([] : List (S24)).length + l0.length < 5864062014805
 ·rw [if_pos c2] at H
  have LMc2 := Aside0.mk c2
  clear c2
  obtain ⟨y101, hy101⟩ : ∃ y_ : List (S24), y_ = (([] : List (S24)) ++ l0) := ⟨_, rfl⟩
  replace H : (some y101) = some r := by first | (rw [hy101]; with_reducible exact H) | (have H2_ := (Option.bind_some _ _).symm.trans H; rw [hy101]; with_reducible exact H2_) | (have H2_ := (Option.bind_some _ _).symm.trans H; with_reducible exact H2_) | with_reducible exact H | (rw [hy101]; exact H) | exact H
  have Ny101 := Aside0.mk hy101
  clear hy101
  obtain rfl := Option.some.inj H
  go_enter Try.func26, Try.ntmps26
  go_wp2_with (first | ((with_reducible refine gate_builtin (b := .append) (xs := #[.tmp 4, .tmp 5]) rfl ?_); at_builtin; refine Kd.R_append_rows k24 (w0 := w) w.heap.size rfl (.tmp 4) (.tmp 5) 22 24 (.agg #[(.int .i64 0), (.int .i64 0), (.int .i64 0)]) 24 rfl Try.underlying22 info24 rfl (by decide) (by omega) (.slice none 0 0) ([] : List (S24)) l0 _ _ _ (fun _ => True) (fun _ => False) rfl rfl ?aO ?aR (fun _ _ h => h) (fun _ h => h.elim) ?aF ?aB ?aS ?aL ?_; (case aR => repeat (first | exact HR0.out | (with_reducible refine Kd.C_alloc ?_ _) | (with_reducible refine Kd.C_drewN ?_ _) | (with_reducible refine Kd.C_drew ?_))); (case aB => exact (by repeat (first | (with_reducible first | exact HB.out | apply below_alloc | apply pw_below_drewN | apply below_drew1) | exact HB.out))); (case aF => exact (fun _ _ => trivial)); (case aO => exact ((Kd.R_nil _ _ _ _ (fun _ => True)))); (case aS => exact (below_size (by repeat (first | (with_reducible first | exact HB.out | apply below_alloc | apply pw_below_drewN | apply below_drew1) | exact HB.out)))); (case aL => have := LMc2.out; omega); intro v102 w3 ho hb hg hat; rw [← Ny101.out] at ho; have n0_ := Aside0.mk (hb); have n1_ := Aside0.mk (ho); clear HB; have HB := n0_; have HO103 := n1_; clear n0_ n1_; clear ho hb hg hat))
  go_ret
  exact ⟨_, by first | rfl | (simp [errW_none, errW_some] <;> rfl) | (simp [*, errW_none, errW_some] <;> rfl), by (with_reducible repeat (first | apply Kd.R_alloc | apply Kd.R_drewN | apply Kd.R_drew)); exact HO103.out, by repeat (first | (with_reducible first | exact HB.out | apply below_alloc | apply pw_below_drewN | apply below_drew1) | exact HB.out)⟩
 ·rw [if_neg c2] at H
  exact absurd H (by simp)
structure PutOk (l : List S24) (x : S24) : Prop where
  map : Flag.Map5 (l.map toE)
  ok : Flag.okMap (toE x)
  len : (replG l x.f0 x.f2 [x]).length ≤ 1024
  is : putS l x = (replG l x.f0 x.f2 [x], 0)
theorem putS_ok {l : List S24} {x : S24} (h : (putS l x).2 = 0) : PutOk l x := by
  unfold putS at h
  split at h
  · rename_i hc
    split at h
    · rename_i hm
      unfold fullS at h
      split at h
      · cases h
      · rename_i hf
        refine ⟨Flag.checkE_ok.1 hc, Flag.mayE_iff.1 hm, by omega, ?_⟩
        unfold putS fullS
        rw [if_pos hc, if_pos hm, if_neg hf]
    · cases h
  · cases h
theorem PutOk.map2 {l : List S24} {x : S24} (h : PutOk l x) : Flag.Map5 ((replG l x.f0 x.f2 [x]).map toE) := by
  obtain ⟨h1, h2⟩ := replG_one h.map h.ok
  refine ⟨by have := h.len; simpa using this, Flag.okMap_of h1 (fun i r hi => ?_), h1⟩
  rw [h2] at hi
  obtain ⟨g1, g2, g3, g4, g5⟩ := h.ok
  simp only [toE] at g1 g2 g3 g4 g5
  split at hi
  · have hr := Option.some.inj hi
    unfold Flag.valAt toE at hr
    rw [if_neg (show ¬ x.f1 < 0 by omega)] at hr
    dsimp only at hr
    omega
  · exact Flag.okMap_look h.map.ok hi
theorem putS_of {l : List S24} {x : S24} (hm : Flag.Map5 (l.map toE)) (hx : Flag.okMap (toE x)) (hl : (replG l x.f0 x.f2 [x]).length ≤ 1024) : putS l x = (replG l x.f0 x.f2 [x], 0) := by
  unfold putS fullS
  rw [if_pos (Flag.checkE_ok.2 hm), if_pos (Flag.mayE_iff.2 hx), if_neg (by omega)]
end Go.Proofs.Ytkkfkdncddbaeaa.Fn
namespace Go.Proofs.Ytkkfkdncddbaeaa.Fn
open Go.RowKit Go.Proofs.YtkkfkdncddbaeaaW.PrintWords Go.Proofs.YtkkfkdncddbaeaaW.PrintLast Go.Proofs.YtkkfkdncddbaeaaW.PrintMore
attribute [local go_sem] max2_int min2_int max_two min_two max_three min_three max_four min_four
set_option linter.unusedVariables false
set_option linter.unusedSimpArgs false
attribute [local go_sem high] eqA24
def lookStep (e : Int) (s : List S24 × Int) (x : S24) : List S24 × Int :=
  if (partG x s.2 e).f2 ≤ 0 then s else (addG (addG s.1 ⟨s.2, -1, wrap64 ((partG x s.2 e).f0 - s.2)⟩) (partG x s.2 e), wrap64 ((partG x s.2 e).f0 + (partG x s.2 e).f2))
theorem lookStep_length (e : Int) (s : List S24 × Int) (x : S24) : (lookStep e s x).1.length ≤ s.1.length + 2 := by
  unfold lookStep
  split
  · omega
  · exact Nat.le_trans (addG_length _ _) (by have := addG_length s.1 ⟨s.2, -1, wrap64 ((partG x s.2 e).f0 - s.2)⟩; omega)
theorem lookFold_length (e : Int) (l : List S24) : ∀ s : List S24 × Int, (l.foldl (lookStep e) s).1.length ≤ s.1.length + 2 * l.length := by
  induction l with
  | nil => intro s; simp
  | cons x u ih =>
    intro s
    have h1 := ih (lookStep e s x)
    have h2 := lookStep_length e s x
    simp only [List.foldl_cons, List.length_cons]
    omega
def lookL (l : List S24) (v n : Int) : List S24 :=
  addG (l.foldl (lookStep (wrap64 (v + n))) ([], v)).1 ⟨(l.foldl (lookStep (wrap64 (v + n))) ([], v)).2, -1, wrap64 (wrap64 (v + n) - (l.foldl (lookStep (wrap64 (v + n))) ([], v)).2)⟩
def lookS (l : List S24) (v n : Int) : List S24 × Int :=
  if Flag.checkE (l.map toE) = 0 then (if fitsB v n = true then (lookL l v n, 0) else ([], 4)) else ([], 9)
def extent_Look.f (l0 : List (S24)) (a1 : Int) (a2 : Int) : Option ((List (S24)) × Int) := some (lookS l0 a1 a2)
set_option maxHeartbeats 4000000 in
set_option maxRecDepth 100000 in
theorem extent_Look.calls (A0 : Option Addr) (c0 : Nat) (l0 : List (S24)) (a1 : Int) (a2 : Int) (r1 : List (S24)) (r2 : Int) (w : World) (hr0 : Kd.C k24 w A0 l0.length l0) (hc0 : l0.length ≤ c0) (h : extent_Look.f l0 a1 a2 = some (r1, r2)) :
    Calls Try.prog 37 #[.slice A0 l0.length c0, .int .i64 a1, .int .i64 a2] w fun e w' => ∃ v0_ : Value, e = .returned (.tuple #[v0_, .int .i64 r2]) ∧ Kd.R k24 24 w' w.heap.size (fun _ => True) v0_ r1 ∧ Below w.heap.size w w' := by
  have hu24 := Try.underlying24
  have hcx : extent_Check.f (l0.length + 1) l0 = some (Flag.checkE (l0.map toE)) := check_x l0 (by omega)
  unfold extent_Look.f at h
  have h := Option.some.inj h
  unfold lookS at h
  have HR0 := Aside0.mk hr0
  have HC0 := Aside0.mk hc0
  clear hr0 hc0
  go_enter Try.func37, Try.ntmps37
  go_wp2_with fail
  refine (extent_Check.calls (l0.length + 1) A0 c0 l0 _ w HR0.out HC0.out hcx).mono ?_
  rintro e w1 ⟨rfl, hb1⟩
  have HBEL := Aside0.mk (below_step (Below.refl w.heap.size w) hb1)
  clear hb1
  rcases Flag.checkE_or (l0.map toE) with h0 | h0
  · rw [if_pos h0] at h
    have hl0 : l0.length ≤ 1024 := by have := (Flag.checkE_ok.1 h0).len; simpa using this
    rw [h0]
    clear h0 hcx
    go_wp2_with fail
    refine (extent_fits.calls a1 a2 _ w1 fits_xB).mono ?_
    rintro e w3 ⟨rfl, hb2⟩
    have HBEL3 := Aside0.mk (below_step HBEL.out hb2)
    clear hb2
    by_cases hf1 : fitsB a1 a2 = true
    · rw [if_pos hf1] at h
      rw [hf1]
      have HH := Aside0.mk h
      clear h hf1
      go_wp2_with fail
      obtain ⟨W4, hW4⟩ : ∃ W, W = w3.alloc (.cells #[.slice none 0 0] 140) := ⟨_, rfl⟩
      rw [← hW4]
      obtain ⟨b9, hb9⟩ : ∃ b, b = w3.heap.size := ⟨_, rfl⟩
      rw [← hb9]
      have hp9 : W4.heap[b9]? = some (.cells #[.slice none 0 0] 140 (0, 0)) := by rw [hW4, hb9]; exact blk_new w3 _
      have hge : w.heap.size ≤ w3.heap.size := HBEL3.out.size
      have hbel4 : Below w.heap.size w W4 := by rw [hW4]; exact HBEL3.out.alloc hge _
      have hsz4 : W4.heap.size = w3.heap.size + 1 := by rw [hW4]; simp
      have hrs : RS w w.heap.size [b9] b9 [] W4 := RS.of_nil hp9 hbel4 (by omega) (by simp) (by intro k hk; simp at hk; rcases hk with rfl; omega)
      have HRS := Aside0.mk hrs
      clear hW4 hp9 hge hbel4 hsz4 hrs hb9
      obtain ⟨e_, he_⟩ : ∃ e, e = wrap64 (a1 + a2) := ⟨_, rfl⟩
      rw [← he_]
      have HE := Aside0.mk he_
      clear he_
      go_loopg [10, 30] l0.length (fun gk v10 v30 W => ∃ i at_ : Int, v10 = .int .i64 at_ ∧ v30 = .int .i64 i ∧ Aside0 (0 ≤ i ∧ i + gk = l0.length) ∧ Aside0 (at_ = ((l0.take i.toNat).foldl (lookStep e_) ([], a1)).2) ∧ Aside0 (RS w w.heap.size [b9] b9 ((l0.take i.toNat).foldl (lookStep e_) ([], a1)).1 W))
      case atStart => exact ⟨0, a1, rfl, rfl, ⟨Int.le_refl _, by simp⟩, ⟨by simp⟩, ⟨by simpa using HRS.out⟩⟩
      case round =>
        obtain ⟨i, at_, rfl, rfl, HI, HAT, HS⟩ := hrel
        obtain ⟨o, ho⟩ : ∃ o, o = ((l0.take i.toNat).foldl (lookStep e_) ([], a1)).1 := ⟨_, rfl⟩
        have hol : o.length ≤ 4096 := by
          have h1 := lookFold_length e_ (l0.take i.toNat) ([], a1)
          rw [← ho] at h1
          have h2 : (l0.take i.toNat).length ≤ 1024 := by rw [List.length_take]; omega
          simp only [List.length_nil] at h1
          omega
        rw [← ho] at HS
        have HOL := Aside0.mk hol
        have HO := Aside0.mk ho
        clear ho hol
        cases gk with
        | zero =>
          have hi : i = l0.length := by have := HI.out.2; omega
          have hd : decide (i < (l0.length : Int)) = false := decide_eq_false (by omega)
          have hres : addG o ⟨at_, -1, wrap64 (e_ - at_)⟩ = r1 ∧ 0 = r2 := by
            have h1 := HH.out
            have h2 := HO.out
            have h3 := HAT.out
            rw [hi, Int.toNat_natCast, List.take_length] at h2 h3
            rw [h2, h3]
            simp only [Prod.mk.injEq] at h1
            rw [HE.out]
            exact h1
          have HRES := Aside0.mk hres
          clear hi hres
          go_wp2_with fail
          refine (HS.out.add ⟨at_, -1, wrap64 (e_ - at_)⟩ (by have := HOL.out; omega)).mono ?_
          rintro e w5 ⟨rfl, h5, _, _⟩
          obtain ⟨A, c, hcc9, hR⟩ := h5.cell
          have H5 := Aside0.mk h5
          have HRR := Aside0.mk hR
          clear h5 hR
          go_wp2
          go_ret2
          refine ⟨_, by rw [← HRES.out.2]; rfl, ?_, H5.out.old⟩
          rw [← HRES.out.1]
          exact Kd.R_mono HRR.out (fun _ _ => trivial)
        | succ k1 =>
          have hp0 : 0 ≤ i := HI.out.1
          have hp1 : i < (l0.length : Int) := by have := HI.out.2; omega
          have hd : decide (i < (l0.length : Int)) = true := decide_eq_true hp1
          have hC : Kd.C k24 wr A0 l0.length l0 := Kd.C_below HR0.out HS.out.old
          obtain ⟨ad, e3, g0, g1, g2⟩ := at_T24 hC i hp0 hp1
          cases e3
          obtain ⟨x, hx⟩ : ∃ x, x = rd_T24 l0 i := ⟨_, rfl⟩
          rw [← hx] at g0 g1 g2
          have hst : (l0.take (i + 1).toNat).foldl (lookStep e_) ([], a1) = lookStep e_ (o, at_) x := by
            have h3 : (i + 1).toNat = i.toNat + 1 := by omega
            have h4 : i.toNat < l0.length := by omega
            have h5 : x = l0[i.toNat] := by rw [hx]; unfold rd_T24; rw [List.getD_eq_getElem?_getD, List.getElem?_eq_getElem h4]; rfl
            rw [h3, List.take_succ_eq_append_getElem h4, List.foldl_append, ← h5, HO.out, HAT.out]
            rfl
          have HST := Aside0.mk hst
          have HP := Aside0.mk (And.intro hp0 hp1)
          clear hx hC hst
          go_wp2_with fail
          refine (partG_calls x at_ e_ _).mono ?_
          rintro e w2' ⟨rfl, hb2⟩
          have hb1 : Below wr.heap.size wr (wr.alloc (.cells #[.int .i64 x.f0, .int .i64 x.f1, .int .i64 x.f2] 24)) := (Below.refl _ _).alloc (Nat.le_refl _) _
          have H2 := Aside0.mk ((HS.out.below hb1).below hb2)
          clear hb1 hb2 g0 g1 g2
          obtain ⟨p, hp⟩ : ∃ p, p = partG x at_ e_ := ⟨_, rfl⟩
          rw [← hp]
          have HPP := Aside0.mk hp
          clear hp
          by_cases hpp : p.f2 ≤ 0
          · have hdp : decide (p.f2 ≤ 0) = true := decide_eq_true hpp
            have hstp : lookStep e_ (o, at_) x = (o, at_) := by unfold lookStep; rw [← HPP.out, if_pos hpp]
            have HSTP := Aside0.mk hstp
            clear hstp
            go_wp2_with fail
            go_roundg k1
            case measure => omega
            case rel =>
              refine ⟨i + 1, at_, by first | rfl | (simp; done), by first | rfl | (simp; done), ⟨by have := HP.out.1; omega, by have := HI.out.2; omega⟩, ⟨?_⟩, ⟨?_⟩⟩
              · rw [HST.out, HSTP.out]
              · rw [HST.out, HSTP.out]
                exact H2.out.below ((Below.refl _ _).alloc (Nat.le_refl _) _)
          · have hdp : decide (p.f2 ≤ 0) = false := decide_eq_false hpp
            have hstp : lookStep e_ (o, at_) x = (addG (addG o ⟨at_, -1, wrap64 (p.f0 - at_)⟩) p, wrap64 (p.f0 + p.f2)) := by unfold lookStep; rw [← HPP.out, if_neg hpp]
            have HSTP := Aside0.mk hstp
            clear hstp hpp
            go_wp2_with fail
            obtain ⟨W5, hW5⟩ : ∃ W, W = w2'.alloc (.cells #[.int .i64 p.f0, .int .i64 p.f1, .int .i64 p.f2] 24) := ⟨_, rfl⟩
            obtain ⟨bp, hbp⟩ : ∃ b, b = w2'.heap.size := ⟨_, rfl⟩
            have hb5 : Below w2'.heap.size w2' W5 := by rw [hW5]; exact (Below.refl _ _).alloc (Nat.le_refl _) _
            have hx5 : W5.heap[bp]? = some (.cells #[.int .i64 p.f0, .int .i64 p.f1, .int .i64 p.f2] 24 (0, 0)) := by rw [hW5, hbp]; exact blk_new w2' _
            rw [← hW5, ← hbp]
            have H5 := Aside0.mk (H2.out.push hb5 (Nat.le_of_eq hbp.symm) (blk_lt hx5))
            have nb : bp ≠ b9 := by
              have h9 := H2.out
              obtain ⟨_, _, _, _, _, _, h6⟩ := h9
              have q1 := h6 b9 (by simp)
              omega
            have NB := Aside0.mk nb
            have HX5 := Aside0.mk hx5
            clear hW5 hbp hb5 hx5 nb
            refine (H5.out.add ⟨at_, -1, wrap64 (p.f0 - at_)⟩ (by have := HOL.out; omega)).mono ?_
            rintro e w6 ⟨rfl, h6, hs6, hk6⟩
            have HX6 := Aside0.mk ((hk6 bp (by simp) NB.out).trans HX5.out)
            have H6 := Aside0.mk h6
            have HL6 := Aside0.mk (addG_length o ⟨at_, -1, wrap64 (p.f0 - at_)⟩)
            clear h6 hs6 hk6
            have y0 : w6.cell? ⟨bp, 0, none⟩ = some (.int .i64 p.f0) := (blk_cell HX6.out 0).trans rfl
            have y1 : w6.cell? ⟨bp, 1, none⟩ = some (.int .i64 p.f1) := (blk_cell HX6.out 1).trans rfl
            have y2 : w6.cell? ⟨bp, 2, none⟩ = some (.int .i64 p.f2) := (blk_cell HX6.out 2).trans rfl
            go_wp2_with fail
            clear y0 y1 y2
            refine (H6.out.add p (by have := HOL.out; have := HL6.out; omega)).mono ?_
            rintro e w7 ⟨rfl, h7, hs7, hk7⟩
            have HX7 := Aside0.mk ((hk7 bp (by simp) NB.out).trans HX6.out)
            have H7 := Aside0.mk h7
            clear h7 hs7 hk7
            have y0 : w7.cell? ⟨bp, 0, none⟩ = some (.int .i64 p.f0) := (blk_cell HX7.out 0).trans rfl
            have y2 : w7.cell? ⟨bp, 2, none⟩ = some (.int .i64 p.f2) := (blk_cell HX7.out 2).trans rfl
            go_wp2
            go_roundg k1
            case measure => omega
            case rel =>
              refine ⟨i + 1, wrap64 (p.f0 + p.f2), by first | rfl | (simp; done), by first | rfl | (simp; done), ⟨by have := HP.out.1; omega, by have := HI.out.2; omega⟩, ⟨?_⟩, ⟨?_⟩⟩
              · rw [HST.out, HSTP.out]
              · rw [HST.out, HSTP.out]
                exact H7.out.drop (by simp)
    · rw [if_neg hf1] at h
      simp only [Bool.not_eq_true] at hf1
      rw [hf1]
      simp only [Prod.mk.injEq] at h
      obtain ⟨rfl, rfl⟩ := h
      go_wp2
      go_ret2
      exact ⟨_, rfl, Kd.R_nil _ _ _ _ _, HBEL3.out⟩
  · rw [h0] at h ⊢
    rw [if_neg (by omega)] at h
    simp only [Prod.mk.injEq] at h
    obtain ⟨rfl, rfl⟩ := h
    go_wp2
    go_ret2
    exact ⟨_, rfl, Kd.R_nil _ _ _ _ _, HBEL.out⟩
end Go.Proofs.Ytkkfkdncddbaeaa.Fn
namespace Go.Proofs.Ytkkfkdncddbaeaa.Fn
open Go.RowKit Go.Proofs.YtkkfkdncddbaeaaW.PrintWords Go.Proofs.YtkkfkdncddbaeaaW.PrintLast Go.Proofs.YtkkfkdncddbaeaaW.PrintMore
attribute [local go_sem] max2_int min2_int max_two min_two max_three min_three max_four min_four
set_option linter.unusedVariables false
set_option linter.unusedSimpArgs false
def looksG (e : Int) : List S24 → Int → List S24
  | [], at_ => [⟨at_, -1, wrap64 (e - at_)⟩]
  | x :: t, at_ => if (partG x at_ e).f2 ≤ 0 then looksG e t at_ else ⟨at_, -1, wrap64 ((partG x at_ e).f0 - at_)⟩ :: partG x at_ e :: looksG e t (wrap64 ((partG x at_ e).f0 + (partG x at_ e).f2))
theorem looks_pieces (e : Int) (l : List S24) : ∀ s : List S24 × Int, addG (l.foldl (lookStep e) s).1 ⟨(l.foldl (lookStep e) s).2, -1, wrap64 (e - (l.foldl (lookStep e) s).2)⟩ = (looksG e l s.2).foldl addG s.1 := by
  induction l with
  | nil => intro s; rfl
  | cons x t ih =>
    intro s
    rw [List.foldl_cons, ih, looksG]
    unfold lookStep
    split
    · rfl
    · rfl
theorem lookL_pieces (l : List S24) (v n : Int) : lookL l v n = (looksG (wrap64 (v + n)) l v).foldl addG [] := looks_pieces _ l ([], v)
theorem looksG_toE {e : Int} (he : 0 ≤ e ∧ e ≤ 65536) {l : List S24} (hl : ∀ x ∈ l, Flag.okMap (toE x)) : ∀ at_ : Int, 0 ≤ at_ → at_ ≤ 65536 → (looksG e l at_).map toE = Flag.looks (l.map toE) at_ e := by
  induction l with
  | nil =>
    intro a h0 h1
    simp only [looksG, List.map_cons, List.map_nil, Flag.looks, toE]
    rw [w64 (by omega)]
  | cons x t ih =>
    intro a h0 h1
    have hx := hl x List.mem_cons_self
    have ih := ih (fun y hy => hl y (List.mem_cons_of_mem _ hy))
    have ep := partG_toE hx (a := a) (b := e) ⟨by omega, by omega⟩ ⟨by omega, by omega⟩
    obtain ⟨g1, g2, g3, g4, g5⟩ := hx
    simp only [toE] at g1 g2 g3 g4 g5
    have e0 : (partG x a e).f0 = (Flag.part (toE x) a e).v := congrArg Flag.Ex.v ep
    have e2 : (partG x a e).f2 = (Flag.part (toE x) a e).n := congrArg Flag.Ex.n ep
    have d0 : (Flag.part (toE x) a e).v = max a x.f0 := rfl
    have d2 : (Flag.part (toE x) a e).n = min e (x.f0 + x.f2) - max a x.f0 := rfl
    rw [looksG, List.map_cons, Flag.looks, e2]
    split
    · exact ih a h0 h1
    · rename_i hc
      rw [e0, w64 (n := (Flag.part (toE x) a e).v - a) (by omega), w64 (n := (Flag.part (toE x) a e).v + (Flag.part (toE x) a e).n) (by omega), List.map_cons, List.map_cons, ep, ih _ (by omega) (by omega)]
      rfl
theorem looksG_in {e : Int} (he : 0 ≤ e ∧ e ≤ 65536) {l : List S24} (hl : ∀ x ∈ l, Flag.okMap (toE x)) : ∀ at_ : Int, 0 ≤ at_ → at_ ≤ 65536 → ∀ y ∈ looksG e l at_, y.f2 ≤ 0 ∨ InM y := by
  induction l with
  | nil =>
    intro a h0 h1 y hy
    have : y = ⟨a, -1, wrap64 (e - a)⟩ := by simpa [looksG] using hy
    subst this
    rw [w64 (by omega)]
    by_cases h : e - a ≤ 0
    · exact .inl h
    · exact .inr ⟨h0, show a + (e - a) ≤ _ by omega, by show (-1 : Int) ≤ -1; omega, by show (-1 : Int) ≤ _; omega, show 0 < e - a by omega⟩
  | cons x t ih =>
    intro a h0 h1 y hy
    have hx := hl x List.mem_cons_self
    have ih := ih (fun y hy => hl y (List.mem_cons_of_mem _ hy))
    have hpi := partG_in hx (a := a) (b := e) ⟨by omega, by omega⟩ ⟨by omega, by omega⟩ h0
    have ep := partG_toE hx (a := a) (b := e) ⟨by omega, by omega⟩ ⟨by omega, by omega⟩
    obtain ⟨g1, g2, g3, g4, g5⟩ := hx
    simp only [toE] at g1 g2 g3 g4 g5
    have e0 : (partG x a e).f0 = max a x.f0 := congrArg Flag.Ex.v ep
    have e2 : (partG x a e).f2 = min e (x.f0 + x.f2) - max a x.f0 := congrArg Flag.Ex.n ep
    rw [looksG] at hy
    split at hy
    · exact ih a h0 h1 y hy
    · rename_i hc
      rcases List.mem_cons.1 hy with rfl | hy
      · rw [e0, w64 (n := max a x.f0 - a) (by omega)]
        by_cases h : max a x.f0 - a ≤ 0
        · exact .inl h
        · exact .inr ⟨h0, show a + (max a x.f0 - a) ≤ _ by omega, by show (-1 : Int) ≤ -1; omega, by show (-1 : Int) ≤ _; omega, show 0 < max a x.f0 - a by omega⟩
      · rcases List.mem_cons.1 hy with rfl | hy
        · exact hpi
        · refine ih _ ?_ ?_ y hy
          · rw [w64 (by omega)]; omega
          · rw [w64 (by omega)]; omega
theorem look_spec {l : List S24} {v n : Int} (hm : Flag.Map5 (l.map toE)) (hv : 0 ≤ v) (hn : 0 ≤ n) (he : v + n ≤ 65536) :
    Flag.NF ((lookL l v n).map toE) ∧ (∀ i, Flag.lookE ((lookL l v n).map toE) i = if v ≤ i ∧ i < v + n then some ((Flag.lookE (l.map toE) i).getD (-1)) else none) ∧ ∀ y ∈ lookL l v n, InM y := by
  have hl : ∀ x ∈ l, Flag.okMap (toE x) := fun x hx => hm.ok _ (List.mem_map_of_mem hx)
  rw [lookL_pieces, w64 (by omega)]
  obtain ⟨h1, h2⟩ := fold_join (looksG_in ⟨by omega, he⟩ hl v hv (by omega))
  rw [looksG_toE ⟨by omega, he⟩ hl v hv (by omega)] at h1
  obtain ⟨h3, h4⟩ := Flag.lookM_spec hm.nf v (v + n)
  rw [h1]
  exact ⟨h3, h4, h2⟩
namespace Flag
structure Sp where
  a : Int
  n : Int
def Sp.ex (s : Sp) : Ex := ⟨s.a, -1, s.n⟩
def memS : List Sp → Int → Prop
  | [], _ => False
  | x :: t, i => (x.a ≤ i ∧ i < x.a + x.n) ∨ memS t i
instance memS_dec : ∀ (l : List Sp) (i : Int), Decidable (memS l i)
  | [], _ => inferInstanceAs (Decidable False)
  | x :: t, i => by
    have := memS_dec t i
    exact inferInstanceAs (Decidable ((x.a ≤ i ∧ i < x.a + x.n) ∨ memS t i))
end Flag
namespace Flag
end Flag
namespace Flag
def ahead (l : List Sp) (s : Int) : List Sp := l.takeWhile fun x => decide (x.a + x.n ≤ s)
def behind (l : List Sp) (s : Int) : List Sp := l.dropWhile fun x => decide (x.a + x.n ≤ s)
end Flag
namespace Flag
end Flag
namespace Flag
end Flag
namespace Flag
end Flag
end Go.Proofs.Ytkkfkdncddbaeaa.Fn
