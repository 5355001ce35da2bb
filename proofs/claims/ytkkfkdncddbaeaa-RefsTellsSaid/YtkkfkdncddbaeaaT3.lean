/- Part 3 of the walk: printed by programs of this session (by way of the kit's print) or told by hand. -/
import Derived.Test.YtkkfkdncddbaeaaT2
import Derived.Test.YtkkfkdncddbaeaaProg
namespace Go.Proofs.Ytkkfkdncddbaeaa.Fn
open Go.RowKit Go.Proofs.YtkkfkdncddbaeaaW.PrintWords Go.Proofs.YtkkfkdncddbaeaaW.PrintLast Go.Proofs.YtkkfkdncddbaeaaW.PrintMore
attribute [local go_sem] max2_int min2_int max_two min_two max_three min_three max_four min_four
set_option linter.unusedVariables false
set_option linter.unusedSimpArgs false
def errW : Option Int → Value
  | none => .nilIface
  | some c => .iface 0 (.int .i64 c)
theorem errW_none : errW none = .nilIface := rfl
theorem errW_some (c : Int) : errW (some c) = .iface 0 (.int .i64 c) := rfl
theorem info24 : (Try.prog.info? 24).map (fun i => (i.zero, i.size, i.bytes)) = some (some (.agg #[(.int .i64 0), (.int .i64 0), (.int .i64 0)]), 3, 24) := by kernel_rfl
theorem info40 : (Try.prog.info? 40).map (fun i => (i.zero, i.size, i.bytes)) = some (some (.agg #[(.int .i64 0), (.int .i64 0)]), 2, 16) := by kernel_rfl
theorem info88 : (Try.prog.info? 88).map (fun i => (i.zero, i.size, i.bytes)) = some (some (.agg #[(.int .i64 0), (.int .i64 0), (.int .i64 0), (.int .i64 0)]), 4, 32) := by kernel_rfl
theorem info94 : (Try.prog.info? 94).map (fun i => (i.zero, i.size, i.bytes)) = some (some (.agg #[(.int .i64 0), (.slice none 0 0)]), 2, 32) := by kernel_rfl
theorem info96 : (Try.prog.info? 96).map (fun i => (i.zero, i.size, i.bytes)) = some (some (.agg #[(.int .i64 0), (.int .i64 0), (.int .i64 0)]), 3, 24) := by kernel_rfl
theorem info114 : (Try.prog.info? 114).map (fun i => (i.zero, i.size, i.bytes)) = some (some (.agg #[(.int .i64 0), (.int .i64 0), (.int .i64 0)]), 3, 24) := by kernel_rfl
theorem info118 : (Try.prog.info? 118).map (fun i => (i.zero, i.size, i.bytes)) = some (some (.agg #[(.int .i64 0), (.int .i64 0), (.int .i64 0), (.int .i64 0)]), 4, 32) := by kernel_rfl
structure S24 where
  f0 : Int
  f1 : Int
  f2 : Int
def z24 : S24 := ⟨(0 : Int), (0 : Int), (0 : Int)⟩
def k24 : Kd S24 := Kd.iso (Kd.pair (Kd.int .i64) (Kd.pair (Kd.int .i64) (Kd.int .i64))) (fun x : S24 => (x.f0, x.f1, x.f2))
theorem k24_open {w : World} {x : S24} {cs : List Value} (h : k24.K w x cs) : cs = [.int .i64 x.f0, .int .i64 x.f1, .int .i64 x.f2] := by
  obtain ⟨_, _, rfl, rfl, ⟨_, _, rfl, rfl, rfl⟩⟩ := h
  exact rfl
theorem k24_mk (w : World) (x : S24)  : k24.K w x [.int .i64 x.f0, .int .i64 x.f1, .int .i64 x.f2] := ⟨[.int .i64 x.f0], [.int .i64 x.f1, .int .i64 x.f2], rfl, rfl, ⟨[.int .i64 x.f1], [.int .i64 x.f2], rfl, rfl, rfl⟩⟩
theorem k24_mkM (w : World) (base : Nat) (ok : Nat → Prop) (x : S24)  : k24.M w base ok x [.int .i64 x.f0, .int .i64 x.f1, .int .i64 x.f2] := ⟨[.int .i64 x.f0], [.int .i64 x.f1, .int .i64 x.f2], rfl, rfl, ⟨[.int .i64 x.f1], [.int .i64 x.f2], rfl, rfl, rfl⟩⟩
def rd_T24 (xs : List S24) (i : Int) : S24 := xs.getD i.toNat z24
theorem at_T24 {w : World} {A : Option Addr} {n : Nat} {xs : List S24} (h : Kd.C k24 w A n xs) (i : Int) (h0 : 0 ≤ i) (h1 : i < n) : ∃ ad , A = some ad ∧ w.cell? (ad.add (i.toNat * 3)) = some (.int .i64 (rd_T24 xs i).f0) ∧ w.cell? ⟨(ad.add (i.toNat * 3)).block, (ad.add (i.toNat * 3)).off + 1, none⟩ = some (.int .i64 (rd_T24 xs i).f1) ∧ w.cell? ⟨(ad.add (i.toNat * 3)).block, (ad.add (i.toNat * 3)).off + 2, none⟩ = some (.int .i64 (rd_T24 xs i).f2) := by
  obtain ⟨ad, c, e, _, hK, hc0⟩ := Kd.C_get h z24 i h0 h1
  have hc : ∀ j u, c[j]? = some u → w.cell? (ad.add (i.toNat * 3 + j)) = some u := hc0
  obtain rfl := k24_open hK
  exact ⟨ad, e, hc 0 _ rfl, by rw [← add_field _ _ 1 (by omega)]; exact hc 1 _ rfl, by rw [← add_field _ _ 2 (by omega)]; exact hc 2 _ rfl⟩
structure S40 where
  f0 : Int
  f1 : Int
def z40 : S40 := ⟨(0 : Int), (0 : Int)⟩
def k40 : Kd S40 := Kd.iso (Kd.pair (Kd.int .i64) (Kd.int .i64)) (fun x : S40 => (x.f0, x.f1))
theorem k40_open {w : World} {x : S40} {cs : List Value} (h : k40.K w x cs) : cs = [.int .i64 x.f0, .int .i64 x.f1] := by
  obtain ⟨_, _, rfl, rfl, rfl⟩ := h
  exact rfl
theorem k40_openM {w : World} {base : Nat} {ok : Nat → Prop} {x : S40} {cs : List Value} (h : k40.M w base ok x cs) : cs = [.int .i64 x.f0, .int .i64 x.f1] := by
  obtain ⟨_, _, rfl, rfl, rfl⟩ := h
  exact rfl
theorem k40_mkM (w : World) (base : Nat) (ok : Nat → Prop) (x : S40)  : k40.M w base ok x [.int .i64 x.f0, .int .i64 x.f1] := ⟨[.int .i64 x.f0], [.int .i64 x.f1], rfl, rfl, rfl⟩
def rd_T40 (xs : List S40) (i : Int) : S40 := xs.getD i.toNat z40
theorem at_T40 {w : World} {A : Option Addr} {n : Nat} {xs : List S40} (h : Kd.C k40 w A n xs) (i : Int) (h0 : 0 ≤ i) (h1 : i < n) : ∃ ad , A = some ad ∧ w.cell? (ad.add (i.toNat * 2)) = some (.int .i64 (rd_T40 xs i).f0) ∧ w.cell? ⟨(ad.add (i.toNat * 2)).block, (ad.add (i.toNat * 2)).off + 1, none⟩ = some (.int .i64 (rd_T40 xs i).f1) := by
  obtain ⟨ad, c, e, _, hK, hc0⟩ := Kd.C_get h z40 i h0 h1
  have hc : ∀ j u, c[j]? = some u → w.cell? (ad.add (i.toNat * 2 + j)) = some u := hc0
  obtain rfl := k40_open hK
  exact ⟨ad, e, hc 0 _ rfl, by rw [← add_field _ _ 1 (by omega)]; exact hc 1 _ rfl⟩
structure S94 where
  f0 : Int
  f1 : (List S24)
def z94 : S94 := ⟨(0 : Int), ([] : List S24)⟩
def k94 : Kd S94 := Kd.iso (Kd.pair (Kd.int .i64) (Kd.slice 24 k24)) (fun x : S94 => (x.f0, x.f1))
theorem k94_open {w : World} {x : S94} {cs : List Value} (h : k94.K w x cs) : ∃ A1 c1, cs = [.int .i64 x.f0, .slice A1 x.f1.length c1] ∧ x.f1.length ≤ c1 ∧ k24.C w A1 x.f1.length x.f1 := by
  obtain ⟨_, _, rfl, rfl, ⟨A1, c1, rfl, l1, g1⟩⟩ := h
  exact ⟨A1, c1, rfl, l1, g1⟩
theorem k94_mk (w : World) (x : S94) {A1 : Option Addr} {c1 : Nat} (l1 : x.f1.length ≤ c1) (g1 : k24.C w A1 x.f1.length x.f1) : k94.K w x [.int .i64 x.f0, .slice A1 x.f1.length c1] := ⟨[.int .i64 x.f0], [.slice A1 x.f1.length c1], rfl, rfl, ⟨A1, c1, rfl, l1, g1⟩⟩
theorem k94_mkM (w : World) (base : Nat) (ok : Nat → Prop) (x : S94) {v1 : Value} (g1 : k24.R 24 w base ok v1 x.f1) : k94.M w base ok x [.int .i64 x.f0, v1] := ⟨[.int .i64 x.f0], [v1], rfl, rfl, ⟨v1, rfl, g1⟩⟩
theorem k94_mkF (W : World) (ok : Nat → Prop) (x : S94) {A1 : Option Addr} {c1 : Nat} (l1 : x.f1.length ≤ c1) (g1 : Kd.F k24 W ok A1 x.f1.length x.f1) : Kd.FK k94 W ok x [.int .i64 x.f0, .slice A1 x.f1.length c1] := fun W2 hW => k94_mk W2 x l1 (g1 W2 hW)
def rd_T94 (xs : List S94) (i : Int) : S94 := xs.getD i.toNat z94
theorem at_T94 {w : World} {A : Option Addr} {n : Nat} {xs : List S94} (h : Kd.C k94 w A n xs) (i : Int) (h0 : 0 ≤ i) (h1 : i < n) : ∃ ad A1 c1, A = some ad ∧ w.cell? (ad.add (i.toNat * 2)) = some (.int .i64 (rd_T94 xs i).f0) ∧ w.cell? ⟨(ad.add (i.toNat * 2)).block, (ad.add (i.toNat * 2)).off + 1, none⟩ = some (.slice A1 (rd_T94 xs i).f1.length c1) ∧ (rd_T94 xs i).f1.length ≤ c1 ∧ k24.C w A1 (rd_T94 xs i).f1.length (rd_T94 xs i).f1 := by
  obtain ⟨ad, c, e, _, hK, hc0⟩ := Kd.C_get h z94 i h0 h1
  have hc : ∀ j u, c[j]? = some u → w.cell? (ad.add (i.toNat * 2 + j)) = some u := hc0
  obtain ⟨A1, c1, rfl, l1, g1⟩ := k94_open hK
  exact ⟨ad, A1, c1, e, hc 0 _ rfl, by rw [← add_field _ _ 1 (by omega)]; exact hc 1 _ rfl, l1, g1⟩
structure S88 where
  f0 : Int
  f1 : Int
  f2 : Int
  f3 : Int
def z88 : S88 := ⟨(0 : Int), (0 : Int), (0 : Int), (0 : Int)⟩
def k88 : Kd S88 := Kd.iso (Kd.pair (Kd.int .i64) (Kd.pair (Kd.int .i64) (Kd.pair (Kd.int .i64) (Kd.int .i64)))) (fun x : S88 => (x.f0, x.f1, x.f2, x.f3))
theorem k88_open {w : World} {x : S88} {cs : List Value} (h : k88.K w x cs) : cs = [.int .i64 x.f0, .int .i64 x.f1, .int .i64 x.f2, .int .i64 x.f3] := by
  obtain ⟨_, _, rfl, rfl, ⟨_, _, rfl, rfl, ⟨_, _, rfl, rfl, rfl⟩⟩⟩ := h
  exact rfl
theorem k88_openM {w : World} {base : Nat} {ok : Nat → Prop} {x : S88} {cs : List Value} (h : k88.M w base ok x cs) : cs = [.int .i64 x.f0, .int .i64 x.f1, .int .i64 x.f2, .int .i64 x.f3] := by
  obtain ⟨_, _, rfl, rfl, ⟨_, _, rfl, rfl, ⟨_, _, rfl, rfl, rfl⟩⟩⟩ := h
  exact rfl
theorem k88_mkM (w : World) (base : Nat) (ok : Nat → Prop) (x : S88)  : k88.M w base ok x [.int .i64 x.f0, .int .i64 x.f1, .int .i64 x.f2, .int .i64 x.f3] := ⟨[.int .i64 x.f0], [.int .i64 x.f1, .int .i64 x.f2, .int .i64 x.f3], rfl, rfl, ⟨[.int .i64 x.f1], [.int .i64 x.f2, .int .i64 x.f3], rfl, rfl, ⟨[.int .i64 x.f2], [.int .i64 x.f3], rfl, rfl, rfl⟩⟩⟩
def rd_T88 (xs : List S88) (i : Int) : S88 := xs.getD i.toNat z88
theorem at_T88 {w : World} {A : Option Addr} {n : Nat} {xs : List S88} (h : Kd.C k88 w A n xs) (i : Int) (h0 : 0 ≤ i) (h1 : i < n) : ∃ ad , A = some ad ∧ w.cell? (ad.add (i.toNat * 4)) = some (.int .i64 (rd_T88 xs i).f0) ∧ w.cell? ⟨(ad.add (i.toNat * 4)).block, (ad.add (i.toNat * 4)).off + 1, none⟩ = some (.int .i64 (rd_T88 xs i).f1) ∧ w.cell? ⟨(ad.add (i.toNat * 4)).block, (ad.add (i.toNat * 4)).off + 2, none⟩ = some (.int .i64 (rd_T88 xs i).f2) ∧ w.cell? ⟨(ad.add (i.toNat * 4)).block, (ad.add (i.toNat * 4)).off + 3, none⟩ = some (.int .i64 (rd_T88 xs i).f3) := by
  obtain ⟨ad, c, e, _, hK, hc0⟩ := Kd.C_get h z88 i h0 h1
  have hc : ∀ j u, c[j]? = some u → w.cell? (ad.add (i.toNat * 4 + j)) = some u := hc0
  obtain rfl := k88_open hK
  exact ⟨ad, e, hc 0 _ rfl, by rw [← add_field _ _ 1 (by omega)]; exact hc 1 _ rfl, by rw [← add_field _ _ 2 (by omega)]; exact hc 2 _ rfl, by rw [← add_field _ _ 3 (by omega)]; exact hc 3 _ rfl⟩
structure S96 where
  f0 : Int
  f1 : Int
  f2 : Int
def z96 : S96 := ⟨(0 : Int), (0 : Int), (0 : Int)⟩
def k96 : Kd S96 := Kd.iso (Kd.pair (Kd.int .i64) (Kd.pair (Kd.int .i64) (Kd.int .i64))) (fun x : S96 => (x.f0, x.f1, x.f2))
theorem k96_open {w : World} {x : S96} {cs : List Value} (h : k96.K w x cs) : cs = [.int .i64 x.f0, .int .i64 x.f1, .int .i64 x.f2] := by
  obtain ⟨_, _, rfl, rfl, ⟨_, _, rfl, rfl, rfl⟩⟩ := h
  exact rfl
theorem k96_openM {w : World} {base : Nat} {ok : Nat → Prop} {x : S96} {cs : List Value} (h : k96.M w base ok x cs) : cs = [.int .i64 x.f0, .int .i64 x.f1, .int .i64 x.f2] := by
  obtain ⟨_, _, rfl, rfl, ⟨_, _, rfl, rfl, rfl⟩⟩ := h
  exact rfl
theorem k96_mkM (w : World) (base : Nat) (ok : Nat → Prop) (x : S96)  : k96.M w base ok x [.int .i64 x.f0, .int .i64 x.f1, .int .i64 x.f2] := ⟨[.int .i64 x.f0], [.int .i64 x.f1, .int .i64 x.f2], rfl, rfl, ⟨[.int .i64 x.f1], [.int .i64 x.f2], rfl, rfl, rfl⟩⟩
def rd_T96 (xs : List S96) (i : Int) : S96 := xs.getD i.toNat z96
theorem at_T96 {w : World} {A : Option Addr} {n : Nat} {xs : List S96} (h : Kd.C k96 w A n xs) (i : Int) (h0 : 0 ≤ i) (h1 : i < n) : ∃ ad , A = some ad ∧ w.cell? (ad.add (i.toNat * 3)) = some (.int .i64 (rd_T96 xs i).f0) ∧ w.cell? ⟨(ad.add (i.toNat * 3)).block, (ad.add (i.toNat * 3)).off + 1, none⟩ = some (.int .i64 (rd_T96 xs i).f1) ∧ w.cell? ⟨(ad.add (i.toNat * 3)).block, (ad.add (i.toNat * 3)).off + 2, none⟩ = some (.int .i64 (rd_T96 xs i).f2) := by
  obtain ⟨ad, c, e, _, hK, hc0⟩ := Kd.C_get h z96 i h0 h1
  have hc : ∀ j u, c[j]? = some u → w.cell? (ad.add (i.toNat * 3 + j)) = some u := hc0
  obtain rfl := k96_open hK
  exact ⟨ad, e, hc 0 _ rfl, by rw [← add_field _ _ 1 (by omega)]; exact hc 1 _ rfl, by rw [← add_field _ _ 2 (by omega)]; exact hc 2 _ rfl⟩
structure S86 where
  f0 : Int
  f1 : (List S24)
def z86 : S86 := ⟨(0 : Int), ([] : List S24)⟩
def k86 : Kd S86 := Kd.iso (Kd.pair (Kd.int .i64) (Kd.slice 24 k24)) (fun x : S86 => (x.f0, x.f1))
theorem k86_open {w : World} {x : S86} {cs : List Value} (h : k86.K w x cs) : ∃ A1 c1, cs = [.int .i64 x.f0, .slice A1 x.f1.length c1] ∧ x.f1.length ≤ c1 ∧ k24.C w A1 x.f1.length x.f1 := by
  obtain ⟨_, _, rfl, rfl, ⟨A1, c1, rfl, l1, g1⟩⟩ := h
  exact ⟨A1, c1, rfl, l1, g1⟩
theorem k86_mk (w : World) (x : S86) {A1 : Option Addr} {c1 : Nat} (l1 : x.f1.length ≤ c1) (g1 : k24.C w A1 x.f1.length x.f1) : k86.K w x [.int .i64 x.f0, .slice A1 x.f1.length c1] := ⟨[.int .i64 x.f0], [.slice A1 x.f1.length c1], rfl, rfl, ⟨A1, c1, rfl, l1, g1⟩⟩
def rd_T86 (xs : List S86) (i : Int) : S86 := xs.getD i.toNat z86
theorem at_T86 {w : World} {A : Option Addr} {n : Nat} {xs : List S86} (h : Kd.C k86 w A n xs) (i : Int) (h0 : 0 ≤ i) (h1 : i < n) : ∃ ad A1 c1, A = some ad ∧ w.cell? (ad.add (i.toNat * 2)) = some (.int .i64 (rd_T86 xs i).f0) ∧ w.cell? ⟨(ad.add (i.toNat * 2)).block, (ad.add (i.toNat * 2)).off + 1, none⟩ = some (.slice A1 (rd_T86 xs i).f1.length c1) ∧ (rd_T86 xs i).f1.length ≤ c1 ∧ k24.C w A1 (rd_T86 xs i).f1.length (rd_T86 xs i).f1 := by
  obtain ⟨ad, c, e, _, hK, hc0⟩ := Kd.C_get h z86 i h0 h1
  have hc : ∀ j u, c[j]? = some u → w.cell? (ad.add (i.toNat * 2 + j)) = some u := hc0
  obtain ⟨A1, c1, rfl, l1, g1⟩ := k86_open hK
  exact ⟨ad, A1, c1, e, hc 0 _ rfl, by rw [← add_field _ _ 1 (by omega)]; exact hc 1 _ rfl, l1, g1⟩
structure S118 where
  f0 : Int
  f1 : Int
  f2 : Int
  f3 : Int
def z118 : S118 := ⟨(0 : Int), (0 : Int), (0 : Int), (0 : Int)⟩
def k118 : Kd S118 := Kd.iso (Kd.pair (Kd.int .i64) (Kd.pair (Kd.int .i64) (Kd.pair (Kd.int .i64) (Kd.int .i64)))) (fun x : S118 => (x.f0, x.f1, x.f2, x.f3))
theorem k118_open {w : World} {x : S118} {cs : List Value} (h : k118.K w x cs) : cs = [.int .i64 x.f0, .int .i64 x.f1, .int .i64 x.f2, .int .i64 x.f3] := by
  obtain ⟨_, _, rfl, rfl, ⟨_, _, rfl, rfl, ⟨_, _, rfl, rfl, rfl⟩⟩⟩ := h
  exact rfl
theorem k118_mkM (w : World) (base : Nat) (ok : Nat → Prop) (x : S118)  : k118.M w base ok x [.int .i64 x.f0, .int .i64 x.f1, .int .i64 x.f2, .int .i64 x.f3] := ⟨[.int .i64 x.f0], [.int .i64 x.f1, .int .i64 x.f2, .int .i64 x.f3], rfl, rfl, ⟨[.int .i64 x.f1], [.int .i64 x.f2, .int .i64 x.f3], rfl, rfl, ⟨[.int .i64 x.f2], [.int .i64 x.f3], rfl, rfl, rfl⟩⟩⟩
def rd_T118 (xs : List S118) (i : Int) : S118 := xs.getD i.toNat z118
theorem at_T118 {w : World} {A : Option Addr} {n : Nat} {xs : List S118} (h : Kd.C k118 w A n xs) (i : Int) (h0 : 0 ≤ i) (h1 : i < n) : ∃ ad , A = some ad ∧ w.cell? (ad.add (i.toNat * 4)) = some (.int .i64 (rd_T118 xs i).f0) ∧ w.cell? ⟨(ad.add (i.toNat * 4)).block, (ad.add (i.toNat * 4)).off + 1, none⟩ = some (.int .i64 (rd_T118 xs i).f1) ∧ w.cell? ⟨(ad.add (i.toNat * 4)).block, (ad.add (i.toNat * 4)).off + 2, none⟩ = some (.int .i64 (rd_T118 xs i).f2) ∧ w.cell? ⟨(ad.add (i.toNat * 4)).block, (ad.add (i.toNat * 4)).off + 3, none⟩ = some (.int .i64 (rd_T118 xs i).f3) := by
  obtain ⟨ad, c, e, _, hK, hc0⟩ := Kd.C_get h z118 i h0 h1
  have hc : ∀ j u, c[j]? = some u → w.cell? (ad.add (i.toNat * 4 + j)) = some u := hc0
  obtain rfl := k118_open hK
  exact ⟨ad, e, hc 0 _ rfl, by rw [← add_field _ _ 1 (by omega)]; exact hc 1 _ rfl, by rw [← add_field _ _ 2 (by omega)]; exact hc 2 _ rfl, by rw [← add_field _ _ 3 (by omega)]; exact hc 3 _ rfl⟩
structure S114 where
  f0 : Int
  f1 : Int
  f2 : Int
def z114 : S114 := ⟨(0 : Int), (0 : Int), (0 : Int)⟩
def k114 : Kd S114 := Kd.iso (Kd.pair (Kd.int .i64) (Kd.pair (Kd.int .i64) (Kd.int .i64))) (fun x : S114 => (x.f0, x.f1, x.f2))
theorem k114_open {w : World} {x : S114} {cs : List Value} (h : k114.K w x cs) : cs = [.int .i64 x.f0, .int .i64 x.f1, .int .i64 x.f2] := by
  obtain ⟨_, _, rfl, rfl, ⟨_, _, rfl, rfl, rfl⟩⟩ := h
  exact rfl
theorem k114_openM {w : World} {base : Nat} {ok : Nat → Prop} {x : S114} {cs : List Value} (h : k114.M w base ok x cs) : cs = [.int .i64 x.f0, .int .i64 x.f1, .int .i64 x.f2] := by
  obtain ⟨_, _, rfl, rfl, ⟨_, _, rfl, rfl, rfl⟩⟩ := h
  exact rfl
theorem k114_mkM (w : World) (base : Nat) (ok : Nat → Prop) (x : S114)  : k114.M w base ok x [.int .i64 x.f0, .int .i64 x.f1, .int .i64 x.f2] := ⟨[.int .i64 x.f0], [.int .i64 x.f1, .int .i64 x.f2], rfl, rfl, ⟨[.int .i64 x.f1], [.int .i64 x.f2], rfl, rfl, rfl⟩⟩
def rd_T114 (xs : List S114) (i : Int) : S114 := xs.getD i.toNat z114
theorem at_T114 {w : World} {A : Option Addr} {n : Nat} {xs : List S114} (h : Kd.C k114 w A n xs) (i : Int) (h0 : 0 ≤ i) (h1 : i < n) : ∃ ad , A = some ad ∧ w.cell? (ad.add (i.toNat * 3)) = some (.int .i64 (rd_T114 xs i).f0) ∧ w.cell? ⟨(ad.add (i.toNat * 3)).block, (ad.add (i.toNat * 3)).off + 1, none⟩ = some (.int .i64 (rd_T114 xs i).f1) ∧ w.cell? ⟨(ad.add (i.toNat * 3)).block, (ad.add (i.toNat * 3)).off + 2, none⟩ = some (.int .i64 (rd_T114 xs i).f2) := by
  obtain ⟨ad, c, e, _, hK, hc0⟩ := Kd.C_get h z114 i h0 h1
  have hc : ∀ j u, c[j]? = some u → w.cell? (ad.add (i.toNat * 3 + j)) = some u := hc0
  obtain rfl := k114_open hK
  exact ⟨ad, e, hc 0 _ rfl, by rw [← add_field _ _ 1 (by omega)]; exact hc 1 _ rfl, by rw [← add_field _ _ 2 (by omega)]; exact hc 2 _ rfl⟩
abbrev yT : Bool := true
abbrev yF : Bool := false
theorem eqA114 (d : Nat) (w : World) (x0 y0 : Int) (x1 y1 : Int) (x2 y2 : Int) :
    (Op.equalIn (d + 2) 114 (.agg #[.int .i64 x0, .int .i64 x1, .int .i64 x2]) (.agg #[.int .i64 y0, .int .i64 y1, .int .i64 y2])).run Try.prog w = .ok (x0 == y0 && (x1 == y1 && (x2 == y2))) w := by
  refine eqA_of Try.underlying114 (by kernel_rfl) ?_
  refine eqf_cons (by rfl) (by go_simp; rfl) (by go_simp; rfl) (by go_simp) ?_
  refine eqf_cons (by rfl) (by go_simp; rfl) (by go_simp; rfl) (by go_simp) ?_
  exact eqf_last (by rfl) (by go_simp; rfl) (by go_simp; rfl) (by go_simp)
theorem eqA40 (d : Nat) (w : World) (x0 y0 : Int) (x1 y1 : Int) :
    (Op.equalIn (d + 2) 40 (.agg #[.int .i64 x0, .int .i64 x1]) (.agg #[.int .i64 y0, .int .i64 y1])).run Try.prog w = .ok (x0 == y0 && (x1 == y1)) w := by
  refine eqA_of Try.underlying40 (by kernel_rfl) ?_
  refine eqf_cons (by rfl) (by go_simp; rfl) (by go_simp; rfl) (by go_simp) ?_
  exact eqf_last (by rfl) (by go_simp; rfl) (by go_simp; rfl) (by go_simp)
end Go.Proofs.Ytkkfkdncddbaeaa.Fn
namespace Go.Proofs.Ytkkfkdncddbaeaa.Fn
open Go.RowKit Go.Proofs.YtkkfkdncddbaeaaW.PrintWords Go.Proofs.YtkkfkdncddbaeaaW.PrintLast Go.Proofs.YtkkfkdncddbaeaaW.PrintMore
attribute [local go_sem] max2_int min2_int max_two min_two max_three min_three max_four min_four
set_option linter.unusedVariables false
set_option linter.unusedSimpArgs false
attribute [local go_sem high] eqA40
def flagstoneplain_SameSpans.l0 : Nat → List (S40) → List (S40) → Int → Option (Bool)
 | 0, _, _, _ => none
 | k + 1, x0, x1, x5 => if x5 < (x0.length : Int) then (if 0 ≤ x5 then (if x5 < (x1.length : Int) then (if (!(((rd_T40 x0 x5).f0) == ((rd_T40 x1 x5).f0)) || (!(((rd_T40 x0 x5).f1) == ((rd_T40 x1 x5).f1)))) = true then (some false) else (flagstoneplain_SameSpans.l0 k x0 x1 (wrap64 (x5 + 1)))) else (none)) else (none)) else (some true)
def flagstoneplain_SameSpans.f (k : Nat) (l0 : List (S40)) (l1 : List (S40)) : Option (Bool) := if (l0.length : Int) = (l1.length : Int) then (flagstoneplain_SameSpans.l0 k l0 l1 0) else (some false)
theorem flagstoneplain_SameSpans.mono_l : ∀ k, (∀ y0 y1 y2, LeO (flagstoneplain_SameSpans.l0 k y0 y1 y2) (flagstoneplain_SameSpans.l0 (k + 1) y0 y1 y2))
 | 0 => fun _ _ _ r h => by simp [flagstoneplain_SameSpans.l0] at h
 | k + 1 => by
  have ih0 := flagstoneplain_SameSpans.mono_l k
  ·intro y0 y1 y2
   unfold flagstoneplain_SameSpans.l0
   repeat' first
   | (with_reducible exact ih0 _ _ _)
   | (with_reducible exact LeO.refl _)
   | (with_reducible exact LeO.none _)
   | (with_reducible refine LeO.ite ?_ ?_)
   | (with_reducible refine LeO.bind ?_ (fun _ => ?_))
   | exact ih0 _ _ _
   | exact LeO.none _
   | refine LeO.ite ?_ ?_
   | refine LeO.bind ?_ (fun _ => ?_)
theorem flagstoneplain_SameSpans.mono : ∀ a0 a1 k, LeO (flagstoneplain_SameSpans.f k a0 a1) (flagstoneplain_SameSpans.f (k + 1) a0 a1) := by
 intro a0 a1 k
 have ih0 := flagstoneplain_SameSpans.mono_l k
 unfold flagstoneplain_SameSpans.f
 repeat' first
  | (with_reducible exact ih0 _ _ _)
  | (with_reducible exact LeO.refl _)
  | (with_reducible exact LeO.none _)
  | (with_reducible refine LeO.ite ?_ ?_)
  | (with_reducible refine LeO.bind ?_ (fun _ => ?_))
  | exact ih0 _ _ _
  | exact LeO.none _
  | refine LeO.ite ?_ ?_
  | refine LeO.bind ?_ (fun _ => ?_)
set_option maxHeartbeats 8000000 in
set_option maxRecDepth 100000 in
theorem flagstoneplain_SameSpans.calls (k : Nat) (A0 : Option Addr) (c0 : Nat) (l0 : List (S40)) (A1 : Option Addr) (c1 : Nat) (l1 : List (S40)) (r : Bool) (w : World) (hr0 : Kd.C k40 w A0 l0.length l0) (hc0 : l0.length ≤ c0) (hr1 : Kd.C k40 w A1 l1.length l1) (hc1 : l1.length ≤ c1) (h : flagstoneplain_SameSpans.f k l0 l1 = some r) :
 Calls Try.prog 49 #[.slice A0 l0.length c0, .slice A1 l1.length c1] w fun e w' => e = .returned (.bool r) ∧ Drawn0 w w' := by
 have hu40 := Try.underlying40
 have HR0 := Aside0.mk hr0
 have HC0 := Aside0.mk hc0
 clear hr0 hc0
 have HR1 := Aside0.mk hr1
 have HC1 := Aside0.mk hc1
 clear hr1 hc1
 have H : (if (l0.length : Int) = (l1.length : Int) then (flagstoneplain_SameSpans.l0 k l0 l1 0) else (some false)) = some r := h
 clear h
 by_cases c3 : (l0.length : Int) = (l1.length : Int)
 ·rw [if_pos c3] at H
  have c3b0 : ((l0.length : Int) == (l1.length : Int)) = true := beq_iff_eq.mpr c3
  have c3b1 : ((l0.length : Int) != (l1.length : Int)) = false := bne_eq_false_iff_eq.mpr c3
  have c3b2 : (l0.length == l1.length) = true := by first | simpa using c3 | (simp at c3 ⊢; omega)
  clear c3
  have H' := Aside0.mk H
  clear H
  go_enter Try.func49, Try.ntmps49
  go_wp2
  repeat (go_quiet (fail); try go_wp2)
  go_loopg [5] k (fun kq v5 w' => ∃ (x5_1 : Int), v5 = .int .i64 x5_1 ∧ Aside0 (flagstoneplain_SameSpans.l0 kq l0 l1 x5_1 = some r) ∧ Aside0 (kq ≤ k) ∧ Drawn0 w w')
  case atStart => exact ⟨(0), (by first | rfl | (simp; done) | (simp [*]; done)), H', ⟨Nat.le_refl _⟩, by repeat (first | exact Drawn0.refl _ | apply Drawn0.step)⟩
  case round =>
   clear H'
   try clear c1
   try clear p2
   try clear c3
   try clear c3b0
   try clear c3b1
   try clear c3b2
   obtain ⟨x5_1, rfl, HA, HK1, ⟨m1, rfl⟩⟩ := hrel
   cases gk with
   | zero => exact absurd HA.out (by simp [flagstoneplain_SameSpans.l0])
   | succ k1 =>
    have H := HA.out
    clear HA
    simp only [flagstoneplain_SameSpans.l0] at H
    by_cases c4 : x5_1 < (l0.length : Int)
    ·rw [if_pos c4] at H
     have c4b0 : decide (x5_1 < (l0.length : Int)) = true := decide_eq_true c4
     clear c4
     by_cases c5 : 0 ≤ x5_1
     ·rw [if_pos c5] at H
      have c5b0 : decide (0 ≤ x5_1) = true := decide_eq_true c5
      clear c5
      by_cases c6 : x5_1 < (l1.length : Int)
      ·rw [if_pos c6] at H
       have c6b0 : decide (x5_1 < (l1.length : Int)) = true := decide_eq_true c6
       clear c6
       by_cases c7 : (!(((rd_T40 l0 x5_1).f0) == ((rd_T40 l1 x5_1).f0)) || (!(((rd_T40 l0 x5_1).f1) == ((rd_T40 l1 x5_1).f1)))) = true
       ·rw [if_pos c7] at H
        have c7b0 : (!(((rd_T40 l0 x5_1).f0) == ((rd_T40 l1 x5_1).f0)) || (!(((rd_T40 l0 x5_1).f1) == ((rd_T40 l1 x5_1).f1)))) = true := c7
        clear c7
        obtain rfl := Option.some.inj H
        have p101 : 0 ≤ (x5_1 : Int) := of_decide_eq_true (by first | (with_reducible assumption) | assumption)
        have q101 : x5_1 < (l0.length : Int) := of_decide_eq_true (by first | (with_reducible assumption) | assumption)
        obtain ⟨ad101, e101, hx101_0, hx101_1⟩ := at_T40 HR0.out x5_1 p101 q101
        cases e101
        replace p101 := eq_true p101
        replace q101 := eq_true q101
        have p102 : 0 ≤ (x5_1 : Int) := of_decide_eq_true (by first | (with_reducible assumption) | assumption)
        have q102 : x5_1 < (l1.length : Int) := of_decide_eq_true (by first | (with_reducible assumption) | assumption)
        obtain ⟨ad102, e102, hx102_0, hx102_1⟩ := at_T40 HR1.out x5_1 p102 q102
        cases e102
        replace p102 := eq_true p102
        replace q102 := eq_true q102
        go_wp2
        repeat (go_quiet (fail); try go_wp2)
        go_ret
        exact ⟨by first | rfl | (simp; done) | (simp [*]; done), by repeat (first | exact Drawn0.refl _ | apply Drawn0.step)⟩
       ·rw [if_neg c7] at H
        have c7b0 : (!(((rd_T40 l0 x5_1).f0) == ((rd_T40 l1 x5_1).f0)) || (!(((rd_T40 l0 x5_1).f1) == ((rd_T40 l1 x5_1).f1)))) = false := by simpa using c7
        clear c7
        have H' := Aside0.mk H
        clear H
        have p101 : 0 ≤ (x5_1 : Int) := of_decide_eq_true (by first | (with_reducible assumption) | assumption)
        have q101 : x5_1 < (l0.length : Int) := of_decide_eq_true (by first | (with_reducible assumption) | assumption)
        obtain ⟨ad101, e101, hx101_0, hx101_1⟩ := at_T40 HR0.out x5_1 p101 q101
        cases e101
        replace p101 := eq_true p101
        replace q101 := eq_true q101
        have p102 : 0 ≤ (x5_1 : Int) := of_decide_eq_true (by first | (with_reducible assumption) | assumption)
        have q102 : x5_1 < (l1.length : Int) := of_decide_eq_true (by first | (with_reducible assumption) | assumption)
        obtain ⟨ad102, e102, hx102_0, hx102_1⟩ := at_T40 HR1.out x5_1 p102 q102
        cases e102
        replace p102 := eq_true p102
        replace q102 := eq_true q102
        go_wp2
        repeat (go_quiet (fail); try go_wp2)
        go_roundg k1
        case measure => have := HK1.out; omega
        case rel => exact ⟨(wrap64 (x5_1 + 1)), (by first | rfl | (simp; done) | (simp [*]; done)), H', ⟨by have := HK1.out; omega⟩, by repeat (first | exact Drawn0.refl _ | apply Drawn0.step)⟩
      ·rw [if_neg c6] at H
       exact absurd H (by simp)
     ·rw [if_neg c5] at H
      exact absurd H (by simp)
    ·rw [if_neg c4] at H
     have c4b0 : decide (x5_1 < (l0.length : Int)) = false := decide_eq_false c4
     clear c4
     obtain rfl := Option.some.inj H
     go_wp2
     repeat (go_quiet (fail); try go_wp2)
     go_ret
     exact ⟨by first | rfl | (simp; done) | (simp [*]; done), by repeat (first | exact Drawn0.refl _ | apply Drawn0.step)⟩
 ·rw [if_neg c3] at H
  have c3b0 : ((l0.length : Int) == (l1.length : Int)) = false := beq_eq_false_iff_ne.mpr c3
  have c3b1 : ((l0.length : Int) != (l1.length : Int)) = true := bne_iff_ne.mpr c3
  have c3b2 : (l0.length == l1.length) = false := by first | simpa using c3 | (simp at c3 ⊢; omega)
  obtain rfl := Option.some.inj H
  go_enter Try.func49, Try.ntmps49
  go_wp2
  repeat (go_quiet (fail); try go_wp2)
  go_ret
  exact ⟨by first | rfl | (simp; done) | (simp [*]; done), by repeat (first | exact Drawn0.refl _ | apply Drawn0.step)⟩
end Go.Proofs.Ytkkfkdncddbaeaa.Fn
namespace Go.Proofs.Ytkkfkdncddbaeaa.Fn
open Go.RowKit Go.Proofs.YtkkfkdncddbaeaaW.PrintWords Go.Proofs.YtkkfkdncddbaeaaW.PrintLast Go.Proofs.YtkkfkdncddbaeaaW.PrintMore
attribute [local go_sem] max2_int min2_int max_two min_two max_three min_three max_four min_four
set_option linter.unusedVariables false
set_option linter.unusedSimpArgs false
theorem eqA96 (d : Nat) (w : World) (x0 y0 : Int) (x1 y1 : Int) (x2 y2 : Int) :
    (Op.equalIn (d + 2) 96 (.agg #[.int .i64 x0, .int .i64 x1, .int .i64 x2]) (.agg #[.int .i64 y0, .int .i64 y1, .int .i64 y2])).run Try.prog w = .ok (x0 == y0 && (x1 == y1 && (x2 == y2))) w := by
  refine eqA_of Try.underlying96 (by kernel_rfl) ?_
  refine eqf_cons (by rfl) (by go_simp; rfl) (by go_simp; rfl) (by go_simp) ?_
  refine eqf_cons (by rfl) (by go_simp; rfl) (by go_simp; rfl) (by go_simp) ?_
  exact eqf_last (by rfl) (by go_simp; rfl) (by go_simp; rfl) (by go_simp)
def flagstonelaw09_num.f (a0 : Int) : Option (Int) := some a0
set_option maxHeartbeats 8000000 in
set_option maxRecDepth 100000 in
theorem flagstonelaw09_num.calls (a0 : Int) (r : Int) (w : World) (h : flagstonelaw09_num.f a0 = some r) :
 Calls Try.prog 60 #[.int .i64 a0] w fun e w' => e = .returned (.int .i64 r) ∧ Drawn0 w w' := by
 have H : (some a0) = some r := h
 clear h
 obtain rfl := Option.some.inj H
 go_enter Try.func60, Try.ntmps60
 go_wp2
 go_ret
 exact ⟨by first | rfl | (simp; done) | (simp [*]; done), by repeat (first | exact Drawn0.refl _ | apply Drawn0.step)⟩
namespace Flag
structure Ex where
  v : Int
  p : Int
  n : Int
def valAt (x : Ex) (i : Int) : Int := if x.p < 0 then x.p else x.p + (i - x.v)
def lookE : List Ex → Int → Option Int
  | [], _ => none
  | x :: t, i => if x.v ≤ i ∧ i < x.v + x.n then some (valAt x i) else lookE t i
def goesOn (a b : Ex) : Prop := a.v + a.n = b.v ∧ ((a.p < 0 ∧ b.p = a.p) ∨ (0 ≤ a.p ∧ b.p = a.p + a.n))
instance (a b : Ex) : Decidable (goesOn a b) := inferInstanceAs (Decidable (_ ∧ _))
abbrev okE (x : Ex) : Prop := 0 < x.n
def NF : List Ex → Prop
  | [] => True
  | [x] => okE x
  | x :: y :: t => okE x ∧ x.v + x.n ≤ y.v ∧ ¬ goesOn x y ∧ NF (y :: t)
theorem NF.head {x : Ex} {t : List Ex} (h : NF (x :: t)) : okE x := by
  cases t with
  | nil => exact h
  | cons y t => exact h.1
theorem NF.tail {x : Ex} {t : List Ex} (h : NF (x :: t)) : NF t := by
  cases t with
  | nil => trivial
  | cons y t => exact h.2.2.2
theorem NF.all {l : List Ex} (h : NF l) : ∀ x ∈ l, okE x := by
  induction l with
  | nil => intro x hx; cases hx
  | cons y t ih =>
    intro x hx
    cases hx with
    | head => exact h.head
    | tail _ hx => exact ih h.tail x hx
theorem NF.after {x : Ex} {t : List Ex} (h : NF (x :: t)) : ∀ y ∈ t, x.v + x.n ≤ y.v := by
  induction t generalizing x with
  | nil => intro y hy; cases hy
  | cons z t ih =>
    intro y hy
    cases hy with
    | head => exact h.2.1
    | tail _ hy =>
      have h1 := ih h.tail y hy
      have h2 := h.2.1
      have h3 := h.tail.head
      omega
theorem lookE_none {l : List Ex} {i : Int} (h : ∀ x ∈ l, i < x.v) : lookE l i = none := by
  induction l with
  | nil => rfl
  | cons x t ih =>
    have h1 := h x List.mem_cons_self
    rw [lookE, if_neg (by omega)]
    exact ih (fun y hy => h y (List.mem_cons_of_mem _ hy))
theorem lookE_some_mem {l : List Ex} {i r : Int} (h : lookE l i = some r) : ∃ x ∈ l, x.v ≤ i ∧ i < x.v + x.n ∧ r = valAt x i := by
  induction l with
  | nil => simp [lookE] at h
  | cons x t ih =>
    rw [lookE] at h
    split at h
    · rename_i hx
      exact ⟨x, List.mem_cons_self, hx.1, hx.2, (Option.some.inj h).symm⟩
    · obtain ⟨y, hy, r⟩ := ih h
      exact ⟨y, List.mem_cons_of_mem _ hy, r⟩
theorem lookE_head {x : Ex} {t : List Ex} {i : Int} (h1 : x.v ≤ i) (h2 : i < x.v + x.n) : lookE (x :: t) i = some (valAt x i) := by rw [lookE, if_pos ⟨h1, h2⟩]
theorem lookE_before {x : Ex} {t : List Ex} {i : Int} (h : NF (x :: t)) (h1 : i < x.v) : lookE (x :: t) i = none := by
  apply lookE_none
  intro y hy
  cases hy with
  | head => exact h1
  | tail _ hy =>
    have := h.after y hy
    have := h.head
    unfold okE at this
    omega
theorem lookE_tail {x : Ex} {t : List Ex} {i : Int} (h1 : ¬ (x.v ≤ i ∧ i < x.v + x.n)) : lookE (x :: t) i = lookE t i := by rw [lookE, if_neg h1]
theorem valAt_start (x : Ex) : valAt x x.v = x.p := by unfold valAt; split <;> omega
theorem NF.ext {l m : List Ex} (hl : NF l) (hm : NF m) (h : ∀ i, lookE l i = lookE m i) : l = m := by
  induction l generalizing m with
  | nil =>
    cases m with
    | nil => rfl
    | cons y t =>
      have h1 := h y.v
      have := hm.head
      rw [lookE_head (Int.le_refl _) (by omega)] at h1
      simp [lookE] at h1
  | cons x t ih =>
    cases m with
    | nil =>
      have h1 := h x.v
      have := hl.head
      rw [lookE_head (Int.le_refl _) (by omega)] at h1
      simp [lookE] at h1
    | cons y u =>
      have ox := hl.head
      have oy := hm.head
      have hx0 := ox
      have hy0 := oy
      have hv : x.v = y.v := by
        rcases Int.lt_trichotomy x.v y.v with h1 | h1 | h1
        · have h2 := h x.v
          rw [lookE_head (Int.le_refl _) (by omega), lookE_before hm h1] at h2
          cases h2
        · exact h1
        · have h2 := h y.v
          rw [lookE_before hl h1, lookE_head (Int.le_refl _) (by omega)] at h2
          cases h2
      have hp : x.p = y.p := by
        have h2 := h x.v
        rw [lookE_head (Int.le_refl _) (by omega), lookE_head (by omega) (by omega), valAt_start, hv, valAt_start] at h2
        exact Option.some.inj h2
      have key : ∀ {x y : Ex} {t u : List Ex}, NF (x :: t) → NF (y :: u) → (∀ i, lookE (x :: t) i = lookE (y :: u) i) → x.v = y.v → x.p = y.p → ¬ x.n < y.n := by
        intro x y t u hl hm h hv hp hn
        have ox := hl.head
        have oy := hm.head
        have hx0 := ox
        have h2 := h (x.v + x.n)
        rw [lookE_head (x := y) (by omega) (by omega), lookE_tail (by omega)] at h2
        obtain ⟨z, hz, hz1, hz2, hz3⟩ := lookE_some_mem h2
        cases t with
        | nil => cases hz
        | cons z0 t =>
          have a1 := hl.2.1
          have hz0 : z = z0 := by
            cases hz with
            | head => rfl
            | tail _ hz =>
              have := hl.tail.after z hz
              have := hl.tail.head
              omega
          subst hz0
          have hzv : z.v = x.v + x.n := by omega
          apply hl.2.2.1
          refine ⟨hzv.symm, ?_⟩
          rw [← hzv, valAt_start] at hz3
          unfold valAt at hz3
          by_cases hxp : x.p < 0
          · rw [if_pos (by omega)] at hz3
            exact .inl ⟨hxp, by omega⟩
          · rw [if_neg (by omega)] at hz3
            exact .inr ⟨by omega, by omega⟩
      have hn : x.n = y.n := by
        have k1 := key hl hm h hv hp
        have k2 := key hm hl (fun i => (h i).symm) hv.symm hp.symm
        omega
      have hxy : x = y := by
        cases x
        cases y
        simp_all
      subst hxy
      congr 1
      refine ih hl.tail hm.tail fun i => ?_
      by_cases hi : x.v ≤ i ∧ i < x.v + x.n
      · have e1 : ∀ {t : List Ex}, NF (x :: t) → lookE t i = none := by
          intro t ht
          apply lookE_none
          intro z hz
          have := ht.after z hz
          omega
        rw [e1 hl, e1 hm]
      · have h2 := h i
        rwa [lookE_tail hi, lookE_tail hi] at h2
theorem lookE_append (l m : List Ex) (i : Int) : lookE (l ++ m) i = match lookE l i with | some r => some r | none => lookE m i := by
  induction l with
  | nil => rfl
  | cons x t ih =>
    rw [List.cons_append, lookE, lookE]
    split
    · rfl
    · exact ih
def lastOk (l : List Ex) (x : Ex) : Prop := ∀ y, l.getLast? = some y → y.v + y.n ≤ x.v ∧ ¬ goesOn y x
theorem NF_snoc {l : List Ex} {x : Ex} : NF (l ++ [x]) ↔ NF l ∧ okE x ∧ lastOk l x := by
  induction l with
  | nil => simp [NF, lastOk]
  | cons y t ih =>
    cases t with
    | nil => simp [NF, lastOk]; intros; constructor <;> intro h <;> simp_all
    | cons z t =>
      have e : lastOk (y :: z :: t) x ↔ lastOk (z :: t) x := by simp [lastOk]
      rw [e]
      have e2 : y :: z :: t ++ [x] = y :: z :: (t ++ [x]) := rfl
      have e3 : z :: t ++ [x] = z :: (t ++ [x]) := rfl
      rw [e3] at ih
      rw [e2]
      simp only [NF, ih]
      constructor <;> intro h <;> simp_all
def addE (l : List Ex) (x : Ex) : List Ex :=
  if x.n ≤ 0 then l else
    match l.getLast? with
    | none => [x]
    | some y => if goesOn y x then l.dropLast ++ [⟨y.v, y.p, y.n + x.n⟩] else l ++ [x]
theorem getLast?_split {l : List Ex} {y : Ex} (h : l.getLast? = some y) : l = l.dropLast ++ [y] := by
  have hne : l ≠ [] := by rintro rfl; simp at h
  have h2 := List.dropLast_concat_getLast hne
  rw [List.getLast?_eq_some_getLast hne] at h
  injection h with h
  rw [h] at h2
  exact h2.symm
theorem addE_split {l : List Ex} {y x : Ex} (hx : 0 < x.n) (hg : goesOn y x) : addE (l ++ [y]) x = l ++ [⟨y.v, y.p, y.n + x.n⟩] := by
  unfold addE
  rw [if_neg (by omega)]
  simp [hg]
theorem addE_empty {l : List Ex} {x : Ex} (hx : x.n ≤ 0) : addE l x = l := by unfold addE; rw [if_pos hx]
theorem addE_new {l : List Ex} {x : Ex} (hx : 0 < x.n) (h : ∀ y, l.getLast? = some y → ¬ goesOn y x) : addE l x = l ++ [x] := by
  unfold addE
  rw [if_neg (by omega)]
  cases hl : l.getLast? with
  | none =>
    have : l = [] := List.getLast?_eq_none_iff.1 hl
    simp [this]
  | some y => simp [h y hl]
theorem goesOn_val {y x : Ex} (hg : goesOn y x) (hy : okE y) (i : Int) : valAt ⟨y.v, y.p, y.n + x.n⟩ i = valAt x i := by
  obtain ⟨h1, h2⟩ := hg
  unfold valAt
  dsimp only
  rcases h2 with ⟨a, b⟩ | ⟨a, b⟩
  · rw [if_pos a, if_pos (by omega), b]
  · by_cases hn : x.p < 0
    · exact absurd hy (by unfold okE; omega)
    · rw [if_neg (by omega), if_neg hn]; omega
def endsBy (l : List Ex) (b : Int) : Prop := ∀ x ∈ l, x.v + x.n ≤ b
theorem endsBy.last {l : List Ex} {b : Int} (h : endsBy l b) {y : Ex} (hy : l.getLast? = some y) : y.v + y.n ≤ b := h y (List.mem_of_getLast? hy)
theorem endsBy.mono {l : List Ex} {a b : Int} (h : endsBy l a) (hab : a ≤ b) : endsBy l b := fun x hx => Int.le_trans (h x hx) hab
theorem endsBy_nil (b : Int) : endsBy [] b := fun x hx => by cases hx
theorem addE_spec {l : List Ex} {x : Ex} (hl : NF l) (he : endsBy l x.v) :
    NF (addE l x) ∧ endsBy (addE l x) (max x.v (x.v + x.n)) ∧ ∀ i, lookE (addE l x) i = if x.v ≤ i ∧ i < x.v + x.n then some (valAt x i) else lookE l i := by
  by_cases hx : x.n ≤ 0
  · rw [addE_empty hx]
    refine ⟨hl, he.mono (by omega), fun i => ?_⟩
    rw [if_neg (by omega)]
  have hx : 0 < x.n := by omega
  have okx : okE x := hx
  by_cases hg : ∃ y, l.getLast? = some y ∧ goesOn y x
  · obtain ⟨y, hy, hg⟩ := hg
    obtain ⟨m, rfl⟩ : ∃ m, l = m ++ [y] := ⟨_, getLast?_split hy⟩
    rw [addE_split hx hg]
    obtain ⟨hm, hyo, hlast⟩ := NF_snoc.1 hl
    have hend : y.v + y.n = x.v := hg.1
    refine ⟨NF_snoc.2 ⟨hm, (by unfold okE at *; show 0 < y.n + x.n; omega), fun z hz => ?_⟩, ?_, fun i => ?_⟩
    · obtain ⟨h1, h2⟩ := hlast z hz
      exact ⟨h1, h2⟩
    · intro z hz
      rcases List.mem_append.1 hz with hz | hz
      · have := he z (List.mem_append_left _ hz)
        omega
      · have : z = ⟨y.v, y.p, y.n + x.n⟩ := by simpa using hz
        subst this
        show y.v + (y.n + x.n) ≤ _
        omega
    · rw [lookE_append, lookE_append]
      cases hm' : lookE m i with
      | some r =>
        obtain ⟨z, hz, hz1, hz2, _⟩ := lookE_some_mem hm'
        have := he z (List.mem_append_left _ hz)
        simp only
        rw [if_neg (by omega)]
      | none =>
        simp only [lookE]
        by_cases h1 : x.v ≤ i ∧ i < x.v + x.n
        · rw [if_pos (by unfold okE at *; omega), if_pos h1, goesOn_val hg hyo i]
        · rw [if_neg h1]
          by_cases h2 : y.v ≤ i ∧ i < y.v + y.n
          · rw [if_pos (by omega), if_pos h2]; rfl
          · rw [if_neg (by omega), if_neg h2]
  · have hg' : ∀ y, l.getLast? = some y → ¬ goesOn y x := fun y hy hgo => hg ⟨y, hy, hgo⟩
    rw [addE_new hx hg']
    refine ⟨NF_snoc.2 ⟨hl, okx, fun y hy => ⟨he.last hy, hg' y hy⟩⟩, ?_, fun i => ?_⟩
    · intro z hz
      rcases List.mem_append.1 hz with hz | hz
      · have := he z hz
        omega
      · have : z = x := by simpa using hz
        subst this
        omega
    · rw [lookE_append]
      cases hm' : lookE l i with
      | some r =>
        obtain ⟨z, hz, hz1, hz2, _⟩ := lookE_some_mem hm'
        have := he z hz
        simp only
        rw [if_neg (by omega)]
      | none =>
        simp only [lookE]
end Flag
namespace Flag
def part (x : Ex) (a b : Int) : Ex := ⟨max a x.v, if x.p < 0 then x.p else x.p + (max a x.v - x.v), min b (x.v + x.n) - max a x.v⟩
def okMap (x : Ex) : Prop := 0 < x.n ∧ 0 ≤ x.v ∧ x.v + x.n ≤ 65536 ∧ 0 ≤ x.p ∧ x.p + x.n ≤ 65536
structure Map5 (l : List Ex) : Prop where
  len : l.length ≤ 1024
  ok : ∀ x ∈ l, okMap x
  nf : NF l
end Flag
namespace Flag
end Flag
namespace Flag
def mayE (x : Ex) : Bool := decide (0 < x.n) && (decide (0 ≤ x.v) && decide (x.v + x.n ≤ 65536)) && (decide (0 ≤ x.p) && decide (x.p + x.n ≤ 65536))
theorem mayE_iff {x : Ex} : mayE x = true ↔ okMap x := by simp [mayE, okMap, and_assoc]
def restB : Ex → List Ex → Bool
  | _, [] => true
  | x, y :: t => mayE y && decide (x.v + x.n ≤ y.v) && !decide (goesOn x y) && restB y t
def mapB : List Ex → Bool
  | [] => true
  | x :: t => mayE x && restB x t
theorem restB_iff {x : Ex} {t : List Ex} (hx : okMap x) : restB x t = true ↔ (∀ y ∈ t, okMap y) ∧ NF (x :: t) := by
  induction t generalizing x with
  | nil => simp [restB, NF, okE, hx.1]
  | cons y t ih =>
    simp only [restB, Bool.and_eq_true, Bool.not_eq_true', decide_eq_true_eq, decide_eq_false_iff_not, mayE_iff, NF]
    constructor
    · rintro ⟨⟨⟨h1, h2⟩, h3⟩, h4⟩
      obtain ⟨h5, h6⟩ := (ih h1).1 h4
      refine ⟨fun z hz => ?_, hx.1, h2, h3, h6⟩
      rcases List.mem_cons.1 hz with rfl | hz
      · exact h1
      · exact h5 z hz
    · rintro ⟨h1, _, h2, h3, h4⟩
      have hy := h1 y List.mem_cons_self
      exact ⟨⟨⟨hy, h2⟩, h3⟩, (ih hy).2 ⟨fun z hz => h1 z (List.mem_cons_of_mem _ hz), h4⟩⟩
theorem mapB_iff {l : List Ex} : mapB l = true ↔ (∀ y ∈ l, okMap y) ∧ NF l := by
  cases l with
  | nil => simp [mapB, NF]
  | cons x t =>
    simp only [mapB, Bool.and_eq_true, mayE_iff]
    constructor
    · rintro ⟨h1, h2⟩
      obtain ⟨h3, h4⟩ := (restB_iff h1).1 h2
      refine ⟨fun z hz => ?_, h4⟩
      rcases List.mem_cons.1 hz with rfl | hz
      · exact h1
      · exact h3 z hz
    · rintro ⟨h1, h2⟩
      have hx := h1 x List.mem_cons_self
      exact ⟨hx, (restB_iff hx).2 ⟨fun z hz => h1 z (List.mem_cons_of_mem _ hz), h2⟩⟩
def checkE (l : List Ex) : Int := if l.length ≤ 1024 ∧ mapB l = true then 0 else 9
theorem checkE_ok {l : List Ex} : checkE l = 0 ↔ Map5 l := by
  unfold checkE
  split
  · rename_i h
    exact ⟨fun _ => ⟨h.1, (mapB_iff.1 h.2).1, (mapB_iff.1 h.2).2⟩, fun _ => rfl⟩
  · rename_i h
    refine ⟨fun h1 => by simp at h1, fun h1 => absurd ⟨h1.len, mapB_iff.2 ⟨h1.ok, h1.nf⟩⟩ h⟩
end Flag
namespace Flag
structure Sp where
  a : Int
  n : Int
def Sp.ex (s : Sp) : Ex := ⟨s.a, -1, s.n⟩
def memS : List Sp → Int → Prop
  | [], _ => False
  | x :: t, i => (x.a ≤ i ∧ i < x.a + x.n) ∨ memS t i
instance memS_dec : ∀ (l : List Sp) (i : Int), Decidable (memS l i)
  | [], _ => inferInstanceAs (Decidable False)
  | x :: t, i => by
    have := memS_dec t i
    exact inferInstanceAs (Decidable ((x.a ≤ i ∧ i < x.a + x.n) ∨ memS t i))
theorem memS_iff {l : List Sp} {i : Int} : memS l i ↔ ∃ x ∈ l, x.a ≤ i ∧ i < x.a + x.n := by
  induction l with
  | nil => simp [memS]
  | cons x t ih => simp [memS, ih]
theorem memS_append {l m : List Sp} {i : Int} : memS (l ++ m) i ↔ memS l i ∨ memS m i := by
  simp only [memS_iff, List.mem_append]
  constructor
  · rintro ⟨x, hx | hx, h⟩
    · exact .inl ⟨x, hx, h⟩
    · exact .inr ⟨x, hx, h⟩
  · rintro (⟨x, hx, h⟩ | ⟨x, hx, h⟩)
    · exact ⟨x, .inl hx, h⟩
    · exact ⟨x, .inr hx, h⟩
theorem lookE_sp (l : List Sp) (i : Int) : lookE (l.map Sp.ex) i = if memS l i then some (-1) else none := by
  induction l with
  | nil => simp [lookE, memS]
  | cons x t ih =>
    rw [List.map_cons, lookE, ih]
    have e : valAt x.ex i = -1 := by simp [valAt, Sp.ex]
    rw [e]
    show (if x.a ≤ i ∧ i < x.a + x.n then _ else _) = _
    by_cases h : x.a ≤ i ∧ i < x.a + x.n
    · rw [if_pos h, if_pos (.inl h)]
    · rw [if_neg h]
      by_cases h2 : memS t i
      · rw [if_pos h2, if_pos (.inr h2)]
      · rw [if_neg h2, if_neg (fun h3 => h3.elim h h2)]
def NFs : List Sp → Prop
  | [] => True
  | [x] => 0 < x.n
  | x :: y :: t => 0 < x.n ∧ x.a + x.n < y.a ∧ NFs (y :: t)
theorem NFs_iff : ∀ {l : List Sp}, NFs l ↔ NF (l.map Sp.ex)
  | [] => by simp [NFs, NF]
  | [x] => by simp [NFs, NF, Sp.ex]
  | x :: y :: t => by
    have ih := @NFs_iff (y :: t)
    simp only [NFs, List.map_cons, NF] at ih ⊢
    rw [ih]
    simp only [Sp.ex, goesOn, okE]
    constructor
    · rintro ⟨h1, h2, h3⟩
      exact ⟨h1, by omega, by omega, h3⟩
    · rintro ⟨h1, h2, h3, h4⟩
      have h5 : x.a + x.n ≠ y.a := fun e => h3 ⟨e, .inl (by simp)⟩
      exact ⟨h1, by omega, h4⟩
theorem ex_inj {l m : List Sp} (h : l.map Sp.ex = m.map Sp.ex) : l = m := by
  induction l generalizing m with
  | nil => cases m <;> simp_all
  | cons x t ih =>
    cases m with
    | nil => simp at h
    | cons y u =>
      simp only [List.map_cons, List.cons.injEq] at h
      obtain ⟨h1, h2⟩ := h
      have : x = y := by
        cases x
        cases y
        simp only [Sp.ex, Ex.mk.injEq] at h1
        simp [h1.1, h1.2.2]
      rw [this, ih h2]
theorem NFs.ext {l m : List Sp} (hl : NFs l) (hm : NFs m) (h : ∀ i, memS l i ↔ memS m i) : l = m := by
  refine ex_inj (NF.ext (NFs_iff.1 hl) (NFs_iff.1 hm) fun i => ?_)
  rw [lookE_sp, lookE_sp]
  by_cases h1 : memS l i
  · rw [if_pos h1, if_pos ((h i).1 h1)]
  · rw [if_neg h1, if_neg (fun h2 => h1 ((h i).2 h2))]
theorem NFs.head {x : Sp} {t : List Sp} (h : NFs (x :: t)) : 0 < x.n := by
  cases t with
  | nil => exact h
  | cons y t => exact h.1
theorem NFs.tail {x : Sp} {t : List Sp} (h : NFs (x :: t)) : NFs t := by
  cases t with
  | nil => trivial
  | cons y t => exact h.2.2
theorem NFs.after {x : Sp} {t : List Sp} (h : NFs (x :: t)) : ∀ y ∈ t, x.a + x.n < y.a := by
  induction t generalizing x with
  | nil => intro y hy; cases hy
  | cons z t ih =>
    intro y hy
    cases hy with
    | head => exact h.2.1
    | tail _ hy =>
      have h1 := ih h.tail y hy
      have h2 := h.2.1
      have h3 := h.tail.head
      omega
theorem NFs.cons {x : Sp} {t : List Sp} (hx : 0 < x.n) (ht : NFs t) (h : ∀ y ∈ t, x.a + x.n < y.a) : NFs (x :: t) := by
  cases t with
  | nil => exact hx
  | cons y t => exact ⟨hx, h y List.mem_cons_self, ht⟩
theorem NFs.all {l : List Sp} (h : NFs l) : ∀ x ∈ l, 0 < x.n := by
  induction l with
  | nil => intro x hx; cases hx
  | cons y t ih =>
    intro x hx
    cases hx with
    | head => exact h.head
    | tail _ hx => exact ih h.tail x hx
theorem NFs_append {l m : List Sp} (hl : NFs l) (hm : NFs m) (h : ∀ x ∈ l, ∀ y ∈ m, x.a + x.n < y.a) : NFs (l ++ m) := by
  induction l with
  | nil => exact hm
  | cons x t ih =>
    refine NFs.cons hl.head (ih hl.tail fun z hz => h z (List.mem_cons_of_mem _ hz)) fun y hy => ?_
    rcases List.mem_append.1 hy with hy | hy
    · exact hl.after y hy
    · exact h x List.mem_cons_self y hy
theorem NFs_of_append {l m : List Sp} (h : NFs (l ++ m)) : NFs l ∧ NFs m ∧ ∀ x ∈ l, ∀ y ∈ m, x.a + x.n < y.a := by
  induction l with
  | nil => exact ⟨trivial, h, fun x hx => by cases hx⟩
  | cons x t ih =>
    obtain ⟨h1, h2, h3⟩ := ih h.tail
    refine ⟨NFs.cons h.head h1 fun y hy => h.after y (List.mem_append_left _ hy), h2, fun z hz y hy => ?_⟩
    cases hz with
    | head => exact h.after y (List.mem_append_right _ hy)
    | tail _ hz => exact h3 z hz y hy
theorem memS_last {L : List Sp} {u : Sp} (h : L.getLast? = some u) : L = L.dropLast ++ [u] := by
  have hne : L ≠ [] := by rintro rfl; simp at h
  have h2 := List.dropLast_concat_getLast hne
  rw [List.getLast?_eq_some_getLast hne] at h
  injection h with h
  rw [h] at h2
  exact h2.symm
end Flag
namespace Flag
def joinStep (out : List Sp) (x : Sp) : List Sp :=
  match out.getLast? with
  | none => [x]
  | some y => if x.a ≤ y.a + y.n then out.dropLast ++ [⟨y.a, max y.n (x.a + x.n - y.a)⟩] else out ++ [x]
def joinS (l : List Sp) : List Sp := l.foldl joinStep []
def risingS (l : List Sp) : Prop := l.Pairwise fun a b => a.a ≤ b.a
theorem joinStep_spec {out : List Sp} {x : Sp} (h : NFs out) (hb : ∀ y ∈ out, y.a ≤ x.a) (hx : 0 < x.n) :
    NFs (joinStep out x) ∧ (∀ i, memS (joinStep out x) i ↔ memS out i ∨ (x.a ≤ i ∧ i < x.a + x.n)) ∧ ∀ y ∈ joinStep out x, y.a ≤ x.a := by
  unfold joinStep
  cases hl : out.getLast? with
  | none =>
    have : out = [] := List.getLast?_eq_none_iff.1 hl
    subst this
    refine ⟨hx, fun i => by simp [memS], fun y hy => ?_⟩
    have : y = x := by simpa using hy
    rw [this]
    exact Int.le_refl _
  | some y =>
    obtain ⟨m, rfl⟩ : ∃ m, out = m ++ [y] := ⟨_, memS_last hl⟩
    obtain ⟨hm, hy, hmy⟩ := NFs_of_append h
    have hy0 : 0 < y.n := hy
    have hyx := hb y (by simp)
    dsimp only
    split
    · rename_i hc
      rw [List.dropLast_concat]
      refine ⟨NFs_append hm (show 0 < max y.n (x.a + x.n - y.a) by omega) fun u hu z hz => ?_, fun i => ?_, fun z hz => ?_⟩
      · have : z = ⟨y.a, max y.n (x.a + x.n - y.a)⟩ := by simpa using hz
        subst this
        exact hmy u hu y (by simp)
      · rw [memS_append, memS_append]
        show memS m i ∨ ((y.a ≤ i ∧ i < y.a + max y.n (x.a + x.n - y.a)) ∨ False) ↔ (memS m i ∨ ((y.a ≤ i ∧ i < y.a + y.n) ∨ False)) ∨ (x.a ≤ i ∧ i < x.a + x.n)
        simp only [or_false]
        constructor
        · rintro (h1 | h1)
          · exact .inl (.inl h1)
          · by_cases h2 : i < y.a + y.n
            · exact .inl (.inr ⟨h1.1, h2⟩)
            · exact .inr (by omega)
        · rintro ((h1 | h1) | h1)
          · exact .inl h1
          · exact .inr (by omega)
          · exact .inr (by omega)
      · rcases List.mem_append.1 hz with hz | hz
        · exact hb z (List.mem_append_left _ hz)
        · have : z = ⟨y.a, max y.n (x.a + x.n - y.a)⟩ := by simpa using hz
          subst this
          exact hyx
    · rename_i hc
      refine ⟨NFs_append h (show NFs [x] from hx) fun u hu z hz => ?_, fun i => ?_, fun z hz => ?_⟩
      · have : z = x := by simpa using hz
        subst this
        rcases List.mem_append.1 hu with hu | hu
        · have := hmy u hu y (by simp)
          omega
        · have : u = y := by simpa using hu
          subst this
          omega
      · rw [memS_append (l := m ++ [y]) (m := [x])]
        show _ ∨ ((x.a ≤ i ∧ i < x.a + x.n) ∨ False) ↔ _
        simp only [or_false]
      · rcases List.mem_append.1 hz with hz | hz
        · exact hb z hz
        · have : z = x := by simpa using hz
          rw [this]
          exact Int.le_refl _
theorem joinS_fold {l : List Sp} : ∀ {out : List Sp}, NFs out → (∀ y ∈ out, ∀ x ∈ l, y.a ≤ x.a) → risingS l → (∀ x ∈ l, 0 < x.n) →
    NFs (l.foldl joinStep out) ∧ ∀ i, memS (l.foldl joinStep out) i ↔ memS out i ∨ memS l i := by
  induction l with
  | nil => intro out h _ _ _; exact ⟨h, fun i => by simp [memS]⟩
  | cons x t ih =>
    intro out h hb hr hp
    have hr2 := List.pairwise_cons.1 hr
    obtain ⟨h1, h2, h3⟩ := joinStep_spec h (fun y hy => hb y hy x List.mem_cons_self) (hp x List.mem_cons_self)
    obtain ⟨h4, h5⟩ := ih h1 (fun y hy z hz => by have := h3 y hy; have := hr2.1 z hz; omega) hr2.2 (fun z hz => hp z (List.mem_cons_of_mem _ hz))
    refine ⟨h4, fun i => ?_⟩
    rw [List.foldl_cons, h5, h2]
    show _ ↔ memS out i ∨ ((x.a ≤ i ∧ i < x.a + x.n) ∨ memS t i)
    exact or_assoc
theorem joinS_spec {l : List Sp} (hr : risingS l) (hp : ∀ x ∈ l, 0 < x.n) : NFs (joinS l) ∧ ∀ i, memS (joinS l) i ↔ memS l i := by
  obtain ⟨h1, h2⟩ := joinS_fold (out := []) trivial (fun y hy => by cases hy) hr hp
  exact ⟨h1, fun i => by rw [joinS, h2]; simp [memS]⟩
theorem memS_perm {l m : List Sp} (h : l.Perm m) (i : Int) : memS l i ↔ memS m i := by
  rw [memS_iff, memS_iff]
  constructor
  · rintro ⟨x, hx, h1⟩; exact ⟨x, h.mem_iff.1 hx, h1⟩
  · rintro ⟨x, hx, h1⟩; exact ⟨x, h.mem_iff.2 hx, h1⟩
theorem joinS_perm {l m : List Sp} (h : l.Perm m) (hl : risingS l) (hm : risingS m) (hp : ∀ x ∈ l, 0 < x.n) : joinS l = joinS m := by
  obtain ⟨h1, h2⟩ := joinS_spec hl hp
  obtain ⟨h3, h4⟩ := joinS_spec hm (fun x hx => hp x (h.mem_iff.2 hx))
  refine NFs.ext h1 h3 fun i => ?_
  rw [h2, h4]
  exact memS_perm h i
end Flag
namespace Flag
def ahead (l : List Sp) (s : Int) : List Sp := l.takeWhile fun x => decide (x.a + x.n ≤ s)
def behind (l : List Sp) (s : Int) : List Sp := l.dropWhile fun x => decide (x.a + x.n ≤ s)
end Flag
namespace Flag
end Flag
namespace Flag
end Flag
namespace Flag
end Flag
namespace Flag
structure Rf where
  p : Int
  n : Int
  o : Int
  v : Int
def ltR (a b : Rf) : Prop := a.p < b.p ∨ (a.p = b.p ∧ (a.o < b.o ∨ (a.o = b.o ∧ a.v < b.v)))
instance (a b : Rf) : Decidable (ltR a b) := inferInstanceAs (Decidable (_ ∨ _))
def leR (a b : Rf) : Prop := ¬ ltR b a
theorem leR_trans {a b c : Rf} (h : leR a b) (g : leR b c) : leR a c := by unfold leR ltR at *; omega
theorem leR_key {a b : Rf} (h : leR a b) (g : leR b a) : a.p = b.p ∧ a.o = b.o ∧ a.v = b.v := by unfold leR ltR at *; omega
def insR (out : List Rf) (x : Rf) : List Rf := out.takeWhile (fun y => decide (¬ ltR x y)) ++ x :: out.dropWhile (fun y => decide (¬ ltR x y))
def sortR (l : List Rf) : List Rf := l.foldl insR []
theorem insR_perm (out : List Rf) (x : Rf) : (insR out x).Perm (x :: out) := by
  unfold insR
  refine List.perm_middle.trans ?_
  rw [List.takeWhile_append_dropWhile]
theorem insR_sorted {out : List Rf} {x : Rf} (h : out.Pairwise leR) : (insR out x).Pairwise leR := by
  unfold insR
  rw [List.pairwise_append]
  have e := List.takeWhile_append_dropWhile (p := fun y => decide (¬ ltR x y)) (l := out)
  have h2 := h
  rw [← e, List.pairwise_append] at h2
  have ht : ∀ y ∈ out.takeWhile (fun y => decide (¬ ltR x y)), leR y x := by
    intro y hy
    have := List.all_takeWhile (p := fun y => decide (¬ ltR x y)) (l := out)
    have := List.all_eq_true.1 this y hy
    have h3 : ¬ ltR x y := of_decide_eq_true this
    exact h3
  have hd : ∀ y ∈ out.dropWhile (fun y => decide (¬ ltR x y)), leR x y := by
    intro y hy
    cases hdw : out.dropWhile (fun y => decide (¬ ltR x y)) with
    | nil => rw [hdw] at hy; cases hy
    | cons z t =>
      have hz := List.head?_dropWhile_not (fun y => decide (¬ ltR x y)) out
      rw [hdw] at hz hy h2
      have hz' : ltR x z := by simpa using hz
      have hxz : leR x z := by unfold leR ltR at *; omega
      cases hy with
      | head => exact hxz
      | tail _ hy => exact leR_trans hxz ((List.pairwise_cons.1 h2.2.1).1 y hy)
  refine ⟨h2.1, List.pairwise_cons.2 ⟨hd, h2.2.1⟩, fun a ha b hb => ?_⟩
  cases hb with
  | head => exact ht a ha
  | tail _ hb => exact h2.2.2 a ha b hb
theorem sortR_fold {l : List Rf} : ∀ {out : List Rf}, out.Pairwise leR → (l.foldl insR out).Perm (out ++ l) ∧ (l.foldl insR out).Pairwise leR := by
  induction l with
  | nil => intro out h; rw [List.append_nil]; exact ⟨List.Perm.refl _, h⟩
  | cons x t ih =>
    intro out h
    obtain ⟨h1, h2⟩ := ih (insR_sorted (x := x) h)
    refine ⟨h1.trans ?_, h2⟩
    refine ((insR_perm out x).append_right t).trans ?_
    rw [List.cons_append]
    exact List.perm_middle.symm
theorem sortR_perm (l : List Rf) : (sortR l).Perm l := (sortR_fold (l := l) List.Pairwise.nil).1
theorem sortR_sorted (l : List Rf) : (sortR l).Pairwise leR := (sortR_fold (l := l) List.Pairwise.nil).2
def KeyR (l : List Rf) : Prop := ∀ a ∈ l, ∀ b ∈ l, a.p = b.p → a.o = b.o → a.v = b.v → a = b
theorem sorted_one {l m : List Rf} (hk : KeyR m) (hp : l.Perm m) (hl : l.Pairwise leR) : l = sortR m :=
  List.Perm.eq_of_pairwise (le := leR) (fun a b ha hb h g => by
    obtain ⟨k1, k2, k3⟩ := leR_key h g
    exact hk a (hp.mem_iff.1 ha) b ((sortR_perm m).mem_iff.1 hb) k1 k2 k3) hl (sortR_sorted m) (hp.trans (sortR_perm m).symm)
structure Mp where
  o : Int
  l : List Ex
def risM : Int → List Mp → Bool
  | _, [] => true
  | e, x :: t => decide (e < x.o) && decide (x.o ≤ 255) && decide (checkE x.l = 0) && risM x.o t
def checkM (m : List Mp) : Int := if m.length ≤ 9 ∧ risM (-1) m = true then 0 else 9
theorem risM_iff {m : List Mp} : ∀ {e : Int}, risM e m = true ↔ (∀ x ∈ m, e < x.o ∧ x.o ≤ 255 ∧ checkE x.l = 0) ∧ m.Pairwise (fun a b => a.o < b.o) := by
  induction m with
  | nil => intro e; simp [risM]
  | cons x t ih =>
    intro e
    rw [risM, List.pairwise_cons]
    simp only [Bool.and_eq_true, decide_eq_true_eq, ih, List.mem_cons, forall_eq_or_imp]
    constructor
    · rintro ⟨⟨⟨h1, h2⟩, h3⟩, h4, h5⟩
      exact ⟨⟨⟨h1, h2, h3⟩, fun y hy => ⟨by have := (h4 y hy).1; omega, (h4 y hy).2⟩⟩, fun y hy => (h4 y hy).1, h5⟩
    · rintro ⟨⟨⟨h1, h2, h3⟩, h4⟩, h5, h6⟩
      exact ⟨⟨⟨h1, h2⟩, h3⟩, fun y hy => ⟨h5 y hy, (h4 y hy).2⟩, h6⟩
structure Maps9 (m : List Mp) : Prop where
  len : m.length ≤ 9
  each : ∀ x ∈ m, 0 ≤ x.o ∧ x.o ≤ 255 ∧ Map5 x.l
  ris : m.Pairwise fun a b => a.o < b.o
theorem checkM_ok {m : List Mp} : checkM m = 0 ↔ Maps9 m := by
  unfold checkM
  constructor
  · intro h
    split at h
    · rename_i hc
      obtain ⟨h1, h2⟩ := risM_iff.1 hc.2
      exact ⟨hc.1, fun x hx => ⟨by have := (h1 x hx).1; omega, (h1 x hx).2.1, checkE_ok.1 (h1 x hx).2.2⟩, h2⟩
    · cases h
  · intro h
    rw [if_pos ⟨h.len, risM_iff.2 ⟨fun x hx => ⟨by have := (h.each x hx).1; omega, (h.each x hx).2.1, checkE_ok.2 (h.each x hx).2.2⟩, h.ris⟩⟩]
theorem checkM_or (m : List Mp) : checkM m = 0 ∨ checkM m = 9 := by unfold checkM; split <;> simp
def refsM (m : List Mp) : List Rf := m.flatMap fun x => x.l.map fun y => ⟨y.p, y.n, x.o, y.v⟩
theorem mem_refsM {m : List Mp} {r : Rf} : r ∈ refsM m ↔ ∃ x ∈ m, ∃ y ∈ x.l, r = ⟨y.p, y.n, x.o, y.v⟩ := by
  unfold refsM
  rw [List.mem_flatMap]
  constructor
  · rintro ⟨x, hx, h⟩
    obtain ⟨y, hy, rfl⟩ := List.mem_map.1 h
    exact ⟨x, hx, y, hy, rfl⟩
  · rintro ⟨x, hx, y, hy, rfl⟩
    exact ⟨x, hx, List.mem_map.2 ⟨y, hy, rfl⟩⟩
theorem owner_one {m : List Mp} (h : m.Pairwise fun a b => a.o < b.o) : ∀ x ∈ m, ∀ y ∈ m, x.o = y.o → x = y := by
  induction m with
  | nil => intro x hx; cases hx
  | cons z t ih =>
    obtain ⟨h1, h2⟩ := List.pairwise_cons.1 h
    intro x hx y hy e
    cases hx with
    | head =>
      cases hy with
      | head => rfl
      | tail _ hy => have := h1 y hy; omega
    | tail _ hx =>
      cases hy with
      | head => have := h1 x hx; omega
      | tail _ hy => exact ih h2 x hx y hy e
theorem NF.one {l : List Ex} (h : NF l) : ∀ x ∈ l, ∀ y ∈ l, ∀ i : Int, x.v ≤ i → i < x.v + x.n → y.v ≤ i → i < y.v + y.n → x = y := by
  induction l with
  | nil => intro x hx; cases hx
  | cons z t ih =>
    intro x hx y hy i a b c d
    cases hx with
    | head =>
      cases hy with
      | head => rfl
      | tail _ hy => have := h.after y hy; omega
    | tail _ hx =>
      cases hy with
      | head => have := h.after x hx; omega
      | tail _ hy => exact ih h.tail x hx y hy i a b c d
structure Ok9 (l : List Rf) : Prop where
  each : ∀ r ∈ l, 0 < r.n ∧ 0 ≤ r.p ∧ r.p + r.n ≤ 65536 ∧ 0 ≤ r.v ∧ r.v + r.n ≤ 65536 ∧ 0 ≤ r.o ∧ r.o ≤ 255
  one : ∀ r ∈ l, ∀ s ∈ l, ∀ i : Int, r.o = s.o → r.v ≤ i → i < r.v + r.n → s.v ≤ i → i < s.v + s.n → r = s
theorem Ok9.perm {l m : List Rf} (h : Ok9 l) (hp : m.Perm l) : Ok9 m :=
  ⟨fun r hr => h.each r (hp.mem_iff.1 hr), fun r hr s hs => h.one r (hp.mem_iff.1 hr) s (hp.mem_iff.1 hs)⟩
theorem Ok9.key {l : List Rf} (h : Ok9 l) : KeyR l := fun a ha b hb _ e2 e3 => by
  have ha' := (h.each a ha).1
  have hb' := (h.each b hb).1
  exact h.one a ha b hb a.v e2 (by omega) (by omega) (by omega) (by omega)
theorem refsM_ok {m : List Mp} (h : Maps9 m) : Ok9 (refsM m) := by
  constructor
  · intro r hr
    obtain ⟨x, hx, y, hy, rfl⟩ := mem_refsM.1 hr
    obtain ⟨h1, h2, h3⟩ := h.each x hx
    obtain ⟨k1, k2, k3, k4, k5⟩ := h3.ok y hy
    exact ⟨k1, k4, k5, k2, k3, h1, h2⟩
  · intro r hr s hs i e a b c d
    obtain ⟨x, hx, y, hy, rfl⟩ := mem_refsM.1 hr
    obtain ⟨x', hx', y', hy', rfl⟩ := mem_refsM.1 hs
    obtain rfl := owner_one h.ris x hx x' hx' e
    obtain rfl := (h.each x hx).2.2.nf.one y hy y' hy' i a b c d
    rfl
def cover (r : Rf) (i : Int) : Prop := r.p ≤ i ∧ i < r.p + r.n
instance (r : Rf) (i : Int) : Decidable (cover r i) := inferInstanceAs (Decidable (_ ∧ _))
def cnt : List Rf → Int → Int
  | [], _ => 0
  | r :: t, i => (if cover r i then 1 else 0) + cnt t i
theorem cnt_nonneg (l : List Rf) (i : Int) : 0 ≤ cnt l i := by
  induction l with
  | nil => exact Int.le_refl _
  | cons r t ih => rw [cnt]; split <;> omega
theorem cnt_pos {l : List Rf} {i : Int} : 0 < cnt l i ↔ ∃ r ∈ l, cover r i := by
  induction l with
  | nil => simp [cnt]
  | cons r t ih =>
    have := cnt_nonneg t i
    rw [cnt]
    constructor
    · intro h
      by_cases hc : cover r i
      · exact ⟨r, List.mem_cons_self, hc⟩
      · rw [if_neg hc] at h
        obtain ⟨s, hs, hi⟩ := ih.1 (by omega)
        exact ⟨s, List.mem_cons_of_mem _ hs, hi⟩
    · rintro ⟨s, hs, hi⟩
      cases hs with
      | head => rw [if_pos hi]; omega
      | tail _ hs =>
        have := ih.2 ⟨s, hs, hi⟩
        split <;> omega
theorem cnt_perm {l m : List Rf} (h : l.Perm m) (i : Int) : cnt l i = cnt m i := by
  induction h with
  | nil => rfl
  | cons x _ ih => rw [cnt, cnt, ih]
  | swap x y l => rw [cnt, cnt, cnt, cnt]; omega
  | trans _ _ h1 h2 => rw [h1, h2]
structure Ed where
  a : Int
  b : Int
def edges (l : List Rf) : List Ed := l.flatMap fun r => [⟨r.p, 1⟩, ⟨r.p + r.n, -1⟩]
def sumE : List Ed → Int → Int
  | [], _ => 0
  | e :: t, i => (if e.a ≤ i then e.b else 0) + sumE t i
def totE : List Ed → Int
  | [] => 0
  | e :: t => e.b + totE t
theorem sumE_append (l m : List Ed) (i : Int) : sumE (l ++ m) i = sumE l i + sumE m i := by
  induction l with
  | nil => rw [List.nil_append, sumE]; omega
  | cons e t ih => rw [List.cons_append, sumE, sumE, ih]; omega
theorem sumE_perm {l m : List Ed} (h : l.Perm m) (i : Int) : sumE l i = sumE m i := by
  induction h with
  | nil => rfl
  | cons x _ ih => rw [sumE, sumE, ih]
  | swap x y l => rw [sumE, sumE, sumE, sumE]; omega
  | trans _ _ h1 h2 => rw [h1, h2]
theorem totE_append (l m : List Ed) : totE (l ++ m) = totE l + totE m := by
  induction l with
  | nil => rw [List.nil_append, totE]; omega
  | cons e t ih => rw [List.cons_append, totE, totE, ih]; omega
theorem totE_perm {l m : List Ed} (h : l.Perm m) : totE l = totE m := by
  induction h with
  | nil => rfl
  | cons x _ ih => rw [totE, totE, ih]
  | swap x y l => rw [totE, totE, totE, totE]; omega
  | trans _ _ h1 h2 => rw [h1, h2]
theorem sumE_edges {l : List Rf} (h : ∀ r ∈ l, 0 < r.n) (i : Int) : sumE (edges l) i = cnt l i := by
  induction l with
  | nil => rfl
  | cons r t ih =>
    have h1 := h r List.mem_cons_self
    unfold edges at ih ⊢
    rw [List.flatMap_cons, sumE_append, ih fun s hs => h s (List.mem_cons_of_mem _ hs), cnt]
    have hcv : cover r i ↔ r.p ≤ i ∧ i < r.p + r.n := Iff.rfl
    simp only [sumE]
    by_cases c1 : r.p ≤ i
    · by_cases c2 : r.p + r.n ≤ i
      · rw [if_pos c1, if_pos c2, if_neg (by rw [hcv]; omega)]; omega
      · rw [if_pos c1, if_neg c2, if_pos (hcv.2 (by omega))]; omega
    · rw [if_neg c1, if_neg (by omega), if_neg (by rw [hcv]; omega)]; omega
theorem totE_edges (l : List Rf) : totE (edges l) = 0 := by
  induction l with
  | nil => rfl
  | cons r t ih =>
    unfold edges at ih ⊢
    rw [List.flatMap_cons, totE_append, ih]
    simp [totE]
theorem sumE_all {l : List Ed} {i : Int} (h : ∀ e ∈ l, e.a ≤ i) : sumE l i = totE l := by
  induction l with
  | nil => rfl
  | cons e t ih => rw [sumE, totE, if_pos (h e List.mem_cons_self), ih fun x hx => h x (List.mem_cons_of_mem _ hx)]
theorem sumE_none {l : List Ed} {i : Int} (h : ∀ e ∈ l, i < e.a) : sumE l i = 0 := by
  induction l with
  | nil => rfl
  | cons e t ih =>
    have := h e List.mem_cons_self
    rw [sumE, if_neg (by omega), ih fun x hx => h x (List.mem_cons_of_mem _ hx)]; omega
def stepC (s : List Ex × Int × Int) (e : Ed) : List Ex × Int × Int :=
  (if 0 < s.2.1 ∧ s.2.2 < e.a then addE s.1 ⟨s.2.2, s.2.1 + s.2.2, e.a - s.2.2⟩ else s.1, s.2.1 + e.b, e.a)
def foldC (es : List Ed) : List Ex := (es.foldl stepC ([], 0, 0)).1
def lookC (F : Int → Int) (i : Int) : Option Int := if 0 < F i then some (F i + i) else none
theorem foldC_go {rest : List Ed} : ∀ {done : List Ed} {out : List Ex} {n at_ : Int}, n = totE done → 0 ≤ at_ → (∀ e ∈ done, e.a ≤ at_) → (∀ e ∈ rest, at_ ≤ e.a) → rest.Pairwise (fun a b => a.a ≤ b.a) →
    NF out → endsBy out at_ → (∀ i, lookE out i = if i < at_ then lookC (sumE (done ++ rest)) i else none) →
    NF (rest.foldl stepC (out, n, at_)).1 ∧ ∃ b, totE (done ++ rest) = totE done + totE rest ∧ (∀ e ∈ done ++ rest, e.a ≤ b) ∧ ∀ i, lookE (rest.foldl stepC (out, n, at_)).1 i = if i < b then lookC (sumE (done ++ rest)) i else none := by
  induction rest with
  | nil =>
    intro done out n at_ hn h0 h1 h2 hs hN hE hL
    exact ⟨hN, at_, totE_append _ _, by rw [List.append_nil]; exact h1, hL⟩
  | cons e t ih =>
    intro done out n at_ hn h0 h1 h2 hs hN hE hL
    have ha := h2 e List.mem_cons_self
    obtain ⟨s1, s2⟩ := List.pairwise_cons.1 hs
    have hF : ∀ i, at_ ≤ i → i < e.a → sumE (done ++ e :: t) i = n := by
      intro i h3 h4
      rw [sumE_append, sumE_all fun x hx => by have := h1 x hx; omega, sumE_none (l := e :: t) fun x hx => by
        cases hx with
        | head => exact h4
        | tail _ hx => have := s1 x hx; omega]
      omega
    have e1 : done ++ e :: t = (done ++ [e]) ++ t := by simp
    rw [List.foldl_cons, e1]
    rw [e1] at hL hF
    have hnext : ∀ out', NF out' → endsBy out' e.a → (∀ i, lookE out' i = if i < e.a then lookC (sumE ((done ++ [e]) ++ t)) i else none) →
        NF (t.foldl stepC (out', n + e.b, e.a)).1 ∧ ∃ b, totE ((done ++ [e]) ++ t) = totE done + totE (e :: t) ∧ (∀ x ∈ (done ++ [e]) ++ t, x.a ≤ b) ∧ ∀ i, lookE (t.foldl stepC (out', n + e.b, e.a)).1 i = if i < b then lookC (sumE ((done ++ [e]) ++ t)) i else none := by
      intro out' hN' hE' hL'
      obtain ⟨q1, b, q2, q3, q4⟩ := ih (done := done ++ [e]) (out := out') (n := n + e.b) (at_ := e.a) (by rw [totE_append]; simp [totE]; omega) (by omega) (fun x hx => by
        rcases List.mem_append.1 hx with hx | hx
        · have := h1 x hx; omega
        · have : x = e := by simpa using hx
          rw [this]; omega) s1 s2 hN' hE' hL'
      refine ⟨q1, b, ?_, q3, q4⟩
      rw [totE_append, totE_append]; simp [totE]; omega
    show NF (t.foldl stepC (stepC (out, n, at_) e)).1 ∧ _
    unfold stepC
    dsimp only
    by_cases hc : 0 < n ∧ at_ < e.a
    · rw [if_pos hc]
      obtain ⟨g1, g2, g3⟩ := addE_spec (x := ⟨at_, n + at_, e.a - at_⟩) hN hE
      refine hnext _ g1 (g2.mono (by dsimp only; omega)) fun i => ?_
      rw [g3, hL]
      dsimp only
      by_cases h3 : at_ ≤ i ∧ i < at_ + (e.a - at_)
      · rw [if_pos h3, if_pos (by omega)]
        have hFi := hF i h3.1 (by omega)
        unfold lookC valAt
        rw [hFi, if_pos hc.1]
        dsimp only
        rw [if_neg (by omega)]
        congr 1; omega
      · rw [if_neg h3]
        by_cases h4 : i < at_
        · rw [if_pos h4, if_pos (by omega)]
        · rw [if_neg h4, if_neg (by omega)]
    · rw [if_neg hc]
      refine hnext _ hN (hE.mono ha) fun i => ?_
      rw [hL]
      by_cases h4 : i < at_
      · rw [if_pos h4, if_pos (by omega)]
      · rw [if_neg h4]
        by_cases h5 : i < e.a
        · rw [if_pos h5]
          unfold lookC
          rw [hF i (by omega) h5, if_neg (by omega)]
        · rw [if_neg h5]
theorem foldC_spec {l : List Rf} {es : List Ed} (h : ∀ r ∈ l, 0 < r.n ∧ 0 ≤ r.p) (hp : es.Perm (edges l)) (hs : es.Pairwise fun a b => a.a ≤ b.a) :
    NF (foldC es) ∧ ∀ i, lookE (foldC es) i = lookC (cnt l) i := by
  have h0 : ∀ e ∈ es, 0 ≤ e.a := by
    intro e he
    have he := hp.mem_iff.1 he
    unfold edges at he
    obtain ⟨r, hr, hx⟩ := List.mem_flatMap.1 he
    have := h r hr
    simp at hx
    rcases hx with rfl | rfl
    · exact this.2
    · show 0 ≤ r.p + r.n; omega
  obtain ⟨h1, b, h2, h3, h4⟩ := foldC_go (rest := es) (done := []) (out := []) (n := 0) (at_ := 0) rfl (Int.le_refl _) (by intro e he; cases he) h0 hs trivial (endsBy_nil 0) (fun i => by
    rw [List.nil_append]
    show none = _
    by_cases hi : i < 0
    · rw [if_pos hi]
      unfold lookC
      rw [sumE_none fun e he => by have := h0 e he; omega, if_neg (by omega)]
    · rw [if_neg hi])
  refine ⟨h1, fun i => ?_⟩
  show lookE (es.foldl stepC ([], 0, 0)).1 i = _
  rw [h4, List.nil_append]
  have hc : ∀ i, sumE es i = cnt l i := fun i => by rw [sumE_perm hp, sumE_edges fun r hr => (h r hr).1]
  by_cases hi : i < b
  · rw [if_pos hi]
    unfold lookC
    rw [hc]
  · rw [if_neg hi]
    unfold lookC
    have : cnt l i = 0 := by
      rw [← hc, sumE_all fun e he => by have := h3 e (by simpa using he); omega, totE_perm hp, totE_edges]
    rw [this, if_neg (by omega)]
end Flag
namespace Flag
def nextC (at_ : Int) : List Rf → Int → Int
  | [], e => e
  | r :: t, e => nextC at_ t (if cover r at_ then min e (r.p + r.n) else if at_ < r.p then min e r.p else e)
theorem nextC_le (at_ : Int) (l : List Rf) : ∀ e, nextC at_ l e ≤ e := by
  induction l with
  | nil => intro e; exact Int.le_refl _
  | cons r t ih =>
    intro e
    rw [nextC]
    refine Int.le_trans (ih _) ?_
    split
    · omega
    · split <;> omega
theorem nextC_gt (at_ : Int) (l : List Rf) : ∀ e, at_ < e → at_ < nextC at_ l e := by
  induction l with
  | nil => intro e h; exact h
  | cons r t ih =>
    intro e h
    rw [nextC]
    apply ih
    split
    · rename_i hc
      have := hc.2
      omega
    · split <;> omega
theorem nextC_each (at_ : Int) (l : List Rf) : ∀ e, ∀ r ∈ l, (cover r at_ → nextC at_ l e ≤ r.p + r.n) ∧ (at_ < r.p → nextC at_ l e ≤ r.p) := by
  induction l with
  | nil => intro e r hr; cases hr
  | cons s t ih =>
    intro e r hr
    rw [nextC]
    cases hr with
    | head =>
      have h := nextC_le at_ t (if cover s at_ then min e (s.p + s.n) else if at_ < s.p then min e s.p else e)
      constructor
      · intro hc
        rw [if_pos hc] at h ⊢
        omega
      · intro hc
        have hn : ¬ cover s at_ := fun h => by have := h.1; omega
        rw [if_neg hn, if_pos hc] at h ⊢
        omega
    | tail _ hr => exact ih _ r hr
theorem cnt_const {l : List Rf} {at_ e i : Int} (h1 : at_ ≤ i) (h2 : i < nextC at_ l e) : cnt l i = cnt l at_ := by
  have key : ∀ m : List Rf, (∀ r ∈ m, r ∈ l) → cnt m i = cnt m at_ := by
    intro m
    induction m with
    | nil => intro _; rfl
    | cons r t ih =>
      intro hm
      obtain ⟨c1, c2⟩ := nextC_each at_ l e r (hm r List.mem_cons_self)
      rw [cnt, cnt, ih fun x hx => hm x (List.mem_cons_of_mem _ hx)]
      have hi : cover r i ↔ r.p ≤ i ∧ i < r.p + r.n := Iff.rfl
      have ha : cover r at_ ↔ r.p ≤ at_ ∧ at_ < r.p + r.n := Iff.rfl
      by_cases hc : cover r at_
      · have := c1 hc
        rw [if_pos hc, if_pos (by rw [hi]; have := ha.1 hc; omega)]
      · rw [if_neg hc, if_neg ?_]
        intro h
        have h := hi.1 h
        by_cases hp : at_ < r.p
        · have := c2 hp; omega
        · exact hc (ha.2 (by omega))
  exact key l fun _ h => h
def runC (l : List Rf) : Nat → Int → Int → List Ex → List Ex
  | 0, _, _, out => out
  | k + 1, at_, e, out => if at_ < e then runC l k (nextC at_ l e) e (addE out ⟨at_, cnt l at_ + at_, nextC at_ l e - at_⟩) else out
def SaysC (l : List Rf) (at_ : Int) (out : List Ex) : Prop := NF out ∧ endsBy out at_ ∧ ∀ i, lookE out i = if i < at_ then lookC (cnt l) i else none
theorem runC_spec {l : List Rf} : ∀ (k : Nat) {at_ e : Int} {out : List Ex}, (e - at_).toNat ≤ k → 0 ≤ at_ → at_ ≤ e → (∀ i, at_ ≤ i → i < e → 0 < cnt l i) → SaysC l at_ out → SaysC l e (runC l k at_ e out) := by
  intro k
  induction k with
  | zero =>
    intro at_ e out hk h0 h1 hc hs
    have : at_ = e := by omega
    subst this
    exact hs
  | succ k ih =>
    intro at_ e out hk h0 h1 hc hs
    rw [runC]
    by_cases hlt : at_ < e
    · rw [if_pos hlt]
      have n1 := nextC_gt at_ l e hlt
      have n2 := nextC_le at_ l e
      obtain ⟨a1, a2, a3⟩ := hs
      obtain ⟨b1, b2, b3⟩ := addE_spec (x := ⟨at_, cnt l at_ + at_, nextC at_ l e - at_⟩) a1 a2
      refine ih (by omega) (by omega) n2 (fun i h3 h4 => hc i (by omega) h4) ⟨b1, b2.mono (by dsimp only; omega), fun i => ?_⟩
      rw [b3, a3]
      dsimp only
      by_cases h3 : at_ ≤ i ∧ i < at_ + (nextC at_ l e - at_)
      · rw [if_pos h3, if_pos (by omega)]
        have hi := cnt_const (l := l) (e := e) h3.1 (show i < nextC at_ l e by omega)
        have hp := hc at_ (Int.le_refl _) hlt
        unfold lookC valAt
        rw [hi, if_pos hp]
        dsimp only
        rw [if_neg (by omega)]
        congr 1; omega
      · rw [if_neg h3]
        by_cases h4 : i < at_
        · rw [if_pos h4, if_pos (by omega)]
        · rw [if_neg h4, if_neg (by omega)]
    · rw [if_neg hlt]
      have : at_ = e := by omega
      subst this
      exact hs
theorem SaysC.on {l : List Rf} {a b : Int} {out : List Ex} (h : SaysC l a out) (hab : a ≤ b) (hz : ∀ i, a ≤ i → i < b → ¬ 0 < cnt l i) : SaysC l b out := by
  obtain ⟨a1, a2, a3⟩ := h
  refine ⟨a1, a2.mono hab, fun i => ?_⟩
  rw [a3]
  by_cases h3 : i < a
  · rw [if_pos h3, if_pos (by omega)]
  · rw [if_neg h3]
    by_cases h4 : i < b
    · rw [if_pos h4]
      unfold lookC
      rw [if_neg (hz i (by omega) h4)]
    · rw [if_neg h4]
def runsC (l : List Rf) (u : List Sp) : List Ex := u.foldl (fun out x => runC l x.n.toNat x.a (x.a + x.n) out) []
theorem runsC_go {l : List Rf} {u : List Sp} : ∀ {pre : List Sp} {at_ : Int} {out : List Ex}, NFs u → (∀ x ∈ u, at_ ≤ x.a) → 0 ≤ at_ → (∀ i, 0 < cnt l i ↔ memS (pre ++ u) i) → (∀ x ∈ pre, x.a + x.n ≤ at_) → SaysC l at_ out →
    ∃ b, SaysC l b (u.foldl (fun out x => runC l x.n.toNat x.a (x.a + x.n) out) out) ∧ ∀ i, b ≤ i → ¬ 0 < cnt l i := by
  induction u with
  | nil =>
    intro pre at_ out _ _ h0 hm hp hs
    refine ⟨at_, hs, fun i hi h => ?_⟩
    rw [hm, List.append_nil] at h
    obtain ⟨x, hx, h1, h2⟩ := memS_iff.1 h
    have := hp x hx
    omega
  | cons x t ih =>
    intro pre at_ out hn ha h0 hm hp hs
    have hx := hn.head
    have hxa := ha x List.mem_cons_self
    have hcov : ∀ i, x.a ≤ i → i < x.a + x.n → 0 < cnt l i := fun i h1 h2 => by
      rw [hm]
      exact memS_iff.2 ⟨x, by simp, h1, h2⟩
    have hgap : ∀ i, at_ ≤ i → i < x.a → ¬ 0 < cnt l i := by
      intro i h1 h2 h
      rw [hm] at h
      obtain ⟨y, hy, h3, h4⟩ := memS_iff.1 h
      rcases List.mem_append.1 hy with hy | hy
      · have := hp y hy; omega
      · cases hy with
        | head => omega
        | tail _ hy => have := hn.after y hy; omega
    have h1 := hs.on hxa hgap
    have h2 := runC_spec (l := l) x.n.toNat (at_ := x.a) (e := x.a + x.n) (out := out) (by omega) (by omega) (by omega) hcov h1
    rw [List.foldl_cons]
    refine ih (pre := pre ++ [x]) (at_ := x.a + x.n) hn.tail (fun y hy => by have := hn.after y hy; omega) (by omega) (fun i => by rw [hm]; simp) (fun y hy => ?_) h2
    rcases List.mem_append.1 hy with hy | hy
    · have := hp y hy; omega
    · have : y = x := by simpa using hy
      rw [this]; exact Int.le_refl _
theorem runsC_spec {l : List Rf} {u : List Sp} (hn : NFs u) (h0 : ∀ x ∈ u, 0 ≤ x.a) (hm : ∀ i, 0 < cnt l i ↔ memS u i) : NF (runsC l u) ∧ ∀ i, lookE (runsC l u) i = lookC (cnt l) i := by
  obtain ⟨b, h1, h2⟩ := runsC_go (l := l) (u := u) (pre := []) (at_ := 0) (out := []) hn h0 (Int.le_refl _) (fun i => by rw [List.nil_append]; exact hm i) (by intro x hx; cases hx) ⟨trivial, endsBy_nil 0, fun i => by
    show none = _
    by_cases hi : i < 0
    · rw [if_pos hi]
      unfold lookC
      rw [if_neg]
      rw [hm]
      intro h
      obtain ⟨x, hx, h3, _⟩ := memS_iff.1 h
      have := h0 x hx
      omega
    · rw [if_neg hi]⟩
  refine ⟨h1.1, fun i => ?_⟩
  show lookE (u.foldl _ []) i = _
  rw [h1.2.2]
  by_cases hi : i < b
  · rw [if_pos hi]
  · rw [if_neg hi]
    unfold lookC
    rw [if_neg (h2 i (by omega))]
def spansR (l : List Rf) : List Sp := l.map fun r => ⟨r.p, r.n⟩
theorem memS_spans {l : List Rf} {i : Int} : memS (spansR l) i ↔ 0 < cnt l i := by
  rw [cnt_pos, memS_iff]
  unfold spansR
  constructor
  · rintro ⟨x, hx, h1, h2⟩
    obtain ⟨r, hr, rfl⟩ := List.mem_map.1 hx
    exact ⟨r, hr, h1, h2⟩
  · rintro ⟨r, hr, h1, h2⟩
    exact ⟨_, List.mem_map.2 ⟨r, hr, rfl⟩, h1, h2⟩
def CountsOf (l : List Rf) (c : List Ex) : Prop := NF c ∧ ∀ i, lookE c i = lookC (cnt l) i
theorem CountsOf.one {l : List Rf} {c d : List Ex} (h : CountsOf l c) (g : CountsOf l d) : c = d := NF.ext h.1 g.1 fun i => by rw [h.2, g.2]
theorem CountsOf.perm {l m : List Rf} {c : List Ex} (h : CountsOf l c) (hp : l.Perm m) : CountsOf m c := ⟨h.1, fun i => by
  rw [h.2]
  unfold lookC
  rw [cnt_perm hp]⟩
theorem counts_prog {l : List Rf} {es : List Ed} (h : ∀ r ∈ l, 0 < r.n ∧ 0 ≤ r.p) (hp : es.Perm (edges l)) (hs : es.Pairwise fun a b => a.a ≤ b.a) : CountsOf l (foldC es) := foldC_spec h hp hs
theorem counts_page {l : List Rf} (h : ∀ r ∈ l, 0 < r.n ∧ 0 ≤ r.p) {ss : List Sp} (hp : ss.Perm (spansR l)) (hr : risingS ss) : CountsOf l (runsC l (joinS ss)) := by
  have hpos : ∀ x ∈ ss, 0 < x.n := fun x hx => by
    obtain ⟨r, hr, rfl⟩ := List.mem_map.1 (hp.mem_iff.1 hx)
    exact (h r hr).1
  obtain ⟨h1, h2⟩ := joinS_spec hr hpos
  have h3 : ∀ i, 0 < cnt l i ↔ memS (joinS ss) i := fun i => by rw [h2, memS_perm hp, memS_spans]
  refine runsC_spec h1 (fun x hx => ?_) h3
  have hx0 := h1.all x hx
  have h4 : memS (joinS ss) x.a := memS_iff.2 ⟨x, hx, Int.le_refl _, by omega⟩
  obtain ⟨r, hr, h5, _⟩ := cnt_pos.1 ((h3 x.a).2 h4)
  have := (h r hr).2
  omega
end Flag
namespace Flag
def lowC (p : Int) (x : Sp) : Int := max p x.a
def lenC (p n : Int) (x : Sp) : Int := min (p + n - lowC p x) (x.n - (lowC p x - x.a))
def whoR (x : Sp) (r : Rf) : List Rf := if 0 < lenC r.p r.n x then [⟨lowC r.p x, lenC r.p r.n x, r.o, r.v + lowC r.p x - r.p⟩] else []
def whoL (l : List Rf) (x : Sp) : List Rf := l.flatMap (whoR x)
theorem mem_whoL {l : List Rf} {x : Sp} {s : Rf} : s ∈ whoL l x ↔ ∃ r ∈ l, 0 < lenC r.p r.n x ∧ s = ⟨lowC r.p x, lenC r.p r.n x, r.o, r.v + lowC r.p x - r.p⟩ := by
  unfold whoL
  rw [List.mem_flatMap]
  constructor
  · rintro ⟨r, hr, hs⟩
    unfold whoR at hs
    split at hs
    · rename_i h
      exact ⟨r, hr, h, by simpa using hs⟩
    · cases hs
  · rintro ⟨r, hr, h, rfl⟩
    refine ⟨r, hr, ?_⟩
    unfold whoR
    rw [if_pos h]
    exact List.mem_cons_self
theorem whoL_key {l : List Rf} (h : Ok9 l) (x : Sp) : KeyR (whoL l x) := by
  intro a ha b hb e1 e2 e3
  obtain ⟨r, hr, r1, rfl⟩ := mem_whoL.1 ha
  obtain ⟨s, hs, s1, rfl⟩ := mem_whoL.1 hb
  dsimp only at e1 e2 e3
  have q1 := h.each r hr
  have q2 := h.each s hs
  have : r = s := by
    refine h.one r hr s hs (r.v + lowC r.p x - r.p) e2 ?_ ?_ ?_ ?_ <;> (unfold lenC lowC at *; omega)
  rw [this]
theorem who_one {l : List Rf} {x : Sp} {out : List Rf} (h : Ok9 l) (hp : out.Perm (whoL l x)) (hs : out.Pairwise leR) : out = sortR (whoL l x) := sorted_one (whoL_key h x) hp hs
theorem CountsOf.some {l : List Rf} {c : List Ex} (h : CountsOf l c) {i : Int} (hi : 0 < cnt l i) : ∃ y ∈ c, y.v ≤ i ∧ i < y.v + y.n ∧ valAt y i = cnt l i + i := by
  have h2 := h.2 i
  unfold lookC at h2
  rw [if_pos hi] at h2
  obtain ⟨y, hy, a, b, e⟩ := lookE_some_mem h2
  exact ⟨y, hy, a, b, e.symm⟩
end Flag
def toR (x : S88) : Flag.Rf := ⟨x.f0, x.f1, x.f2, x.f3⟩
theorem toR_inj {x y : S88} (h : toR x = toR y) : x = y := by
  cases x; cases y
  simp only [toR, Flag.Rf.mk.injEq] at h
  obtain ⟨rfl, rfl, rfl, rfl⟩ := h
  rfl
theorem mapR_inj {a b : List S88} (h : a.map toR = b.map toR) : a = b := by
  induction a generalizing b with
  | nil => cases b with
    | nil => rfl
    | cons y t => cases h
  | cons x t ih =>
    cases b with
    | nil => cases h
    | cons y u =>
      rw [List.map_cons, List.map_cons] at h
      injection h with h1 h2
      rw [ih h2, toR_inj h1]
theorem w64 {n : Int} (h : -9223372036854775808 ≤ n ∧ n < 9223372036854775808) : wrap64 n = n := by unfold wrap64; omega
theorem mx_max (a b : Int) : mx a b = max a b := by unfold mx; omega
theorem mn_min (a b : Int) : mn a b = min a b := by unfold mn; omega
def extent_goesOn.f (a0_0 : Int) (a0_1 : Int) (a0_2 : Int) (a1_0 : Int) (a1_1 : Int) (a1_2 : Int) : Option (Bool) :=
  some ((wrap64 (a0_0 + a0_2) == a1_0) && ((a0_1 == -1) == (a1_1 == -1)) && ((a0_1 == -1) || (wrap64 (a0_1 + a0_2) == a1_1)))
set_option maxHeartbeats 1000000 in
set_option maxRecDepth 100000 in
theorem extent_goesOn.calls (a0_0 : Int) (a0_1 : Int) (a0_2 : Int) (a1_0 : Int) (a1_1 : Int) (a1_2 : Int) (r : Bool) (w : World) (h : extent_goesOn.f a0_0 a0_1 a0_2 a1_0 a1_1 a1_2 = some r) :
    Calls Try.prog 98 #[.agg #[.int .i64 a0_0, .int .i64 a0_1, .int .i64 a0_2], .agg #[.int .i64 a1_0, .int .i64 a1_1, .int .i64 a1_2]] w fun e w' => e = .returned (.bool r) ∧ Below w.heap.size w w' := by
  obtain rfl := Option.some.inj h
  clear h
  have hu24 := Try.underlying24
  have fin : ∀ {w' : World} {b : Bool}, b = ((wrap64 (a0_0 + a0_2) == a1_0) && ((a0_1 == -1) == (a1_1 == -1)) && ((a0_1 == -1) || (wrap64 (a0_1 + a0_2) == a1_1))) → Below w.heap.size w w' → Ending.returned (.bool b) = Ending.returned (.bool ((wrap64 (a0_0 + a0_2) == a1_0) && ((a0_1 == -1) == (a1_1 == -1)) && ((a0_1 == -1) || (wrap64 (a0_1 + a0_2) == a1_1)))) ∧ Below w.heap.size w w' := fun hb hw => ⟨by rw [hb], hw⟩
  have FIN := Aside0.mk @fin
  clear fin
  have hbel : ∀ (o1 o2 : Obj), Below w.heap.size w ((w.alloc o1).alloc o2) := fun o1 o2 => ((Below.refl _ _).alloc (Nat.le_refl _) _).alloc (by simp) _
  have HBEL := Aside0.mk hbel
  clear hbel
  by_cases h0 : wrap64 (a0_0 + a0_2) = a1_0
  · have b0 : (wrap64 (a0_0 + a0_2) == a1_0) = true := beq_iff_eq.mpr h0
    have b0' : (wrap64 (a0_0 + a0_2) != a1_0) = false := bne_eq_false_iff_eq.mpr h0
    clear h0
    by_cases h1 : a0_1 = -1
    · have b1 : (a0_1 == -1) = true := beq_iff_eq.mpr h1
      clear h1
      by_cases h2 : a1_1 = -1
      · have b2 : (a1_1 == -1) = true := beq_iff_eq.mpr h2
        clear h2
        go_enter Try.func98, Try.ntmps98
        go_wp2
        go_ret
        exact FIN.out (by simp [b0, b1, b2]) (HBEL.out _ _)
      · have b2 : (a1_1 == -1) = false := beq_eq_false_iff_ne.mpr h2
        clear h2
        go_enter Try.func98, Try.ntmps98
        go_wp2
        go_ret
        exact FIN.out (by simp [b0, b1, b2]) (HBEL.out _ _)
    · have b1 : (a0_1 == -1) = false := beq_eq_false_iff_ne.mpr h1
      clear h1
      by_cases h2 : a1_1 = -1
      · have b2 : (a1_1 == -1) = true := beq_iff_eq.mpr h2
        clear h2
        go_enter Try.func98, Try.ntmps98
        go_wp2
        go_ret
        exact FIN.out (by simp [b0, b1, b2]) (HBEL.out _ _)
      · have b2 : (a1_1 == -1) = false := beq_eq_false_iff_ne.mpr h2
        clear h2
        go_enter Try.func98, Try.ntmps98
        go_wp2
        go_ret
        exact FIN.out (by simp [b0, b1, b2]) (HBEL.out _ _)
  · have b0 : (wrap64 (a0_0 + a0_2) == a1_0) = false := beq_eq_false_iff_ne.mpr h0
    have b0' : (wrap64 (a0_0 + a0_2) != a1_0) = true := bne_iff_ne.mpr h0
    clear h0
    go_enter Try.func98, Try.ntmps98
    go_wp2
    go_ret
    exact FIN.out (by simp [b0]) (HBEL.out _ _)
def lb (n k : Nat) : Array Bool := ((List.range n).map fun j => k.testBit j).toArray
section
variable {P : Program} {ops : Array Oper} {Q : Exit → Act → World → Prop} {md : Region.Mode} {S : World → Prop} {ds : List Nat}
theorem pu_ (i m n k : Nat) {oi : Oper} {v : Value} {fuel : Nat} {l : Array Bool} {a a' : Act} {w : World} (h : wpAnyLast P md ops Q S ds fuel (lb n k) a' w) (hi : ops[i]? = some oi := by exact rfl) (hN : oi.dst = some m := by exact rfl)
    (hc : anyB md ops l (lb n k) i = true := by exact any_of HT_.out (by kernel_rfl))
    (hQ : ∀ c a w, Q (.panic c) (a.put oi.dst v) w → Q (.panic c) a w := by exact fun _ _ _ h => h) (hy : Yields P ops oi v a := by exact Or.inl ⟨by rfl, by intro w'; go_simp; with_reducible rfl⟩)
    (ha : a.put (some m) v = a' := by (simp only [Act.put, List.setIfInBounds_toArray, List.set_cons_zero, List.set_cons_succ, i64_w, i32_w]; rfl)) : wpAnyLast P md ops Q S ds (fuel + 1) l a w := pure_ _ hi hN hc hQ hy ha h
theorem pn_ (i m n k : Nat) {oi : Oper} {fuel : Nat} {l : Array Bool} {a a' : Act} {w : World} (h : wpAnyLast P md ops Q S ds fuel (lb n k) a' w) (hi : ops[i]? = some oi := by exact rfl) (hN : oi.dst = some m := by exact rfl)
    (hc : anyB md ops l (lb n k) i = true := by exact any_of HT_.out (by kernel_rfl))
    (hQ : ∀ c a w, Q (.panic c) (a.put oi.dst undef) w → Q (.panic c) a w := by exact fun _ _ _ h => h) (hy : Yields P ops oi undef a := by exact Or.inr ⟨by rfl, rfl⟩)
    (ha : a.put (some m) undef = a' := by (simp only [Act.put, List.setIfInBounds_toArray, List.set_cons_zero, List.set_cons_succ, i64_w, i32_w]; rfl)) : wpAnyLast P md ops Q S ds (fuel + 1) l a w := pure_ _ hi hN hc hQ hy ha h
theorem tk_ (i m n k : Nat) {oi : Oper} {v : Value} {fuel : Nat} {l : Array Bool} {a a' : Act} {w : World} (h : wpAnyLast P md ops Q S ds fuel (lb n k) a' w) (hi : ops[i]? = some oi := by exact rfl) (hN : oi.dst = some m := by exact rfl)
    (hc : takeB md ops ds l (lb n k) i = true := by exact take_ofW HT_.out HW_.out (by kernel_rfl))
    (hQ : ∀ c a w, Q (.panic c) (a.put oi.dst v) w → Q (.panic c) a w := by exact fun _ _ _ h => h) (hy : YieldsIf P ops S oi v a := by exact Or.inl ⟨by rfl, by (intro w' hs; (repeat (obtain ⟨s0, hs⟩ := hs)); go_simp; with_reducible rfl)⟩) (hS : S w := by exact hHeld)
    (ha : a.put (some m) v = a' := by (simp only [Act.put, List.setIfInBounds_toArray, List.set_cons_zero, List.set_cons_succ, i64_w, i32_w]; rfl)) : wpAnyLast P md ops Q S ds (fuel + 1) l a w := take_ _ hi hN hc hQ hy hS ha h
theorem on_ (i m n k : Nat) {oi : Oper} {fuel : Nat} {l : Array Bool} {a : Act} {w : World}
    (h : ∀ K : Act → World → Prop, Shut (∀ a' w', S w' → (S w' → wpAnyLast P md ops Q S ds fuel (lb n k) a' w') → K a' w') → if Region.wanted oi (yielded ops a.tmps) = true then Oper.wp P oi a w K Q else K (a.put (some m) undef) w)
    (hi : ops[i]? = some oi := by exact rfl) (hN : oi.dst = some m := by exact rfl) (hc : readyB md ops l (lb n k) i = true := by exact one_of HT_.out (by kernel_rfl)) (hd : i ∉ ds := by decide) :
    wpAnyLast P md ops Q S ds (fuel + 1) l a w := one_ _ hi hN hc hd h
theorem nm_ (m : Nat) {fuel : Nat} {l : Array Bool} {a a' : Act} {v : Value} {w : World} (h : wpAnyLast P md ops Q S ds fuel l a' w) (ha : a.put (some m) v = a' := by (simp only [Act.put, List.setIfInBounds_toArray, List.set_cons_zero, List.set_cons_succ, i64_w, i32_w]; rfl)) : wpAnyLast P md ops Q S ds fuel l (a.put (some m) v) w := norm_ ha h
end
def extent_fits.f (a0 : Int) (a1 : Int) : Option (Bool) := if (mn a0 a1) ≥ 0 then (if a0 ≤ 65536 then (some (decide (a1 ≤ (wrap64 (65536 - a0))))) else (some false)) else (some false)
set_option maxHeartbeats 8000000 in
set_option maxRecDepth 100000 in
theorem extent_fits.calls (a0 : Int) (a1 : Int) (r : Bool) (w : World) (h : extent_fits.f a0 a1 = some r) :
 Calls Try.prog 92 #[.int .i64 a0, .int .i64 a1] w fun e w' => e = .returned (.bool r) ∧ Below w.heap.size w w' := by
 have HB := Aside0.mk (Below.refl w.heap.size w)
 have H : (if (mn a0 a1) ≥ 0 then (if a0 ≤ 65536 then (some (decide (a1 ≤ (wrap64 (65536 - a0))))) else (some false)) else (some false)) = some r := h
 clear h
 obtain ⟨ji3, hji3⟩ : ∃ j_ : Int, (mn a0 a1) = j_ := ⟨_, rfl⟩
 replace H : (if (ji3) ≥ 0 then (if a0 ≤ 65536 then (some (decide (a1 ≤ (wrap64 (65536 - a0))))) else (some false)) else (some false)) = some r := by first | (rw [hji3] at H; exact H) | (simp only [hji3] at H ⊢; exact H)
 have hji3_ : (if a1 < a0 then a1 else a0) = ji3 := hji3
 by_cases c4 : (ji3) ≥ 0
 ·rw [if_pos c4] at H
  have c4b0 : decide (0 ≤ (ji3)) = true := decide_eq_true c4
  clear c4
  by_cases c5 : a0 ≤ 65536
  ·rw [if_pos c5] at H
   have c5b0 : decide (a0 ≤ 65536) = true := decide_eq_true c5
   clear c5
   obtain rfl := Option.some.inj H
   go_enter Try.func92, Try.ntmps92
   go_wp2
   go_ret
   exact ⟨by first | rfl | (simp [errW_none, errW_some] <;> rfl) | (simp only [← hji3]; first | rfl | (simp [errW_none, errW_some] <;> rfl)) | (simp [*, errW_none, errW_some] <;> rfl), by repeat (first | (with_reducible first | exact HB.out | apply below_alloc | apply pw_below_drewN | apply below_drew1) | exact HB.out)⟩
  ·rw [if_neg c5] at H
   have c5b0 : decide (a0 ≤ 65536) = false := decide_eq_false c5
   clear c5
   obtain rfl := Option.some.inj H
   go_enter Try.func92, Try.ntmps92
   go_wp2
   go_ret
   exact ⟨by first | rfl | (simp [errW_none, errW_some] <;> rfl) | (simp only [← hji3]; first | rfl | (simp [errW_none, errW_some] <;> rfl)) | (simp [*, errW_none, errW_some] <;> rfl), by repeat (first | (with_reducible first | exact HB.out | apply below_alloc | apply pw_below_drewN | apply below_drew1) | exact HB.out)⟩
 ·rw [if_neg c4] at H
  have c4b0 : decide (0 ≤ (ji3)) = false := decide_eq_false c4
  clear c4
  obtain rfl := Option.some.inj H
  go_enter Try.func92, Try.ntmps92
  go_wp2
  go_ret
  exact ⟨by first | rfl | (simp [errW_none, errW_some] <;> rfl) | (simp only [← hji3]; first | rfl | (simp [errW_none, errW_some] <;> rfl)) | (simp [*, errW_none, errW_some] <;> rfl), by repeat (first | (with_reducible first | exact HB.out | apply below_alloc | apply pw_below_drewN | apply below_drew1) | exact HB.out)⟩
def extent_may.f (a0_0 : Int) (a0_1 : Int) (a0_2 : Int) : Option (Bool) := if a0_2 > 0 then ((extent_fits.f a0_0 a0_2).bind fun t102 => (if t102 = true then ((extent_fits.f a0_1 a0_2).bind fun t103 => (some t103)) else (some false))) else (some false)
set_option maxHeartbeats 8000000 in
set_option maxRecDepth 100000 in
theorem extent_may.calls (a0_0 : Int) (a0_1 : Int) (a0_2 : Int) (r : Bool) (w : World) (h : extent_may.f a0_0 a0_1 a0_2 = some r) :
 Calls Try.prog 86 #[.agg #[.int .i64 a0_0, .int .i64 a0_1, .int .i64 a0_2]] w fun e w' => e = .returned (.bool r) ∧ Below w.heap.size w w' := by
 have hu24 := Try.underlying24
 have HB := Aside0.mk (Below.refl w.heap.size w)
 have H : (if a0_2 > 0 then ((extent_fits.f a0_0 a0_2).bind fun t102 => (if t102 = true then ((extent_fits.f a0_1 a0_2).bind fun t103 => (some t103)) else (some false))) else (some false)) = some r := h
 clear h
 by_cases c2 : a0_2 > 0
 ·rw [if_pos c2] at H
  have c2b0 : decide (0 < a0_2) = true := decide_eq_true c2
  clear c2
  replace H := Option.bind_eq_some_iff.mp H
  obtain ⟨t102, A30, H⟩ := H
  replace H : (if t102 = true then ((extent_fits.f a0_1 a0_2).bind fun t103 => (some t103)) else (some false)) = some r := H
  have A3 := Aside0.mk A30
  clear A30
  by_cases c4 : t102 = true
  ·subst c4
   have H1 : ((extent_fits.f a0_1 a0_2).bind fun t103 => (some t103)) = some r := by rw [if_pos rfl] at H; exact H
   clear H
   have H := H1
   clear H1
   replace H := Option.bind_eq_some_iff.mp H
   obtain ⟨t103, A50, H⟩ := H
   replace H : (some t103) = some r := H
   have A5 := Aside0.mk A50
   clear A50
   obtain rfl := Option.some.inj H
   go_enter Try.func86, Try.ntmps86
   go_wp2_with (first | ((with_reducible refine gate_dst (N := 1) rfl ?_); refine box_event ?hg (N := 1) ?hd (cs := #[.int .i64 a0_0, .int .i64 a0_1, .int .i64 a0_2]) (t := 24) ?hr ?_; (case hd => rfl); (case hg => rfl); (case hr => first | (go_simp; done) | (go_simp; rfl)); intro gb101 hg w6 hbox hb; have n0_ := Aside0.mk (below_step (by repeat (first | (with_reducible first | exact HB.out | apply below_alloc | apply pw_below_drewN | apply below_drew1) | exact HB.out)) hb); have n1_ := Aside0.mk (hbox); have n2_ := Aside0.mk ((by rw [hg]; exact (below_size (by repeat (first | (with_reducible first | exact HB.out | apply below_alloc | apply pw_below_drewN | apply below_drew1) | exact HB.out))) : w.heap.size ≤ gb101)); have n3_ := Aside0.mk ((by rw [hg]; exact (below_size (by repeat (first | (with_reducible first | exact HB.out | apply below_alloc | apply pw_below_drewN | apply below_drew1) | exact HB.out))) : w.heap.size ≤ gb101)); clear HB; have HB := n0_; have BK101 := n1_; have GW101 := n2_; have GE101 := n3_; clear n0_ n1_ n2_ n3_; clear hb hbox hg; have hcz7_0 : w6.cell? ⟨gb101, 0, none⟩ = some (.int .i64 a0_0) := (blk_cell BK101.out 0).trans rfl; have hcz7_1 : w6.cell? ⟨gb101, 1, none⟩ = some (.int .i64 a0_1) := (blk_cell BK101.out 1).trans rfl; have hcz7_2 : w6.cell? ⟨gb101, 2, none⟩ = some (.int .i64 a0_2) := (blk_cell BK101.out 2).trans rfl; have hfz7_0 := blk_frozen BK101.out 0; have hfz7_1 := blk_frozen BK101.out 1; have hfz7_2 := blk_frozen BK101.out 2) | (go_at_call 92; (with_reducible refine (extent_fits.calls a0_0 a0_2 true _ A3.out).mono ?_); rintro e w8 ⟨rfl, hb⟩; have n0_ := Aside0.mk (blk_below (g := gb101) (o := .cells #[.int .i64 a0_0, .int .i64 a0_1, .int .i64 a0_2] 24 (0, 0)) (by (with_reducible repeat (first | refine blk_drewN ?_ _ | refine blk_drew ?_ | refine blk_alloc ?_ _)); exact BK101.out) hb); have n1_ := Aside0.mk (below_step (by repeat (first | (with_reducible first | exact HB.out | apply below_alloc | apply pw_below_drewN | apply below_drew1 | refine below_set ?_ GE101.out) | exact HB.out)) hb); clear BK101; clear HB; have BK101 := n0_; have HB := n1_; clear n0_ n1_; (try clear hb); (try clear hb2); (try clear hk); (try clear hi); have hcz9_0 : w8.cell? ⟨gb101, 0, none⟩ = some (.int .i64 a0_0) := (blk_cell BK101.out 0).trans rfl; have hcz9_1 : w8.cell? ⟨gb101, 1, none⟩ = some (.int .i64 a0_1) := (blk_cell BK101.out 1).trans rfl; have hcz9_2 : w8.cell? ⟨gb101, 2, none⟩ = some (.int .i64 a0_2) := (blk_cell BK101.out 2).trans rfl; have hfz9_0 := blk_frozen BK101.out 0; have hfz9_1 := blk_frozen BK101.out 1; have hfz9_2 := blk_frozen BK101.out 2) | (go_at_call 92; (with_reducible refine (extent_fits.calls a0_1 a0_2 t103 _ A5.out).mono ?_); rintro e w10 ⟨rfl, hb⟩; have n0_ := Aside0.mk (blk_below (g := gb101) (o := .cells #[.int .i64 a0_0, .int .i64 a0_1, .int .i64 a0_2] 24 (0, 0)) (by (with_reducible repeat (first | refine blk_drewN ?_ _ | refine blk_drew ?_ | refine blk_alloc ?_ _)); exact BK101.out) hb); have n1_ := Aside0.mk (below_step (by repeat (first | (with_reducible first | exact HB.out | apply below_alloc | apply pw_below_drewN | apply below_drew1 | refine below_set ?_ GE101.out) | exact HB.out)) hb); clear BK101; clear HB; have BK101 := n0_; have HB := n1_; clear n0_ n1_; (try clear hb); (try clear hb2); (try clear hk); (try clear hi)))
   go_ret
   exact ⟨by first | rfl | (simp [errW_none, errW_some] <;> rfl) | (simp [*, errW_none, errW_some] <;> rfl), by repeat (first | (with_reducible first | exact HB.out | apply below_alloc | apply pw_below_drewN | apply below_drew1 | refine below_set ?_ GE101.out) | exact HB.out)⟩
  ·replace c4 := Bool.eq_false_iff.mpr c4
   subst c4
   have H1 : (some false) = some r := by rw [if_neg (show ¬ (false = true) by decide)] at H; exact H
   clear H
   have H := H1
   clear H1
   obtain rfl := Option.some.inj H
   go_enter Try.func86, Try.ntmps86
   go_wp2_with (first | ((with_reducible refine gate_dst (N := 1) rfl ?_); refine box_event ?hg (N := 1) ?hd (cs := #[.int .i64 a0_0, .int .i64 a0_1, .int .i64 a0_2]) (t := 24) ?hr ?_; (case hd => rfl); (case hg => rfl); (case hr => first | (go_simp; done) | (go_simp; rfl)); intro gb101 hg w11 hbox hb; have n0_ := Aside0.mk (below_step (by repeat (first | (with_reducible first | exact HB.out | apply below_alloc | apply pw_below_drewN | apply below_drew1) | exact HB.out)) hb); have n1_ := Aside0.mk (hbox); have n2_ := Aside0.mk ((by rw [hg]; exact (below_size (by repeat (first | (with_reducible first | exact HB.out | apply below_alloc | apply pw_below_drewN | apply below_drew1) | exact HB.out))) : w.heap.size ≤ gb101)); have n3_ := Aside0.mk ((by rw [hg]; exact (below_size (by repeat (first | (with_reducible first | exact HB.out | apply below_alloc | apply pw_below_drewN | apply below_drew1) | exact HB.out))) : w.heap.size ≤ gb101)); clear HB; have HB := n0_; have BK101 := n1_; have GW101 := n2_; have GE101 := n3_; clear n0_ n1_ n2_ n3_; clear hb hbox hg; have hcz12_0 : w11.cell? ⟨gb101, 0, none⟩ = some (.int .i64 a0_0) := (blk_cell BK101.out 0).trans rfl; have hcz12_1 : w11.cell? ⟨gb101, 1, none⟩ = some (.int .i64 a0_1) := (blk_cell BK101.out 1).trans rfl; have hcz12_2 : w11.cell? ⟨gb101, 2, none⟩ = some (.int .i64 a0_2) := (blk_cell BK101.out 2).trans rfl; have hfz12_0 := blk_frozen BK101.out 0; have hfz12_1 := blk_frozen BK101.out 1; have hfz12_2 := blk_frozen BK101.out 2) | (go_at_call 92; (with_reducible refine (extent_fits.calls a0_0 a0_2 false _ A3.out).mono ?_); rintro e w13 ⟨rfl, hb⟩; have n0_ := Aside0.mk (blk_below (g := gb101) (o := .cells #[.int .i64 a0_0, .int .i64 a0_1, .int .i64 a0_2] 24 (0, 0)) (by (with_reducible repeat (first | refine blk_drewN ?_ _ | refine blk_drew ?_ | refine blk_alloc ?_ _)); exact BK101.out) hb); have n1_ := Aside0.mk (below_step (by repeat (first | (with_reducible first | exact HB.out | apply below_alloc | apply pw_below_drewN | apply below_drew1 | refine below_set ?_ GE101.out) | exact HB.out)) hb); clear BK101; clear HB; have BK101 := n0_; have HB := n1_; clear n0_ n1_; (try clear hb); (try clear hb2); (try clear hk); (try clear hi)))
   go_ret
   exact ⟨by first | rfl | (simp [errW_none, errW_some] <;> rfl) | (simp [*, errW_none, errW_some] <;> rfl), by repeat (first | (with_reducible first | exact HB.out | apply below_alloc | apply pw_below_drewN | apply below_drew1 | refine below_set ?_ GE101.out) | exact HB.out)⟩
 ·rw [if_neg c2] at H
  have c2b0 : decide (0 < a0_2) = false := decide_eq_false c2
  clear c2
  obtain rfl := Option.some.inj H
  go_enter Try.func86, Try.ntmps86
  go_wp2_with (first | ((with_reducible refine gate_dst (N := 1) rfl ?_); refine box_event ?hg (N := 1) ?hd (cs := #[.int .i64 a0_0, .int .i64 a0_1, .int .i64 a0_2]) (t := 24) ?hr ?_; (case hd => rfl); (case hg => rfl); (case hr => first | (go_simp; done) | (go_simp; rfl)); intro gb101 hg w14 hbox hb; have n0_ := Aside0.mk (below_step (by repeat (first | (with_reducible first | exact HB.out | apply below_alloc | apply pw_below_drewN | apply below_drew1) | exact HB.out)) hb); have n1_ := Aside0.mk (hbox); have n2_ := Aside0.mk ((by rw [hg]; exact (below_size (by repeat (first | (with_reducible first | exact HB.out | apply below_alloc | apply pw_below_drewN | apply below_drew1) | exact HB.out))) : w.heap.size ≤ gb101)); have n3_ := Aside0.mk ((by rw [hg]; exact (below_size (by repeat (first | (with_reducible first | exact HB.out | apply below_alloc | apply pw_below_drewN | apply below_drew1) | exact HB.out))) : w.heap.size ≤ gb101)); clear HB; have HB := n0_; have BK101 := n1_; have GW101 := n2_; have GE101 := n3_; clear n0_ n1_ n2_ n3_; clear hb hbox hg; have hcz15_0 : w14.cell? ⟨gb101, 0, none⟩ = some (.int .i64 a0_0) := (blk_cell BK101.out 0).trans rfl; have hcz15_1 : w14.cell? ⟨gb101, 1, none⟩ = some (.int .i64 a0_1) := (blk_cell BK101.out 1).trans rfl; have hcz15_2 : w14.cell? ⟨gb101, 2, none⟩ = some (.int .i64 a0_2) := (blk_cell BK101.out 2).trans rfl; have hfz15_0 := blk_frozen BK101.out 0; have hfz15_1 := blk_frozen BK101.out 1; have hfz15_2 := blk_frozen BK101.out 2))
  go_ret
  exact ⟨by first | rfl | (simp [errW_none, errW_some] <;> rfl) | (simp [*, errW_none, errW_some] <;> rfl), by repeat (first | (with_reducible first | exact HB.out | apply below_alloc | apply pw_below_drewN | apply below_drew1 | refine below_set ?_ GE101.out) | exact HB.out)⟩
def extent_Check.l0 : Nat → List (S24) → List (S24) → Int → Int → Option (Int)
 | 0, _, _, _, _ => none
 | k + 1, x0, x8, x9, x10 => if x10 < x9 then (if 0 ≤ x10 then (if x10 < (x8.length : Int) then ((extent_may.f ((rd_T24 x8 x10).f0) ((rd_T24 x8 x10).f1) ((rd_T24 x8 x10).f2)).bind fun t103 => (if t103 = true then (if x10 > 0 then (if 0 ≤ (wrap64 (x10 - 1)) then (if (wrap64 (x10 - 1)) < (x0.length : Int) then (if (wrap64 (((rd_T24 x0 (wrap64 (x10 - 1))).f0) + ((rd_T24 x0 (wrap64 (x10 - 1))).f2))) > ((rd_T24 x8 x10).f0) then (some 9) else ((extent_goesOn.f ((rd_T24 x0 (wrap64 (x10 - 1))).f0) ((rd_T24 x0 (wrap64 (x10 - 1))).f1) ((rd_T24 x0 (wrap64 (x10 - 1))).f2) ((rd_T24 x8 x10).f0) ((rd_T24 x8 x10).f1) ((rd_T24 x8 x10).f2)).bind fun t107 => (if t107 = true then (some 9) else (extent_Check.l0 k x0 x8 x9 (wrap64 (x10 + 1)))))) else (none)) else (none)) else (extent_Check.l0 k x0 x8 x9 (wrap64 (x10 + 1)))) else (some 9))) else (none)) else (none)) else (some 0)
def extent_Check.f (k : Nat) (l0 : List (S24)) : Option (Int) := if (l0.length : Int) > 1024 then (some 9) else (extent_Check.l0 k l0 l0 (l0.length : Int) 0)
theorem extent_Check.mono_l : ∀ k, (∀ y0 y1 y2 y3, LeO (extent_Check.l0 k y0 y1 y2 y3) (extent_Check.l0 (k + 1) y0 y1 y2 y3))
 | 0 => fun _ _ _ _ r h => by simp [extent_Check.l0] at h
 | k + 1 => by
  have ih0 := extent_Check.mono_l k
  ·intro y0 y1 y2 y3
   unfold extent_Check.l0
   repeat' first
   | (with_reducible exact ih0 _ _ _ _)
   | (with_reducible exact LeO.refl _)
   | (with_reducible exact LeO.none _)
   | (with_reducible refine LeO.ite ?_ ?_)
   | (with_reducible refine LeO.bind ?_ (fun _ => ?_))
   | exact ih0 _ _ _ _
   | exact LeO.none _
   | refine LeO.ite ?_ ?_
   | refine LeO.bind ?_ (fun _ => ?_)
theorem extent_Check.mono : ∀ a0 k, LeO (extent_Check.f k a0) (extent_Check.f (k + 1) a0) := by
 intro a0 k
 have ih0 := extent_Check.mono_l k
 unfold extent_Check.f
 repeat' first
  | (with_reducible exact ih0 _ _ _ _)
  | (with_reducible exact LeO.refl _)
  | (with_reducible exact LeO.none _)
  | (with_reducible refine LeO.ite ?_ ?_)
  | (with_reducible refine LeO.bind ?_ (fun _ => ?_))
  | exact ih0 _ _ _ _
  | exact LeO.none _
  | refine LeO.ite ?_ ?_
  | refine LeO.bind ?_ (fun _ => ?_)
def extent_Check.T6 : Bool × List (List Nat × List Nat) := (true, [([], []), ([0], [0]), ([1], [1]), ([2, 1], [2]), ([3], [3]), ([4, 3], [3, 4]), ([5, 3, 3], [3, 5]), ([6], [6]), ([6], [6]), ([8, 6], [6, 8]), ([7, 9, 6], [6, 7, 9]), ([10, 6], [6, 10]), ([11, 6], [6, 11]), ([6], [6]), ([6], [6]), ([14, 6], [6, 14]), ([13, 15, 6], [6, 13, 15]), ([16, 6], [6, 16]), ([17, 6], [6, 17]), ([12, 18, 6], [6, 12, 18]), ([6], [6]), ([20, 6], [6, 20]), ([19, 21, 6], [6, 19, 21]), ([22, 6, 6], [6, 22]), ([23], [23]), ([23], [23]), ([25, 23], [23, 25]), ([24, 26, 23], [23, 24, 26]), ([27, 23], [23, 27]), ([23], [23]), ([28, 29, 23, 23], [23, 28, 29]), ([23, 30, 6], [6, 23, 30]), ([6, 31, 3], [3, 6, 31]), ([3, 32], [3, 32])])
def extent_Check.B6 : List Nat := [0, 1, 3, 7, 15, 31, 63, 127, 127, 383, 1023, 2047, 4095, 127, 127, 16511, 57471, 123007, 254079, 524287, 127, 1048703, 4194303, 8388607, 16777215, 16777215, 50331647, 134217727, 268435455, 16777215, 1073741823, 2147483647, 4294967295, 8589934591]
theorem extent_Check.tab6 : rtab .any (opsOf Try.f36 6) = extent_Check.T6 := by kernel_rfl
theorem extent_Check.bits6 : waitsOk extent_Check.T6.2 extent_Check.B6 = true := by kernel_rfl
set_option maxHeartbeats 8000000 in
set_option maxRecDepth 100000 in
theorem extent_Check.calls (k : Nat) (A0 : Option Addr) (c0 : Nat) (l0 : List (S24)) (r : Int) (w : World) (hr0 : Kd.C k24 w A0 l0.length l0) (hc0 : l0.length ≤ c0) (h : extent_Check.f k l0 = some r) :
 Calls Try.prog 36 #[.slice A0 l0.length c0] w fun e w' => e = .returned (.int .i64 r) ∧ Below w.heap.size w w' := by
 have hu24 := Try.underlying24
 have HR0 := Aside0.mk hr0
 have HC0 := Aside0.mk hc0
 clear hr0 hc0
 have HB := Aside0.mk (Below.refl w.heap.size w)
 have H : (if (l0.length : Int) > 1024 then (some 9) else (extent_Check.l0 k l0 l0 (l0.length : Int) 0)) = some r := h
 clear h
 by_cases c2 : (l0.length : Int) > 1024
 ·rw [if_pos c2] at H
  have c2b0 : decide (1024 < (l0.length : Int)) = true := decide_eq_true c2
  have c2b1 : decide (1024 < l0.length) = true := decide_eq_true (by omega)
  clear c2
  obtain rfl := Option.some.inj H
  go_enter Try.func36, Try.ntmps36
  go_wp2
  go_ret
  exact ⟨by first | rfl | (simp [errW_none, errW_some] <;> rfl) | (simp [*, errW_none, errW_some] <;> rfl), by repeat (first | (with_reducible first | exact HB.out | apply below_alloc | apply pw_below_drewN | apply below_drew1) | exact HB.out)⟩
 ·rw [if_neg c2] at H
  have c2b0 : decide (1024 < (l0.length : Int)) = false := decide_eq_false c2
  have c2b1 : decide (1024 < l0.length) = false := decide_eq_false (by omega)
  clear c2
  have H' := Aside0.mk H
  clear H
  go_enter Try.func36, Try.ntmps36
  go_wp2
  go_loopg [10] k (fun kq v10 w' => ∃ (x10_1 : Int), v10 = .int .i64 x10_1 ∧ Aside0 (extent_Check.l0 kq l0 l0 (l0.length : Int) x10_1 = some r) ∧ Aside0 (kq ≤ k) ∧ Aside0 (Below w.heap.size w w'))
  case atStart => exact ⟨(0), (by first | rfl | (simp; done) | (simp [*]; done)), H', ⟨Nat.le_refl _⟩, ⟨by repeat (first | (with_reducible first | exact HB.out | apply below_alloc | apply pw_below_drewN | apply below_drew1) | exact HB.out)⟩⟩
  case round =>
   clear H'
   try clear c2
   try clear c2b0
   try clear c2b1
   try clear p2
   obtain ⟨x10_1, rfl, HA, HK1, HB⟩ := hrel
   cases gk with
   | zero => exact absurd HA.out (by simp [extent_Check.l0])
   | succ k1 =>
    have H := HA.out
    clear HA
    simp only [extent_Check.l0] at H
    by_cases c3 : x10_1 < (l0.length : Int)
    ·rw [if_pos c3] at H
     have c3b0 : decide (x10_1 < (l0.length : Int)) = true := decide_eq_true c3
     clear c3
     by_cases c4 : 0 ≤ x10_1
     ·rw [if_pos c4] at H
      have c4b0 : decide (0 ≤ x10_1) = true := decide_eq_true c4
      clear c4
      by_cases c5 : x10_1 < (l0.length : Int)
      ·rw [if_pos c5] at H
       have c5b0 : decide (x10_1 < (l0.length : Int)) = true := decide_eq_true c5
       clear c5
       replace H := Option.bind_eq_some_iff.mp H
       obtain ⟨t103, A60, H⟩ := H
       try dsimp only at H
       have A6 := Aside0.mk A60
       clear A60
       by_cases c7 : t103 = true
       ·subst c7
        have H1 : (if x10_1 > 0 then (if 0 ≤ (wrap64 (x10_1 - 1)) then (if (wrap64 (x10_1 - 1)) < (l0.length : Int) then (if (wrap64 (((rd_T24 l0 (wrap64 (x10_1 - 1))).f0) + ((rd_T24 l0 (wrap64 (x10_1 - 1))).f2))) > ((rd_T24 l0 x10_1).f0) then (some 9) else ((extent_goesOn.f ((rd_T24 l0 (wrap64 (x10_1 - 1))).f0) ((rd_T24 l0 (wrap64 (x10_1 - 1))).f1) ((rd_T24 l0 (wrap64 (x10_1 - 1))).f2) ((rd_T24 l0 x10_1).f0) ((rd_T24 l0 x10_1).f1) ((rd_T24 l0 x10_1).f2)).bind fun t107 => (if t107 = true then (some 9) else (extent_Check.l0 k1 l0 l0 (l0.length : Int) (wrap64 (x10_1 + 1)))))) else (none)) else (none)) else (extent_Check.l0 k1 l0 l0 (l0.length : Int) (wrap64 (x10_1 + 1)))) = some r := by rw [if_pos rfl] at H; exact H
        clear H
        have H := H1
        clear H1
        by_cases c8 : x10_1 > 0
        ·rw [if_pos c8] at H
         have c8b0 : decide (0 < x10_1) = true := decide_eq_true c8
         clear c8
         obtain ⟨ji9, hji9⟩ : ∃ j_ : Int, (wrap64 (x10_1 - 1)) = j_ := ⟨_, rfl⟩
         replace H : (if 0 ≤ (ji9) then (if (ji9) < (l0.length : Int) then (if (wrap64 (((rd_T24 l0 (ji9)).f0) + ((rd_T24 l0 (ji9)).f2))) > ((rd_T24 l0 x10_1).f0) then (some 9) else ((extent_goesOn.f ((rd_T24 l0 (ji9)).f0) ((rd_T24 l0 (ji9)).f1) ((rd_T24 l0 (ji9)).f2) ((rd_T24 l0 x10_1).f0) ((rd_T24 l0 x10_1).f1) ((rd_T24 l0 x10_1).f2)).bind fun t107 => (if t107 = true then (some 9) else (extent_Check.l0 k1 l0 l0 (l0.length : Int) (wrap64 (x10_1 + 1)))))) else (none)) else (none)) = some r := by first | (rw [hji9] at H; exact H) | (simp only [hji9] at H ⊢; exact H)
         (try rw [hji9] at A6)
         have hji9w : (IntKind.i64.wrap (x10_1 - 1)) = ji9 := (i64_w _).trans hji9
         by_cases c10 : 0 ≤ (ji9)
         ·rw [if_pos c10] at H
          have c10b0 : decide (0 ≤ (ji9)) = true := decide_eq_true c10
          clear c10
          by_cases c11 : (ji9) < (l0.length : Int)
          ·rw [if_pos c11] at H
           have c11b0 : decide ((ji9) < (l0.length : Int)) = true := decide_eq_true c11
           clear c11
           by_cases c12 : (wrap64 (((rd_T24 l0 (ji9)).f0) + ((rd_T24 l0 (ji9)).f2))) > ((rd_T24 l0 x10_1).f0)
           ·rw [if_pos c12] at H
            have c12b0 : decide (((rd_T24 l0 x10_1).f0) < (wrap64 (((rd_T24 l0 (ji9)).f0) + ((rd_T24 l0 (ji9)).f2)))) = true := decide_eq_true c12
            clear c12
            obtain rfl := Option.some.inj H
            have p101 : 0 ≤ (x10_1 : Int) := of_decide_eq_true (by first | (with_reducible assumption) | assumption)
            have q101 : x10_1 < (l0.length : Int) := of_decide_eq_true (by first | (with_reducible assumption) | assumption)
            obtain ⟨ad101, e101, hx101_0, hx101_1, hx101_2⟩ := at_T24 HR0.out x10_1 p101 q101
            cases e101
            replace hx101_0 := (HB.out.cell (World.block_lt_of_cell? w _ hx101_0)).trans hx101_0
            replace hx101_1 := (HB.out.cell (World.block_lt_of_cell? w _ hx101_1)).trans hx101_1
            replace hx101_2 := (HB.out.cell (World.block_lt_of_cell? w _ hx101_2)).trans hx101_2
            replace p101 := eq_true p101
            replace q101 := eq_true q101
            try go_wp2_with (first | ((with_reducible refine gate_dst (N := 4) rfl ?_); refine box_event ?hg (N := 4) ?hd (cs := #[.int .i64 0, .int .i64 0, .int .i64 0]) (t := 24) ?hr ?_; (case hd => rfl); (case hg => rfl); (case hr => first | (go_simp; done) | (go_simp; rfl)); intro gb102 hg w13 hbox hb; have n0_ := Aside0.mk (below_step (by repeat (first | (with_reducible first | exact HB.out | apply below_alloc | apply pw_below_drewN | apply below_drew1) | exact HB.out)) hb); have n1_ := Aside0.mk (hbox); have n2_ := Aside0.mk ((by rw [hg]; exact (below_size (by repeat (first | (with_reducible first | exact HB.out | apply below_alloc | apply pw_below_drewN | apply below_drew1) | exact HB.out))) : w.heap.size ≤ gb102)); have n3_ := Aside0.mk ((by rw [hg]; exact (below_size (by repeat (first | (with_reducible first | exact HB.out | apply below_alloc | apply pw_below_drewN | apply below_drew1) | exact HB.out))) : w.heap.size ≤ gb102)); clear HB; have HB := n0_; have BK102 := n1_; have GW102 := n2_; have GE102 := n3_; clear n0_ n1_ n2_ n3_; clear hb hbox hg; have hcz14_0 : w13.cell? ⟨gb102, 0, none⟩ = some (.int .i64 0) := (blk_cell BK102.out 0).trans rfl; have hcz14_1 : w13.cell? ⟨gb102, 1, none⟩ = some (.int .i64 0) := (blk_cell BK102.out 1).trans rfl; have hcz14_2 : w13.cell? ⟨gb102, 2, none⟩ = some (.int .i64 0) := (blk_cell BK102.out 2).trans rfl; have hfz14_0 := blk_frozen BK102.out 0; have hfz14_1 := blk_frozen BK102.out 1; have hfz14_2 := blk_frozen BK102.out 2))
            have n0_ : Aside0 ((((w13.setCell ⟨gb102, 0, none⟩ (.int .i64 ((rd_T24 l0 x10_1).f0))).setCell ⟨gb102, 1, none⟩ (.int .i64 ((rd_T24 l0 x10_1).f1))).setCell ⟨gb102, 2, none⟩ (.int .i64 ((rd_T24 l0 x10_1).f2))).heap[gb102]? = some (.cells #[.int .i64 ((rd_T24 l0 x10_1).f0), .int .i64 ((rd_T24 l0 x10_1).f1), .int .i64 ((rd_T24 l0 x10_1).f2)] 24 (0, 0))) := ⟨by (with_reducible repeat (first | refine blk_drewN ?_ _ | refine blk_drew ?_ | refine blk_alloc ?_ _)); refine blk_put (cs := #[.int .i64 ((rd_T24 l0 x10_1).f0), .int .i64 ((rd_T24 l0 x10_1).f1), .int .i64 0]) ?_ 2 _ rfl; (with_reducible repeat (first | refine blk_drewN ?_ _ | refine blk_drew ?_ | refine blk_alloc ?_ _)); refine blk_put (cs := #[.int .i64 ((rd_T24 l0 x10_1).f0), .int .i64 0, .int .i64 0]) ?_ 1 _ rfl; (with_reducible repeat (first | refine blk_drewN ?_ _ | refine blk_drew ?_ | refine blk_alloc ?_ _)); refine blk_put (cs := #[.int .i64 0, .int .i64 0, .int .i64 0]) ?_ 0 _ rfl; (with_reducible repeat (first | refine blk_drewN ?_ _ | refine blk_drew ?_ | refine blk_alloc ?_ _)); exact BK102.out⟩
            have n1_ : Aside0 (Below w.heap.size w (((w13.setCell ⟨gb102, 0, none⟩ (.int .i64 ((rd_T24 l0 x10_1).f0))).setCell ⟨gb102, 1, none⟩ (.int .i64 ((rd_T24 l0 x10_1).f1))).setCell ⟨gb102, 2, none⟩ (.int .i64 ((rd_T24 l0 x10_1).f2)))) := ⟨by repeat (first | (with_reducible first | exact HB.out | apply below_alloc | apply pw_below_drewN | apply below_drew1 | refine below_set ?_ GE102.out) | exact HB.out)⟩
            (try clear BK102)
            (try clear HB)
            generalize (((w13.setCell ⟨gb102, 0, none⟩ (.int .i64 ((rd_T24 l0 x10_1).f0))).setCell ⟨gb102, 1, none⟩ (.int .i64 ((rd_T24 l0 x10_1).f1))).setCell ⟨gb102, 2, none⟩ (.int .i64 ((rd_T24 l0 x10_1).f2))) = w15 at n0_ n1_ ⊢
            have BK102 := n0_
            have HB := n1_
            clear n0_ n1_
            have n0_ := Aside0.mk (blk_drew BK102.out)
            have n1_ := Aside0.mk (below_drew1 HB.out)
            clear BK102
            clear HB
            have BK102 := n0_
            have HB := n1_
            clear n0_ n1_
            have p104 : 0 ≤ ((ji9) : Int) := of_decide_eq_true (by first | (with_reducible assumption) | assumption)
            have q104 : (ji9) < (l0.length : Int) := of_decide_eq_true (by first | (with_reducible assumption) | assumption)
            obtain ⟨ad104, e104, hx104_0, hx104_1, hx104_2⟩ := at_T24 HR0.out (ji9) p104 q104
            have hw104_2 := hx104_2
            have hw104_1 := hx104_1
            have hw104_0 := hx104_0
            obtain rfl : ad101 = ad104 := (by injection e104)
            replace hx104_0 := (HB.out.cell (World.block_lt_of_cell? w _ hx104_0)).trans hx104_0
            replace hx104_1 := (HB.out.cell (World.block_lt_of_cell? w _ hx104_1)).trans hx104_1
            replace hx104_2 := (HB.out.cell (World.block_lt_of_cell? w _ hx104_2)).trans hx104_2
            replace p104 := eq_true p104
            replace q104 := eq_true q104
            have p105 : 0 ≤ ((ji9) : Int) := of_decide_eq_true (by first | (with_reducible assumption) | assumption)
            have q105 : (ji9) < (l0.length : Int) := of_decide_eq_true (by first | (with_reducible assumption) | assumption)
            obtain ⟨ad105, e105, hx105_0, hx105_1, hx105_2⟩ := at_T24 HR0.out (ji9) p105 q105
            have hw105_2 := hx105_2
            have hw105_1 := hx105_1
            have hw105_0 := hx105_0
            obtain rfl : ad101 = ad105 := (by injection e105)
            replace hx105_0 := (HB.out.cell (World.block_lt_of_cell? w _ hx105_0)).trans hx105_0
            replace hx105_1 := (HB.out.cell (World.block_lt_of_cell? w _ hx105_1)).trans hx105_1
            replace hx105_2 := (HB.out.cell (World.block_lt_of_cell? w _ hx105_2)).trans hx105_2
            replace p105 := eq_true p105
            replace q105 := eq_true q105
            refine start_ (n := 34) (S := fun w' => w'.cell? ⟨gb102, 0, none⟩ = some (.int .i64 ((rd_T24 l0 x10_1).f0)) ∧ w'.cell? ⟨gb102, 1, none⟩ = some (.int .i64 ((rd_T24 l0 x10_1).f1)) ∧ w'.cell? ⟨gb102, 2, none⟩ = some (.int .i64 ((rd_T24 l0 x10_1).f2)) ∧ w'.cell? (ad101.add (((ji9)).toNat * 3)) = some (.int .i64 ((rd_T24 l0 (ji9)).f0)) ∧ w'.cell? ⟨(ad101.add (((ji9)).toNat * 3)).block, (ad101.add (((ji9)).toNat * 3)).off + 1, none⟩ = some (.int .i64 ((rd_T24 l0 (ji9)).f1)) ∧ w'.cell? ⟨(ad101.add (((ji9)).toNat * 3)).block, (ad101.add (((ji9)).toNat * 3)).off + 2, none⟩ = some (.int .i64 ((rd_T24 l0 (ji9)).f2)) ∧ w'.cell? (ad101.add (((ji9)).toNat * 3)) = some (.int .i64 ((rd_T24 l0 (ji9)).f0)) ∧ w'.cell? ⟨(ad101.add (((ji9)).toNat * 3)).block, (ad101.add (((ji9)).toNat * 3)).off + 1, none⟩ = some (.int .i64 ((rd_T24 l0 (ji9)).f1)) ∧ w'.cell? ⟨(ad101.add (((ji9)).toNat * 3)).block, (ad101.add (((ji9)).toNat * 3)).off + 2, none⟩ = some (.int .i64 ((rd_T24 l0 (ji9)).f2))) (ds := []) #[yF,yF,yF,yF,yF,yF,yF,yF,yF,yF,yF,yF,yF,yF,yF,yF,yF,yF,yF,yF,yF,yF,yF,yF,yF,yF,yF,yF,yF,yF,yF,yF,yF,yF] (by kernel_rfl) rfl rfl ⟨(blk_cell BK102.out 0).trans rfl, (blk_cell BK102.out 1).trans rfl, (blk_cell BK102.out 2).trans rfl, ((HB.out.cell (World.block_lt_of_cell? w _ hw104_0)).trans hw104_0), ((HB.out.cell (World.block_lt_of_cell? w _ hw104_1)).trans hw104_1), ((HB.out.cell (World.block_lt_of_cell? w _ hw104_2)).trans hw104_2), ((HB.out.cell (World.block_lt_of_cell? w _ hw105_0)).trans hw105_0), ((HB.out.cell (World.block_lt_of_cell? w _ hw105_1)).trans hw105_1), ((HB.out.cell (World.block_lt_of_cell? w _ hw105_2)).trans hw105_2)⟩ (fun hHeld => ?_); refine with_tabW extent_Check.tab6 extent_Check.bits6 (fun HT_ HW_ => ?_)
            generalize w15.drew = w16 at BK102 HB hx104_0 hx104_1 hx104_2 hx105_0 hx105_1 hx105_2 hHeld ⊢
            refine tk_ 0 15 34 1 ?_
            refine on_ 1 16 34 3 (fun K hK => ?_)
            refine goes_ Try.func86 (by kernel_rfl) rfl #[.agg #[.int .i64 ((rd_T24 l0 x10_1).f0), .int .i64 ((rd_T24 l0 x10_1).f1), .int .i64 ((rd_T24 l0 x10_1).f2)]] (by rfl) rfl rfl (by (try simp only [List.map_toArray, List.map_cons, List.map_nil]); first | done | rfl | (simp only [List.length_drop, List.length_take]; rfl)) ?_
            with_reducible refine (extent_may.calls ((rd_T24 l0 x10_1).f0) ((rd_T24 l0 x10_1).f1) ((rd_T24 l0 x10_1).f2) true _ A6.out).mono ?_
            rintro e w17 ⟨rfl, hb⟩
            refine ⟨_, rfl, ?_⟩
            have n0_ := Aside0.mk (blk_below (g := gb102) (o := .cells #[.int .i64 ((rd_T24 l0 x10_1).f0), .int .i64 ((rd_T24 l0 x10_1).f1), .int .i64 ((rd_T24 l0 x10_1).f2)] 24 (0, 0)) (by (with_reducible repeat (first | refine blk_drewN ?_ _ | refine blk_drew ?_ | refine blk_alloc ?_ _)); exact BK102.out) hb)
            have n1_ := Aside0.mk (below_step (by repeat (first | (with_reducible first | exact HB.out | apply below_alloc | apply pw_below_drewN | apply below_drew1 | refine below_set ?_ GE102.out) | exact HB.out)) hb)
            clear BK102
            clear HB
            have BK102 := n0_
            have HB := n1_
            clear n0_ n1_
            (try clear hb)
            (try clear hb2)
            (try clear hk)
            (try clear hi)
            refine hK.out _ _ ⟨(blk_cell BK102.out 0).trans rfl, (blk_cell BK102.out 1).trans rfl, (blk_cell BK102.out 2).trans rfl, ((HB.out.cell (World.block_lt_of_cell? w _ hw104_0)).trans hw104_0), ((HB.out.cell (World.block_lt_of_cell? w _ hw104_1)).trans hw104_1), ((HB.out.cell (World.block_lt_of_cell? w _ hw104_2)).trans hw104_2), ((HB.out.cell (World.block_lt_of_cell? w _ hw105_0)).trans hw105_0), ((HB.out.cell (World.block_lt_of_cell? w _ hw105_1)).trans hw105_1), ((HB.out.cell (World.block_lt_of_cell? w _ hw105_2)).trans hw105_2)⟩ (fun hHeld => ?_)
            clear hK K
            refine nm_ 16 ?_
            refine pu_ 2 17 34 7 ?_
            refine pu_ 3 18 34 15 ?_
            refine pu_ 4 19 34 31 ?_
            refine pu_ 5 20 34 63 ?_
            refine pu_ 6 21 34 127 ?_
            refine pu_ 7 22 34 255 ?_
            refine pu_ 8 23 34 511 ?_
            refine pu_ 9 24 34 1023 ?_
            refine pu_ 10 25 34 2047 ?_
            refine pu_ 11 26 34 4095 ?_
            refine pu_ 13 28 34 12287 ?_
            refine pu_ 14 29 34 28671 ?_
            refine pu_ 15 30 34 61439 ?_
            refine pu_ 16 31 34 126975 ?_
            refine pu_ 17 32 34 258047 ?_
            refine pu_ 20 35 34 1306623 ?_
            refine tk_ 12 27 34 1310719 ?_
            refine tk_ 18 33 34 1572863 ?_
            refine pu_ 19 34 34 2097151 ?_
            refine tk_ 21 36 34 4194303 ?_
            refine pu_ 22 37 34 8388607 ?_
            refine pu_ 23 38 34 16777215 ?_
            refine pn_ 24 39 34 33554431 ?_
            refine pn_ 25 40 34 67108863 ?_
            refine pn_ 26 41 34 134217727 ?_
            refine pn_ 27 42 34 268435455 ?_
            refine pn_ 28 43 34 536870911 ?_
            refine pn_ 29 44 34 1073741823 ?_
            refine pn_ 30 45 34 2147483647 ?_
            refine pu_ 31 46 34 4294967295 ?_
            refine pu_ 32 47 34 8589934591 ?_
            refine pu_ 33 48 34 17179869183 ?_
            refine done_ (done_of HT_.out (by kernel_rfl)) ?_
            try go_wp2
            go_ret
            exact ⟨by first | rfl | (simp [errW_none, errW_some] <;> rfl) | (simp only [← hji9]; first | rfl | (simp [errW_none, errW_some] <;> rfl)) | (simp [*, errW_none, errW_some] <;> rfl), by repeat (first | (with_reducible first | exact HB.out | apply below_alloc | apply pw_below_drewN | apply below_drew1 | refine below_set ?_ GE102.out) | exact HB.out)⟩
           ·rw [if_neg c12] at H
            have c12b0 : decide (((rd_T24 l0 x10_1).f0) < (wrap64 (((rd_T24 l0 (ji9)).f0) + ((rd_T24 l0 (ji9)).f2)))) = false := decide_eq_false c12
            clear c12
            replace H := Option.bind_eq_some_iff.mp H
            obtain ⟨t107, A180, H⟩ := H
            replace H : (if t107 = true then (some 9) else (extent_Check.l0 k1 l0 l0 (l0.length : Int) (wrap64 (x10_1 + 1)))) = some r := H
            have A18 := Aside0.mk A180
            clear A180
            by_cases c19 : t107 = true
            ·subst c19
             have H1 : (some 9) = some r := by rw [if_pos rfl] at H; exact H
             clear H
             have H := H1
             clear H1
             obtain rfl := Option.some.inj H
             have p101 : 0 ≤ (x10_1 : Int) := of_decide_eq_true (by first | (with_reducible assumption) | assumption)
             have q101 : x10_1 < (l0.length : Int) := of_decide_eq_true (by first | (with_reducible assumption) | assumption)
             obtain ⟨ad101, e101, hx101_0, hx101_1, hx101_2⟩ := at_T24 HR0.out x10_1 p101 q101
             cases e101
             replace hx101_0 := (HB.out.cell (World.block_lt_of_cell? w _ hx101_0)).trans hx101_0
             replace hx101_1 := (HB.out.cell (World.block_lt_of_cell? w _ hx101_1)).trans hx101_1
             replace hx101_2 := (HB.out.cell (World.block_lt_of_cell? w _ hx101_2)).trans hx101_2
             replace p101 := eq_true p101
             replace q101 := eq_true q101
             try go_wp2_with (first | ((with_reducible refine gate_dst (N := 4) rfl ?_); refine box_event ?hg (N := 4) ?hd (cs := #[.int .i64 0, .int .i64 0, .int .i64 0]) (t := 24) ?hr ?_; (case hd => rfl); (case hg => rfl); (case hr => first | (go_simp; done) | (go_simp; rfl)); intro gb102 hg w20 hbox hb; have n0_ := Aside0.mk (below_step (by repeat (first | (with_reducible first | exact HB.out | apply below_alloc | apply pw_below_drewN | apply below_drew1) | exact HB.out)) hb); have n1_ := Aside0.mk (hbox); have n2_ := Aside0.mk ((by rw [hg]; exact (below_size (by repeat (first | (with_reducible first | exact HB.out | apply below_alloc | apply pw_below_drewN | apply below_drew1) | exact HB.out))) : w.heap.size ≤ gb102)); have n3_ := Aside0.mk ((by rw [hg]; exact (below_size (by repeat (first | (with_reducible first | exact HB.out | apply below_alloc | apply pw_below_drewN | apply below_drew1) | exact HB.out))) : w.heap.size ≤ gb102)); clear HB; have HB := n0_; have BK102 := n1_; have GW102 := n2_; have GE102 := n3_; clear n0_ n1_ n2_ n3_; clear hb hbox hg; have hcz21_0 : w20.cell? ⟨gb102, 0, none⟩ = some (.int .i64 0) := (blk_cell BK102.out 0).trans rfl; have hcz21_1 : w20.cell? ⟨gb102, 1, none⟩ = some (.int .i64 0) := (blk_cell BK102.out 1).trans rfl; have hcz21_2 : w20.cell? ⟨gb102, 2, none⟩ = some (.int .i64 0) := (blk_cell BK102.out 2).trans rfl; have hfz21_0 := blk_frozen BK102.out 0; have hfz21_1 := blk_frozen BK102.out 1; have hfz21_2 := blk_frozen BK102.out 2))
             have n0_ : Aside0 ((((w20.setCell ⟨gb102, 0, none⟩ (.int .i64 ((rd_T24 l0 x10_1).f0))).setCell ⟨gb102, 1, none⟩ (.int .i64 ((rd_T24 l0 x10_1).f1))).setCell ⟨gb102, 2, none⟩ (.int .i64 ((rd_T24 l0 x10_1).f2))).heap[gb102]? = some (.cells #[.int .i64 ((rd_T24 l0 x10_1).f0), .int .i64 ((rd_T24 l0 x10_1).f1), .int .i64 ((rd_T24 l0 x10_1).f2)] 24 (0, 0))) := ⟨by (with_reducible repeat (first | refine blk_drewN ?_ _ | refine blk_drew ?_ | refine blk_alloc ?_ _)); refine blk_put (cs := #[.int .i64 ((rd_T24 l0 x10_1).f0), .int .i64 ((rd_T24 l0 x10_1).f1), .int .i64 0]) ?_ 2 _ rfl; (with_reducible repeat (first | refine blk_drewN ?_ _ | refine blk_drew ?_ | refine blk_alloc ?_ _)); refine blk_put (cs := #[.int .i64 ((rd_T24 l0 x10_1).f0), .int .i64 0, .int .i64 0]) ?_ 1 _ rfl; (with_reducible repeat (first | refine blk_drewN ?_ _ | refine blk_drew ?_ | refine blk_alloc ?_ _)); refine blk_put (cs := #[.int .i64 0, .int .i64 0, .int .i64 0]) ?_ 0 _ rfl; (with_reducible repeat (first | refine blk_drewN ?_ _ | refine blk_drew ?_ | refine blk_alloc ?_ _)); exact BK102.out⟩
             have n1_ : Aside0 (Below w.heap.size w (((w20.setCell ⟨gb102, 0, none⟩ (.int .i64 ((rd_T24 l0 x10_1).f0))).setCell ⟨gb102, 1, none⟩ (.int .i64 ((rd_T24 l0 x10_1).f1))).setCell ⟨gb102, 2, none⟩ (.int .i64 ((rd_T24 l0 x10_1).f2)))) := ⟨by repeat (first | (with_reducible first | exact HB.out | apply below_alloc | apply pw_below_drewN | apply below_drew1 | refine below_set ?_ GE102.out) | exact HB.out)⟩
             (try clear BK102)
             (try clear HB)
             generalize (((w20.setCell ⟨gb102, 0, none⟩ (.int .i64 ((rd_T24 l0 x10_1).f0))).setCell ⟨gb102, 1, none⟩ (.int .i64 ((rd_T24 l0 x10_1).f1))).setCell ⟨gb102, 2, none⟩ (.int .i64 ((rd_T24 l0 x10_1).f2))) = w22 at n0_ n1_ ⊢
             have BK102 := n0_
             have HB := n1_
             clear n0_ n1_
             have n0_ := Aside0.mk (blk_drew BK102.out)
             have n1_ := Aside0.mk (below_drew1 HB.out)
             clear BK102
             clear HB
             have BK102 := n0_
             have HB := n1_
             clear n0_ n1_
             have p104 : 0 ≤ ((ji9) : Int) := of_decide_eq_true (by first | (with_reducible assumption) | assumption)
             have q104 : (ji9) < (l0.length : Int) := of_decide_eq_true (by first | (with_reducible assumption) | assumption)
             obtain ⟨ad104, e104, hx104_0, hx104_1, hx104_2⟩ := at_T24 HR0.out (ji9) p104 q104
             have hw104_2 := hx104_2
             have hw104_1 := hx104_1
             have hw104_0 := hx104_0
             obtain rfl : ad101 = ad104 := (by injection e104)
             replace hx104_0 := (HB.out.cell (World.block_lt_of_cell? w _ hx104_0)).trans hx104_0
             replace hx104_1 := (HB.out.cell (World.block_lt_of_cell? w _ hx104_1)).trans hx104_1
             replace hx104_2 := (HB.out.cell (World.block_lt_of_cell? w _ hx104_2)).trans hx104_2
             replace p104 := eq_true p104
             replace q104 := eq_true q104
             have p105 : 0 ≤ ((ji9) : Int) := of_decide_eq_true (by first | (with_reducible assumption) | assumption)
             have q105 : (ji9) < (l0.length : Int) := of_decide_eq_true (by first | (with_reducible assumption) | assumption)
             obtain ⟨ad105, e105, hx105_0, hx105_1, hx105_2⟩ := at_T24 HR0.out (ji9) p105 q105
             have hw105_2 := hx105_2
             have hw105_1 := hx105_1
             have hw105_0 := hx105_0
             obtain rfl : ad101 = ad105 := (by injection e105)
             replace hx105_0 := (HB.out.cell (World.block_lt_of_cell? w _ hx105_0)).trans hx105_0
             replace hx105_1 := (HB.out.cell (World.block_lt_of_cell? w _ hx105_1)).trans hx105_1
             replace hx105_2 := (HB.out.cell (World.block_lt_of_cell? w _ hx105_2)).trans hx105_2
             replace p105 := eq_true p105
             replace q105 := eq_true q105
             have p106 : 0 ≤ ((ji9) : Int) := of_decide_eq_true (by first | (with_reducible assumption) | assumption)
             have q106 : (ji9) < (l0.length : Int) := of_decide_eq_true (by first | (with_reducible assumption) | assumption)
             obtain ⟨ad106, e106, hx106_0, hx106_1, hx106_2⟩ := at_T24 HR0.out (ji9) p106 q106
             have hw106_2 := hx106_2
             have hw106_1 := hx106_1
             have hw106_0 := hx106_0
             obtain rfl : ad101 = ad106 := (by injection e106)
             replace hx106_0 := (HB.out.cell (World.block_lt_of_cell? w _ hx106_0)).trans hx106_0
             replace hx106_1 := (HB.out.cell (World.block_lt_of_cell? w _ hx106_1)).trans hx106_1
             replace hx106_2 := (HB.out.cell (World.block_lt_of_cell? w _ hx106_2)).trans hx106_2
             replace p106 := eq_true p106
             replace q106 := eq_true q106
             refine start_ (n := 34) (S := fun w' => w'.cell? ⟨gb102, 0, none⟩ = some (.int .i64 ((rd_T24 l0 x10_1).f0)) ∧ w'.cell? ⟨gb102, 1, none⟩ = some (.int .i64 ((rd_T24 l0 x10_1).f1)) ∧ w'.cell? ⟨gb102, 2, none⟩ = some (.int .i64 ((rd_T24 l0 x10_1).f2)) ∧ w'.cell? (ad101.add (((ji9)).toNat * 3)) = some (.int .i64 ((rd_T24 l0 (ji9)).f0)) ∧ w'.cell? ⟨(ad101.add (((ji9)).toNat * 3)).block, (ad101.add (((ji9)).toNat * 3)).off + 1, none⟩ = some (.int .i64 ((rd_T24 l0 (ji9)).f1)) ∧ w'.cell? ⟨(ad101.add (((ji9)).toNat * 3)).block, (ad101.add (((ji9)).toNat * 3)).off + 2, none⟩ = some (.int .i64 ((rd_T24 l0 (ji9)).f2)) ∧ w'.cell? (ad101.add (((ji9)).toNat * 3)) = some (.int .i64 ((rd_T24 l0 (ji9)).f0)) ∧ w'.cell? ⟨(ad101.add (((ji9)).toNat * 3)).block, (ad101.add (((ji9)).toNat * 3)).off + 1, none⟩ = some (.int .i64 ((rd_T24 l0 (ji9)).f1)) ∧ w'.cell? ⟨(ad101.add (((ji9)).toNat * 3)).block, (ad101.add (((ji9)).toNat * 3)).off + 2, none⟩ = some (.int .i64 ((rd_T24 l0 (ji9)).f2)) ∧ w'.cell? (ad101.add (((ji9)).toNat * 3)) = some (.int .i64 ((rd_T24 l0 (ji9)).f0)) ∧ w'.cell? ⟨(ad101.add (((ji9)).toNat * 3)).block, (ad101.add (((ji9)).toNat * 3)).off + 1, none⟩ = some (.int .i64 ((rd_T24 l0 (ji9)).f1)) ∧ w'.cell? ⟨(ad101.add (((ji9)).toNat * 3)).block, (ad101.add (((ji9)).toNat * 3)).off + 2, none⟩ = some (.int .i64 ((rd_T24 l0 (ji9)).f2))) (ds := []) #[yF,yF,yF,yF,yF,yF,yF,yF,yF,yF,yF,yF,yF,yF,yF,yF,yF,yF,yF,yF,yF,yF,yF,yF,yF,yF,yF,yF,yF,yF,yF,yF,yF,yF] (by kernel_rfl) rfl rfl ⟨(blk_cell BK102.out 0).trans rfl, (blk_cell BK102.out 1).trans rfl, (blk_cell BK102.out 2).trans rfl, ((HB.out.cell (World.block_lt_of_cell? w _ hw104_0)).trans hw104_0), ((HB.out.cell (World.block_lt_of_cell? w _ hw104_1)).trans hw104_1), ((HB.out.cell (World.block_lt_of_cell? w _ hw104_2)).trans hw104_2), ((HB.out.cell (World.block_lt_of_cell? w _ hw105_0)).trans hw105_0), ((HB.out.cell (World.block_lt_of_cell? w _ hw105_1)).trans hw105_1), ((HB.out.cell (World.block_lt_of_cell? w _ hw105_2)).trans hw105_2), ((HB.out.cell (World.block_lt_of_cell? w _ hw106_0)).trans hw106_0), ((HB.out.cell (World.block_lt_of_cell? w _ hw106_1)).trans hw106_1), ((HB.out.cell (World.block_lt_of_cell? w _ hw106_2)).trans hw106_2)⟩ (fun hHeld => ?_); refine with_tabW extent_Check.tab6 extent_Check.bits6 (fun HT_ HW_ => ?_)
             generalize w22.drew = w23 at BK102 HB hx104_0 hx104_1 hx104_2 hx105_0 hx105_1 hx105_2 hx106_0 hx106_1 hx106_2 hHeld ⊢
             refine tk_ 0 15 34 1 ?_
             refine on_ 1 16 34 3 (fun K hK => ?_)
             refine goes_ Try.func86 (by kernel_rfl) rfl #[.agg #[.int .i64 ((rd_T24 l0 x10_1).f0), .int .i64 ((rd_T24 l0 x10_1).f1), .int .i64 ((rd_T24 l0 x10_1).f2)]] (by rfl) rfl rfl (by (try simp only [List.map_toArray, List.map_cons, List.map_nil]); first | done | rfl | (simp only [List.length_drop, List.length_take]; rfl)) ?_
             with_reducible refine (extent_may.calls ((rd_T24 l0 x10_1).f0) ((rd_T24 l0 x10_1).f1) ((rd_T24 l0 x10_1).f2) true _ A6.out).mono ?_
             rintro e w24 ⟨rfl, hb⟩
             refine ⟨_, rfl, ?_⟩
             have n0_ := Aside0.mk (blk_below (g := gb102) (o := .cells #[.int .i64 ((rd_T24 l0 x10_1).f0), .int .i64 ((rd_T24 l0 x10_1).f1), .int .i64 ((rd_T24 l0 x10_1).f2)] 24 (0, 0)) (by (with_reducible repeat (first | refine blk_drewN ?_ _ | refine blk_drew ?_ | refine blk_alloc ?_ _)); exact BK102.out) hb)
             have n1_ := Aside0.mk (below_step (by repeat (first | (with_reducible first | exact HB.out | apply below_alloc | apply pw_below_drewN | apply below_drew1 | refine below_set ?_ GE102.out) | exact HB.out)) hb)
             clear BK102
             clear HB
             have BK102 := n0_
             have HB := n1_
             clear n0_ n1_
             (try clear hb)
             (try clear hb2)
             (try clear hk)
             (try clear hi)
             refine hK.out _ _ ⟨(blk_cell BK102.out 0).trans rfl, (blk_cell BK102.out 1).trans rfl, (blk_cell BK102.out 2).trans rfl, ((HB.out.cell (World.block_lt_of_cell? w _ hw104_0)).trans hw104_0), ((HB.out.cell (World.block_lt_of_cell? w _ hw104_1)).trans hw104_1), ((HB.out.cell (World.block_lt_of_cell? w _ hw104_2)).trans hw104_2), ((HB.out.cell (World.block_lt_of_cell? w _ hw105_0)).trans hw105_0), ((HB.out.cell (World.block_lt_of_cell? w _ hw105_1)).trans hw105_1), ((HB.out.cell (World.block_lt_of_cell? w _ hw105_2)).trans hw105_2), ((HB.out.cell (World.block_lt_of_cell? w _ hw106_0)).trans hw106_0), ((HB.out.cell (World.block_lt_of_cell? w _ hw106_1)).trans hw106_1), ((HB.out.cell (World.block_lt_of_cell? w _ hw106_2)).trans hw106_2)⟩ (fun hHeld => ?_)
             clear hK K
             refine nm_ 16 ?_
             refine pu_ 2 17 34 7 ?_
             refine pu_ 3 18 34 15 ?_
             refine pu_ 4 19 34 31 ?_
             refine pu_ 5 20 34 63 ?_
             refine pu_ 6 21 34 127 ?_
             refine pu_ 7 22 34 255 ?_
             refine pu_ 8 23 34 511 ?_
             refine pu_ 9 24 34 1023 ?_
             refine pu_ 10 25 34 2047 ?_
             refine pu_ 11 26 34 4095 ?_
             refine pu_ 13 28 34 12287 ?_
             refine pu_ 14 29 34 28671 ?_
             refine pu_ 15 30 34 61439 ?_
             refine pu_ 16 31 34 126975 ?_
             refine pu_ 17 32 34 258047 ?_
             refine pu_ 20 35 34 1306623 ?_
             refine tk_ 12 27 34 1310719 ?_
             refine tk_ 18 33 34 1572863 ?_
             refine pu_ 19 34 34 2097151 ?_
             refine tk_ 21 36 34 4194303 ?_
             refine pu_ 22 37 34 8388607 ?_
             refine pu_ 23 38 34 16777215 ?_
             refine pu_ 24 39 34 33554431 ?_
             refine pu_ 25 40 34 67108863 ?_
             refine pu_ 26 41 34 134217727 ?_
             refine pu_ 27 42 34 268435455 ?_
             refine tk_ 28 43 34 536870911 ?_
             refine tk_ 29 44 34 1073741823 ?_
             refine on_ 30 45 34 2147483647 (fun K hK => ?_)
             refine goes_ Try.func98 (by kernel_rfl) rfl #[.agg #[.int .i64 ((rd_T24 l0 (ji9)).f0), .int .i64 ((rd_T24 l0 (ji9)).f1), .int .i64 ((rd_T24 l0 (ji9)).f2)], .agg #[.int .i64 ((rd_T24 l0 x10_1).f0), .int .i64 ((rd_T24 l0 x10_1).f1), .int .i64 ((rd_T24 l0 x10_1).f2)]] (by rfl) rfl rfl (by (try simp only [List.map_toArray, List.map_cons, List.map_nil]); first | done | (simp only [hji9]; rfl) | rfl | (simp only [List.length_drop, List.length_take]; rfl)) ?_
             with_reducible refine (extent_goesOn.calls ((rd_T24 l0 (ji9)).f0) ((rd_T24 l0 (ji9)).f1) ((rd_T24 l0 (ji9)).f2) ((rd_T24 l0 x10_1).f0) ((rd_T24 l0 x10_1).f1) ((rd_T24 l0 x10_1).f2) true _ A18.out).mono ?_
             rintro e w25 ⟨rfl, hb⟩
             refine ⟨_, rfl, ?_⟩
             have n0_ := Aside0.mk (blk_below (g := gb102) (o := .cells #[.int .i64 ((rd_T24 l0 x10_1).f0), .int .i64 ((rd_T24 l0 x10_1).f1), .int .i64 ((rd_T24 l0 x10_1).f2)] 24 (0, 0)) (by (with_reducible repeat (first | refine blk_drewN ?_ _ | refine blk_drew ?_ | refine blk_alloc ?_ _)); exact BK102.out) hb)
             have n1_ := Aside0.mk (below_step (by repeat (first | (with_reducible first | exact HB.out | apply below_alloc | apply pw_below_drewN | apply below_drew1 | refine below_set ?_ GE102.out) | exact HB.out)) hb)
             clear BK102
             clear HB
             have BK102 := n0_
             have HB := n1_
             clear n0_ n1_
             (try clear hb)
             (try clear hb2)
             (try clear hk)
             (try clear hi)
             refine hK.out _ _ ⟨(blk_cell BK102.out 0).trans rfl, (blk_cell BK102.out 1).trans rfl, (blk_cell BK102.out 2).trans rfl, ((HB.out.cell (World.block_lt_of_cell? w _ hw104_0)).trans hw104_0), ((HB.out.cell (World.block_lt_of_cell? w _ hw104_1)).trans hw104_1), ((HB.out.cell (World.block_lt_of_cell? w _ hw104_2)).trans hw104_2), ((HB.out.cell (World.block_lt_of_cell? w _ hw105_0)).trans hw105_0), ((HB.out.cell (World.block_lt_of_cell? w _ hw105_1)).trans hw105_1), ((HB.out.cell (World.block_lt_of_cell? w _ hw105_2)).trans hw105_2), ((HB.out.cell (World.block_lt_of_cell? w _ hw106_0)).trans hw106_0), ((HB.out.cell (World.block_lt_of_cell? w _ hw106_1)).trans hw106_1), ((HB.out.cell (World.block_lt_of_cell? w _ hw106_2)).trans hw106_2)⟩ (fun hHeld => ?_)
             clear hK K
             refine nm_ 45 ?_
             refine pu_ 31 46 34 4294967295 ?_
             refine pu_ 32 47 34 8589934591 ?_
             refine pu_ 33 48 34 17179869183 ?_
             refine done_ (done_of HT_.out (by kernel_rfl)) ?_
             try go_wp2
             go_ret
             exact ⟨by first | rfl | (simp [errW_none, errW_some] <;> rfl) | (simp only [← hji9]; first | rfl | (simp [errW_none, errW_some] <;> rfl)) | (simp [*, errW_none, errW_some] <;> rfl), by repeat (first | (with_reducible first | exact HB.out | apply below_alloc | apply pw_below_drewN | apply below_drew1 | refine below_set ?_ GE102.out) | exact HB.out)⟩
            ·replace c19 := Bool.eq_false_iff.mpr c19
             subst c19
             have H1 : (extent_Check.l0 k1 l0 l0 (l0.length : Int) (wrap64 (x10_1 + 1))) = some r := by rw [if_neg (show ¬ (false = true) by decide)] at H; exact H
             clear H
             have H := H1
             clear H1
             have H' := Aside0.mk H
             clear H
             have p101 : 0 ≤ (x10_1 : Int) := of_decide_eq_true (by first | (with_reducible assumption) | assumption)
             have q101 : x10_1 < (l0.length : Int) := of_decide_eq_true (by first | (with_reducible assumption) | assumption)
             obtain ⟨ad101, e101, hx101_0, hx101_1, hx101_2⟩ := at_T24 HR0.out x10_1 p101 q101
             cases e101
             replace hx101_0 := (HB.out.cell (World.block_lt_of_cell? w _ hx101_0)).trans hx101_0
             replace hx101_1 := (HB.out.cell (World.block_lt_of_cell? w _ hx101_1)).trans hx101_1
             replace hx101_2 := (HB.out.cell (World.block_lt_of_cell? w _ hx101_2)).trans hx101_2
             replace p101 := eq_true p101
             replace q101 := eq_true q101
             try go_wp2_with (first | ((with_reducible refine gate_dst (N := 4) rfl ?_); refine box_event ?hg (N := 4) ?hd (cs := #[.int .i64 0, .int .i64 0, .int .i64 0]) (t := 24) ?hr ?_; (case hd => rfl); (case hg => rfl); (case hr => first | (go_simp; done) | (go_simp; rfl)); intro gb102 hg w26 hbox hb; have n0_ := Aside0.mk (below_step (by repeat (first | (with_reducible first | exact HB.out | apply below_alloc | apply pw_below_drewN | apply below_drew1) | exact HB.out)) hb); have n1_ := Aside0.mk (hbox); have n2_ := Aside0.mk ((by rw [hg]; exact (below_size (by repeat (first | (with_reducible first | exact HB.out | apply below_alloc | apply pw_below_drewN | apply below_drew1) | exact HB.out))) : w.heap.size ≤ gb102)); have n3_ := Aside0.mk ((by rw [hg]; exact (below_size (by repeat (first | (with_reducible first | exact HB.out | apply below_alloc | apply pw_below_drewN | apply below_drew1) | exact HB.out))) : w.heap.size ≤ gb102)); clear HB; have HB := n0_; have BK102 := n1_; have GW102 := n2_; have GE102 := n3_; clear n0_ n1_ n2_ n3_; clear hb hbox hg; have hcz27_0 : w26.cell? ⟨gb102, 0, none⟩ = some (.int .i64 0) := (blk_cell BK102.out 0).trans rfl; have hcz27_1 : w26.cell? ⟨gb102, 1, none⟩ = some (.int .i64 0) := (blk_cell BK102.out 1).trans rfl; have hcz27_2 : w26.cell? ⟨gb102, 2, none⟩ = some (.int .i64 0) := (blk_cell BK102.out 2).trans rfl; have hfz27_0 := blk_frozen BK102.out 0; have hfz27_1 := blk_frozen BK102.out 1; have hfz27_2 := blk_frozen BK102.out 2))
             have n0_ : Aside0 ((((w26.setCell ⟨gb102, 0, none⟩ (.int .i64 ((rd_T24 l0 x10_1).f0))).setCell ⟨gb102, 1, none⟩ (.int .i64 ((rd_T24 l0 x10_1).f1))).setCell ⟨gb102, 2, none⟩ (.int .i64 ((rd_T24 l0 x10_1).f2))).heap[gb102]? = some (.cells #[.int .i64 ((rd_T24 l0 x10_1).f0), .int .i64 ((rd_T24 l0 x10_1).f1), .int .i64 ((rd_T24 l0 x10_1).f2)] 24 (0, 0))) := ⟨by (with_reducible repeat (first | refine blk_drewN ?_ _ | refine blk_drew ?_ | refine blk_alloc ?_ _)); refine blk_put (cs := #[.int .i64 ((rd_T24 l0 x10_1).f0), .int .i64 ((rd_T24 l0 x10_1).f1), .int .i64 0]) ?_ 2 _ rfl; (with_reducible repeat (first | refine blk_drewN ?_ _ | refine blk_drew ?_ | refine blk_alloc ?_ _)); refine blk_put (cs := #[.int .i64 ((rd_T24 l0 x10_1).f0), .int .i64 0, .int .i64 0]) ?_ 1 _ rfl; (with_reducible repeat (first | refine blk_drewN ?_ _ | refine blk_drew ?_ | refine blk_alloc ?_ _)); refine blk_put (cs := #[.int .i64 0, .int .i64 0, .int .i64 0]) ?_ 0 _ rfl; (with_reducible repeat (first | refine blk_drewN ?_ _ | refine blk_drew ?_ | refine blk_alloc ?_ _)); exact BK102.out⟩
             have n1_ : Aside0 (Below w.heap.size w (((w26.setCell ⟨gb102, 0, none⟩ (.int .i64 ((rd_T24 l0 x10_1).f0))).setCell ⟨gb102, 1, none⟩ (.int .i64 ((rd_T24 l0 x10_1).f1))).setCell ⟨gb102, 2, none⟩ (.int .i64 ((rd_T24 l0 x10_1).f2)))) := ⟨by repeat (first | (with_reducible first | exact HB.out | apply below_alloc | apply pw_below_drewN | apply below_drew1 | refine below_set ?_ GE102.out) | exact HB.out)⟩
             (try clear BK102)
             (try clear HB)
             generalize (((w26.setCell ⟨gb102, 0, none⟩ (.int .i64 ((rd_T24 l0 x10_1).f0))).setCell ⟨gb102, 1, none⟩ (.int .i64 ((rd_T24 l0 x10_1).f1))).setCell ⟨gb102, 2, none⟩ (.int .i64 ((rd_T24 l0 x10_1).f2))) = w28 at n0_ n1_ ⊢
             have BK102 := n0_
             have HB := n1_
             clear n0_ n1_
             have n0_ := Aside0.mk (blk_drew BK102.out)
             have n1_ := Aside0.mk (below_drew1 HB.out)
             clear BK102
             clear HB
             have BK102 := n0_
             have HB := n1_
             clear n0_ n1_
             have p104 : 0 ≤ ((ji9) : Int) := of_decide_eq_true (by first | (with_reducible assumption) | assumption)
             have q104 : (ji9) < (l0.length : Int) := of_decide_eq_true (by first | (with_reducible assumption) | assumption)
             obtain ⟨ad104, e104, hx104_0, hx104_1, hx104_2⟩ := at_T24 HR0.out (ji9) p104 q104
             have hw104_2 := hx104_2
             have hw104_1 := hx104_1
             have hw104_0 := hx104_0
             obtain rfl : ad101 = ad104 := (by injection e104)
             replace hx104_0 := (HB.out.cell (World.block_lt_of_cell? w _ hx104_0)).trans hx104_0
             replace hx104_1 := (HB.out.cell (World.block_lt_of_cell? w _ hx104_1)).trans hx104_1
             replace hx104_2 := (HB.out.cell (World.block_lt_of_cell? w _ hx104_2)).trans hx104_2
             replace p104 := eq_true p104
             replace q104 := eq_true q104
             have p105 : 0 ≤ ((ji9) : Int) := of_decide_eq_true (by first | (with_reducible assumption) | assumption)
             have q105 : (ji9) < (l0.length : Int) := of_decide_eq_true (by first | (with_reducible assumption) | assumption)
             obtain ⟨ad105, e105, hx105_0, hx105_1, hx105_2⟩ := at_T24 HR0.out (ji9) p105 q105
             have hw105_2 := hx105_2
             have hw105_1 := hx105_1
             have hw105_0 := hx105_0
             obtain rfl : ad101 = ad105 := (by injection e105)
             replace hx105_0 := (HB.out.cell (World.block_lt_of_cell? w _ hx105_0)).trans hx105_0
             replace hx105_1 := (HB.out.cell (World.block_lt_of_cell? w _ hx105_1)).trans hx105_1
             replace hx105_2 := (HB.out.cell (World.block_lt_of_cell? w _ hx105_2)).trans hx105_2
             replace p105 := eq_true p105
             replace q105 := eq_true q105
             have p106 : 0 ≤ ((ji9) : Int) := of_decide_eq_true (by first | (with_reducible assumption) | assumption)
             have q106 : (ji9) < (l0.length : Int) := of_decide_eq_true (by first | (with_reducible assumption) | assumption)
             obtain ⟨ad106, e106, hx106_0, hx106_1, hx106_2⟩ := at_T24 HR0.out (ji9) p106 q106
             have hw106_2 := hx106_2
             have hw106_1 := hx106_1
             have hw106_0 := hx106_0
             obtain rfl : ad101 = ad106 := (by injection e106)
             replace hx106_0 := (HB.out.cell (World.block_lt_of_cell? w _ hx106_0)).trans hx106_0
             replace hx106_1 := (HB.out.cell (World.block_lt_of_cell? w _ hx106_1)).trans hx106_1
             replace hx106_2 := (HB.out.cell (World.block_lt_of_cell? w _ hx106_2)).trans hx106_2
             replace p106 := eq_true p106
             replace q106 := eq_true q106
             refine start_ (n := 34) (S := fun w' => w'.cell? ⟨gb102, 0, none⟩ = some (.int .i64 ((rd_T24 l0 x10_1).f0)) ∧ w'.cell? ⟨gb102, 1, none⟩ = some (.int .i64 ((rd_T24 l0 x10_1).f1)) ∧ w'.cell? ⟨gb102, 2, none⟩ = some (.int .i64 ((rd_T24 l0 x10_1).f2)) ∧ w'.cell? (ad101.add (((ji9)).toNat * 3)) = some (.int .i64 ((rd_T24 l0 (ji9)).f0)) ∧ w'.cell? ⟨(ad101.add (((ji9)).toNat * 3)).block, (ad101.add (((ji9)).toNat * 3)).off + 1, none⟩ = some (.int .i64 ((rd_T24 l0 (ji9)).f1)) ∧ w'.cell? ⟨(ad101.add (((ji9)).toNat * 3)).block, (ad101.add (((ji9)).toNat * 3)).off + 2, none⟩ = some (.int .i64 ((rd_T24 l0 (ji9)).f2)) ∧ w'.cell? (ad101.add (((ji9)).toNat * 3)) = some (.int .i64 ((rd_T24 l0 (ji9)).f0)) ∧ w'.cell? ⟨(ad101.add (((ji9)).toNat * 3)).block, (ad101.add (((ji9)).toNat * 3)).off + 1, none⟩ = some (.int .i64 ((rd_T24 l0 (ji9)).f1)) ∧ w'.cell? ⟨(ad101.add (((ji9)).toNat * 3)).block, (ad101.add (((ji9)).toNat * 3)).off + 2, none⟩ = some (.int .i64 ((rd_T24 l0 (ji9)).f2)) ∧ w'.cell? (ad101.add (((ji9)).toNat * 3)) = some (.int .i64 ((rd_T24 l0 (ji9)).f0)) ∧ w'.cell? ⟨(ad101.add (((ji9)).toNat * 3)).block, (ad101.add (((ji9)).toNat * 3)).off + 1, none⟩ = some (.int .i64 ((rd_T24 l0 (ji9)).f1)) ∧ w'.cell? ⟨(ad101.add (((ji9)).toNat * 3)).block, (ad101.add (((ji9)).toNat * 3)).off + 2, none⟩ = some (.int .i64 ((rd_T24 l0 (ji9)).f2))) (ds := []) #[yF,yF,yF,yF,yF,yF,yF,yF,yF,yF,yF,yF,yF,yF,yF,yF,yF,yF,yF,yF,yF,yF,yF,yF,yF,yF,yF,yF,yF,yF,yF,yF,yF,yF] (by kernel_rfl) rfl rfl ⟨(blk_cell BK102.out 0).trans rfl, (blk_cell BK102.out 1).trans rfl, (blk_cell BK102.out 2).trans rfl, ((HB.out.cell (World.block_lt_of_cell? w _ hw104_0)).trans hw104_0), ((HB.out.cell (World.block_lt_of_cell? w _ hw104_1)).trans hw104_1), ((HB.out.cell (World.block_lt_of_cell? w _ hw104_2)).trans hw104_2), ((HB.out.cell (World.block_lt_of_cell? w _ hw105_0)).trans hw105_0), ((HB.out.cell (World.block_lt_of_cell? w _ hw105_1)).trans hw105_1), ((HB.out.cell (World.block_lt_of_cell? w _ hw105_2)).trans hw105_2), ((HB.out.cell (World.block_lt_of_cell? w _ hw106_0)).trans hw106_0), ((HB.out.cell (World.block_lt_of_cell? w _ hw106_1)).trans hw106_1), ((HB.out.cell (World.block_lt_of_cell? w _ hw106_2)).trans hw106_2)⟩ (fun hHeld => ?_); refine with_tabW extent_Check.tab6 extent_Check.bits6 (fun HT_ HW_ => ?_)
             generalize w28.drew = w29 at BK102 HB hx104_0 hx104_1 hx104_2 hx105_0 hx105_1 hx105_2 hx106_0 hx106_1 hx106_2 hHeld ⊢
             refine tk_ 0 15 34 1 ?_
             refine on_ 1 16 34 3 (fun K hK => ?_)
             refine goes_ Try.func86 (by kernel_rfl) rfl #[.agg #[.int .i64 ((rd_T24 l0 x10_1).f0), .int .i64 ((rd_T24 l0 x10_1).f1), .int .i64 ((rd_T24 l0 x10_1).f2)]] (by rfl) rfl rfl (by (try simp only [List.map_toArray, List.map_cons, List.map_nil]); first | done | rfl | (simp only [List.length_drop, List.length_take]; rfl)) ?_
             with_reducible refine (extent_may.calls ((rd_T24 l0 x10_1).f0) ((rd_T24 l0 x10_1).f1) ((rd_T24 l0 x10_1).f2) true _ A6.out).mono ?_
             rintro e w30 ⟨rfl, hb⟩
             refine ⟨_, rfl, ?_⟩
             have n0_ := Aside0.mk (blk_below (g := gb102) (o := .cells #[.int .i64 ((rd_T24 l0 x10_1).f0), .int .i64 ((rd_T24 l0 x10_1).f1), .int .i64 ((rd_T24 l0 x10_1).f2)] 24 (0, 0)) (by (with_reducible repeat (first | refine blk_drewN ?_ _ | refine blk_drew ?_ | refine blk_alloc ?_ _)); exact BK102.out) hb)
             have n1_ := Aside0.mk (below_step (by repeat (first | (with_reducible first | exact HB.out | apply below_alloc | apply pw_below_drewN | apply below_drew1 | refine below_set ?_ GE102.out) | exact HB.out)) hb)
             clear BK102
             clear HB
             have BK102 := n0_
             have HB := n1_
             clear n0_ n1_
             (try clear hb)
             (try clear hb2)
             (try clear hk)
             (try clear hi)
             refine hK.out _ _ ⟨(blk_cell BK102.out 0).trans rfl, (blk_cell BK102.out 1).trans rfl, (blk_cell BK102.out 2).trans rfl, ((HB.out.cell (World.block_lt_of_cell? w _ hw104_0)).trans hw104_0), ((HB.out.cell (World.block_lt_of_cell? w _ hw104_1)).trans hw104_1), ((HB.out.cell (World.block_lt_of_cell? w _ hw104_2)).trans hw104_2), ((HB.out.cell (World.block_lt_of_cell? w _ hw105_0)).trans hw105_0), ((HB.out.cell (World.block_lt_of_cell? w _ hw105_1)).trans hw105_1), ((HB.out.cell (World.block_lt_of_cell? w _ hw105_2)).trans hw105_2), ((HB.out.cell (World.block_lt_of_cell? w _ hw106_0)).trans hw106_0), ((HB.out.cell (World.block_lt_of_cell? w _ hw106_1)).trans hw106_1), ((HB.out.cell (World.block_lt_of_cell? w _ hw106_2)).trans hw106_2)⟩ (fun hHeld => ?_)
             clear hK K
             refine nm_ 16 ?_
             refine pu_ 2 17 34 7 ?_
             refine pu_ 3 18 34 15 ?_
             refine pu_ 4 19 34 31 ?_
             refine pu_ 5 20 34 63 ?_
             refine pu_ 6 21 34 127 ?_
             refine pu_ 7 22 34 255 ?_
             refine pu_ 8 23 34 511 ?_
             refine pu_ 9 24 34 1023 ?_
             refine pu_ 10 25 34 2047 ?_
             refine pu_ 11 26 34 4095 ?_
             refine pu_ 13 28 34 12287 ?_
             refine pu_ 14 29 34 28671 ?_
             refine pu_ 15 30 34 61439 ?_
             refine pu_ 16 31 34 126975 ?_
             refine pu_ 17 32 34 258047 ?_
             refine pu_ 20 35 34 1306623 ?_
             refine tk_ 12 27 34 1310719 ?_
             refine tk_ 18 33 34 1572863 ?_
             refine pu_ 19 34 34 2097151 ?_
             refine tk_ 21 36 34 4194303 ?_
             refine pu_ 22 37 34 8388607 ?_
             refine pu_ 23 38 34 16777215 ?_
             refine pu_ 24 39 34 33554431 ?_
             refine pu_ 25 40 34 67108863 ?_
             refine pu_ 26 41 34 134217727 ?_
             refine pu_ 27 42 34 268435455 ?_
             refine tk_ 28 43 34 536870911 ?_
             refine tk_ 29 44 34 1073741823 ?_
             refine on_ 30 45 34 2147483647 (fun K hK => ?_)
             refine goes_ Try.func98 (by kernel_rfl) rfl #[.agg #[.int .i64 ((rd_T24 l0 (ji9)).f0), .int .i64 ((rd_T24 l0 (ji9)).f1), .int .i64 ((rd_T24 l0 (ji9)).f2)], .agg #[.int .i64 ((rd_T24 l0 x10_1).f0), .int .i64 ((rd_T24 l0 x10_1).f1), .int .i64 ((rd_T24 l0 x10_1).f2)]] (by rfl) rfl rfl (by (try simp only [List.map_toArray, List.map_cons, List.map_nil]); first | done | (simp only [hji9]; rfl) | rfl | (simp only [List.length_drop, List.length_take]; rfl)) ?_
             with_reducible refine (extent_goesOn.calls ((rd_T24 l0 (ji9)).f0) ((rd_T24 l0 (ji9)).f1) ((rd_T24 l0 (ji9)).f2) ((rd_T24 l0 x10_1).f0) ((rd_T24 l0 x10_1).f1) ((rd_T24 l0 x10_1).f2) false _ A18.out).mono ?_
             rintro e w31 ⟨rfl, hb⟩
             refine ⟨_, rfl, ?_⟩
             have n0_ := Aside0.mk (blk_below (g := gb102) (o := .cells #[.int .i64 ((rd_T24 l0 x10_1).f0), .int .i64 ((rd_T24 l0 x10_1).f1), .int .i64 ((rd_T24 l0 x10_1).f2)] 24 (0, 0)) (by (with_reducible repeat (first | refine blk_drewN ?_ _ | refine blk_drew ?_ | refine blk_alloc ?_ _)); exact BK102.out) hb)
             have n1_ := Aside0.mk (below_step (by repeat (first | (with_reducible first | exact HB.out | apply below_alloc | apply pw_below_drewN | apply below_drew1 | refine below_set ?_ GE102.out) | exact HB.out)) hb)
             clear BK102
             clear HB
             have BK102 := n0_
             have HB := n1_
             clear n0_ n1_
             (try clear hb)
             (try clear hb2)
             (try clear hk)
             (try clear hi)
             refine hK.out _ _ ⟨(blk_cell BK102.out 0).trans rfl, (blk_cell BK102.out 1).trans rfl, (blk_cell BK102.out 2).trans rfl, ((HB.out.cell (World.block_lt_of_cell? w _ hw104_0)).trans hw104_0), ((HB.out.cell (World.block_lt_of_cell? w _ hw104_1)).trans hw104_1), ((HB.out.cell (World.block_lt_of_cell? w _ hw104_2)).trans hw104_2), ((HB.out.cell (World.block_lt_of_cell? w _ hw105_0)).trans hw105_0), ((HB.out.cell (World.block_lt_of_cell? w _ hw105_1)).trans hw105_1), ((HB.out.cell (World.block_lt_of_cell? w _ hw105_2)).trans hw105_2), ((HB.out.cell (World.block_lt_of_cell? w _ hw106_0)).trans hw106_0), ((HB.out.cell (World.block_lt_of_cell? w _ hw106_1)).trans hw106_1), ((HB.out.cell (World.block_lt_of_cell? w _ hw106_2)).trans hw106_2)⟩ (fun hHeld => ?_)
             clear hK K
             refine nm_ 45 ?_
             refine pu_ 31 46 34 4294967295 ?_
             refine pu_ 32 47 34 8589934591 ?_
             refine pu_ 33 48 34 17179869183 ?_
             refine done_ (done_of HT_.out (by kernel_rfl)) ?_
             try go_wp2
             go_roundg k1
             case measure => have := HK1.out; omega
             case rel => exact ⟨(wrap64 (x10_1 + 1)), (by first | rfl | (simp; done) | (simp [*]; done)), H', ⟨by have := HK1.out; omega⟩, ⟨by repeat (first | (with_reducible first | exact HB.out | apply below_alloc | apply pw_below_drewN | apply below_drew1 | refine below_set ?_ GE102.out) | exact HB.out)⟩⟩
          ·rw [if_neg c11] at H
           exact absurd H (by simp)
         ·rw [if_neg c10] at H
          exact absurd H (by simp)
        ·rw [if_neg c8] at H
         have c8b0 : decide (0 < x10_1) = false := decide_eq_false c8
         clear c8
         have H' := Aside0.mk H
         clear H
         have p101 : 0 ≤ (x10_1 : Int) := of_decide_eq_true (by first | (with_reducible assumption) | assumption)
         have q101 : x10_1 < (l0.length : Int) := of_decide_eq_true (by first | (with_reducible assumption) | assumption)
         obtain ⟨ad101, e101, hx101_0, hx101_1, hx101_2⟩ := at_T24 HR0.out x10_1 p101 q101
         cases e101
         replace hx101_0 := (HB.out.cell (World.block_lt_of_cell? w _ hx101_0)).trans hx101_0
         replace hx101_1 := (HB.out.cell (World.block_lt_of_cell? w _ hx101_1)).trans hx101_1
         replace hx101_2 := (HB.out.cell (World.block_lt_of_cell? w _ hx101_2)).trans hx101_2
         replace p101 := eq_true p101
         replace q101 := eq_true q101
         try go_wp2_with (first | ((with_reducible refine gate_dst (N := 4) rfl ?_); refine box_event ?hg (N := 4) ?hd (cs := #[.int .i64 0, .int .i64 0, .int .i64 0]) (t := 24) ?hr ?_; (case hd => rfl); (case hg => rfl); (case hr => first | (go_simp; done) | (go_simp; rfl)); intro gb102 hg w32 hbox hb; have n0_ := Aside0.mk (below_step (by repeat (first | (with_reducible first | exact HB.out | apply below_alloc | apply pw_below_drewN | apply below_drew1) | exact HB.out)) hb); have n1_ := Aside0.mk (hbox); have n2_ := Aside0.mk ((by rw [hg]; exact (below_size (by repeat (first | (with_reducible first | exact HB.out | apply below_alloc | apply pw_below_drewN | apply below_drew1) | exact HB.out))) : w.heap.size ≤ gb102)); have n3_ := Aside0.mk ((by rw [hg]; exact (below_size (by repeat (first | (with_reducible first | exact HB.out | apply below_alloc | apply pw_below_drewN | apply below_drew1) | exact HB.out))) : w.heap.size ≤ gb102)); clear HB; have HB := n0_; have BK102 := n1_; have GW102 := n2_; have GE102 := n3_; clear n0_ n1_ n2_ n3_; clear hb hbox hg; have hcz33_0 : w32.cell? ⟨gb102, 0, none⟩ = some (.int .i64 0) := (blk_cell BK102.out 0).trans rfl; have hcz33_1 : w32.cell? ⟨gb102, 1, none⟩ = some (.int .i64 0) := (blk_cell BK102.out 1).trans rfl; have hcz33_2 : w32.cell? ⟨gb102, 2, none⟩ = some (.int .i64 0) := (blk_cell BK102.out 2).trans rfl; have hfz33_0 := blk_frozen BK102.out 0; have hfz33_1 := blk_frozen BK102.out 1; have hfz33_2 := blk_frozen BK102.out 2))
         have n0_ : Aside0 ((((w32.setCell ⟨gb102, 0, none⟩ (.int .i64 ((rd_T24 l0 x10_1).f0))).setCell ⟨gb102, 1, none⟩ (.int .i64 ((rd_T24 l0 x10_1).f1))).setCell ⟨gb102, 2, none⟩ (.int .i64 ((rd_T24 l0 x10_1).f2))).heap[gb102]? = some (.cells #[.int .i64 ((rd_T24 l0 x10_1).f0), .int .i64 ((rd_T24 l0 x10_1).f1), .int .i64 ((rd_T24 l0 x10_1).f2)] 24 (0, 0))) := ⟨by (with_reducible repeat (first | refine blk_drewN ?_ _ | refine blk_drew ?_ | refine blk_alloc ?_ _)); refine blk_put (cs := #[.int .i64 ((rd_T24 l0 x10_1).f0), .int .i64 ((rd_T24 l0 x10_1).f1), .int .i64 0]) ?_ 2 _ rfl; (with_reducible repeat (first | refine blk_drewN ?_ _ | refine blk_drew ?_ | refine blk_alloc ?_ _)); refine blk_put (cs := #[.int .i64 ((rd_T24 l0 x10_1).f0), .int .i64 0, .int .i64 0]) ?_ 1 _ rfl; (with_reducible repeat (first | refine blk_drewN ?_ _ | refine blk_drew ?_ | refine blk_alloc ?_ _)); refine blk_put (cs := #[.int .i64 0, .int .i64 0, .int .i64 0]) ?_ 0 _ rfl; (with_reducible repeat (first | refine blk_drewN ?_ _ | refine blk_drew ?_ | refine blk_alloc ?_ _)); exact BK102.out⟩
         have n1_ : Aside0 (Below w.heap.size w (((w32.setCell ⟨gb102, 0, none⟩ (.int .i64 ((rd_T24 l0 x10_1).f0))).setCell ⟨gb102, 1, none⟩ (.int .i64 ((rd_T24 l0 x10_1).f1))).setCell ⟨gb102, 2, none⟩ (.int .i64 ((rd_T24 l0 x10_1).f2)))) := ⟨by repeat (first | (with_reducible first | exact HB.out | apply below_alloc | apply pw_below_drewN | apply below_drew1 | refine below_set ?_ GE102.out) | exact HB.out)⟩
         (try clear BK102)
         (try clear HB)
         generalize (((w32.setCell ⟨gb102, 0, none⟩ (.int .i64 ((rd_T24 l0 x10_1).f0))).setCell ⟨gb102, 1, none⟩ (.int .i64 ((rd_T24 l0 x10_1).f1))).setCell ⟨gb102, 2, none⟩ (.int .i64 ((rd_T24 l0 x10_1).f2))) = w34 at n0_ n1_ ⊢
         have BK102 := n0_
         have HB := n1_
         clear n0_ n1_
         have n0_ := Aside0.mk (blk_drew BK102.out)
         have n1_ := Aside0.mk (below_drew1 HB.out)
         clear BK102
         clear HB
         have BK102 := n0_
         have HB := n1_
         clear n0_ n1_
         refine start_ (n := 34) (S := fun w' => w'.cell? ⟨gb102, 0, none⟩ = some (.int .i64 ((rd_T24 l0 x10_1).f0)) ∧ w'.cell? ⟨gb102, 1, none⟩ = some (.int .i64 ((rd_T24 l0 x10_1).f1)) ∧ w'.cell? ⟨gb102, 2, none⟩ = some (.int .i64 ((rd_T24 l0 x10_1).f2))) (ds := []) #[yF,yF,yF,yF,yF,yF,yF,yF,yF,yF,yF,yF,yF,yF,yF,yF,yF,yF,yF,yF,yF,yF,yF,yF,yF,yF,yF,yF,yF,yF,yF,yF,yF,yF] (by kernel_rfl) rfl rfl ⟨(blk_cell BK102.out 0).trans rfl, (blk_cell BK102.out 1).trans rfl, (blk_cell BK102.out 2).trans rfl⟩ (fun hHeld => ?_); refine with_tabW extent_Check.tab6 extent_Check.bits6 (fun HT_ HW_ => ?_)
         generalize w34.drew = w35 at BK102 HB hHeld ⊢
         refine tk_ 0 15 34 1 ?_
         refine on_ 1 16 34 3 (fun K hK => ?_)
         refine goes_ Try.func86 (by kernel_rfl) rfl #[.agg #[.int .i64 ((rd_T24 l0 x10_1).f0), .int .i64 ((rd_T24 l0 x10_1).f1), .int .i64 ((rd_T24 l0 x10_1).f2)]] (by rfl) rfl rfl (by (try simp only [List.map_toArray, List.map_cons, List.map_nil]); first | done | rfl | (simp only [List.length_drop, List.length_take]; rfl)) ?_
         with_reducible refine (extent_may.calls ((rd_T24 l0 x10_1).f0) ((rd_T24 l0 x10_1).f1) ((rd_T24 l0 x10_1).f2) true _ A6.out).mono ?_
         rintro e w36 ⟨rfl, hb⟩
         refine ⟨_, rfl, ?_⟩
         have n0_ := Aside0.mk (blk_below (g := gb102) (o := .cells #[.int .i64 ((rd_T24 l0 x10_1).f0), .int .i64 ((rd_T24 l0 x10_1).f1), .int .i64 ((rd_T24 l0 x10_1).f2)] 24 (0, 0)) (by (with_reducible repeat (first | refine blk_drewN ?_ _ | refine blk_drew ?_ | refine blk_alloc ?_ _)); exact BK102.out) hb)
         have n1_ := Aside0.mk (below_step (by repeat (first | (with_reducible first | exact HB.out | apply below_alloc | apply pw_below_drewN | apply below_drew1 | refine below_set ?_ GE102.out) | exact HB.out)) hb)
         clear BK102
         clear HB
         have BK102 := n0_
         have HB := n1_
         clear n0_ n1_
         (try clear hb)
         (try clear hb2)
         (try clear hk)
         (try clear hi)
         refine hK.out _ _ ⟨(blk_cell BK102.out 0).trans rfl, (blk_cell BK102.out 1).trans rfl, (blk_cell BK102.out 2).trans rfl⟩ (fun hHeld => ?_)
         clear hK K
         refine nm_ 16 ?_
         refine pu_ 2 17 34 7 ?_
         refine pu_ 3 18 34 15 ?_
         refine pu_ 4 19 34 31 ?_
         refine pu_ 5 20 34 63 ?_
         refine pu_ 6 21 34 127 ?_
         refine pn_ 7 22 34 255 ?_
         refine pn_ 8 23 34 511 ?_
         refine pn_ 9 24 34 1023 ?_
         refine pn_ 10 25 34 2047 ?_
         refine pn_ 11 26 34 4095 ?_
         refine pn_ 12 27 34 8191 ?_
         refine pn_ 13 28 34 16383 ?_
         refine pn_ 14 29 34 32767 ?_
         refine pn_ 15 30 34 65535 ?_
         refine pn_ 16 31 34 131071 ?_
         refine pn_ 17 32 34 262143 ?_
         refine pn_ 18 33 34 524287 ?_
         refine pn_ 19 34 34 1048575 ?_
         refine pn_ 20 35 34 2097151 ?_
         refine pn_ 21 36 34 4194303 ?_
         refine pn_ 22 37 34 8388607 ?_
         refine pn_ 23 38 34 16777215 ?_
         refine pn_ 24 39 34 33554431 ?_
         refine pn_ 25 40 34 67108863 ?_
         refine pn_ 26 41 34 134217727 ?_
         refine pn_ 27 42 34 268435455 ?_
         refine pn_ 28 43 34 536870911 ?_
         refine pn_ 29 44 34 1073741823 ?_
         refine pn_ 30 45 34 2147483647 ?_
         refine pn_ 31 46 34 4294967295 ?_
         refine pu_ 32 47 34 8589934591 ?_
         refine pu_ 33 48 34 17179869183 ?_
         refine done_ (done_of HT_.out (by kernel_rfl)) ?_
         try go_wp2
         go_roundg k1
         case measure => have := HK1.out; omega
         case rel => exact ⟨(wrap64 (x10_1 + 1)), (by first | rfl | (simp; done) | (simp [*]; done)), H', ⟨by have := HK1.out; omega⟩, ⟨by repeat (first | (with_reducible first | exact HB.out | apply below_alloc | apply pw_below_drewN | apply below_drew1 | refine below_set ?_ GE102.out) | exact HB.out)⟩⟩
       ·replace c7 := Bool.eq_false_iff.mpr c7
        subst c7
        have H1 : (some 9) = some r := by rw [if_neg (show ¬ (false = true) by decide)] at H; exact H
        clear H
        have H := H1
        clear H1
        obtain rfl := Option.some.inj H
        have p101 : 0 ≤ (x10_1 : Int) := of_decide_eq_true (by first | (with_reducible assumption) | assumption)
        have q101 : x10_1 < (l0.length : Int) := of_decide_eq_true (by first | (with_reducible assumption) | assumption)
        obtain ⟨ad101, e101, hx101_0, hx101_1, hx101_2⟩ := at_T24 HR0.out x10_1 p101 q101
        cases e101
        replace hx101_0 := (HB.out.cell (World.block_lt_of_cell? w _ hx101_0)).trans hx101_0
        replace hx101_1 := (HB.out.cell (World.block_lt_of_cell? w _ hx101_1)).trans hx101_1
        replace hx101_2 := (HB.out.cell (World.block_lt_of_cell? w _ hx101_2)).trans hx101_2
        replace p101 := eq_true p101
        replace q101 := eq_true q101
        try go_wp2_with (first | ((with_reducible refine gate_dst (N := 4) rfl ?_); refine box_event ?hg (N := 4) ?hd (cs := #[.int .i64 0, .int .i64 0, .int .i64 0]) (t := 24) ?hr ?_; (case hd => rfl); (case hg => rfl); (case hr => first | (go_simp; done) | (go_simp; rfl)); intro gb102 hg w37 hbox hb; have n0_ := Aside0.mk (below_step (by repeat (first | (with_reducible first | exact HB.out | apply below_alloc | apply pw_below_drewN | apply below_drew1) | exact HB.out)) hb); have n1_ := Aside0.mk (hbox); have n2_ := Aside0.mk ((by rw [hg]; exact (below_size (by repeat (first | (with_reducible first | exact HB.out | apply below_alloc | apply pw_below_drewN | apply below_drew1) | exact HB.out))) : w.heap.size ≤ gb102)); have n3_ := Aside0.mk ((by rw [hg]; exact (below_size (by repeat (first | (with_reducible first | exact HB.out | apply below_alloc | apply pw_below_drewN | apply below_drew1) | exact HB.out))) : w.heap.size ≤ gb102)); clear HB; have HB := n0_; have BK102 := n1_; have GW102 := n2_; have GE102 := n3_; clear n0_ n1_ n2_ n3_; clear hb hbox hg; have hcz38_0 : w37.cell? ⟨gb102, 0, none⟩ = some (.int .i64 0) := (blk_cell BK102.out 0).trans rfl; have hcz38_1 : w37.cell? ⟨gb102, 1, none⟩ = some (.int .i64 0) := (blk_cell BK102.out 1).trans rfl; have hcz38_2 : w37.cell? ⟨gb102, 2, none⟩ = some (.int .i64 0) := (blk_cell BK102.out 2).trans rfl; have hfz38_0 := blk_frozen BK102.out 0; have hfz38_1 := blk_frozen BK102.out 1; have hfz38_2 := blk_frozen BK102.out 2))
        have n0_ : Aside0 ((((w37.setCell ⟨gb102, 0, none⟩ (.int .i64 ((rd_T24 l0 x10_1).f0))).setCell ⟨gb102, 1, none⟩ (.int .i64 ((rd_T24 l0 x10_1).f1))).setCell ⟨gb102, 2, none⟩ (.int .i64 ((rd_T24 l0 x10_1).f2))).heap[gb102]? = some (.cells #[.int .i64 ((rd_T24 l0 x10_1).f0), .int .i64 ((rd_T24 l0 x10_1).f1), .int .i64 ((rd_T24 l0 x10_1).f2)] 24 (0, 0))) := ⟨by (with_reducible repeat (first | refine blk_drewN ?_ _ | refine blk_drew ?_ | refine blk_alloc ?_ _)); refine blk_put (cs := #[.int .i64 ((rd_T24 l0 x10_1).f0), .int .i64 ((rd_T24 l0 x10_1).f1), .int .i64 0]) ?_ 2 _ rfl; (with_reducible repeat (first | refine blk_drewN ?_ _ | refine blk_drew ?_ | refine blk_alloc ?_ _)); refine blk_put (cs := #[.int .i64 ((rd_T24 l0 x10_1).f0), .int .i64 0, .int .i64 0]) ?_ 1 _ rfl; (with_reducible repeat (first | refine blk_drewN ?_ _ | refine blk_drew ?_ | refine blk_alloc ?_ _)); refine blk_put (cs := #[.int .i64 0, .int .i64 0, .int .i64 0]) ?_ 0 _ rfl; (with_reducible repeat (first | refine blk_drewN ?_ _ | refine blk_drew ?_ | refine blk_alloc ?_ _)); exact BK102.out⟩
        have n1_ : Aside0 (Below w.heap.size w (((w37.setCell ⟨gb102, 0, none⟩ (.int .i64 ((rd_T24 l0 x10_1).f0))).setCell ⟨gb102, 1, none⟩ (.int .i64 ((rd_T24 l0 x10_1).f1))).setCell ⟨gb102, 2, none⟩ (.int .i64 ((rd_T24 l0 x10_1).f2)))) := ⟨by repeat (first | (with_reducible first | exact HB.out | apply below_alloc | apply pw_below_drewN | apply below_drew1 | refine below_set ?_ GE102.out) | exact HB.out)⟩
        (try clear BK102)
        (try clear HB)
        generalize (((w37.setCell ⟨gb102, 0, none⟩ (.int .i64 ((rd_T24 l0 x10_1).f0))).setCell ⟨gb102, 1, none⟩ (.int .i64 ((rd_T24 l0 x10_1).f1))).setCell ⟨gb102, 2, none⟩ (.int .i64 ((rd_T24 l0 x10_1).f2))) = w39 at n0_ n1_ ⊢
        have BK102 := n0_
        have HB := n1_
        clear n0_ n1_
        have n0_ := Aside0.mk (blk_drew BK102.out)
        have n1_ := Aside0.mk (below_drew1 HB.out)
        clear BK102
        clear HB
        have BK102 := n0_
        have HB := n1_
        clear n0_ n1_
        refine start_ (n := 34) (S := fun w' => w'.cell? ⟨gb102, 0, none⟩ = some (.int .i64 ((rd_T24 l0 x10_1).f0)) ∧ w'.cell? ⟨gb102, 1, none⟩ = some (.int .i64 ((rd_T24 l0 x10_1).f1)) ∧ w'.cell? ⟨gb102, 2, none⟩ = some (.int .i64 ((rd_T24 l0 x10_1).f2))) (ds := []) #[yF,yF,yF,yF,yF,yF,yF,yF,yF,yF,yF,yF,yF,yF,yF,yF,yF,yF,yF,yF,yF,yF,yF,yF,yF,yF,yF,yF,yF,yF,yF,yF,yF,yF] (by kernel_rfl) rfl rfl ⟨(blk_cell BK102.out 0).trans rfl, (blk_cell BK102.out 1).trans rfl, (blk_cell BK102.out 2).trans rfl⟩ (fun hHeld => ?_); refine with_tabW extent_Check.tab6 extent_Check.bits6 (fun HT_ HW_ => ?_)
        generalize w39.drew = w40 at BK102 HB hHeld ⊢
        refine tk_ 0 15 34 1 ?_
        refine on_ 1 16 34 3 (fun K hK => ?_)
        refine goes_ Try.func86 (by kernel_rfl) rfl #[.agg #[.int .i64 ((rd_T24 l0 x10_1).f0), .int .i64 ((rd_T24 l0 x10_1).f1), .int .i64 ((rd_T24 l0 x10_1).f2)]] (by rfl) rfl rfl (by (try simp only [List.map_toArray, List.map_cons, List.map_nil]); first | done | rfl | (simp only [List.length_drop, List.length_take]; rfl)) ?_
        with_reducible refine (extent_may.calls ((rd_T24 l0 x10_1).f0) ((rd_T24 l0 x10_1).f1) ((rd_T24 l0 x10_1).f2) false _ A6.out).mono ?_
        rintro e w41 ⟨rfl, hb⟩
        refine ⟨_, rfl, ?_⟩
        have n0_ := Aside0.mk (blk_below (g := gb102) (o := .cells #[.int .i64 ((rd_T24 l0 x10_1).f0), .int .i64 ((rd_T24 l0 x10_1).f1), .int .i64 ((rd_T24 l0 x10_1).f2)] 24 (0, 0)) (by (with_reducible repeat (first | refine blk_drewN ?_ _ | refine blk_drew ?_ | refine blk_alloc ?_ _)); exact BK102.out) hb)
        have n1_ := Aside0.mk (below_step (by repeat (first | (with_reducible first | exact HB.out | apply below_alloc | apply pw_below_drewN | apply below_drew1 | refine below_set ?_ GE102.out) | exact HB.out)) hb)
        clear BK102
        clear HB
        have BK102 := n0_
        have HB := n1_
        clear n0_ n1_
        (try clear hb)
        (try clear hb2)
        (try clear hk)
        (try clear hi)
        refine hK.out _ _ ⟨(blk_cell BK102.out 0).trans rfl, (blk_cell BK102.out 1).trans rfl, (blk_cell BK102.out 2).trans rfl⟩ (fun hHeld => ?_)
        clear hK K
        refine nm_ 16 ?_
        refine pu_ 2 17 34 7 ?_
        refine pu_ 3 18 34 15 ?_
        refine pn_ 4 19 34 31 ?_
        refine pn_ 5 20 34 63 ?_
        refine pn_ 6 21 34 127 ?_
        refine pn_ 7 22 34 255 ?_
        refine pn_ 8 23 34 511 ?_
        refine pn_ 9 24 34 1023 ?_
        refine pn_ 10 25 34 2047 ?_
        refine pn_ 11 26 34 4095 ?_
        refine pn_ 12 27 34 8191 ?_
        refine pn_ 13 28 34 16383 ?_
        refine pn_ 14 29 34 32767 ?_
        refine pn_ 15 30 34 65535 ?_
        refine pn_ 16 31 34 131071 ?_
        refine pn_ 17 32 34 262143 ?_
        refine pn_ 18 33 34 524287 ?_
        refine pn_ 19 34 34 1048575 ?_
        refine pn_ 20 35 34 2097151 ?_
        refine pn_ 21 36 34 4194303 ?_
        refine pn_ 22 37 34 8388607 ?_
        refine pn_ 23 38 34 16777215 ?_
        refine pn_ 24 39 34 33554431 ?_
        refine pn_ 25 40 34 67108863 ?_
        refine pn_ 26 41 34 134217727 ?_
        refine pn_ 27 42 34 268435455 ?_
        refine pn_ 28 43 34 536870911 ?_
        refine pn_ 29 44 34 1073741823 ?_
        refine pn_ 30 45 34 2147483647 ?_
        refine pn_ 31 46 34 4294967295 ?_
        refine pn_ 32 47 34 8589934591 ?_
        refine pu_ 33 48 34 17179869183 ?_
        refine done_ (done_of HT_.out (by kernel_rfl)) ?_
        try go_wp2
        go_ret
        exact ⟨by first | rfl | (simp [errW_none, errW_some] <;> rfl) | (simp [*, errW_none, errW_some] <;> rfl), by repeat (first | (with_reducible first | exact HB.out | apply below_alloc | apply pw_below_drewN | apply below_drew1 | refine below_set ?_ GE102.out) | exact HB.out)⟩
      ·rw [if_neg c5] at H
       exact absurd H (by simp)
     ·rw [if_neg c4] at H
      exact absurd H (by simp)
    ·rw [if_neg c3] at H
     have c3b0 : decide (x10_1 < (l0.length : Int)) = false := decide_eq_false c3
     clear c3
     obtain rfl := Option.some.inj H
     go_wp2
     go_ret
     exact ⟨by first | rfl | (simp [errW_none, errW_some] <;> rfl) | (simp [*, errW_none, errW_some] <;> rfl), by repeat (first | (with_reducible first | exact HB.out | apply below_alloc | apply pw_below_drewN | apply below_drew1) | exact HB.out)⟩
def flagstoneref05_fits.f (a0 : Int) (a1 : Int) : Option (Bool) := if a0 ≥ 0 then (if a1 ≥ 0 then (if a0 ≤ 65536 then (some (decide (a1 ≤ (wrap64 (65536 - a0))))) else (some false)) else (some false)) else (some false)
set_option maxHeartbeats 8000000 in
set_option maxRecDepth 100000 in
theorem flagstoneref05_fits.calls (a0 : Int) (a1 : Int) (r : Bool) (w : World) (h : flagstoneref05_fits.f a0 a1 = some r) :
 Calls Try.prog 89 #[.int .i64 a0, .int .i64 a1] w fun e w' => e = .returned (.bool r) ∧ Drawn0 w w' := by
 have H : (if a0 ≥ 0 then (if a1 ≥ 0 then (if a0 ≤ 65536 then (some (decide (a1 ≤ (wrap64 (65536 - a0))))) else (some false)) else (some false)) else (some false)) = some r := h
 clear h
 by_cases c3 : a0 ≥ 0
 ·rw [if_pos c3] at H
  have c3b0 : decide (0 ≤ a0) = true := decide_eq_true c3
  clear c3
  by_cases c4 : a1 ≥ 0
  ·rw [if_pos c4] at H
   have c4b0 : decide (0 ≤ a1) = true := decide_eq_true c4
   clear c4
   by_cases c5 : a0 ≤ 65536
   ·rw [if_pos c5] at H
    have c5b0 : decide (a0 ≤ 65536) = true := decide_eq_true c5
    clear c5
    obtain rfl := Option.some.inj H
    go_enter Try.func89, Try.ntmps89
    go_wp2
    go_ret
    exact ⟨by first | rfl | (simp; done) | (simp [*]; done), by repeat (first | exact Drawn0.refl _ | apply Drawn0.step)⟩
   ·rw [if_neg c5] at H
    have c5b0 : decide (a0 ≤ 65536) = false := decide_eq_false c5
    clear c5
    obtain rfl := Option.some.inj H
    go_enter Try.func89, Try.ntmps89
    go_wp2
    go_ret
    exact ⟨by first | rfl | (simp; done) | (simp [*]; done), by repeat (first | exact Drawn0.refl _ | apply Drawn0.step)⟩
  ·rw [if_neg c4] at H
   have c4b0 : decide (0 ≤ a1) = false := decide_eq_false c4
   clear c4
   obtain rfl := Option.some.inj H
   go_enter Try.func89, Try.ntmps89
   go_wp2
   go_ret
   exact ⟨by first | rfl | (simp; done) | (simp [*]; done), by repeat (first | exact Drawn0.refl _ | apply Drawn0.step)⟩
 ·rw [if_neg c3] at H
  have c3b0 : decide (0 ≤ a0) = false := decide_eq_false c3
  clear c3
  obtain rfl := Option.some.inj H
  go_enter Try.func89, Try.ntmps89
  go_wp2
  go_ret
  exact ⟨by first | rfl | (simp; done) | (simp [*]; done), by repeat (first | exact Drawn0.refl _ | apply Drawn0.step)⟩
mutual
def flagstoneref05_Check.l0 : Nat → List (S24) → Int → Option (Int)
 | 0, _, _ => none
 | k + 1, x0, x3 => if x3 < (x0.length : Int) then (if 0 ≤ x3 then (if ((rd_T24 x0 x3).f2) < 1 then (flagstoneref05_Check.j1 k x0 x3 true ((rd_T24 x0 x3).f0) ((rd_T24 x0 x3).f1) ((rd_T24 x0 x3).f2)) else ((flagstoneref05_fits.f ((rd_T24 x0 x3).f0) ((rd_T24 x0 x3).f2)).bind fun t103 => (if t103 = true then ((flagstoneref05_fits.f ((rd_T24 x0 x3).f1) ((rd_T24 x0 x3).f2)).bind fun t104 => (flagstoneref05_Check.j1 k x0 x3 (!t104) ((rd_T24 x0 x3).f0) ((rd_T24 x0 x3).f1) ((rd_T24 x0 x3).f2))) else (flagstoneref05_Check.j1 k x0 x3 true ((rd_T24 x0 x3).f0) ((rd_T24 x0 x3).f1) ((rd_T24 x0 x3).f2))))) else (none)) else (some 0)
def flagstoneref05_Check.j1 : Nat → List (S24) → Int → Bool → Int → Int → Int → Option (Int)
 | 0, _, _, _, _, _, _ => none
 | k + 1, x0, x3, x37, x103000, x103001, x103002 => if x37 = true then (some 9) else (if x3 > 0 then (if 0 ≤ (wrap64 (x3 - 1)) then (if (wrap64 (x3 - 1)) < (x0.length : Int) then (if x103000 < (wrap64 (((rd_T24 x0 (wrap64 (x3 - 1))).f0) + ((rd_T24 x0 (wrap64 (x3 - 1))).f2))) then (some 9) else (if x103000 = (wrap64 (((rd_T24 x0 (wrap64 (x3 - 1))).f0) + ((rd_T24 x0 (wrap64 (x3 - 1))).f2))) then (if x103001 = (wrap64 (((rd_T24 x0 (wrap64 (x3 - 1))).f1) + ((rd_T24 x0 (wrap64 (x3 - 1))).f2))) then (some 9) else (flagstoneref05_Check.l0 k x0 (wrap64 (x3 + 1)))) else (flagstoneref05_Check.l0 k x0 (wrap64 (x3 + 1))))) else (none)) else (none)) else (flagstoneref05_Check.l0 k x0 (wrap64 (x3 + 1))))
end
def flagstoneref05_Check.f (k : Nat) (l0 : List (S24)) : Option (Int) := if (l0.length : Int) > 1024 then (some 9) else (flagstoneref05_Check.l0 k l0 0)
theorem flagstoneref05_Check.mono_l : ∀ k, (∀ y0 y1, LeO (flagstoneref05_Check.l0 k y0 y1) (flagstoneref05_Check.l0 (k + 1) y0 y1)) ∧ (∀ y0 y1 y2 y3 y4 y5, LeO (flagstoneref05_Check.j1 k y0 y1 y2 y3 y4 y5) (flagstoneref05_Check.j1 (k + 1) y0 y1 y2 y3 y4 y5))
 | 0 => ⟨fun _ _ r h => by simp [flagstoneref05_Check.l0] at h, fun _ _ _ _ _ _ r h => by simp [flagstoneref05_Check.j1] at h⟩
 | k + 1 => by
  obtain ⟨ih0, ih1⟩ := flagstoneref05_Check.mono_l k
  refine ⟨?_, ?_⟩
  ·intro y0 y1
   unfold flagstoneref05_Check.l0
   repeat' first
   | (with_reducible exact ih0 _ _)
   | (with_reducible exact ih1 _ _ _ _ _ _)
   | (with_reducible exact LeO.refl _)
   | (with_reducible exact LeO.none _)
   | (with_reducible refine LeO.ite ?_ ?_)
   | (with_reducible refine LeO.bind ?_ (fun _ => ?_))
   | exact ih0 _ _
   | exact ih1 _ _ _ _ _ _
   | exact LeO.none _
   | refine LeO.ite ?_ ?_
   | refine LeO.bind ?_ (fun _ => ?_)
  ·intro y0 y1 y2 y3 y4 y5
   unfold flagstoneref05_Check.j1
   repeat' first
   | (with_reducible exact ih0 _ _)
   | (with_reducible exact ih1 _ _ _ _ _ _)
   | (with_reducible exact LeO.refl _)
   | (with_reducible exact LeO.none _)
   | (with_reducible refine LeO.ite ?_ ?_)
   | (with_reducible refine LeO.bind ?_ (fun _ => ?_))
   | exact ih0 _ _
   | exact ih1 _ _ _ _ _ _
   | exact LeO.none _
   | refine LeO.ite ?_ ?_
   | refine LeO.bind ?_ (fun _ => ?_)
theorem flagstoneref05_Check.mono : ∀ a0 k, LeO (flagstoneref05_Check.f k a0) (flagstoneref05_Check.f (k + 1) a0) := by
 intro a0 k
 obtain ⟨ih0, ih1⟩ := flagstoneref05_Check.mono_l k
 unfold flagstoneref05_Check.f
 repeat' first
  | (with_reducible exact ih0 _ _)
  | (with_reducible exact ih1 _ _ _ _ _ _)
  | (with_reducible exact LeO.refl _)
  | (with_reducible exact LeO.none _)
  | (with_reducible refine LeO.ite ?_ ?_)
  | (with_reducible refine LeO.bind ?_ (fun _ => ?_))
  | exact ih0 _ _
  | exact ih1 _ _ _ _ _ _
  | exact LeO.none _
  | refine LeO.ite ?_ ?_
  | refine LeO.bind ?_ (fun _ => ?_)
set_option maxHeartbeats 8000000 in
set_option maxRecDepth 100000 in
theorem flagstoneref05_Check.calls (k : Nat) (A0 : Option Addr) (c0 : Nat) (l0 : List (S24)) (r : Int) (w : World) (hr0 : Kd.C k24 w A0 l0.length l0) (hc0 : l0.length ≤ c0) (h : flagstoneref05_Check.f k l0 = some r) :
 Calls Try.prog 40 #[.slice A0 l0.length c0] w fun e w' => e = .returned (.int .i64 r) ∧ Below w.heap.size w w' := by
 have hu24 := Try.underlying24
 have HR0 := Aside0.mk hr0
 have HC0 := Aside0.mk hc0
 clear hr0 hc0
 have HB := Aside0.mk (Below.refl w.heap.size w)
 have H : (if (l0.length : Int) > 1024 then (some 9) else (flagstoneref05_Check.l0 k l0 0)) = some r := h
 clear h
 by_cases c2 : (l0.length : Int) > 1024
 ·rw [if_pos c2] at H
  have c2b0 : decide (1024 < (l0.length : Int)) = true := decide_eq_true c2
  have c2b1 : decide (1024 < l0.length) = true := decide_eq_true (by omega)
  clear c2
  obtain rfl := Option.some.inj H
  go_enter Try.func40, Try.ntmps40
  go_wp2
  repeat (go_quiet (fail); try go_wp2)
  go_ret
  exact ⟨by first | rfl | (simp [errW_none, errW_some] <;> rfl) | (simp [*, errW_none, errW_some] <;> rfl), by repeat (first | (with_reducible first | exact HB.out | apply below_alloc | apply pw_below_drewN | apply below_drew1) | exact HB.out)⟩
 ·rw [if_neg c2] at H
  have c2b0 : decide (1024 < (l0.length : Int)) = false := decide_eq_false c2
  have c2b1 : decide (1024 < l0.length) = false := decide_eq_false (by omega)
  clear c2
  have H' := Aside0.mk H
  clear H
  go_enter Try.func40, Try.ntmps40
  go_wp2
  repeat (go_quiet (fail); try go_wp2)
  go_loopg [3] k (fun kq v3 w' => ∃ (x3_1 : Int), v3 = .int .i64 x3_1 ∧ Aside0 (flagstoneref05_Check.l0 kq l0 x3_1 = some r) ∧ Aside0 (kq ≤ k) ∧ Aside0 (Below w.heap.size w w'))
  case atStart => exact ⟨(0), (by first | rfl | (simp; done) | (simp [*]; done)), H', ⟨Nat.le_refl _⟩, ⟨by repeat (first | (with_reducible first | exact HB.out | apply below_alloc | apply pw_below_drewN | apply below_drew1) | exact HB.out)⟩⟩
  case round =>
   clear H'
   try clear c2
   try clear c2b0
   try clear c2b1
   try clear p2
   obtain ⟨x3_1, rfl, HA, HK1, HB⟩ := hrel
   cases gk with
   | zero => exact absurd HA.out (by simp [flagstoneref05_Check.l0])
   | succ k1 =>
    have H := HA.out
    clear HA
    simp only [flagstoneref05_Check.l0] at H
    by_cases c3 : x3_1 < (l0.length : Int)
    ·rw [if_pos c3] at H
     have c3b0 : decide (x3_1 < (l0.length : Int)) = true := decide_eq_true c3
     clear c3
     by_cases c4 : 0 ≤ x3_1
     ·rw [if_pos c4] at H
      have c4b0 : decide (0 ≤ x3_1) = true := decide_eq_true c4
      clear c4
      have HC5 := Aside0.mk H
      clear H
      have p101 : 0 ≤ (x3_1 : Int) := of_decide_eq_true (by first | (with_reducible assumption) | assumption)
      have q101 : x3_1 < (l0.length : Int) := of_decide_eq_true (by first | (with_reducible assumption) | assumption)
      obtain ⟨ad101, e101, hx101_0, hx101_1, hx101_2⟩ := at_T24 HR0.out x3_1 p101 q101
      cases e101
      replace hx101_0 := (HB.out.cell (World.block_lt_of_cell? w _ hx101_0)).trans hx101_0
      replace hx101_1 := (HB.out.cell (World.block_lt_of_cell? w _ hx101_1)).trans hx101_1
      replace hx101_2 := (HB.out.cell (World.block_lt_of_cell? w _ hx101_2)).trans hx101_2
      replace p101 := eq_true p101
      replace q101 := eq_true q101
      go_upto_region 7 with (first | ((with_reducible refine gate_dst (N := 4) rfl ?_); refine box_event ?hg (N := 4) ?hd (cs := #[.int .i64 0, .int .i64 0, .int .i64 0]) (t := 24) ?hr ?_; (case hd => rfl); (case hg => rfl); (case hr => first | (go_simp; done) | (go_simp; rfl)); intro gb102 hg w6 hbox hb; have n0_ := Aside0.mk (below_step (by repeat (first | (with_reducible first | exact HB.out | apply below_alloc | apply pw_below_drewN | apply below_drew1) | exact HB.out)) hb); have n1_ := Aside0.mk (hbox); have n2_ := Aside0.mk ((by rw [hg]; exact (below_size (by repeat (first | (with_reducible first | exact HB.out | apply below_alloc | apply pw_below_drewN | apply below_drew1) | exact HB.out))) : w.heap.size ≤ gb102)); have n3_ := Aside0.mk ((by rw [hg]; exact (below_size (by repeat (first | (with_reducible first | exact HB.out | apply below_alloc | apply pw_below_drewN | apply below_drew1) | exact HB.out))) : w.heap.size ≤ gb102)); clear HB; have HB := n0_; have BK102 := n1_; have GW102 := n2_; have GE102 := n3_; clear n0_ n1_ n2_ n3_; clear hb hbox hg; have hcz7_0 : w6.cell? ⟨gb102, 0, none⟩ = some (.int .i64 0) := (blk_cell BK102.out 0).trans rfl; have hcz7_1 : w6.cell? ⟨gb102, 1, none⟩ = some (.int .i64 0) := (blk_cell BK102.out 1).trans rfl; have hcz7_2 : w6.cell? ⟨gb102, 2, none⟩ = some (.int .i64 0) := (blk_cell BK102.out 2).trans rfl; have hfz7_0 := blk_frozen BK102.out 0; have hfz7_1 := blk_frozen BK102.out 1; have hfz7_2 := blk_frozen BK102.out 2))
      repeat (go_quiet (first | ((with_reducible refine gate_dst (N := 4) rfl ?_); refine box_event ?hg (N := 4) ?hd (cs := #[.int .i64 0, .int .i64 0, .int .i64 0]) (t := 24) ?hr ?_; (case hd => rfl); (case hg => rfl); (case hr => first | (go_simp; done) | (go_simp; rfl)); intro gb102 hg w6 hbox hb; have n0_ := Aside0.mk (below_step (by repeat (first | (with_reducible first | exact HB.out | apply below_alloc | apply pw_below_drewN | apply below_drew1) | exact HB.out)) hb); have n1_ := Aside0.mk (hbox); have n2_ := Aside0.mk ((by rw [hg]; exact (below_size (by repeat (first | (with_reducible first | exact HB.out | apply below_alloc | apply pw_below_drewN | apply below_drew1) | exact HB.out))) : w.heap.size ≤ gb102)); have n3_ := Aside0.mk ((by rw [hg]; exact (below_size (by repeat (first | (with_reducible first | exact HB.out | apply below_alloc | apply pw_below_drewN | apply below_drew1) | exact HB.out))) : w.heap.size ≤ gb102)); clear HB; have HB := n0_; have BK102 := n1_; have GW102 := n2_; have GE102 := n3_; clear n0_ n1_ n2_ n3_; clear hb hbox hg; have hcz7_0 : w6.cell? ⟨gb102, 0, none⟩ = some (.int .i64 0) := (blk_cell BK102.out 0).trans rfl; have hcz7_1 : w6.cell? ⟨gb102, 1, none⟩ = some (.int .i64 0) := (blk_cell BK102.out 1).trans rfl; have hcz7_2 : w6.cell? ⟨gb102, 2, none⟩ = some (.int .i64 0) := (blk_cell BK102.out 2).trans rfl; have hfz7_0 := blk_frozen BK102.out 0; have hfz7_1 := blk_frozen BK102.out 1; have hfz7_2 := blk_frozen BK102.out 2)); go_upto_region 7 with (first | ((with_reducible refine gate_dst (N := 4) rfl ?_); refine box_event ?hg (N := 4) ?hd (cs := #[.int .i64 0, .int .i64 0, .int .i64 0]) (t := 24) ?hr ?_; (case hd => rfl); (case hg => rfl); (case hr => first | (go_simp; done) | (go_simp; rfl)); intro gb102 hg w6 hbox hb; have n0_ := Aside0.mk (below_step (by repeat (first | (with_reducible first | exact HB.out | apply below_alloc | apply pw_below_drewN | apply below_drew1) | exact HB.out)) hb); have n1_ := Aside0.mk (hbox); have n2_ := Aside0.mk ((by rw [hg]; exact (below_size (by repeat (first | (with_reducible first | exact HB.out | apply below_alloc | apply pw_below_drewN | apply below_drew1) | exact HB.out))) : w.heap.size ≤ gb102)); have n3_ := Aside0.mk ((by rw [hg]; exact (below_size (by repeat (first | (with_reducible first | exact HB.out | apply below_alloc | apply pw_below_drewN | apply below_drew1) | exact HB.out))) : w.heap.size ≤ gb102)); clear HB; have HB := n0_; have BK102 := n1_; have GW102 := n2_; have GE102 := n3_; clear n0_ n1_ n2_ n3_; clear hb hbox hg; have hcz7_0 : w6.cell? ⟨gb102, 0, none⟩ = some (.int .i64 0) := (blk_cell BK102.out 0).trans rfl; have hcz7_1 : w6.cell? ⟨gb102, 1, none⟩ = some (.int .i64 0) := (blk_cell BK102.out 1).trans rfl; have hcz7_2 : w6.cell? ⟨gb102, 2, none⟩ = some (.int .i64 0) := (blk_cell BK102.out 2).trans rfl; have hfz7_0 := blk_frozen BK102.out 0; have hfz7_1 := blk_frozen BK102.out 1; have hfz7_2 := blk_frozen BK102.out 2)))
      (try simp only [Act.put, List.setIfInBounds_toArray, List.set_cons_zero, List.set_cons_succ])
      go_cut [37] (fun v37 wc => ∃ (kq : Nat) (x37_4 : Bool), v37 = .bool x37_4 ∧ Aside0 (flagstoneref05_Check.j1 kq l0 x3_1 x37_4 ((rd_T24 l0 x3_1).f0) ((rd_T24 l0 x3_1).f1) ((rd_T24 l0 x3_1).f2) = some r) ∧ Aside0 (kq ≤ k1) ∧ Aside0 (wc.heap[gb102]? = some (.cells #[.int .i64 ((rd_T24 l0 x3_1).f0), .int .i64 ((rd_T24 l0 x3_1).f1), .int .i64 ((rd_T24 l0 x3_1).f2)] 24 (0, 0))) ∧ Aside0 (Below w.heap.size w wc))
      case first =>
       have H := HC5.out
       clear HC5
       by_cases c8 : ((rd_T24 l0 x3_1).f2) < 1
       ·rw [if_pos c8] at H
        have c8b0 : decide (((rd_T24 l0 x3_1).f2) < 1) = true := decide_eq_true c8
        clear c8
        (first | rw [c8b0] | (simp only [i64_w, i32_w]; rw [c8b0]) | skip)
        have H' := Aside0.mk H
        clear H
        have hcz9_0 : w6.cell? ⟨gb102, 0, none⟩ = some (.int .i64 0) := (blk_cell BK102.out 0).trans rfl
        have hcz9_1 : w6.cell? ⟨gb102, 1, none⟩ = some (.int .i64 0) := (blk_cell BK102.out 1).trans rfl
        have hcz9_2 : w6.cell? ⟨gb102, 2, none⟩ = some (.int .i64 0) := (blk_cell BK102.out 2).trans rfl
        have hfz9_0 := blk_frozen BK102.out 0
        have hfz9_1 := blk_frozen BK102.out 1
        have hfz9_2 := blk_frozen BK102.out 2
        go_wp2
        repeat (go_quiet (fail); try go_wp2)
        go_meet
        case rel => exact ⟨_, (true), (by first | rfl | (simp; done) | (simp [*]; done)), H', ⟨by have := HK1.out; first | omega | exact Nat.le_refl _⟩, ⟨by (with_reducible repeat (first | refine blk_drewN ?_ _ | refine blk_drew ?_ | refine blk_alloc ?_ _)); refine blk_put (cs := #[.int .i64 ((rd_T24 l0 x3_1).f0), .int .i64 ((rd_T24 l0 x3_1).f1), .int .i64 0]) ?_ 2 _ rfl; (with_reducible repeat (first | refine blk_drewN ?_ _ | refine blk_drew ?_ | refine blk_alloc ?_ _)); refine blk_put (cs := #[.int .i64 ((rd_T24 l0 x3_1).f0), .int .i64 0, .int .i64 0]) ?_ 1 _ rfl; (with_reducible repeat (first | refine blk_drewN ?_ _ | refine blk_drew ?_ | refine blk_alloc ?_ _)); refine blk_put (cs := #[.int .i64 0, .int .i64 0, .int .i64 0]) ?_ 0 _ rfl; (with_reducible repeat (first | refine blk_drewN ?_ _ | refine blk_drew ?_ | refine blk_alloc ?_ _)); exact BK102.out⟩, ⟨by repeat (first | (with_reducible first | exact HB.out | apply below_alloc | apply pw_below_drewN | apply below_drew1 | refine below_set ?_ GE102.out) | exact HB.out)⟩⟩
       ·rw [if_neg c8] at H
        have c8b0 : decide (((rd_T24 l0 x3_1).f2) < 1) = false := decide_eq_false c8
        clear c8
        (first | rw [c8b0] | (simp only [i64_w, i32_w]; rw [c8b0]) | skip)
        replace H := Option.bind_eq_some_iff.mp H
        obtain ⟨t103, A100, H⟩ := H
        replace H : (if t103 = true then ((flagstoneref05_fits.f ((rd_T24 l0 x3_1).f1) ((rd_T24 l0 x3_1).f2)).bind fun t104 => (flagstoneref05_Check.j1 k1 l0 x3_1 (!t104) ((rd_T24 l0 x3_1).f0) ((rd_T24 l0 x3_1).f1) ((rd_T24 l0 x3_1).f2))) else (flagstoneref05_Check.j1 k1 l0 x3_1 true ((rd_T24 l0 x3_1).f0) ((rd_T24 l0 x3_1).f1) ((rd_T24 l0 x3_1).f2))) = some r := H
        have A10 := Aside0.mk A100
        clear A100
        by_cases c11 : t103 = true
        ·subst c11
         have H1 : ((flagstoneref05_fits.f ((rd_T24 l0 x3_1).f1) ((rd_T24 l0 x3_1).f2)).bind fun t104 => (flagstoneref05_Check.j1 k1 l0 x3_1 (!t104) ((rd_T24 l0 x3_1).f0) ((rd_T24 l0 x3_1).f1) ((rd_T24 l0 x3_1).f2))) = some r := by rw [if_pos rfl] at H; exact H
         clear H
         have H := H1
         clear H1
         replace H := Option.bind_eq_some_iff.mp H
         obtain ⟨t104, A120, H⟩ := H
         replace H : (flagstoneref05_Check.j1 k1 l0 x3_1 (!t104) ((rd_T24 l0 x3_1).f0) ((rd_T24 l0 x3_1).f1) ((rd_T24 l0 x3_1).f2)) = some r := H
         have A12 := Aside0.mk A120
         clear A120
         have H' := Aside0.mk H
         clear H
         have hcz13_0 : w6.cell? ⟨gb102, 0, none⟩ = some (.int .i64 0) := (blk_cell BK102.out 0).trans rfl
         have hcz13_1 : w6.cell? ⟨gb102, 1, none⟩ = some (.int .i64 0) := (blk_cell BK102.out 1).trans rfl
         have hcz13_2 : w6.cell? ⟨gb102, 2, none⟩ = some (.int .i64 0) := (blk_cell BK102.out 2).trans rfl
         have hfz13_0 := blk_frozen BK102.out 0
         have hfz13_1 := blk_frozen BK102.out 1
         have hfz13_2 := blk_frozen BK102.out 2
         go_wp2_with (first | (go_at_call 89; (with_reducible refine (flagstoneref05_fits.calls ((rd_T24 l0 x3_1).f0) ((rd_T24 l0 x3_1).f2) true _ A10.out).mono ?_); rintro e w' ⟨rfl, ⟨nd, rfl⟩⟩; (try first | exact ⟨rfl, _, World.drewN_drewN _ _ _⟩ | exact ⟨rfl, _, Eq.trans (World.drewN_drewN _ _ _) (congrArg (World.drewN _) (Nat.add_assoc _ _ _))⟩)) | (go_at_call 89; (with_reducible refine (flagstoneref05_fits.calls ((rd_T24 l0 x3_1).f1) ((rd_T24 l0 x3_1).f2) t104 _ A12.out).mono ?_); rintro e w' ⟨rfl, ⟨nd, rfl⟩⟩; (try first | exact ⟨rfl, _, World.drewN_drewN _ _ _⟩ | exact ⟨rfl, _, Eq.trans (World.drewN_drewN _ _ _) (congrArg (World.drewN _) (Nat.add_assoc _ _ _))⟩)))
         repeat (go_quiet (first | (go_at_call 89; (with_reducible refine (flagstoneref05_fits.calls ((rd_T24 l0 x3_1).f0) ((rd_T24 l0 x3_1).f2) true _ A10.out).mono ?_); rintro e w' ⟨rfl, ⟨nd, rfl⟩⟩; (try first | exact ⟨rfl, _, World.drewN_drewN _ _ _⟩ | exact ⟨rfl, _, Eq.trans (World.drewN_drewN _ _ _) (congrArg (World.drewN _) (Nat.add_assoc _ _ _))⟩)) | (go_at_call 89; (with_reducible refine (flagstoneref05_fits.calls ((rd_T24 l0 x3_1).f1) ((rd_T24 l0 x3_1).f2) t104 _ A12.out).mono ?_); rintro e w' ⟨rfl, ⟨nd, rfl⟩⟩; (try first | exact ⟨rfl, _, World.drewN_drewN _ _ _⟩ | exact ⟨rfl, _, Eq.trans (World.drewN_drewN _ _ _) (congrArg (World.drewN _) (Nat.add_assoc _ _ _))⟩))); try go_wp2_with (first | (go_at_call 89; (with_reducible refine (flagstoneref05_fits.calls ((rd_T24 l0 x3_1).f0) ((rd_T24 l0 x3_1).f2) true _ A10.out).mono ?_); rintro e w' ⟨rfl, ⟨nd, rfl⟩⟩; (try first | exact ⟨rfl, _, World.drewN_drewN _ _ _⟩ | exact ⟨rfl, _, Eq.trans (World.drewN_drewN _ _ _) (congrArg (World.drewN _) (Nat.add_assoc _ _ _))⟩)) | (go_at_call 89; (with_reducible refine (flagstoneref05_fits.calls ((rd_T24 l0 x3_1).f1) ((rd_T24 l0 x3_1).f2) t104 _ A12.out).mono ?_); rintro e w' ⟨rfl, ⟨nd, rfl⟩⟩; (try first | exact ⟨rfl, _, World.drewN_drewN _ _ _⟩ | exact ⟨rfl, _, Eq.trans (World.drewN_drewN _ _ _) (congrArg (World.drewN _) (Nat.add_assoc _ _ _))⟩))))
         go_meet
         case rel => exact ⟨_, (!t104), (by first | rfl | (simp; done) | (simp [*]; done)), H', ⟨by have := HK1.out; first | omega | exact Nat.le_refl _⟩, ⟨by (with_reducible repeat (first | refine blk_drewN ?_ _ | refine blk_drew ?_ | refine blk_alloc ?_ _)); refine blk_put (cs := #[.int .i64 ((rd_T24 l0 x3_1).f0), .int .i64 ((rd_T24 l0 x3_1).f1), .int .i64 0]) ?_ 2 _ rfl; (with_reducible repeat (first | refine blk_drewN ?_ _ | refine blk_drew ?_ | refine blk_alloc ?_ _)); refine blk_put (cs := #[.int .i64 ((rd_T24 l0 x3_1).f0), .int .i64 0, .int .i64 0]) ?_ 1 _ rfl; (with_reducible repeat (first | refine blk_drewN ?_ _ | refine blk_drew ?_ | refine blk_alloc ?_ _)); refine blk_put (cs := #[.int .i64 0, .int .i64 0, .int .i64 0]) ?_ 0 _ rfl; (with_reducible repeat (first | refine blk_drewN ?_ _ | refine blk_drew ?_ | refine blk_alloc ?_ _)); exact BK102.out⟩, ⟨by repeat (first | (with_reducible first | exact HB.out | apply below_alloc | apply pw_below_drewN | apply below_drew1 | refine below_set ?_ GE102.out) | exact HB.out)⟩⟩
        ·replace c11 := Bool.eq_false_iff.mpr c11
         subst c11
         have H1 : (flagstoneref05_Check.j1 k1 l0 x3_1 true ((rd_T24 l0 x3_1).f0) ((rd_T24 l0 x3_1).f1) ((rd_T24 l0 x3_1).f2)) = some r := by rw [if_neg (show ¬ (false = true) by decide)] at H; exact H
         clear H
         have H := H1
         clear H1
         have H' := Aside0.mk H
         clear H
         have hcz14_0 : w6.cell? ⟨gb102, 0, none⟩ = some (.int .i64 0) := (blk_cell BK102.out 0).trans rfl
         have hcz14_1 : w6.cell? ⟨gb102, 1, none⟩ = some (.int .i64 0) := (blk_cell BK102.out 1).trans rfl
         have hcz14_2 : w6.cell? ⟨gb102, 2, none⟩ = some (.int .i64 0) := (blk_cell BK102.out 2).trans rfl
         have hfz14_0 := blk_frozen BK102.out 0
         have hfz14_1 := blk_frozen BK102.out 1
         have hfz14_2 := blk_frozen BK102.out 2
         go_wp2_with (first | (go_at_call 89; (with_reducible refine (flagstoneref05_fits.calls ((rd_T24 l0 x3_1).f0) ((rd_T24 l0 x3_1).f2) false _ A10.out).mono ?_); rintro e w' ⟨rfl, ⟨nd, rfl⟩⟩; (try first | exact ⟨rfl, _, World.drewN_drewN _ _ _⟩ | exact ⟨rfl, _, Eq.trans (World.drewN_drewN _ _ _) (congrArg (World.drewN _) (Nat.add_assoc _ _ _))⟩)))
         repeat (go_quiet (first | (go_at_call 89; (with_reducible refine (flagstoneref05_fits.calls ((rd_T24 l0 x3_1).f0) ((rd_T24 l0 x3_1).f2) false _ A10.out).mono ?_); rintro e w' ⟨rfl, ⟨nd, rfl⟩⟩; (try first | exact ⟨rfl, _, World.drewN_drewN _ _ _⟩ | exact ⟨rfl, _, Eq.trans (World.drewN_drewN _ _ _) (congrArg (World.drewN _) (Nat.add_assoc _ _ _))⟩))); try go_wp2_with (first | (go_at_call 89; (with_reducible refine (flagstoneref05_fits.calls ((rd_T24 l0 x3_1).f0) ((rd_T24 l0 x3_1).f2) false _ A10.out).mono ?_); rintro e w' ⟨rfl, ⟨nd, rfl⟩⟩; (try first | exact ⟨rfl, _, World.drewN_drewN _ _ _⟩ | exact ⟨rfl, _, Eq.trans (World.drewN_drewN _ _ _) (congrArg (World.drewN _) (Nat.add_assoc _ _ _))⟩))))
         go_meet
         case rel => exact ⟨_, (true), (by first | rfl | (simp; done) | (simp [*]; done)), H', ⟨by have := HK1.out; first | omega | exact Nat.le_refl _⟩, ⟨by (with_reducible repeat (first | refine blk_drewN ?_ _ | refine blk_drew ?_ | refine blk_alloc ?_ _)); refine blk_put (cs := #[.int .i64 ((rd_T24 l0 x3_1).f0), .int .i64 ((rd_T24 l0 x3_1).f1), .int .i64 0]) ?_ 2 _ rfl; (with_reducible repeat (first | refine blk_drewN ?_ _ | refine blk_drew ?_ | refine blk_alloc ?_ _)); refine blk_put (cs := #[.int .i64 ((rd_T24 l0 x3_1).f0), .int .i64 0, .int .i64 0]) ?_ 1 _ rfl; (with_reducible repeat (first | refine blk_drewN ?_ _ | refine blk_drew ?_ | refine blk_alloc ?_ _)); refine blk_put (cs := #[.int .i64 0, .int .i64 0, .int .i64 0]) ?_ 0 _ rfl; (with_reducible repeat (first | refine blk_drewN ?_ _ | refine blk_drew ?_ | refine blk_alloc ?_ _)); exact BK102.out⟩, ⟨by repeat (first | (with_reducible first | exact HB.out | apply below_alloc | apply pw_below_drewN | apply below_drew1 | refine below_set ?_ GE102.out) | exact HB.out)⟩⟩
      case rest =>
       clear HC5
       try clear c1
       try clear p1
       try clear q1
       try clear hx1
       try clear c2
       try clear c2b0
       try clear c2b1
       try clear p2
       try clear c3
       try clear c3b0
       try clear c4
       try clear c4b0
       try clear c8
       try clear c8b0
       try clear p10
       try clear q10
       try clear hx10
       try clear c11
       try clear hcz13_0
       try clear hcz13_1
       try clear hcz13_2
       try clear hcz14_0
       try clear hcz14_1
       try clear hcz14_2
       try clear hcz7_0
       try clear hcz7_1
       try clear hcz7_2
       try clear hcz9_0
       try clear hcz9_1
       try clear hcz9_2
       try clear hfz13_0
       try clear hfz13_1
       try clear hfz13_2
       try clear hfz14_0
       try clear hfz14_1
       try clear hfz14_2
       try clear hfz7_0
       try clear hfz7_1
       try clear hfz7_2
       try clear hfz9_0
       try clear hfz9_1
       try clear hfz9_2
       try clear hx101_0
       try clear hx101_1
       try clear hx101_2
       try clear p101
       try clear p2
       try clear q101
       obtain ⟨kq, x37_4, rfl, HA, HJ4, BK102, HB⟩ := hcut
       cases kq with
       | zero => exact absurd HA.out (by simp [flagstoneref05_Check.j1])
       | succ kj4 =>
        have H := HA.out
        clear HA
        simp only [flagstoneref05_Check.j1] at H
        by_cases c15 : x37_4 = true
        ·subst c15
         have H1 : (some 9) = some r := by rw [if_pos rfl] at H; exact H
         clear H
         have H := H1
         clear H1
         obtain rfl := Option.some.inj H
         go_wp2
         repeat (go_quiet (fail); try go_wp2)
         go_ret
         exact ⟨by first | rfl | (simp [errW_none, errW_some] <;> rfl) | (simp [*, errW_none, errW_some] <;> rfl), by repeat (first | (with_reducible first | exact HB.out | apply below_alloc | apply pw_below_drewN | apply below_drew1 | refine below_set ?_ GE102.out) | exact HB.out)⟩
        ·replace c15 := Bool.eq_false_iff.mpr c15
         subst c15
         have H1 : (if x3_1 > 0 then (if 0 ≤ (wrap64 (x3_1 - 1)) then (if (wrap64 (x3_1 - 1)) < (l0.length : Int) then (if ((rd_T24 l0 x3_1).f0) < (wrap64 (((rd_T24 l0 (wrap64 (x3_1 - 1))).f0) + ((rd_T24 l0 (wrap64 (x3_1 - 1))).f2))) then (some 9) else (if ((rd_T24 l0 x3_1).f0) = (wrap64 (((rd_T24 l0 (wrap64 (x3_1 - 1))).f0) + ((rd_T24 l0 (wrap64 (x3_1 - 1))).f2))) then (if ((rd_T24 l0 x3_1).f1) = (wrap64 (((rd_T24 l0 (wrap64 (x3_1 - 1))).f1) + ((rd_T24 l0 (wrap64 (x3_1 - 1))).f2))) then (some 9) else (flagstoneref05_Check.l0 kj4 l0 (wrap64 (x3_1 + 1)))) else (flagstoneref05_Check.l0 kj4 l0 (wrap64 (x3_1 + 1))))) else (none)) else (none)) else (flagstoneref05_Check.l0 kj4 l0 (wrap64 (x3_1 + 1)))) = some r := by rw [if_neg (show ¬ (false = true) by decide)] at H; exact H
         clear H
         have H := H1
         clear H1
         by_cases c16 : x3_1 > 0
         ·rw [if_pos c16] at H
          have c16b0 : decide (0 < x3_1) = true := decide_eq_true c16
          clear c16
          obtain ⟨ji17, hji17⟩ : ∃ j_ : Int, (wrap64 (x3_1 - 1)) = j_ := ⟨_, rfl⟩
          replace H : (if 0 ≤ (ji17) then (if (ji17) < (l0.length : Int) then (if ((rd_T24 l0 x3_1).f0) < (wrap64 (((rd_T24 l0 (ji17)).f0) + ((rd_T24 l0 (ji17)).f2))) then (some 9) else (if ((rd_T24 l0 x3_1).f0) = (wrap64 (((rd_T24 l0 (ji17)).f0) + ((rd_T24 l0 (ji17)).f2))) then (if ((rd_T24 l0 x3_1).f1) = (wrap64 (((rd_T24 l0 (ji17)).f1) + ((rd_T24 l0 (ji17)).f2))) then (some 9) else (flagstoneref05_Check.l0 kj4 l0 (wrap64 (x3_1 + 1)))) else (flagstoneref05_Check.l0 kj4 l0 (wrap64 (x3_1 + 1))))) else (none)) else (none)) = some r := by first | (rw [hji17] at H; exact H) | (simp only [hji17] at H ⊢; exact H)
          have hji17w : (IntKind.i64.wrap (x3_1 - 1)) = ji17 := (i64_w _).trans hji17
          by_cases c18 : 0 ≤ (ji17)
          ·rw [if_pos c18] at H
           have c18b0 : decide (0 ≤ (ji17)) = true := decide_eq_true c18
           clear c18
           by_cases c19 : (ji17) < (l0.length : Int)
           ·rw [if_pos c19] at H
            have c19b0 : decide ((ji17) < (l0.length : Int)) = true := decide_eq_true c19
            clear c19
            by_cases c20 : ((rd_T24 l0 x3_1).f0) < (wrap64 (((rd_T24 l0 (ji17)).f0) + ((rd_T24 l0 (ji17)).f2)))
            ·rw [if_pos c20] at H
             have c20b0 : decide (((rd_T24 l0 x3_1).f0) < (wrap64 (((rd_T24 l0 (ji17)).f0) + ((rd_T24 l0 (ji17)).f2)))) = true := decide_eq_true c20
             clear c20
             obtain rfl := Option.some.inj H
             have p105 : 0 ≤ ((ji17) : Int) := of_decide_eq_true (by first | (with_reducible assumption) | assumption)
             have q105 : (ji17) < (l0.length : Int) := of_decide_eq_true (by first | (with_reducible assumption) | assumption)
             obtain ⟨ad105, e105, hx105_0, hx105_1, hx105_2⟩ := at_T24 HR0.out (ji17) p105 q105
             obtain rfl : ad101 = ad105 := (by injection e105)
             replace hx105_0 := (HB.out.cell (World.block_lt_of_cell? w _ hx105_0)).trans hx105_0
             replace hx105_1 := (HB.out.cell (World.block_lt_of_cell? w _ hx105_1)).trans hx105_1
             replace hx105_2 := (HB.out.cell (World.block_lt_of_cell? w _ hx105_2)).trans hx105_2
             replace p105 := eq_true p105
             replace q105 := eq_true q105
             have p106 : 0 ≤ ((ji17) : Int) := of_decide_eq_true (by first | (with_reducible assumption) | assumption)
             have q106 : (ji17) < (l0.length : Int) := of_decide_eq_true (by first | (with_reducible assumption) | assumption)
             obtain ⟨ad106, e106, hx106_0, hx106_1, hx106_2⟩ := at_T24 HR0.out (ji17) p106 q106
             obtain rfl : ad101 = ad106 := (by injection e106)
             replace hx106_0 := (HB.out.cell (World.block_lt_of_cell? w _ hx106_0)).trans hx106_0
             replace hx106_1 := (HB.out.cell (World.block_lt_of_cell? w _ hx106_1)).trans hx106_1
             replace hx106_2 := (HB.out.cell (World.block_lt_of_cell? w _ hx106_2)).trans hx106_2
             replace p106 := eq_true p106
             replace q106 := eq_true q106
             have hcz21_0 : wc.cell? ⟨gb102, 0, none⟩ = some (.int .i64 ((rd_T24 l0 x3_1).f0)) := (blk_cell BK102.out 0).trans rfl
             have hcz21_1 : wc.cell? ⟨gb102, 1, none⟩ = some (.int .i64 ((rd_T24 l0 x3_1).f1)) := (blk_cell BK102.out 1).trans rfl
             have hcz21_2 : wc.cell? ⟨gb102, 2, none⟩ = some (.int .i64 ((rd_T24 l0 x3_1).f2)) := (blk_cell BK102.out 2).trans rfl
             have hfz21_0 := blk_frozen BK102.out 0
             have hfz21_1 := blk_frozen BK102.out 1
             have hfz21_2 := blk_frozen BK102.out 2
             go_wp2
             repeat (go_quiet (fail); try go_wp2)
             go_ret
             exact ⟨by first | rfl | (simp [errW_none, errW_some] <;> rfl) | (simp only [← hji17]; first | rfl | (simp [errW_none, errW_some] <;> rfl)) | (simp [*, errW_none, errW_some] <;> rfl), by repeat (first | (with_reducible first | exact HB.out | apply below_alloc | apply pw_below_drewN | apply below_drew1 | refine below_set ?_ GE102.out) | exact HB.out)⟩
            ·rw [if_neg c20] at H
             have c20b0 : decide (((rd_T24 l0 x3_1).f0) < (wrap64 (((rd_T24 l0 (ji17)).f0) + ((rd_T24 l0 (ji17)).f2)))) = false := decide_eq_false c20
             clear c20
             by_cases c22 : ((rd_T24 l0 x3_1).f0) = (wrap64 (((rd_T24 l0 (ji17)).f0) + ((rd_T24 l0 (ji17)).f2)))
             ·rw [if_pos c22] at H
              have c22b0 : (((rd_T24 l0 x3_1).f0) == (wrap64 (((rd_T24 l0 (ji17)).f0) + ((rd_T24 l0 (ji17)).f2)))) = true := beq_iff_eq.mpr c22
              have c22b1 : (((rd_T24 l0 x3_1).f0) != (wrap64 (((rd_T24 l0 (ji17)).f0) + ((rd_T24 l0 (ji17)).f2)))) = false := bne_eq_false_iff_eq.mpr c22
              clear c22
              by_cases c23 : ((rd_T24 l0 x3_1).f1) = (wrap64 (((rd_T24 l0 (ji17)).f1) + ((rd_T24 l0 (ji17)).f2)))
              ·rw [if_pos c23] at H
               have c23b0 : (((rd_T24 l0 x3_1).f1) == (wrap64 (((rd_T24 l0 (ji17)).f1) + ((rd_T24 l0 (ji17)).f2)))) = true := beq_iff_eq.mpr c23
               have c23b1 : (((rd_T24 l0 x3_1).f1) != (wrap64 (((rd_T24 l0 (ji17)).f1) + ((rd_T24 l0 (ji17)).f2)))) = false := bne_eq_false_iff_eq.mpr c23
               clear c23
               obtain rfl := Option.some.inj H
               have p105 : 0 ≤ ((ji17) : Int) := of_decide_eq_true (by first | (with_reducible assumption) | assumption)
               have q105 : (ji17) < (l0.length : Int) := of_decide_eq_true (by first | (with_reducible assumption) | assumption)
               obtain ⟨ad105, e105, hx105_0, hx105_1, hx105_2⟩ := at_T24 HR0.out (ji17) p105 q105
               obtain rfl : ad101 = ad105 := (by injection e105)
               replace hx105_0 := (HB.out.cell (World.block_lt_of_cell? w _ hx105_0)).trans hx105_0
               replace hx105_1 := (HB.out.cell (World.block_lt_of_cell? w _ hx105_1)).trans hx105_1
               replace hx105_2 := (HB.out.cell (World.block_lt_of_cell? w _ hx105_2)).trans hx105_2
               replace p105 := eq_true p105
               replace q105 := eq_true q105
               have p106 : 0 ≤ ((ji17) : Int) := of_decide_eq_true (by first | (with_reducible assumption) | assumption)
               have q106 : (ji17) < (l0.length : Int) := of_decide_eq_true (by first | (with_reducible assumption) | assumption)
               obtain ⟨ad106, e106, hx106_0, hx106_1, hx106_2⟩ := at_T24 HR0.out (ji17) p106 q106
               obtain rfl : ad101 = ad106 := (by injection e106)
               replace hx106_0 := (HB.out.cell (World.block_lt_of_cell? w _ hx106_0)).trans hx106_0
               replace hx106_1 := (HB.out.cell (World.block_lt_of_cell? w _ hx106_1)).trans hx106_1
               replace hx106_2 := (HB.out.cell (World.block_lt_of_cell? w _ hx106_2)).trans hx106_2
               replace p106 := eq_true p106
               replace q106 := eq_true q106
               have hcz24_0 : wc.cell? ⟨gb102, 0, none⟩ = some (.int .i64 ((rd_T24 l0 x3_1).f0)) := (blk_cell BK102.out 0).trans rfl
               have hcz24_1 : wc.cell? ⟨gb102, 1, none⟩ = some (.int .i64 ((rd_T24 l0 x3_1).f1)) := (blk_cell BK102.out 1).trans rfl
               have hcz24_2 : wc.cell? ⟨gb102, 2, none⟩ = some (.int .i64 ((rd_T24 l0 x3_1).f2)) := (blk_cell BK102.out 2).trans rfl
               have hfz24_0 := blk_frozen BK102.out 0
               have hfz24_1 := blk_frozen BK102.out 1
               have hfz24_2 := blk_frozen BK102.out 2
               have p107 : 0 ≤ ((ji17) : Int) := of_decide_eq_true (by first | (with_reducible assumption) | assumption)
               have q107 : (ji17) < (l0.length : Int) := of_decide_eq_true (by first | (with_reducible assumption) | assumption)
               obtain ⟨ad107, e107, hx107_0, hx107_1, hx107_2⟩ := at_T24 HR0.out (ji17) p107 q107
               obtain rfl : ad101 = ad107 := (by injection e107)
               replace hx107_0 := (HB.out.cell (World.block_lt_of_cell? w _ hx107_0)).trans hx107_0
               replace hx107_1 := (HB.out.cell (World.block_lt_of_cell? w _ hx107_1)).trans hx107_1
               replace hx107_2 := (HB.out.cell (World.block_lt_of_cell? w _ hx107_2)).trans hx107_2
               replace p107 := eq_true p107
               replace q107 := eq_true q107
               have p108 : 0 ≤ ((ji17) : Int) := of_decide_eq_true (by first | (with_reducible assumption) | assumption)
               have q108 : (ji17) < (l0.length : Int) := of_decide_eq_true (by first | (with_reducible assumption) | assumption)
               obtain ⟨ad108, e108, hx108_0, hx108_1, hx108_2⟩ := at_T24 HR0.out (ji17) p108 q108
               obtain rfl : ad101 = ad108 := (by injection e108)
               replace hx108_0 := (HB.out.cell (World.block_lt_of_cell? w _ hx108_0)).trans hx108_0
               replace hx108_1 := (HB.out.cell (World.block_lt_of_cell? w _ hx108_1)).trans hx108_1
               replace hx108_2 := (HB.out.cell (World.block_lt_of_cell? w _ hx108_2)).trans hx108_2
               replace p108 := eq_true p108
               replace q108 := eq_true q108
               go_wp2
               repeat (go_quiet (fail); try go_wp2)
               go_ret
               exact ⟨by first | rfl | (simp [errW_none, errW_some] <;> rfl) | (simp only [← hji17]; first | rfl | (simp [errW_none, errW_some] <;> rfl)) | (simp [*, errW_none, errW_some] <;> rfl), by repeat (first | (with_reducible first | exact HB.out | apply below_alloc | apply pw_below_drewN | apply below_drew1 | refine below_set ?_ GE102.out) | exact HB.out)⟩
              ·rw [if_neg c23] at H
               have c23b0 : (((rd_T24 l0 x3_1).f1) == (wrap64 (((rd_T24 l0 (ji17)).f1) + ((rd_T24 l0 (ji17)).f2)))) = false := beq_eq_false_iff_ne.mpr c23
               have c23b1 : (((rd_T24 l0 x3_1).f1) != (wrap64 (((rd_T24 l0 (ji17)).f1) + ((rd_T24 l0 (ji17)).f2)))) = true := bne_iff_ne.mpr c23
               have H' := Aside0.mk H
               clear H
               have p105 : 0 ≤ ((ji17) : Int) := of_decide_eq_true (by first | (with_reducible assumption) | assumption)
               have q105 : (ji17) < (l0.length : Int) := of_decide_eq_true (by first | (with_reducible assumption) | assumption)
               obtain ⟨ad105, e105, hx105_0, hx105_1, hx105_2⟩ := at_T24 HR0.out (ji17) p105 q105
               obtain rfl : ad101 = ad105 := (by injection e105)
               replace hx105_0 := (HB.out.cell (World.block_lt_of_cell? w _ hx105_0)).trans hx105_0
               replace hx105_1 := (HB.out.cell (World.block_lt_of_cell? w _ hx105_1)).trans hx105_1
               replace hx105_2 := (HB.out.cell (World.block_lt_of_cell? w _ hx105_2)).trans hx105_2
               replace p105 := eq_true p105
               replace q105 := eq_true q105
               have p106 : 0 ≤ ((ji17) : Int) := of_decide_eq_true (by first | (with_reducible assumption) | assumption)
               have q106 : (ji17) < (l0.length : Int) := of_decide_eq_true (by first | (with_reducible assumption) | assumption)
               obtain ⟨ad106, e106, hx106_0, hx106_1, hx106_2⟩ := at_T24 HR0.out (ji17) p106 q106
               obtain rfl : ad101 = ad106 := (by injection e106)
               replace hx106_0 := (HB.out.cell (World.block_lt_of_cell? w _ hx106_0)).trans hx106_0
               replace hx106_1 := (HB.out.cell (World.block_lt_of_cell? w _ hx106_1)).trans hx106_1
               replace hx106_2 := (HB.out.cell (World.block_lt_of_cell? w _ hx106_2)).trans hx106_2
               replace p106 := eq_true p106
               replace q106 := eq_true q106
               have hcz25_0 : wc.cell? ⟨gb102, 0, none⟩ = some (.int .i64 ((rd_T24 l0 x3_1).f0)) := (blk_cell BK102.out 0).trans rfl
               have hcz25_1 : wc.cell? ⟨gb102, 1, none⟩ = some (.int .i64 ((rd_T24 l0 x3_1).f1)) := (blk_cell BK102.out 1).trans rfl
               have hcz25_2 : wc.cell? ⟨gb102, 2, none⟩ = some (.int .i64 ((rd_T24 l0 x3_1).f2)) := (blk_cell BK102.out 2).trans rfl
               have hfz25_0 := blk_frozen BK102.out 0
               have hfz25_1 := blk_frozen BK102.out 1
               have hfz25_2 := blk_frozen BK102.out 2
               have p107 : 0 ≤ ((ji17) : Int) := of_decide_eq_true (by first | (with_reducible assumption) | assumption)
               have q107 : (ji17) < (l0.length : Int) := of_decide_eq_true (by first | (with_reducible assumption) | assumption)
               obtain ⟨ad107, e107, hx107_0, hx107_1, hx107_2⟩ := at_T24 HR0.out (ji17) p107 q107
               obtain rfl : ad101 = ad107 := (by injection e107)
               replace hx107_0 := (HB.out.cell (World.block_lt_of_cell? w _ hx107_0)).trans hx107_0
               replace hx107_1 := (HB.out.cell (World.block_lt_of_cell? w _ hx107_1)).trans hx107_1
               replace hx107_2 := (HB.out.cell (World.block_lt_of_cell? w _ hx107_2)).trans hx107_2
               replace p107 := eq_true p107
               replace q107 := eq_true q107
               have p108 : 0 ≤ ((ji17) : Int) := of_decide_eq_true (by first | (with_reducible assumption) | assumption)
               have q108 : (ji17) < (l0.length : Int) := of_decide_eq_true (by first | (with_reducible assumption) | assumption)
               obtain ⟨ad108, e108, hx108_0, hx108_1, hx108_2⟩ := at_T24 HR0.out (ji17) p108 q108
               obtain rfl : ad101 = ad108 := (by injection e108)
               replace hx108_0 := (HB.out.cell (World.block_lt_of_cell? w _ hx108_0)).trans hx108_0
               replace hx108_1 := (HB.out.cell (World.block_lt_of_cell? w _ hx108_1)).trans hx108_1
               replace hx108_2 := (HB.out.cell (World.block_lt_of_cell? w _ hx108_2)).trans hx108_2
               replace p108 := eq_true p108
               replace q108 := eq_true q108
               go_wp2
               repeat (go_quiet (fail); try go_wp2)
               go_roundg kj4
               case measure => have := HK1.out; have := HJ4.out; omega
               case rel => exact ⟨(wrap64 (x3_1 + 1)), (by first | rfl | (simp; done) | (simp [*]; done)), H', ⟨by have := HK1.out; have := HJ4.out; omega⟩, ⟨by repeat (first | (with_reducible first | exact HB.out | apply below_alloc | apply pw_below_drewN | apply below_drew1 | refine below_set ?_ GE102.out) | exact HB.out)⟩⟩
             ·rw [if_neg c22] at H
              have c22b0 : (((rd_T24 l0 x3_1).f0) == (wrap64 (((rd_T24 l0 (ji17)).f0) + ((rd_T24 l0 (ji17)).f2)))) = false := beq_eq_false_iff_ne.mpr c22
              have c22b1 : (((rd_T24 l0 x3_1).f0) != (wrap64 (((rd_T24 l0 (ji17)).f0) + ((rd_T24 l0 (ji17)).f2)))) = true := bne_iff_ne.mpr c22
              have H' := Aside0.mk H
              clear H
              have p105 : 0 ≤ ((ji17) : Int) := of_decide_eq_true (by first | (with_reducible assumption) | assumption)
              have q105 : (ji17) < (l0.length : Int) := of_decide_eq_true (by first | (with_reducible assumption) | assumption)
              obtain ⟨ad105, e105, hx105_0, hx105_1, hx105_2⟩ := at_T24 HR0.out (ji17) p105 q105
              obtain rfl : ad101 = ad105 := (by injection e105)
              replace hx105_0 := (HB.out.cell (World.block_lt_of_cell? w _ hx105_0)).trans hx105_0
              replace hx105_1 := (HB.out.cell (World.block_lt_of_cell? w _ hx105_1)).trans hx105_1
              replace hx105_2 := (HB.out.cell (World.block_lt_of_cell? w _ hx105_2)).trans hx105_2
              replace p105 := eq_true p105
              replace q105 := eq_true q105
              have p106 : 0 ≤ ((ji17) : Int) := of_decide_eq_true (by first | (with_reducible assumption) | assumption)
              have q106 : (ji17) < (l0.length : Int) := of_decide_eq_true (by first | (with_reducible assumption) | assumption)
              obtain ⟨ad106, e106, hx106_0, hx106_1, hx106_2⟩ := at_T24 HR0.out (ji17) p106 q106
              obtain rfl : ad101 = ad106 := (by injection e106)
              replace hx106_0 := (HB.out.cell (World.block_lt_of_cell? w _ hx106_0)).trans hx106_0
              replace hx106_1 := (HB.out.cell (World.block_lt_of_cell? w _ hx106_1)).trans hx106_1
              replace hx106_2 := (HB.out.cell (World.block_lt_of_cell? w _ hx106_2)).trans hx106_2
              replace p106 := eq_true p106
              replace q106 := eq_true q106
              have hcz26_0 : wc.cell? ⟨gb102, 0, none⟩ = some (.int .i64 ((rd_T24 l0 x3_1).f0)) := (blk_cell BK102.out 0).trans rfl
              have hcz26_1 : wc.cell? ⟨gb102, 1, none⟩ = some (.int .i64 ((rd_T24 l0 x3_1).f1)) := (blk_cell BK102.out 1).trans rfl
              have hcz26_2 : wc.cell? ⟨gb102, 2, none⟩ = some (.int .i64 ((rd_T24 l0 x3_1).f2)) := (blk_cell BK102.out 2).trans rfl
              have hfz26_0 := blk_frozen BK102.out 0
              have hfz26_1 := blk_frozen BK102.out 1
              have hfz26_2 := blk_frozen BK102.out 2
              go_wp2
              repeat (go_quiet (fail); try go_wp2)
              go_roundg kj4
              case measure => have := HK1.out; have := HJ4.out; omega
              case rel => exact ⟨(wrap64 (x3_1 + 1)), (by first | rfl | (simp; done) | (simp [*]; done)), H', ⟨by have := HK1.out; have := HJ4.out; omega⟩, ⟨by repeat (first | (with_reducible first | exact HB.out | apply below_alloc | apply pw_below_drewN | apply below_drew1 | refine below_set ?_ GE102.out) | exact HB.out)⟩⟩
           ·rw [if_neg c19] at H
            exact absurd H (by simp)
          ·rw [if_neg c18] at H
           exact absurd H (by simp)
         ·rw [if_neg c16] at H
          have c16b0 : decide (0 < x3_1) = false := decide_eq_false c16
          clear c16
          have H' := Aside0.mk H
          clear H
          go_wp2
          repeat (go_quiet (fail); try go_wp2)
          go_roundg kj4
          case measure => have := HK1.out; have := HJ4.out; omega
          case rel => exact ⟨(wrap64 (x3_1 + 1)), (by first | rfl | (simp; done) | (simp [*]; done)), H', ⟨by have := HK1.out; have := HJ4.out; omega⟩, ⟨by repeat (first | (with_reducible first | exact HB.out | apply below_alloc | apply pw_below_drewN | apply below_drew1 | refine below_set ?_ GE102.out) | exact HB.out)⟩⟩
     ·rw [if_neg c4] at H
      exact absurd H (by simp)
    ·rw [if_neg c3] at H
     have c3b0 : decide (x3_1 < (l0.length : Int)) = false := decide_eq_false c3
     clear c3
     obtain rfl := Option.some.inj H
     go_wp2
     repeat (go_quiet (fail); try go_wp2)
     go_ret
     exact ⟨by first | rfl | (simp [errW_none, errW_some] <;> rfl) | (simp [*, errW_none, errW_some] <;> rfl), by repeat (first | (with_reducible first | exact HB.out | apply below_alloc | apply pw_below_drewN | apply below_drew1) | exact HB.out)⟩
def toE (x : S24) : Flag.Ex := ⟨x.f0, x.f1, x.f2⟩
def near (n : Int) : Prop := -1099511627776 ≤ n ∧ n ≤ 1099511627776
structure Near (x : S24) : Prop where
  v : near x.f0
  p : near x.f1
  n : near x.f2
  q : -1 ≤ x.f1
theorem goesOn_f {a b : S24} (ha : Near a) (hb : Near b) (hn : 0 < a.f2) : extent_goesOn.f a.f0 a.f1 a.f2 b.f0 b.f1 b.f2 = some (decide (Flag.goesOn (toE a) (toE b))) := by
  obtain ⟨⟨a1, a2⟩, ⟨a3, a4⟩, ⟨a5, a6⟩, a7⟩ := ha
  obtain ⟨⟨b1, b2⟩, ⟨b3, b4⟩, ⟨b5, b6⟩, b7⟩ := hb
  unfold extent_goesOn.f Flag.goesOn toE
  dsimp only
  rw [w64 (n := a.f0 + a.f2) (by omega), w64 (n := a.f1 + a.f2) (by omega)]
  congr 1
  by_cases h0 : a.f0 + a.f2 = b.f0
  · by_cases h1 : a.f1 = -1
    · by_cases h2 : b.f1 = -1
      · simp [h0, h1, h2]
      · simp [h0, h1, h2]
    · have h3 : 0 ≤ a.f1 := by omega
      have h4 : ¬ a.f1 < 0 := by omega
      by_cases h2 : b.f1 = -1
      · have h5 : ¬ (-1 = a.f1 + a.f2) := by omega
        simp [h0, h1, h2, h3, h4, h5]
      · by_cases h6 : a.f1 + a.f2 = b.f1
        · have h7 : b.f1 = a.f1 + a.f2 := h6.symm
          have h8 : ¬ (a.f1 + a.f2 = -1) := by omega
          have h9 : (a.f1 == -1) = false := by simp [h1]
          have h10 : (a.f1 + a.f2 == -1) = false := by simp [h8]
          simp [h0, h1, h3, h7, h9, h10]
        · have h7 : ¬ (b.f1 = a.f1 + a.f2) := fun h => h6 h.symm
          simp [h0, h1, h2, h3, h4, h6, h7]
  · simp [h0]
theorem rd_at (pre : List S24) (x : S24) (t : List S24) {i : Int} (h : i = pre.length) : rd_T24 (pre ++ x :: t) i = x := by
  subst h; simp [rd_T24]
structure InM (x : S24) : Prop where
  v : 0 ≤ x.f0
  e : x.f0 + x.f2 ≤ 1099511627776
  p0 : -1 ≤ x.f1
  p1 : x.f1 ≤ 1099511627776
  n : 0 < x.f2
theorem InM.near {x : S24} (h : InM x) : Near x := by
  obtain ⟨h1, h2, h3, h4, h5⟩ := h
  exact ⟨⟨by omega, by omega⟩, ⟨by omega, by omega⟩, ⟨by omega, by omega⟩, h3⟩
theorem okIn {x : S24} (h : Flag.okMap (toE x)) : InM x := by
  obtain ⟨h1, h2, h3, h4, h5⟩ := h
  simp only [toE] at h1 h2 h3 h4 h5
  exact ⟨h2, by omega, by omega, by omega, h1⟩
theorem fits_x {a b : Int} : extent_fits.f a b = some (decide (0 ≤ a) && decide (0 ≤ b) && decide (a + b ≤ 65536)) := by
  unfold extent_fits.f
  rw [mn_min]
  by_cases h : min a b ≥ 0
  · rw [if_pos h]
    by_cases h1 : a ≤ 65536
    · rw [if_pos h1, w64 (by omega)]
      congr 1
      rw [Bool.eq_iff_iff]
      simp only [Bool.and_eq_true, decide_eq_true_eq]
      omega
    · rw [if_neg h1]
      congr 1
      symm
      rw [Bool.eq_false_iff]
      simp only [ne_eq, Bool.and_eq_true, decide_eq_true_eq]
      omega
  · rw [if_neg h]
    congr 1
    symm
    rw [Bool.eq_false_iff]
    simp only [ne_eq, Bool.and_eq_true, decide_eq_true_eq]
    omega
theorem fits_r {a b : Int} : flagstoneref05_fits.f a b = some (decide (0 ≤ a) && decide (0 ≤ b) && decide (a + b ≤ 65536)) := by
  unfold flagstoneref05_fits.f
  by_cases h : a ≥ 0
  · rw [if_pos h]
    by_cases h0 : b ≥ 0
    · rw [if_pos h0]
      by_cases h1 : a ≤ 65536
      · rw [if_pos h1, w64 (by omega)]
        congr 1
        rw [Bool.eq_iff_iff]
        simp only [Bool.and_eq_true, decide_eq_true_eq]
        omega
      · rw [if_neg h1]
        congr 1
        symm
        rw [Bool.eq_false_iff]
        simp only [ne_eq, Bool.and_eq_true, decide_eq_true_eq]
        omega
    · rw [if_neg h0]
      congr 1
      symm
      rw [Bool.eq_false_iff]
      simp only [ne_eq, Bool.and_eq_true, decide_eq_true_eq]
      omega
  · rw [if_neg h]
    congr 1
    symm
    rw [Bool.eq_false_iff]
    simp only [ne_eq, Bool.and_eq_true, decide_eq_true_eq]
    omega
theorem may_x {a b c : Int} : extent_may.f a b c = some (Flag.mayE ⟨a, b, c⟩) := by
  unfold extent_may.f
  rw [fits_x, fits_x]
  unfold Flag.mayE
  by_cases h : c > 0
  · rw [if_pos h]
    have h1 : 0 < c := h
    have h2 : 0 ≤ c := by omega
    simp only [Option.bind_some, h1, h2, decide_true, Bool.true_and, Bool.and_true]
    split
    · rename_i h3; rw [h3]; simp
    · rename_i h3; simp only [Bool.not_eq_true] at h3; rw [h3]; simp
  · rw [if_neg h]
    have h1 : ¬ 0 < c := h
    simp [h1]
def chk : Option Flag.Ex → List Flag.Ex → Bool
  | none, t => Flag.mapB t
  | some y, t => Flag.restB y t
def okB (o : Option Flag.Ex) (x : Flag.Ex) : Bool := match o with
  | none => true
  | some y => decide (y.v + y.n ≤ x.v) && !decide (Flag.goesOn y x)
theorem chk_cons (o : Option Flag.Ex) (x : Flag.Ex) (t : List Flag.Ex) : chk o (x :: t) = (Flag.mayE x && okB o x && chk (some x) t) := by
  cases o with
  | none => simp [chk, Flag.mapB, okB]
  | some y => simp [chk, Flag.restB, okB, Bool.and_assoc]
theorem chk_nil (o : Option Flag.Ex) : chk o [] = true := by cases o <;> rfl
theorem check_x_loop (l : List S24) (hl : l.length ≤ 1024) (t : List S24) : ∀ (pre : List S24) (k : Nat), l = pre ++ t → t.length < k → (∀ y, pre.getLast? = some y → Flag.okMap (toE y)) →
    extent_Check.l0 k l l (l.length : Int) (pre.length : Int) = some (if chk (pre.getLast?.map toE) (t.map toE) = true then 0 else 9) := by
  induction t with
  | nil =>
    intro pre k he hk _
    obtain ⟨k, rfl⟩ : ∃ k', k = k' + 1 := ⟨k - 1, by simp at hk; omega⟩
    rw [extent_Check.l0, if_neg (by rw [he]; simp)]
    simp [chk_nil]
  | cons x t ih =>
    intro pre k he hk hp
    obtain ⟨k, rfl⟩ : ∃ k', k = k' + 1 := ⟨k - 1, by simp at hk; omega⟩
    have hlen : l.length = pre.length + t.length + 1 := by rw [he]; simp; omega
    have hx : rd_T24 l (pre.length : Int) = x := by rw [he]; exact rd_at pre x t rfl
    rw [extent_Check.l0, if_pos (by omega), if_pos (by omega), if_pos (by omega), hx, may_x, Option.bind_some, List.map_cons, chk_cons]
    have e0 : Flag.mayE ⟨x.f0, x.f1, x.f2⟩ = Flag.mayE (toE x) := rfl
    rw [e0]
    by_cases hm : Flag.mayE (toE x) = true
    · rw [if_pos hm, hm]
      have hok := Flag.mayE_iff.1 hm
      have hnext := ih (pre ++ [x]) k (by rw [he]; simp) (by simp at hk; omega) (fun y hy => by
        have : y = x := by simpa using hy.symm
        rw [this]; exact hok)
      have e1 : wrap64 ((pre.length : Int) + 1) = ((pre ++ [x]).length : Int) := by rw [w64 (by omega)]; simp
      rw [e1, hnext]
      have e2 : (pre ++ [x]).getLast?.map toE = some (toE x) := by simp
      rw [e2]
      rcases List.eq_nil_or_concat pre with rfl | ⟨q, y, rfl⟩
      · rw [if_neg (by simp)]
        simp [okB]
      · rw [List.concat_eq_append] at *
        have e3 : wrap64 (((q ++ [y]).length : Int) - 1) = (q.length : Int) := by rw [w64 (by omega)]; simp
        have hy : rd_T24 l (q.length : Int) = y := by rw [he, List.append_assoc]; exact rd_at q y (x :: t) rfl
        have hoky := hp y (by simp)
        rw [if_pos (by simp), e3, if_pos (by omega), if_pos (by rw [hlen]; simp; omega), hy]
        have iy := okIn hoky
        have ix := okIn hok
        have n1 := iy.near
        rw [w64 (n := y.f0 + y.f2) (by have := iy.v; have := iy.e; have := iy.n; omega), goesOn_f n1 ix.near iy.n]
        have e4 : (q ++ [y]).getLast?.map toE = some (toE y) := by simp
        rw [e4]
        by_cases hg : y.f0 + y.f2 > x.f0
        · rw [if_pos hg]
          have : ¬ ((toE y).v + (toE y).n ≤ (toE x).v) := by simp only [toE]; omega
          simp [okB, this]
        · rw [if_neg hg, Option.bind_some]
          have : (toE y).v + (toE y).n ≤ (toE x).v := by simp only [toE]; omega
          by_cases hgo : Flag.goesOn (toE y) (toE x)
          · simp [okB, this, hgo]
          · simp [okB, this, hgo]
    · rw [if_neg hm]
      simp only [Bool.not_eq_true] at hm
      simp [hm]
theorem check_x (l : List S24) {k : Nat} (hk : l.length < k) : extent_Check.f k l = some (Flag.checkE (l.map toE)) := by
  unfold extent_Check.f Flag.checkE
  by_cases h : l.length ≤ 1024
  · rw [if_neg (by omega)]
    have := check_x_loop l h l [] k rfl hk (fun y hy => by simp at hy)
    rw [show ((0 : Int) = (([] : List S24).length : Int)) from rfl, this]
    by_cases hb : Flag.mapB (l.map toE) = true <;> simp [chk, h, hb]
  · rw [if_pos (by omega)]
    simp [h]
theorem mayE_f (x : S24) : Flag.mayE (toE x) = (decide (0 < x.f2) && (decide (0 ≤ x.f0) && decide (x.f0 + x.f2 ≤ 65536)) && (decide (0 ≤ x.f1) && decide (x.f1 + x.f2 ≤ 65536))) := rfl
theorem check_r_loop (l : List S24) (hl : l.length ≤ 1024) (t : List S24) : ∀ (pre : List S24) (k : Nat), l = pre ++ t → 2 * t.length < k → (∀ y, pre.getLast? = some y → Flag.okMap (toE y)) →
    flagstoneref05_Check.l0 k l (pre.length : Int) = some (if chk (pre.getLast?.map toE) (t.map toE) = true then 0 else 9) := by
  induction t with
  | nil =>
    intro pre k he hk _
    obtain ⟨k, rfl⟩ : ∃ k', k = k' + 1 := ⟨k - 1, by simp at hk; omega⟩
    rw [flagstoneref05_Check.l0, if_neg (by rw [he]; simp)]
    simp [chk_nil]
  | cons x t ih =>
    intro pre k he hk hp
    obtain ⟨k, rfl⟩ : ∃ k', k = k' + 2 := ⟨k - 2, by simp at hk; omega⟩
    have hlen : l.length = pre.length + t.length + 1 := by rw [he]; simp; omega
    have hx : rd_T24 l (pre.length : Int) = x := by rw [he]; exact rd_at pre x t rfl
    rw [flagstoneref05_Check.l0, if_pos (by omega), if_pos (by omega), hx, fits_r, fits_r, Option.bind_some, Option.bind_some, List.map_cons, chk_cons]
    have hj : ∀ b : Bool, b = !Flag.mayE (toE x) → flagstoneref05_Check.j1 (k + 1) l (pre.length : Int) b x.f0 x.f1 x.f2 = some (if (Flag.mayE (toE x) && okB (pre.getLast?.map toE) (toE x) && chk (some (toE x)) (t.map toE)) = true then 0 else 9) := by
      intro b hb
      rw [flagstoneref05_Check.j1]
      by_cases hm : Flag.mayE (toE x) = true
      · rw [hb, hm, if_neg (by simp)]
        have hok := Flag.mayE_iff.1 hm
        have hnext := ih (pre ++ [x]) k (by rw [he]; simp) (by simp at hk; omega) (fun y hy => by
          have : y = x := by simpa using hy.symm
          rw [this]; exact hok)
        have e1 : wrap64 ((pre.length : Int) + 1) = ((pre ++ [x]).length : Int) := by rw [w64 (by omega)]; simp
        rw [e1, hnext]
        have e2 : (pre ++ [x]).getLast?.map toE = some (toE x) := by simp
        rw [e2]
        rcases List.eq_nil_or_concat pre with rfl | ⟨q, y, rfl⟩
        · rw [if_neg (by simp)]
          simp [okB]
        · rw [List.concat_eq_append] at *
          have e3 : wrap64 (((q ++ [y]).length : Int) - 1) = (q.length : Int) := by rw [w64 (by omega)]; simp
          have hy : rd_T24 l (q.length : Int) = y := by rw [he, List.append_assoc]; exact rd_at q y (x :: t) rfl
          have hoky := hp y (by simp)
          rw [if_pos (by simp), e3, if_pos (by omega), if_pos (by rw [hlen]; simp; omega), hy]
          have iy := okIn hoky
          have ix := okIn hok
          rw [w64 (n := y.f0 + y.f2) (by have := iy.v; have := iy.e; have := iy.n; omega), w64 (n := y.f1 + y.f2) (by obtain ⟨g1, g2, g3, g4, g5⟩ := hoky; simp only [toE] at g1 g2 g3 g4 g5; omega)]
          have e4 : (q ++ [y]).getLast?.map toE = some (toE y) := by simp
          rw [e4]
          obtain ⟨g1, g2, g3, g4, g5⟩ := hoky
          simp only [toE] at g1 g2 g3 g4 g5
          by_cases hg : x.f0 < y.f0 + y.f2
          · rw [if_pos hg]
            have : ¬ ((toE y).v + (toE y).n ≤ (toE x).v) := by simp only [toE]; omega
            simp [okB, this]
          · rw [if_neg hg]
            have h7 : (toE y).v + (toE y).n ≤ (toE x).v := by simp only [toE]; omega
            by_cases h8 : x.f0 = y.f0 + y.f2
            · rw [if_pos h8]
              by_cases h9 : x.f1 = y.f1 + y.f2
              · rw [if_pos h9]
                have hgo : Flag.goesOn (toE y) (toE x) := ⟨h8.symm, .inr ⟨g4, h9⟩⟩
                simp [okB, h7, hgo]
              · rw [if_neg h9]
                have hgo : ¬ Flag.goesOn (toE y) (toE x) := by
                  rintro ⟨_, ⟨a, b⟩ | ⟨a, b⟩⟩
                  · simp only [toE] at a; omega
                  · exact h9 b
                simp [okB, h7, hgo]
            · rw [if_neg h8]
              have hgo : ¬ Flag.goesOn (toE y) (toE x) := fun h => h8 h.1.symm
              simp [okB, h7, hgo]
      · simp only [Bool.not_eq_true] at hm
        rw [hb, hm, if_pos (by simp)]
        simp
    by_cases h1 : x.f2 < 1
    · rw [if_pos h1]
      exact hj _ (by simp only [Flag.mayE, toE]; have : ¬ 0 < x.f2 := by omega
                     simp [this])
    · rw [if_neg h1]
      have h2 : 0 < x.f2 := by omega
      have h3 : 0 ≤ x.f2 := by omega
      split
      · rename_i h4
        refine hj _ ?_
        simp only [h3, decide_true, Bool.and_true] at h4 ⊢
        rw [mayE_f, h4]
        simp only [h2, decide_true, Bool.true_and]
      · rename_i h4
        refine hj _ ?_
        simp only [h3, decide_true, Bool.and_true, Bool.not_eq_true] at h4
        rw [mayE_f, h4]
        simp only [Bool.and_false, Bool.false_and, Bool.not_false]
theorem check_r (l : List S24) {k : Nat} (hk : 2 * l.length < k) : flagstoneref05_Check.f k l = some (Flag.checkE (l.map toE)) := by
  unfold flagstoneref05_Check.f Flag.checkE
  by_cases h : l.length ≤ 1024
  · rw [if_neg (by omega)]
    have := check_r_loop l h l [] k rfl hk (fun y hy => by simp at hy)
    rw [show ((0 : Int) = (([] : List S24).length : Int)) from rfl, this]
    by_cases hb : Flag.mapB (l.map toE) = true <;> simp [chk, h, hb]
  · rw [if_pos (by omega)]
    simp [h]
def refs_Check.l0 : Nat → Int → List (S94) → Int → Int → Option (Int)
 | 0, _, _, _, _ => none
 | k + 1, x3, x9, x10, x11 => if x11 < x10 then (if 0 ≤ x11 then (if x11 < (x9.length : Int) then (if ((rd_T94 x9 x11).f0) ≤ x3 then (some 9) else (if ((rd_T94 x9 x11).f0) > 255 then (some 9) else ((extent_Check.f k ((rd_T94 x9 x11).f1)).bind fun t103 => (if t103 = 0 then (refs_Check.l0 k ((rd_T94 x9 x11).f0) x9 x10 (wrap64 (x11 + 1))) else (some 9))))) else (none)) else (none)) else (some 0)
def refs_Check.f (k : Nat) (l0 : List (S94)) : Option (Int) := if (l0.length : Int) > 9 then (some 9) else (refs_Check.l0 k (-1) l0 (l0.length : Int) 0)
theorem refs_Check.mono_l : ∀ k, (∀ y0 y1 y2 y3, LeO (refs_Check.l0 k y0 y1 y2 y3) (refs_Check.l0 (k + 1) y0 y1 y2 y3))
 | 0 => fun _ _ _ _ r h => by simp [refs_Check.l0] at h
 | k + 1 => by
  have ih0 := refs_Check.mono_l k
  ·intro y0 y1 y2 y3
   unfold refs_Check.l0
   repeat' first
   | (with_reducible exact ih0 _ _ _ _)
   | (with_reducible exact extent_Check.mono _ _)
   | (with_reducible exact LeO.refl _)
   | (with_reducible exact LeO.none _)
   | (with_reducible refine LeO.ite ?_ ?_)
   | (with_reducible refine LeO.bind ?_ (fun _ => ?_))
   | exact ih0 _ _ _ _
   | exact extent_Check.mono _ _
   | exact LeO.none _
   | refine LeO.ite ?_ ?_
   | refine LeO.bind ?_ (fun _ => ?_)
theorem refs_Check.mono : ∀ a0 k, LeO (refs_Check.f k a0) (refs_Check.f (k + 1) a0) := by
 intro a0 k
 have ih0 := refs_Check.mono_l k
 unfold refs_Check.f
 repeat' first
  | (with_reducible exact ih0 _ _ _ _)
  | (with_reducible exact extent_Check.mono _ _)
  | (with_reducible exact LeO.refl _)
  | (with_reducible exact LeO.none _)
  | (with_reducible refine LeO.ite ?_ ?_)
  | (with_reducible refine LeO.bind ?_ (fun _ => ?_))
  | exact ih0 _ _ _ _
  | exact extent_Check.mono _ _
  | exact LeO.none _
  | refine LeO.ite ?_ ?_
  | refine LeO.bind ?_ (fun _ => ?_)
set_option maxHeartbeats 8000000 in
set_option maxRecDepth 100000 in
theorem refs_Check.calls (k : Nat) (A0 : Option Addr) (c0 : Nat) (l0 : List (S94)) (r : Int) (w : World) (hr0 : Kd.C k94 w A0 l0.length l0) (hc0 : l0.length ≤ c0) (h : refs_Check.f k l0 = some r) :
 Calls Try.prog 72 #[.slice A0 l0.length c0] w fun e w' => e = .returned (.int .i64 r) ∧ Below w.heap.size w w' := by
 have hu94 := Try.underlying94
 have HR0 := Aside0.mk hr0
 have HC0 := Aside0.mk hc0
 clear hr0 hc0
 have HB := Aside0.mk (Below.refl w.heap.size w)
 have H : (if (l0.length : Int) > 9 then (some 9) else (refs_Check.l0 k (-1) l0 (l0.length : Int) 0)) = some r := h
 clear h
 by_cases c2 : (l0.length : Int) > 9
 ·rw [if_pos c2] at H
  have c2b0 : decide (9 < (l0.length : Int)) = true := decide_eq_true c2
  have c2b1 : decide (9 < l0.length) = true := decide_eq_true (by omega)
  clear c2
  obtain rfl := Option.some.inj H
  go_enter Try.func72, Try.ntmps72
  go_wp2
  go_ret
  exact ⟨by first | rfl | (simp [errW_none, errW_some] <;> rfl) | (simp [*, errW_none, errW_some] <;> rfl), by repeat (first | (with_reducible first | exact HB.out | apply below_alloc | apply pw_below_drewN | apply below_drew1) | exact HB.out)⟩
 ·rw [if_neg c2] at H
  have c2b0 : decide (9 < (l0.length : Int)) = false := decide_eq_false c2
  have c2b1 : decide (9 < l0.length) = false := decide_eq_false (by omega)
  clear c2
  have H' := Aside0.mk H
  clear H
  go_enter Try.func72, Try.ntmps72
  go_wp2
  go_loopg [3, 11] k (fun kq v3 v11 w' => ∃ (x3_1 : Int) (x11_1 : Int), v3 = .int .i64 x3_1 ∧ v11 = .int .i64 x11_1 ∧ Aside0 (refs_Check.l0 kq x3_1 l0 (l0.length : Int) x11_1 = some r) ∧ Aside0 (kq ≤ k) ∧ Aside0 (Below w.heap.size w w'))
  case atStart => exact ⟨((-1)), (0), (by first | rfl | (simp; done) | (simp [*]; done)), (by first | rfl | (simp; done) | (simp [*]; done)), H', ⟨Nat.le_refl _⟩, ⟨by repeat (first | (with_reducible first | exact HB.out | apply below_alloc | apply pw_below_drewN | apply below_drew1) | exact HB.out)⟩⟩
  case round =>
   clear H'
   try clear c2
   try clear c2b0
   try clear c2b1
   try clear p2
   obtain ⟨x3_1, x11_1, rfl, rfl, HA, HK1, HB⟩ := hrel
   cases gk with
   | zero => exact absurd HA.out (by simp [refs_Check.l0])
   | succ k1 =>
    have H := HA.out
    clear HA
    simp only [refs_Check.l0] at H
    by_cases c3 : x11_1 < (l0.length : Int)
    ·rw [if_pos c3] at H
     have c3b0 : decide (x11_1 < (l0.length : Int)) = true := decide_eq_true c3
     clear c3
     by_cases c4 : 0 ≤ x11_1
     ·rw [if_pos c4] at H
      have c4b0 : decide (0 ≤ x11_1) = true := decide_eq_true c4
      clear c4
      by_cases c5 : x11_1 < (l0.length : Int)
      ·rw [if_pos c5] at H
       have c5b0 : decide (x11_1 < (l0.length : Int)) = true := decide_eq_true c5
       clear c5
       by_cases c6 : ((rd_T94 l0 x11_1).f0) ≤ x3_1
       ·rw [if_pos c6] at H
        have c6b0 : decide (((rd_T94 l0 x11_1).f0) ≤ x3_1) = true := decide_eq_true c6
        clear c6
        obtain rfl := Option.some.inj H
        have p101 : 0 ≤ (x11_1 : Int) := of_decide_eq_true (by first | (with_reducible assumption) | assumption)
        have q101 : x11_1 < (l0.length : Int) := of_decide_eq_true (by first | (with_reducible assumption) | assumption)
        obtain ⟨ad101, A101_1, c101_1, e101, hx101_0, hx101_1, hl101_1, hi101_1⟩ := at_T94 HR0.out x11_1 p101 q101
        cases e101
        replace hx101_0 := (HB.out.cell (World.block_lt_of_cell? w _ hx101_0)).trans hx101_0
        replace hx101_1 := (HB.out.cell (World.block_lt_of_cell? w _ hx101_1)).trans hx101_1
        have HR101_1 := Aside0.mk hi101_1
        have HC101_1 := Aside0.mk hl101_1
        clear hi101_1 hl101_1
        replace p101 := eq_true p101
        replace q101 := eq_true q101
        go_wp2_with (first | ((with_reducible refine gate_dst (N := 5) rfl ?_); refine box_event ?hg (N := 5) ?hd (cs := #[.int .i64 0, .slice none 0 0]) (t := 94) ?hr ?_; (case hd => rfl); (case hg => rfl); (case hr => first | (go_simp; done) | (go_simp; rfl)); intro gb102 hg w7 hbox hb; have n0_ := Aside0.mk (below_step (by repeat (first | (with_reducible first | exact HB.out | apply below_alloc | apply pw_below_drewN | apply below_drew1) | exact HB.out)) hb); have n1_ := Aside0.mk (hbox); have n2_ := Aside0.mk ((by rw [hg]; exact (below_size (by repeat (first | (with_reducible first | exact HB.out | apply below_alloc | apply pw_below_drewN | apply below_drew1) | exact HB.out))) : w.heap.size ≤ gb102)); have n3_ := Aside0.mk ((by rw [hg]; exact (below_size (by repeat (first | (with_reducible first | exact HB.out | apply below_alloc | apply pw_below_drewN | apply below_drew1) | exact HB.out))) : w.heap.size ≤ gb102)); clear HB; have HB := n0_; have BK102 := n1_; have GW102 := n2_; have GE102 := n3_; clear n0_ n1_ n2_ n3_; clear hb hbox hg; have hcz8_0 : w7.cell? ⟨gb102, 0, none⟩ = some (.int .i64 0) := (blk_cell BK102.out 0).trans rfl; have hcz8_1 : w7.cell? ⟨gb102, 1, none⟩ = some (.slice none 0 0) := (blk_cell BK102.out 1).trans rfl; have hfz8_0 := blk_frozen BK102.out 0; have hfz8_1 := blk_frozen BK102.out 1))
        go_ret
        exact ⟨by first | rfl | (simp [errW_none, errW_some] <;> rfl) | (simp [*, errW_none, errW_some] <;> rfl), by repeat (first | (with_reducible first | exact HB.out | apply below_alloc | apply pw_below_drewN | apply below_drew1 | refine below_set ?_ GE102.out) | exact HB.out)⟩
       ·rw [if_neg c6] at H
        have c6b0 : decide (((rd_T94 l0 x11_1).f0) ≤ x3_1) = false := decide_eq_false c6
        clear c6
        by_cases c9 : ((rd_T94 l0 x11_1).f0) > 255
        ·rw [if_pos c9] at H
         have c9b0 : decide (255 < ((rd_T94 l0 x11_1).f0)) = true := decide_eq_true c9
         clear c9
         obtain rfl := Option.some.inj H
         have p101 : 0 ≤ (x11_1 : Int) := of_decide_eq_true (by first | (with_reducible assumption) | assumption)
         have q101 : x11_1 < (l0.length : Int) := of_decide_eq_true (by first | (with_reducible assumption) | assumption)
         obtain ⟨ad101, A101_1, c101_1, e101, hx101_0, hx101_1, hl101_1, hi101_1⟩ := at_T94 HR0.out x11_1 p101 q101
         cases e101
         replace hx101_0 := (HB.out.cell (World.block_lt_of_cell? w _ hx101_0)).trans hx101_0
         replace hx101_1 := (HB.out.cell (World.block_lt_of_cell? w _ hx101_1)).trans hx101_1
         have HR101_1 := Aside0.mk hi101_1
         have HC101_1 := Aside0.mk hl101_1
         clear hi101_1 hl101_1
         replace p101 := eq_true p101
         replace q101 := eq_true q101
         go_wp2_with (first | ((with_reducible refine gate_dst (N := 5) rfl ?_); refine box_event ?hg (N := 5) ?hd (cs := #[.int .i64 0, .slice none 0 0]) (t := 94) ?hr ?_; (case hd => rfl); (case hg => rfl); (case hr => first | (go_simp; done) | (go_simp; rfl)); intro gb102 hg w10 hbox hb; have n0_ := Aside0.mk (below_step (by repeat (first | (with_reducible first | exact HB.out | apply below_alloc | apply pw_below_drewN | apply below_drew1) | exact HB.out)) hb); have n1_ := Aside0.mk (hbox); have n2_ := Aside0.mk ((by rw [hg]; exact (below_size (by repeat (first | (with_reducible first | exact HB.out | apply below_alloc | apply pw_below_drewN | apply below_drew1) | exact HB.out))) : w.heap.size ≤ gb102)); have n3_ := Aside0.mk ((by rw [hg]; exact (below_size (by repeat (first | (with_reducible first | exact HB.out | apply below_alloc | apply pw_below_drewN | apply below_drew1) | exact HB.out))) : w.heap.size ≤ gb102)); clear HB; have HB := n0_; have BK102 := n1_; have GW102 := n2_; have GE102 := n3_; clear n0_ n1_ n2_ n3_; clear hb hbox hg; have hcz11_0 : w10.cell? ⟨gb102, 0, none⟩ = some (.int .i64 0) := (blk_cell BK102.out 0).trans rfl; have hcz11_1 : w10.cell? ⟨gb102, 1, none⟩ = some (.slice none 0 0) := (blk_cell BK102.out 1).trans rfl; have hfz11_0 := blk_frozen BK102.out 0; have hfz11_1 := blk_frozen BK102.out 1))
         go_ret
         exact ⟨by first | rfl | (simp [errW_none, errW_some] <;> rfl) | (simp [*, errW_none, errW_some] <;> rfl), by repeat (first | (with_reducible first | exact HB.out | apply below_alloc | apply pw_below_drewN | apply below_drew1 | refine below_set ?_ GE102.out) | exact HB.out)⟩
        ·rw [if_neg c9] at H
         have c9b0 : decide (255 < ((rd_T94 l0 x11_1).f0)) = false := decide_eq_false c9
         clear c9
         replace H := Option.bind_eq_some_iff.mp H
         obtain ⟨t103, A120, H⟩ := H
         replace H : (if t103 = 0 then (refs_Check.l0 k1 ((rd_T94 l0 x11_1).f0) l0 (l0.length : Int) (wrap64 (x11_1 + 1))) else (some 9)) = some r := H
         have A12 := Aside0.mk A120
         clear A120
         by_cases c13 : t103 = 0
         ·rw [if_pos c13] at H
          have c13b0 : (t103 == 0) = true := beq_iff_eq.mpr c13
          have c13b1 : (t103 != 0) = false := bne_eq_false_iff_eq.mpr c13
          clear c13
          have H' := Aside0.mk H
          clear H
          have p101 : 0 ≤ (x11_1 : Int) := of_decide_eq_true (by first | (with_reducible assumption) | assumption)
          have q101 : x11_1 < (l0.length : Int) := of_decide_eq_true (by first | (with_reducible assumption) | assumption)
          obtain ⟨ad101, A101_1, c101_1, e101, hx101_0, hx101_1, hl101_1, hi101_1⟩ := at_T94 HR0.out x11_1 p101 q101
          cases e101
          replace hx101_0 := (HB.out.cell (World.block_lt_of_cell? w _ hx101_0)).trans hx101_0
          replace hx101_1 := (HB.out.cell (World.block_lt_of_cell? w _ hx101_1)).trans hx101_1
          have HR101_1 := Aside0.mk hi101_1
          have HC101_1 := Aside0.mk hl101_1
          clear hi101_1 hl101_1
          replace p101 := eq_true p101
          replace q101 := eq_true q101
          go_wp2_with (first | ((with_reducible refine gate_dst (N := 5) rfl ?_); refine box_event ?hg (N := 5) ?hd (cs := #[.int .i64 0, .slice none 0 0]) (t := 94) ?hr ?_; (case hd => rfl); (case hg => rfl); (case hr => first | (go_simp; done) | (go_simp; rfl)); intro gb102 hg w14 hbox hb; have n0_ := Aside0.mk (below_step (by repeat (first | (with_reducible first | exact HB.out | apply below_alloc | apply pw_below_drewN | apply below_drew1) | exact HB.out)) hb); have n1_ := Aside0.mk (hbox); have n2_ := Aside0.mk ((by rw [hg]; exact (below_size (by repeat (first | (with_reducible first | exact HB.out | apply below_alloc | apply pw_below_drewN | apply below_drew1) | exact HB.out))) : w.heap.size ≤ gb102)); have n3_ := Aside0.mk ((by rw [hg]; exact (below_size (by repeat (first | (with_reducible first | exact HB.out | apply below_alloc | apply pw_below_drewN | apply below_drew1) | exact HB.out))) : w.heap.size ≤ gb102)); clear HB; have HB := n0_; have BK102 := n1_; have GW102 := n2_; have GE102 := n3_; clear n0_ n1_ n2_ n3_; clear hb hbox hg; have hcz15_0 : w14.cell? ⟨gb102, 0, none⟩ = some (.int .i64 0) := (blk_cell BK102.out 0).trans rfl; have hcz15_1 : w14.cell? ⟨gb102, 1, none⟩ = some (.slice none 0 0) := (blk_cell BK102.out 1).trans rfl; have hfz15_0 := blk_frozen BK102.out 0; have hfz15_1 := blk_frozen BK102.out 1) | (go_at_call 36; (with_reducible refine (extent_Check.calls k1 _ _ ((rd_T94 l0 x11_1).f1) t103 _ ?side1 ?side2 A12.out).mono ?_); (case side1 => exact Kd.C_below HR101_1.out (by repeat (first | (with_reducible first | exact HB.out | apply below_alloc | apply pw_below_drewN | apply below_drew1 | refine below_set ?_ GE102.out) | exact HB.out))); (case side2 => exact HC101_1.out); rintro e w16 ⟨rfl, hb⟩; have n0_ := Aside0.mk (blk_below (g := gb102) (o := .cells #[.int .i64 ((rd_T94 l0 x11_1).f0), .slice A101_1 ((rd_T94 l0 x11_1).f1).length c101_1] 94 (0, 0)) (by (with_reducible repeat (first | refine blk_drewN ?_ _ | refine blk_drew ?_ | refine blk_alloc ?_ _)); refine blk_put (cs := #[.int .i64 ((rd_T94 l0 x11_1).f0), .slice none 0 0]) ?_ 1 _ rfl; (with_reducible repeat (first | refine blk_drewN ?_ _ | refine blk_drew ?_ | refine blk_alloc ?_ _)); refine blk_put (cs := #[.int .i64 0, .slice none 0 0]) ?_ 0 _ rfl; (with_reducible repeat (first | refine blk_drewN ?_ _ | refine blk_drew ?_ | refine blk_alloc ?_ _)); exact BK102.out) hb); have n1_ := Aside0.mk (below_step (by repeat (first | (with_reducible first | exact HB.out | apply below_alloc | apply pw_below_drewN | apply below_drew1 | refine below_set ?_ GE102.out) | exact HB.out)) hb); clear BK102; clear HB; have BK102 := n0_; have HB := n1_; clear n0_ n1_; (try clear hb); (try clear hb2); (try clear hk); (try clear hi); have hcz17_0 : w16.cell? ⟨gb102, 0, none⟩ = some (.int .i64 ((rd_T94 l0 x11_1).f0)) := (blk_cell BK102.out 0).trans rfl; have hcz17_1 : w16.cell? ⟨gb102, 1, none⟩ = some (.slice A101_1 ((rd_T94 l0 x11_1).f1).length c101_1) := (blk_cell BK102.out 1).trans rfl; have hfz17_0 := blk_frozen BK102.out 0; have hfz17_1 := blk_frozen BK102.out 1))
          go_roundg k1
          case measure => have := HK1.out; omega
          case rel => exact ⟨((rd_T94 l0 x11_1).f0), (wrap64 (x11_1 + 1)), (by first | rfl | (simp; done) | (simp [*]; done)), (by first | rfl | (simp; done) | (simp [*]; done)), H', ⟨by have := HK1.out; omega⟩, ⟨by repeat (first | (with_reducible first | exact HB.out | apply below_alloc | apply pw_below_drewN | apply below_drew1 | refine below_set ?_ GE102.out) | exact HB.out)⟩⟩
         ·rw [if_neg c13] at H
          have c13b0 : (t103 == 0) = false := beq_eq_false_iff_ne.mpr c13
          have c13b1 : (t103 != 0) = true := bne_iff_ne.mpr c13
          obtain rfl := Option.some.inj H
          have p101 : 0 ≤ (x11_1 : Int) := of_decide_eq_true (by first | (with_reducible assumption) | assumption)
          have q101 : x11_1 < (l0.length : Int) := of_decide_eq_true (by first | (with_reducible assumption) | assumption)
          obtain ⟨ad101, A101_1, c101_1, e101, hx101_0, hx101_1, hl101_1, hi101_1⟩ := at_T94 HR0.out x11_1 p101 q101
          cases e101
          replace hx101_0 := (HB.out.cell (World.block_lt_of_cell? w _ hx101_0)).trans hx101_0
          replace hx101_1 := (HB.out.cell (World.block_lt_of_cell? w _ hx101_1)).trans hx101_1
          have HR101_1 := Aside0.mk hi101_1
          have HC101_1 := Aside0.mk hl101_1
          clear hi101_1 hl101_1
          replace p101 := eq_true p101
          replace q101 := eq_true q101
          go_wp2_with (first | ((with_reducible refine gate_dst (N := 5) rfl ?_); refine box_event ?hg (N := 5) ?hd (cs := #[.int .i64 0, .slice none 0 0]) (t := 94) ?hr ?_; (case hd => rfl); (case hg => rfl); (case hr => first | (go_simp; done) | (go_simp; rfl)); intro gb102 hg w18 hbox hb; have n0_ := Aside0.mk (below_step (by repeat (first | (with_reducible first | exact HB.out | apply below_alloc | apply pw_below_drewN | apply below_drew1) | exact HB.out)) hb); have n1_ := Aside0.mk (hbox); have n2_ := Aside0.mk ((by rw [hg]; exact (below_size (by repeat (first | (with_reducible first | exact HB.out | apply below_alloc | apply pw_below_drewN | apply below_drew1) | exact HB.out))) : w.heap.size ≤ gb102)); have n3_ := Aside0.mk ((by rw [hg]; exact (below_size (by repeat (first | (with_reducible first | exact HB.out | apply below_alloc | apply pw_below_drewN | apply below_drew1) | exact HB.out))) : w.heap.size ≤ gb102)); clear HB; have HB := n0_; have BK102 := n1_; have GW102 := n2_; have GE102 := n3_; clear n0_ n1_ n2_ n3_; clear hb hbox hg; have hcz19_0 : w18.cell? ⟨gb102, 0, none⟩ = some (.int .i64 0) := (blk_cell BK102.out 0).trans rfl; have hcz19_1 : w18.cell? ⟨gb102, 1, none⟩ = some (.slice none 0 0) := (blk_cell BK102.out 1).trans rfl; have hfz19_0 := blk_frozen BK102.out 0; have hfz19_1 := blk_frozen BK102.out 1) | (go_at_call 36; (with_reducible refine (extent_Check.calls k1 _ _ ((rd_T94 l0 x11_1).f1) t103 _ ?side1 ?side2 A12.out).mono ?_); (case side1 => exact Kd.C_below HR101_1.out (by repeat (first | (with_reducible first | exact HB.out | apply below_alloc | apply pw_below_drewN | apply below_drew1 | refine below_set ?_ GE102.out) | exact HB.out))); (case side2 => exact HC101_1.out); rintro e w20 ⟨rfl, hb⟩; have n0_ := Aside0.mk (blk_below (g := gb102) (o := .cells #[.int .i64 ((rd_T94 l0 x11_1).f0), .slice A101_1 ((rd_T94 l0 x11_1).f1).length c101_1] 94 (0, 0)) (by (with_reducible repeat (first | refine blk_drewN ?_ _ | refine blk_drew ?_ | refine blk_alloc ?_ _)); refine blk_put (cs := #[.int .i64 ((rd_T94 l0 x11_1).f0), .slice none 0 0]) ?_ 1 _ rfl; (with_reducible repeat (first | refine blk_drewN ?_ _ | refine blk_drew ?_ | refine blk_alloc ?_ _)); refine blk_put (cs := #[.int .i64 0, .slice none 0 0]) ?_ 0 _ rfl; (with_reducible repeat (first | refine blk_drewN ?_ _ | refine blk_drew ?_ | refine blk_alloc ?_ _)); exact BK102.out) hb); have n1_ := Aside0.mk (below_step (by repeat (first | (with_reducible first | exact HB.out | apply below_alloc | apply pw_below_drewN | apply below_drew1 | refine below_set ?_ GE102.out) | exact HB.out)) hb); clear BK102; clear HB; have BK102 := n0_; have HB := n1_; clear n0_ n1_; (try clear hb); (try clear hb2); (try clear hk); (try clear hi)))
          go_ret
          exact ⟨by first | rfl | (simp [errW_none, errW_some] <;> rfl) | (simp [*, errW_none, errW_some] <;> rfl), by repeat (first | (with_reducible first | exact HB.out | apply below_alloc | apply pw_below_drewN | apply below_drew1 | refine below_set ?_ GE102.out) | exact HB.out)⟩
      ·rw [if_neg c5] at H
       exact absurd H (by simp)
     ·rw [if_neg c4] at H
      exact absurd H (by simp)
    ·rw [if_neg c3] at H
     have c3b0 : decide (x11_1 < (l0.length : Int)) = false := decide_eq_false c3
     clear c3
     obtain rfl := Option.some.inj H
     go_wp2
     go_ret
     exact ⟨by first | rfl | (simp [errW_none, errW_some] <;> rfl) | (simp [*, errW_none, errW_some] <;> rfl), by repeat (first | (with_reducible first | exact HB.out | apply below_alloc | apply pw_below_drewN | apply below_drew1) | exact HB.out)⟩
def toM (x : S94) : Flag.Mp := ⟨x.f0, x.f1.map toE⟩
theorem rd_map (pre : List S94) (x : S94) (t : List S94) {i : Int} (h : i = pre.length) : rd_T94 (pre ++ x :: t) i = x := by
  unfold rd_T94
  rw [h, Int.toNat_natCast, List.getD_eq_getElem?_getD, List.getElem?_append_right (Nat.le_refl _), Nat.sub_self]; rfl
theorem checkM_l (l : List S94) (hl : l.length ≤ 9) (t : List S94) : ∀ (pre : List S94) (e : Int) (k : Nat), l = pre ++ t → 1100 + t.length < k → refs_Check.l0 k e l (l.length : Int) (pre.length : Int) = some (if Flag.risM e (t.map toM) = true then 0 else 9) := by
  induction t with
  | nil =>
    intro pre e k h hk
    obtain ⟨k, rfl⟩ : ∃ m, k = m + 1 := ⟨k - 1, by omega⟩
    rw [refs_Check.l0, if_neg (by rw [h]; simp)]
    rfl
  | cons x t ih =>
    intro pre e k h hk
    rw [List.length_cons] at hk
    obtain ⟨k, rfl⟩ : ∃ m, k = m + 1 := ⟨k - 1, by omega⟩
    have hlen : l.length = pre.length + t.length + 1 := by rw [h]; simp; omega
    have hr : rd_T94 l (pre.length : Int) = x := by rw [h]; exact rd_map pre x t rfl
    have e1 : wrap64 ((pre.length : Int) + 1) = ((pre ++ [x]).length : Int) := by rw [w64 (by omega)]; simp
    rw [refs_Check.l0, if_pos (by omega), if_pos (by omega), if_pos (by omega), hr, e1, List.map_cons, Flag.risM]
    show _ = some (if (decide (e < x.f0) && decide (x.f0 ≤ 255) && decide (Flag.checkE (x.f1.map toE) = 0) && Flag.risM x.f0 (t.map toM)) = true then 0 else 9)
    by_cases c1 : x.f0 ≤ e
    · rw [if_pos c1, decide_eq_false (show ¬ e < x.f0 by omega)]
      simp
    · rw [if_neg c1, decide_eq_true (show e < x.f0 by omega)]
      by_cases c2 : x.f0 > 255
      · rw [if_pos c2, decide_eq_false (show ¬ x.f0 ≤ 255 by omega)]
        simp
      · rw [if_neg c2, decide_eq_true (show x.f0 ≤ 255 by omega)]
        by_cases c4 : x.f1.length ≤ 1024
        · rw [check_x x.f1 (by omega), Option.bind_some]
          by_cases c3 : Flag.checkE (x.f1.map toE) = 0
          · rw [if_pos c3, decide_eq_true c3, ih (pre ++ [x]) x.f0 k (by rw [h]; simp) (by omega)]
            simp
          · rw [if_neg c3, decide_eq_false c3]
            simp
        · have e9 : Flag.checkE (x.f1.map toE) = 9 := by unfold Flag.checkE; rw [if_neg]; intro hh; apply c4; simpa using hh.1
          have ex : extent_Check.f k x.f1 = some 9 := by unfold extent_Check.f; rw [if_pos (by omega)]
          rw [ex, Option.bind_some, e9, if_neg (by omega)]
          simp
theorem check9 (l : List S94) : refs_Check.f 1200 l = some (Flag.checkM (l.map toM)) := by
  unfold refs_Check.f Flag.checkM
  rw [List.length_map]
  by_cases c : (l.length : Int) > 9
  · rw [if_pos c, if_neg (by omega)]
  · rw [if_neg c]
    have h := checkM_l l (by omega) l [] (-1) 1200 rfl (by omega)
    rw [show (([] : List S94).length : Int) = 0 from rfl] at h
    rw [h]
    by_cases c2 : Flag.risM (-1) (l.map toM) = true
    · rw [if_pos c2, if_pos ⟨by omega, c2⟩]
    · rw [if_neg c2, if_neg (fun hh => c2 hh.2)]
def cmp_isNaN_int.f (a0 : Int) : Option (Bool) := some (a0 != a0)
set_option maxHeartbeats 8000000 in
set_option maxRecDepth 100000 in
theorem cmp_isNaN_int.calls (a0 : Int) (r : Bool) (w : World) (h : cmp_isNaN_int.f a0 = some r) :
 Calls Try.prog 138 #[.int .i64 a0] w fun e w' => e = .returned (.bool r) ∧ Drawn0 w w' := by
 have H : (some (a0 != a0)) = some r := h
 clear h
 obtain rfl := Option.some.inj H
 go_enter Try.func138, Try.ntmps138
 go_wp2
 go_ret
 exact ⟨by first | rfl | (simp; done) | (simp [*]; done), by repeat (first | exact Drawn0.refl _ | apply Drawn0.step)⟩
def cmp_Compare_int.f (a0 : Int) (a1 : Int) : Option (Int) := (cmp_isNaN_int.f a0).bind fun t101 => ((cmp_isNaN_int.f a1).bind fun t102 => (if t101 = true then (if t102 = true then (some 0) else (some (-1))) else (if t102 = true then (some 1) else (if a0 < a1 then (some (-1)) else (if a0 > a1 then (some 1) else (some 0))))))
set_option maxHeartbeats 8000000 in
set_option maxRecDepth 100000 in
theorem cmp_Compare_int.calls (a0 : Int) (a1 : Int) (r : Int) (w : World) (h : cmp_Compare_int.f a0 a1 = some r) :
 Calls Try.prog 97 #[.int .i64 a0, .int .i64 a1] w fun e w' => e = .returned (.int .i64 r) ∧ Drawn0 w w' := by
 have H : ((cmp_isNaN_int.f a0).bind fun t101 => ((cmp_isNaN_int.f a1).bind fun t102 => (if t101 = true then (if t102 = true then (some 0) else (some (-1))) else (if t102 = true then (some 1) else (if a0 < a1 then (some (-1)) else (if a0 > a1 then (some 1) else (some 0))))))) = some r := h
 clear h
 replace H := Option.bind_eq_some_iff.mp H
 obtain ⟨t101, A30, H⟩ := H
 replace H : ((cmp_isNaN_int.f a1).bind fun t102 => (if t101 = true then (if t102 = true then (some 0) else (some (-1))) else (if t102 = true then (some 1) else (if a0 < a1 then (some (-1)) else (if a0 > a1 then (some 1) else (some 0)))))) = some r := H
 have A3 := Aside0.mk A30
 clear A30
 replace H := Option.bind_eq_some_iff.mp H
 obtain ⟨t102, A40, H⟩ := H
 replace H : (if t101 = true then (if t102 = true then (some 0) else (some (-1))) else (if t102 = true then (some 1) else (if a0 < a1 then (some (-1)) else (if a0 > a1 then (some 1) else (some 0))))) = some r := H
 have A4 := Aside0.mk A40
 clear A40
 by_cases c5 : t101 = true
 ·subst c5
  have H1 : (if t102 = true then (some 0) else (some (-1))) = some r := by rw [if_pos rfl] at H; exact H
  clear H
  have H := H1
  clear H1
  by_cases c6 : t102 = true
  ·subst c6
   have H1 : (some 0) = some r := by rw [if_pos rfl] at H; exact H
   clear H
   have H := H1
   clear H1
   obtain rfl := Option.some.inj H
   go_enter Try.func97, Try.ntmps97
   go_wp2_with (first | ((with_reducible refine gate_callee (f := 138) rfl ?_); refine goesL_ (some 8) rfl rfl Try.func138 (by kernel_rfl) rfl #[.int .i64 a0] rfl (by (try simp only [List.map_toArray, List.map_cons, List.map_nil]); first | done | rfl | (simp only [List.length_drop, List.length_take]; rfl)) ?_; (with_reducible refine (cmp_isNaN_int.calls a0 true _ A3.out).mono ?_); rintro e w' ⟨rfl, ⟨nd, rfl⟩⟩; refine ⟨_, rfl, ?_⟩) | ((with_reducible refine gate_callee (f := 138) rfl ?_); refine goesL_ (some 10) rfl rfl Try.func138 (by kernel_rfl) rfl #[.int .i64 a1] rfl (by (try simp only [List.map_toArray, List.map_cons, List.map_nil]); first | done | rfl | (simp only [List.length_drop, List.length_take]; rfl)) ?_; (with_reducible refine (cmp_isNaN_int.calls a1 true _ A4.out).mono ?_); rintro e w' ⟨rfl, ⟨nd, rfl⟩⟩; refine ⟨_, rfl, ?_⟩))
   go_ret
   exact ⟨by first | rfl | (simp; done) | (simp [*]; done), by repeat (first | exact Drawn0.refl _ | apply Drawn0.step)⟩
  ·replace c6 := Bool.eq_false_iff.mpr c6
   subst c6
   have H1 : (some (-1)) = some r := by rw [if_neg (show ¬ (false = true) by decide)] at H; exact H
   clear H
   have H := H1
   clear H1
   obtain rfl := Option.some.inj H
   go_enter Try.func97, Try.ntmps97
   go_wp2_with (first | ((with_reducible refine gate_callee (f := 138) rfl ?_); refine goesL_ (some 8) rfl rfl Try.func138 (by kernel_rfl) rfl #[.int .i64 a0] rfl (by (try simp only [List.map_toArray, List.map_cons, List.map_nil]); first | done | rfl | (simp only [List.length_drop, List.length_take]; rfl)) ?_; (with_reducible refine (cmp_isNaN_int.calls a0 true _ A3.out).mono ?_); rintro e w' ⟨rfl, ⟨nd, rfl⟩⟩; refine ⟨_, rfl, ?_⟩) | ((with_reducible refine gate_callee (f := 138) rfl ?_); refine goesL_ (some 10) rfl rfl Try.func138 (by kernel_rfl) rfl #[.int .i64 a1] rfl (by (try simp only [List.map_toArray, List.map_cons, List.map_nil]); first | done | rfl | (simp only [List.length_drop, List.length_take]; rfl)) ?_; (with_reducible refine (cmp_isNaN_int.calls a1 false _ A4.out).mono ?_); rintro e w' ⟨rfl, ⟨nd, rfl⟩⟩; refine ⟨_, rfl, ?_⟩))
   go_ret
   exact ⟨by first | rfl | (simp; done) | (simp [*]; done), by repeat (first | exact Drawn0.refl _ | apply Drawn0.step)⟩
 ·replace c5 := Bool.eq_false_iff.mpr c5
  subst c5
  have H1 : (if t102 = true then (some 1) else (if a0 < a1 then (some (-1)) else (if a0 > a1 then (some 1) else (some 0)))) = some r := by rw [if_neg (show ¬ (false = true) by decide)] at H; exact H
  clear H
  have H := H1
  clear H1
  by_cases c7 : t102 = true
  ·subst c7
   have H1 : (some 1) = some r := by rw [if_pos rfl] at H; exact H
   clear H
   have H := H1
   clear H1
   obtain rfl := Option.some.inj H
   go_enter Try.func97, Try.ntmps97
   go_wp2_with (first | ((with_reducible refine gate_callee (f := 138) rfl ?_); refine goesL_ (some 8) rfl rfl Try.func138 (by kernel_rfl) rfl #[.int .i64 a0] rfl (by (try simp only [List.map_toArray, List.map_cons, List.map_nil]); first | done | rfl | (simp only [List.length_drop, List.length_take]; rfl)) ?_; (with_reducible refine (cmp_isNaN_int.calls a0 false _ A3.out).mono ?_); rintro e w' ⟨rfl, ⟨nd, rfl⟩⟩; refine ⟨_, rfl, ?_⟩) | ((with_reducible refine gate_callee (f := 138) rfl ?_); refine goesL_ (some 10) rfl rfl Try.func138 (by kernel_rfl) rfl #[.int .i64 a1] rfl (by (try simp only [List.map_toArray, List.map_cons, List.map_nil]); first | done | rfl | (simp only [List.length_drop, List.length_take]; rfl)) ?_; (with_reducible refine (cmp_isNaN_int.calls a1 true _ A4.out).mono ?_); rintro e w' ⟨rfl, ⟨nd, rfl⟩⟩; refine ⟨_, rfl, ?_⟩))
   go_ret
   exact ⟨by first | rfl | (simp; done) | (simp [*]; done), by repeat (first | exact Drawn0.refl _ | apply Drawn0.step)⟩
  ·replace c7 := Bool.eq_false_iff.mpr c7
   subst c7
   have H1 : (if a0 < a1 then (some (-1)) else (if a0 > a1 then (some 1) else (some 0))) = some r := by rw [if_neg (show ¬ (false = true) by decide)] at H; exact H
   clear H
   have H := H1
   clear H1
   by_cases c8 : a0 < a1
   ·rw [if_pos c8] at H
    have c8b0 : decide (a0 < a1) = true := decide_eq_true c8
    clear c8
    obtain rfl := Option.some.inj H
    go_enter Try.func97, Try.ntmps97
    go_wp2_with (first | ((with_reducible refine gate_callee (f := 138) rfl ?_); refine goesL_ (some 8) rfl rfl Try.func138 (by kernel_rfl) rfl #[.int .i64 a0] rfl (by (try simp only [List.map_toArray, List.map_cons, List.map_nil]); first | done | rfl | (simp only [List.length_drop, List.length_take]; rfl)) ?_; (with_reducible refine (cmp_isNaN_int.calls a0 false _ A3.out).mono ?_); rintro e w' ⟨rfl, ⟨nd, rfl⟩⟩; refine ⟨_, rfl, ?_⟩) | ((with_reducible refine gate_callee (f := 138) rfl ?_); refine goesL_ (some 10) rfl rfl Try.func138 (by kernel_rfl) rfl #[.int .i64 a1] rfl (by (try simp only [List.map_toArray, List.map_cons, List.map_nil]); first | done | rfl | (simp only [List.length_drop, List.length_take]; rfl)) ?_; (with_reducible refine (cmp_isNaN_int.calls a1 false _ A4.out).mono ?_); rintro e w' ⟨rfl, ⟨nd, rfl⟩⟩; refine ⟨_, rfl, ?_⟩))
    go_ret
    exact ⟨by first | rfl | (simp; done) | (simp [*]; done), by repeat (first | exact Drawn0.refl _ | apply Drawn0.step)⟩
   ·rw [if_neg c8] at H
    have c8b0 : decide (a0 < a1) = false := decide_eq_false c8
    clear c8
    by_cases c9 : a0 > a1
    ·rw [if_pos c9] at H
     have c9b0 : decide (a1 < a0) = true := decide_eq_true c9
     clear c9
     obtain rfl := Option.some.inj H
     go_enter Try.func97, Try.ntmps97
     go_wp2_with (first | ((with_reducible refine gate_callee (f := 138) rfl ?_); refine goesL_ (some 8) rfl rfl Try.func138 (by kernel_rfl) rfl #[.int .i64 a0] rfl (by (try simp only [List.map_toArray, List.map_cons, List.map_nil]); first | done | rfl | (simp only [List.length_drop, List.length_take]; rfl)) ?_; (with_reducible refine (cmp_isNaN_int.calls a0 false _ A3.out).mono ?_); rintro e w' ⟨rfl, ⟨nd, rfl⟩⟩; refine ⟨_, rfl, ?_⟩) | ((with_reducible refine gate_callee (f := 138) rfl ?_); refine goesL_ (some 10) rfl rfl Try.func138 (by kernel_rfl) rfl #[.int .i64 a1] rfl (by (try simp only [List.map_toArray, List.map_cons, List.map_nil]); first | done | rfl | (simp only [List.length_drop, List.length_take]; rfl)) ?_; (with_reducible refine (cmp_isNaN_int.calls a1 false _ A4.out).mono ?_); rintro e w' ⟨rfl, ⟨nd, rfl⟩⟩; refine ⟨_, rfl, ?_⟩))
     go_ret
     exact ⟨by first | rfl | (simp; done) | (simp [*]; done), by repeat (first | exact Drawn0.refl _ | apply Drawn0.step)⟩
    ·rw [if_neg c9] at H
     have c9b0 : decide (a1 < a0) = false := decide_eq_false c9
     clear c9
     obtain rfl := Option.some.inj H
     go_enter Try.func97, Try.ntmps97
     go_wp2_with (first | ((with_reducible refine gate_callee (f := 138) rfl ?_); refine goesL_ (some 8) rfl rfl Try.func138 (by kernel_rfl) rfl #[.int .i64 a0] rfl (by (try simp only [List.map_toArray, List.map_cons, List.map_nil]); first | done | rfl | (simp only [List.length_drop, List.length_take]; rfl)) ?_; (with_reducible refine (cmp_isNaN_int.calls a0 false _ A3.out).mono ?_); rintro e w' ⟨rfl, ⟨nd, rfl⟩⟩; refine ⟨_, rfl, ?_⟩) | ((with_reducible refine gate_callee (f := 138) rfl ?_); refine goesL_ (some 10) rfl rfl Try.func138 (by kernel_rfl) rfl #[.int .i64 a1] rfl (by (try simp only [List.map_toArray, List.map_cons, List.map_nil]); first | done | rfl | (simp only [List.length_drop, List.length_take]; rfl)) ?_; (with_reducible refine (cmp_isNaN_int.calls a1 false _ A4.out).mono ?_); rintro e w' ⟨rfl, ⟨nd, rfl⟩⟩; refine ⟨_, rfl, ?_⟩))
     go_ret
     exact ⟨by first | rfl | (simp; done) | (simp [*]; done), by repeat (first | exact Drawn0.refl _ | apply Drawn0.step)⟩
def cmp_Or_int.l0 : Nat → Int → List Int → Int → Int → Option (Int)
 | 0, _, _, _, _ => none
 | k + 1, x3, x6, x7, x8 => if x8 < x7 then (if 0 ≤ x8 then (if x8 < (x6.length : Int) then (if (rd x6 x8) = x3 then (cmp_Or_int.l0 k x3 x6 x7 (wrap64 (x8 + 1))) else (some (rd x6 x8))) else (none)) else (none)) else (some x3)
def cmp_Or_int.f (k : Nat) (l0 : List Int) : Option (Int) := cmp_Or_int.l0 k 0 l0 (l0.length : Int) 0
theorem cmp_Or_int.mono_l : ∀ k, (∀ y0 y1 y2 y3, LeO (cmp_Or_int.l0 k y0 y1 y2 y3) (cmp_Or_int.l0 (k + 1) y0 y1 y2 y3))
 | 0 => fun _ _ _ _ r h => by simp [cmp_Or_int.l0] at h
 | k + 1 => by
  have ih0 := cmp_Or_int.mono_l k
  ·intro y0 y1 y2 y3
   unfold cmp_Or_int.l0
   repeat' first
   | (with_reducible exact ih0 _ _ _ _)
   | (with_reducible exact LeO.refl _)
   | (with_reducible exact LeO.none _)
   | (with_reducible refine LeO.ite ?_ ?_)
   | (with_reducible refine LeO.bind ?_ (fun _ => ?_))
   | exact ih0 _ _ _ _
   | exact LeO.none _
   | refine LeO.ite ?_ ?_
   | refine LeO.bind ?_ (fun _ => ?_)
theorem cmp_Or_int.mono : ∀ a0 k, LeO (cmp_Or_int.f k a0) (cmp_Or_int.f (k + 1) a0) := by
 intro a0 k
 have ih0 := cmp_Or_int.mono_l k
 unfold cmp_Or_int.f
 repeat' first
  | (with_reducible exact ih0 _ _ _ _)
  | (with_reducible exact LeO.refl _)
  | (with_reducible exact LeO.none _)
  | (with_reducible refine LeO.ite ?_ ?_)
  | (with_reducible refine LeO.bind ?_ (fun _ => ?_))
  | exact ih0 _ _ _ _
  | exact LeO.none _
  | refine LeO.ite ?_ ?_
  | refine LeO.bind ?_ (fun _ => ?_)
set_option maxHeartbeats 8000000 in
set_option maxRecDepth 100000 in
theorem cmp_Or_int.calls (k : Nat) (A0 : Option Addr) (c0 : Nat) (l0 : List Int) (r : Int) (w : World) (hr0 : Kd.C (Kd.int .i64) w A0 l0.length l0) (hc0 : l0.length ≤ c0) (h : cmp_Or_int.f k l0 = some r) :
 Calls Try.prog 145 #[.slice A0 l0.length c0] w fun e w' => e = .returned (.int .i64 r) ∧ Drawn0 w w' := by
 have HR0 := Aside0.mk hr0
 have HC0 := Aside0.mk hc0
 clear hr0 hc0
 have H : (cmp_Or_int.l0 k 0 l0 (l0.length : Int) 0) = some r := h
 clear h
 have H' := Aside0.mk H
 clear H
 go_enter Try.func145, Try.ntmps145
 go_wp2
 go_loopg [8] k (fun kq v8 w' => ∃ (x8_1 : Int), v8 = .int .i64 x8_1 ∧ Aside0 (cmp_Or_int.l0 kq 0 l0 (l0.length : Int) x8_1 = some r) ∧ Aside0 (kq ≤ k) ∧ Drawn0 w w')
 case atStart => exact ⟨(0), (by first | rfl | (simp; done) | (simp [*]; done)), H', ⟨Nat.le_refl _⟩, by repeat (first | exact Drawn0.refl _ | apply Drawn0.step)⟩
 case round =>
  clear H'
  try clear c1
  obtain ⟨x8_1, rfl, HA, HK1, ⟨m1, rfl⟩⟩ := hrel
  cases gk with
  | zero => exact absurd HA.out (by simp [cmp_Or_int.l0])
  | succ k1 =>
   have H := HA.out
   clear HA
   simp only [cmp_Or_int.l0] at H
   by_cases c2 : x8_1 < (l0.length : Int)
   ·rw [if_pos c2] at H
    have c2b0 : decide (x8_1 < (l0.length : Int)) = true := decide_eq_true c2
    clear c2
    by_cases c3 : 0 ≤ x8_1
    ·rw [if_pos c3] at H
     have c3b0 : decide (0 ≤ x8_1) = true := decide_eq_true c3
     clear c3
     by_cases c4 : x8_1 < (l0.length : Int)
     ·rw [if_pos c4] at H
      have c4b0 : decide (x8_1 < (l0.length : Int)) = true := decide_eq_true c4
      clear c4
      by_cases c5 : (rd l0 x8_1) = 0
      ·rw [if_pos c5] at H
       have c5b0 : ((rd l0 x8_1) == 0) = true := beq_iff_eq.mpr c5
       have c5b1 : ((rd l0 x8_1) != 0) = false := bne_eq_false_iff_eq.mpr c5
       clear c5
       have H' := Aside0.mk H
       clear H
       have p101 : 0 ≤ (x8_1 : Int) := of_decide_eq_true (by first | (with_reducible assumption) | assumption)
       have q101 : x8_1 < (l0.length : Int) := of_decide_eq_true (by first | (with_reducible assumption) | assumption)
       obtain ⟨ad101, e101, hx101_0⟩ := Kd.at_int HR0.out x8_1 p101 q101
       cases e101
       replace p101 := eq_true p101
       replace q101 := eq_true q101
       go_wp2
       go_roundg k1
       case measure => have := HK1.out; omega
       case rel => exact ⟨(wrap64 (x8_1 + 1)), (by first | rfl | (simp; done) | (simp [*]; done)), H', ⟨by have := HK1.out; omega⟩, by repeat (first | exact Drawn0.refl _ | apply Drawn0.step)⟩
      ·rw [if_neg c5] at H
       have c5b0 : ((rd l0 x8_1) == 0) = false := beq_eq_false_iff_ne.mpr c5
       have c5b1 : ((rd l0 x8_1) != 0) = true := bne_iff_ne.mpr c5
       obtain rfl := Option.some.inj H
       have p101 : 0 ≤ (x8_1 : Int) := of_decide_eq_true (by first | (with_reducible assumption) | assumption)
       have q101 : x8_1 < (l0.length : Int) := of_decide_eq_true (by first | (with_reducible assumption) | assumption)
       obtain ⟨ad101, e101, hx101_0⟩ := Kd.at_int HR0.out x8_1 p101 q101
       cases e101
       replace p101 := eq_true p101
       replace q101 := eq_true q101
       go_wp2
       go_ret
       exact ⟨by first | rfl | (simp; done) | (simp [*]; done), by repeat (first | exact Drawn0.refl _ | apply Drawn0.step)⟩
     ·rw [if_neg c4] at H
      exact absurd H (by simp)
    ·rw [if_neg c3] at H
     exact absurd H (by simp)
   ·rw [if_neg c2] at H
    have c2b0 : decide (x8_1 < (l0.length : Int)) = false := decide_eq_false c2
    clear c2
    obtain rfl := Option.some.inj H
    go_wp2
    go_ret
    exact ⟨by first | rfl | (simp; done) | (simp [*]; done), by repeat (first | exact Drawn0.refl _ | apply Drawn0.step)⟩
def refs_common.f (a0 : Int) (a1 : Int) (a2_0 : Int) (a2_1 : Int) : Option (Int × Int) := some (mx a0 a2_0, mn (wrap64 ((wrap64 (a0 + a1)) - (mx a0 a2_0))) (wrap64 (a2_1 - (wrap64 ((mx a0 a2_0) - a2_0)))))
set_option maxHeartbeats 8000000 in
set_option maxRecDepth 100000 in
theorem refs_common.calls (a0 : Int) (a1 : Int) (a2_0 : Int) (a2_1 : Int) (r1 : Int) (r2 : Int) (w : World) (h : refs_common.f a0 a1 a2_0 a2_1 = some (r1, r2)) :
 Calls Try.prog 114 #[.int .i64 a0, .int .i64 a1, .agg #[.int .i64 a2_0, .int .i64 a2_1]] w fun e w' => e = .returned (.tuple #[.int .i64 r1, .int .i64 r2]) ∧ Below w.heap.size w w' := by
 have hu40 := Try.underlying40
 have HB := Aside0.mk (Below.refl w.heap.size w)
 have H : (some (mx a0 a2_0, mn (wrap64 ((wrap64 (a0 + a1)) - (mx a0 a2_0))) (wrap64 (a2_1 - (wrap64 ((mx a0 a2_0) - a2_0)))))) = some (r1, r2) := h
 clear h
 obtain ⟨ji4, hji4⟩ : ∃ j_ : Int, (mx a0 a2_0) = j_ := ⟨_, rfl⟩
 replace H : (some (ji4, mn (wrap64 ((wrap64 (a0 + a1)) - (ji4))) (wrap64 (a2_1 - (wrap64 ((ji4) - a2_0)))))) = some (r1, r2) := by first | (rw [hji4] at H; exact H) | (simp only [hji4] at H ⊢; exact H)
 have hji4_ : (if a0 < a2_0 then a2_0 else a0) = ji4 := hji4
 obtain ⟨ji5, hji5⟩ : ∃ j_ : Int, (mn (wrap64 ((wrap64 (a0 + a1)) - (ji4))) (wrap64 (a2_1 - (wrap64 ((ji4) - a2_0))))) = j_ := ⟨_, rfl⟩
 replace H : (some (ji4, ji5)) = some (r1, r2) := by first | (rw [hji5] at H; exact H) | (simp only [hji5] at H ⊢; exact H)
 have hji5_ : (if (wrap64 (a2_1 - (wrap64 ((ji4) - a2_0)))) < (wrap64 ((wrap64 (a0 + a1)) - (ji4))) then (wrap64 (a2_1 - (wrap64 ((ji4) - a2_0)))) else (wrap64 ((wrap64 (a0 + a1)) - (ji4)))) = ji5 := hji5
 simp only [Option.some.injEq, Prod.mk.injEq] at H
 obtain ⟨rfl, rfl⟩ := H
 go_enter Try.func114, Try.ntmps114
 go_wp2_with (first | ((with_reducible refine gate_dst (N := 5) rfl ?_); refine box_event ?hg (N := 5) ?hd (cs := #[.int .i64 a2_0, .int .i64 a2_1]) (t := 40) ?hr ?_; (case hd => rfl); (case hg => rfl); (case hr => first | (go_simp; done) | (go_simp; rfl)); intro gb101 hg w6 hbox hb; have n0_ := Aside0.mk (below_step (by repeat (first | (with_reducible first | exact HB.out | apply below_alloc | apply pw_below_drewN | apply below_drew1) | exact HB.out)) hb); have n1_ := Aside0.mk (hbox); have n2_ := Aside0.mk ((by rw [hg]; exact (below_size (by repeat (first | (with_reducible first | exact HB.out | apply below_alloc | apply pw_below_drewN | apply below_drew1) | exact HB.out))) : w.heap.size ≤ gb101)); have n3_ := Aside0.mk ((by rw [hg]; exact (below_size (by repeat (first | (with_reducible first | exact HB.out | apply below_alloc | apply pw_below_drewN | apply below_drew1) | exact HB.out))) : w.heap.size ≤ gb101)); clear HB; have HB := n0_; have BK101 := n1_; have GW101 := n2_; have GE101 := n3_; clear n0_ n1_ n2_ n3_; clear hb hbox hg; have hcz7_0 : w6.cell? ⟨gb101, 0, none⟩ = some (.int .i64 a2_0) := (blk_cell BK101.out 0).trans rfl; have hcz7_1 : w6.cell? ⟨gb101, 1, none⟩ = some (.int .i64 a2_1) := (blk_cell BK101.out 1).trans rfl; have hfz7_0 := blk_frozen BK101.out 0; have hfz7_1 := blk_frozen BK101.out 1))
 repeat (go_quiet (first | ((with_reducible refine gate_dst (N := 5) rfl ?_); refine box_event ?hg (N := 5) ?hd (cs := #[.int .i64 a2_0, .int .i64 a2_1]) (t := 40) ?hr ?_; (case hd => rfl); (case hg => rfl); (case hr => first | (go_simp; done) | (go_simp; rfl)); intro gb101 hg w6 hbox hb; have n0_ := Aside0.mk (below_step (by repeat (first | (with_reducible first | exact HB.out | apply below_alloc | apply pw_below_drewN | apply below_drew1) | exact HB.out)) hb); have n1_ := Aside0.mk (hbox); have n2_ := Aside0.mk ((by rw [hg]; exact (below_size (by repeat (first | (with_reducible first | exact HB.out | apply below_alloc | apply pw_below_drewN | apply below_drew1) | exact HB.out))) : w.heap.size ≤ gb101)); have n3_ := Aside0.mk ((by rw [hg]; exact (below_size (by repeat (first | (with_reducible first | exact HB.out | apply below_alloc | apply pw_below_drewN | apply below_drew1) | exact HB.out))) : w.heap.size ≤ gb101)); clear HB; have HB := n0_; have BK101 := n1_; have GW101 := n2_; have GE101 := n3_; clear n0_ n1_ n2_ n3_; clear hb hbox hg; have hcz7_0 : w6.cell? ⟨gb101, 0, none⟩ = some (.int .i64 a2_0) := (blk_cell BK101.out 0).trans rfl; have hcz7_1 : w6.cell? ⟨gb101, 1, none⟩ = some (.int .i64 a2_1) := (blk_cell BK101.out 1).trans rfl; have hfz7_0 := blk_frozen BK101.out 0; have hfz7_1 := blk_frozen BK101.out 1)); try go_wp2_with (first | ((with_reducible refine gate_dst (N := 5) rfl ?_); refine box_event ?hg (N := 5) ?hd (cs := #[.int .i64 a2_0, .int .i64 a2_1]) (t := 40) ?hr ?_; (case hd => rfl); (case hg => rfl); (case hr => first | (go_simp; done) | (go_simp; rfl)); intro gb101 hg w6 hbox hb; have n0_ := Aside0.mk (below_step (by repeat (first | (with_reducible first | exact HB.out | apply below_alloc | apply pw_below_drewN | apply below_drew1) | exact HB.out)) hb); have n1_ := Aside0.mk (hbox); have n2_ := Aside0.mk ((by rw [hg]; exact (below_size (by repeat (first | (with_reducible first | exact HB.out | apply below_alloc | apply pw_below_drewN | apply below_drew1) | exact HB.out))) : w.heap.size ≤ gb101)); have n3_ := Aside0.mk ((by rw [hg]; exact (below_size (by repeat (first | (with_reducible first | exact HB.out | apply below_alloc | apply pw_below_drewN | apply below_drew1) | exact HB.out))) : w.heap.size ≤ gb101)); clear HB; have HB := n0_; have BK101 := n1_; have GW101 := n2_; have GE101 := n3_; clear n0_ n1_ n2_ n3_; clear hb hbox hg; have hcz7_0 : w6.cell? ⟨gb101, 0, none⟩ = some (.int .i64 a2_0) := (blk_cell BK101.out 0).trans rfl; have hcz7_1 : w6.cell? ⟨gb101, 1, none⟩ = some (.int .i64 a2_1) := (blk_cell BK101.out 1).trans rfl; have hfz7_0 := blk_frozen BK101.out 0; have hfz7_1 := blk_frozen BK101.out 1)))
 go_ret2
 exact ⟨by first | rfl | (simp [errW_none, errW_some] <;> rfl) | (simp only [← hji4, ← hji5]; first | rfl | (simp [errW_none, errW_some] <;> rfl)) | (simp [*, errW_none, errW_some] <;> rfl), by repeat (first | (with_reducible first | exact HB.out | apply below_alloc | apply pw_below_drewN | apply below_drew1 | refine below_set ?_ GE101.out) | exact HB.out)⟩
def flagstoneplain_CopyExtents.f (l0 : List (S24)) : Option ((List (S24))) := if ([] : List (S24)).length + l0.length < 5864062014805 then (some (([] : List (S24)) ++ l0)) else (none)
set_option maxHeartbeats 8000000 in
set_option maxRecDepth 100000 in
theorem flagstoneplain_CopyExtents.calls (A0 : Option Addr) (c0 : Nat) (l0 : List (S24)) (r : List (S24)) (w : World) (hr0 : Kd.C k24 w A0 l0.length l0) (hc0 : l0.length ≤ c0) (h : flagstoneplain_CopyExtents.f l0 = some r) :
 Calls Try.prog 26 #[.slice A0 l0.length c0] w fun e w' => ∃ v0_ : Value, e = .returned (v0_) ∧ Kd.R k24 24 w' w.heap.size (fun _ => True) v0_ r ∧ Below w.heap.size w w' := by
 have HR0 := Aside0.mk hr0
 have HC0 := Aside0.mk hc0
 clear hr0 hc0
 have HB := Aside0.mk (Below.refl w.heap.size w)
 have H : (if ([] : List (S24)).length + l0.length < 5864062014805 then (some (([] : List (S24)) ++ l0)) else (none)) = some r := h
 clear h
 by_cases c2 : ([] : List (S24)).length + l0.length < 5864062014805
 ·rw [if_pos c2] at H
  have LMc2 := Aside0.mk c2
  clear c2
  obtain ⟨y101, hy101⟩ : ∃ y_ : List (S24), y_ = (([] : List (S24)) ++ l0) := ⟨_, rfl⟩
  replace H : (some y101) = some r := by first | (rw [hy101]; with_reducible exact H) | (have H2_ := (Option.bind_some _ _).symm.trans H; rw [hy101]; with_reducible exact H2_) | (have H2_ := (Option.bind_some _ _).symm.trans H; with_reducible exact H2_) | with_reducible exact H | (rw [hy101]; exact H) | exact H
  have Ny101 := Aside0.mk hy101
  clear hy101
  obtain rfl := Option.some.inj H
  go_enter Try.func26, Try.ntmps26
  go_wp2_with (first | ((with_reducible refine gate_builtin (b := .append) (xs := #[.tmp 4, .tmp 5]) rfl ?_); at_builtin; refine Kd.R_append_rows k24 (w0 := w) w.heap.size rfl (.tmp 4) (.tmp 5) 22 24 (.agg #[(.int .i64 0), (.int .i64 0), (.int .i64 0)]) 24 rfl Try.underlying22 info24 rfl (by decide) (by omega) (.slice none 0 0) ([] : List (S24)) l0 _ _ _ (fun _ => True) (fun _ => False) rfl rfl ?aO ?aR (fun _ _ h => h) (fun _ h => h.elim) ?aF ?aB ?aS ?aL ?_; (case aR => repeat (first | exact HR0.out | (with_reducible refine Kd.C_alloc ?_ _) | (with_reducible refine Kd.C_drewN ?_ _) | (with_reducible refine Kd.C_drew ?_))); (case aB => exact (by repeat (first | (with_reducible first | exact HB.out | apply below_alloc | apply pw_below_drewN | apply below_drew1) | exact HB.out))); (case aF => exact (fun _ _ => trivial)); (case aO => exact ((Kd.R_nil _ _ _ _ (fun _ => True)))); (case aS => exact (below_size (by repeat (first | (with_reducible first | exact HB.out | apply below_alloc | apply pw_below_drewN | apply below_drew1) | exact HB.out)))); (case aL => have := LMc2.out; omega); intro v102 w3 ho hb hg hat; rw [← Ny101.out] at ho; have n0_ := Aside0.mk (hb); have n1_ := Aside0.mk (ho); clear HB; have HB := n0_; have HO103 := n1_; clear n0_ n1_; clear ho hb hg hat))
  go_ret
  exact ⟨_, by first | rfl | (simp [errW_none, errW_some] <;> rfl) | (simp [*, errW_none, errW_some] <;> rfl), by (with_reducible repeat (first | apply Kd.R_alloc | apply Kd.R_drewN | apply Kd.R_drew)); exact HO103.out, by repeat (first | (with_reducible first | exact HB.out | apply below_alloc | apply pw_below_drewN | apply below_drew1) | exact HB.out)⟩
 ·rw [if_neg c2] at H
  exact absurd H (by simp)
end Go.Proofs.Ytkkfkdncddbaeaa.Fn
