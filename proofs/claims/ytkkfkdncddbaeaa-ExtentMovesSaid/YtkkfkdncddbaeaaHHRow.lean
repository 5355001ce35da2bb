-- Told by hand; its numbers filled in by a program of this session.
import Derived.Test.YtkkfkdncddbaeaaFnBase
import Derived.Test.YtkkfkdncddbaeaaHlist_add
namespace Go.Proofs.Ytkkfkdncddbaeaa.Fn
open Go.RowKit Go.Proofs.YtkkfkdncddbaeaaW.PrintWords Go.Proofs.YtkkfkdncddbaeaaW.PrintLast Go.Proofs.YtkkfkdncddbaeaaW.PrintMore
attribute [local go_sem] max2_int min2_int max_two min_two max_three min_three max_four min_four   -- for this text's walks alone
set_option linter.unusedVariables false
set_option linter.unusedSimpArgs false

/-- A variable (block b) that holds a list being laid (xs); B: the blocks that its row is not. -/
def RS (w0 : World) (base : Nat) (B : List Nat) (b : Nat) (xs : List S24) (W : World) : Prop :=
  ∃ v, W.heap[b]? = some (.cells #[v] 140 (0, 0)) ∧ Kd.R k24 24 W base (fun k => k ∉ B) v xs ∧ Below base w0 W ∧ base ≤ b ∧ b ∈ B ∧ ∀ i ∈ B, i < W.heap.size

theorem RS.below {w0 W W1 : World} {base b : Nat} {B : List Nat} {xs : List S24} (h : RS w0 base B b xs W) (hb : Below W.heap.size W W1) : RS w0 base B b xs W1 := by
  obtain ⟨v, h1, h2, h3, h4, h5, h6⟩ := h
  have hlt := h6 b h5
  refine ⟨v, (hb.block b hlt).trans h1, Kd.R_below h2 hb, below_then h3 (by omega) hb, h4, h5, fun i hi => Nat.lt_of_lt_of_le (h6 i hi) hb.size⟩

/-- A new block: the row isn't it. -/
theorem RS.push {w0 W W1 : World} {base b bx : Nat} {B : List Nat} {xs : List S24} (h : RS w0 base B b xs W) (hb : Below W.heap.size W W1) (h1 : W.heap.size ≤ bx) (h2 : bx < W1.heap.size) : RS w0 base (bx :: B) b xs W1 := by
  obtain ⟨v, g1, g2, g3, g4, g5, g6⟩ := h
  have hlt := g6 b g5
  refine ⟨v, (hb.block b hlt).trans g1, Kd.R_mono (Kd.R_below (Kd.R_mono (Kd.R_bound g2) (ok' := fun k => k ∉ bx :: B) (fun k hk => ?_)) hb) (fun _ hk => hk), below_then g3 (by omega) hb, g4, List.mem_cons_of_mem _ g5, fun i hi => ?_⟩
  · intro hm
    rcases List.mem_cons.1 hm with rfl | hm
    · have := hk.2.2.1; omega
    · exact hk.1 hm
  · rcases List.mem_cons.1 hi with rfl | hi
    · exact h2
    · exact Nat.lt_of_lt_of_le (g6 i hi) hb.size

theorem RS.drop {w0 W : World} {base b bx : Nat} {B : List Nat} {xs : List S24} (h : RS w0 base (bx :: B) b xs W) (hb : b ∈ B) : RS w0 base B b xs W := by
  obtain ⟨v, g1, g2, g3, g4, g5, g6⟩ := h
  exact ⟨v, g1, Kd.R_mono g2 (fun k hk hm => hk (List.mem_cons_of_mem _ hm)), g3, g4, hb, fun i hi => g6 i (List.mem_cons_of_mem _ hi)⟩

/-- A store into another of the blocks. -/
theorem RS.set {w0 W : World} {base b bx o : Nat} {B : List Nat} {xs : List S24} (h : RS w0 base B b xs W) (hx : bx ∈ B) (hne : b ≠ bx) (hbase : base ≤ bx) (u : Value) : RS w0 base B b xs (W.setCell ⟨bx, o, none⟩ u) := by
  obtain ⟨v, g1, g2, g3, g4, g5, g6⟩ := h
  refine ⟨v, blk_far g1 hne u, Kd.R_far (p := ⟨bx, o, none⟩) g2 (fun k hk e => hk (by rw [e]; exact hx)) u, g3.setCell (p := ⟨bx, o, none⟩) hbase u, g4, g5, fun i hi => by simpa [World.setCell] using g6 i hi⟩

theorem RS.cell {w0 W : World} {base b : Nat} {B : List Nat} {xs : List S24} (h : RS w0 base B b xs W) : ∃ A c, W.cell? ⟨b, 0, none⟩ = some (.slice A xs.length c) ∧ Kd.R k24 24 W base (fun k => k ∉ B) (.slice A xs.length c) xs := by
  obtain ⟨v, g1, g2, g3, g4, g5, g6⟩ := h
  obtain ⟨A, c, rfl⟩ := Kd.R_slice g2
  exact ⟨A, c, (blk_cell g1 0).trans rfl, g2⟩

theorem RS.old {w0 W : World} {base b : Nat} {B : List Nat} {xs : List S24} (h : RS w0 base B b xs W) : Below base w0 W := by
  obtain ⟨v, g1, g2, g3, g4, g5, g6⟩ := h
  exact g3

/-- out.add(x). -/
theorem RS.add {w0 W : World} {base b : Nat} {B : List Nat} {xs : List S24} (h : RS w0 base B b xs W) (x : S24) (hlen : xs.length < 2147483648) :
    Calls Try.prog 93 #[.pointer (some ⟨b, 0, none⟩), .agg #[.int .i64 x.f0, .int .i64 x.f1, .int .i64 x.f2]] W fun e w' => e = .returned (.tuple #[]) ∧ RS w0 base B b (addG xs x) w' ∧ W.heap.size ≤ w'.heap.size ∧ (∀ i ∈ B, i ≠ b → w'.heap[i]? = W.heap[i]?) := by
  obtain ⟨v, g1, g2, g3, g4, g5, g6⟩ := h
  refine (list_add.calls b v xs x.f0 x.f1 x.f2 W w0 (fun k => k ∉ B) base g1 g2 (fun k hk e => hk (e ▸ g5)) (fun k hk hm => by have := g6 k hm; omega) g3 g4 hlen).mono ?_
  rintro e w' ⟨rfl, v', h1, h2, h3, h4, h5, h6⟩
  refine ⟨rfl, ⟨v', h1, h2, h3, g4, g5, fun i hi => Nat.lt_of_lt_of_le (g6 i hi) h4⟩, h4, fun i hi hne => h5 i (g6 i hi) hne ?_⟩
  intro he
  exact (Kd.R_away g2 (g := i) (fun k hk e => hk (e ▸ hi))) he

theorem RS.of_nil {w0 W : World} {base b : Nat} {B : List Nat} (h1 : W.heap[b]? = some (.cells #[.slice none 0 0] 140 (0, 0))) (h3 : Below base w0 W) (h4 : base ≤ b) (h5 : b ∈ B) (h6 : ∀ i ∈ B, i < W.heap.size) : RS w0 base B b [] W :=
  ⟨.slice none 0 0, h1, Kd.R_nil _ _ _ _ _, h3, h4, h5, h6⟩

theorem addG_length (xs : List S24) (x : S24) : (addG xs x).length ≤ xs.length + 1 := by
  unfold addG
  split
  · omega
  · split
    · rw [List.length_set]; omega
    · simp
theorem addG_fold_length (ps : List S24) : ∀ xs : List S24, (ps.foldl addG xs).length ≤ xs.length + ps.length := by
  induction ps with
  | nil => intro xs; simp
  | cons p t ih =>
    intro xs
    have h1 := ih (addG xs p)
    have h2 := addG_length xs p
    simp only [List.foldl_cons, List.length_cons]
    omega

end Go.Proofs.Ytkkfkdncddbaeaa.Fn
