/- Part 6 of the walk: printed by programs of this session (by way of the kit's print) or told by hand. -/
import Derived.Test.YtkkfkdncddbaeaaU5
namespace Go.Proofs.Ytkkfkdncddbaeaa.Fn
open Go.RowKit Go.Proofs.YtkkfkdncddbaeaaW.PrintWords Go.Proofs.YtkkfkdncddbaeaaW.PrintLast Go.Proofs.YtkkfkdncddbaeaaW.PrintMore
attribute [local go_sem] max2_int min2_int max_two min_two max_three min_three max_four min_four
set_option linter.unusedVariables false
set_option linter.unusedSimpArgs false
mutual
def flagstoneref09_Back.l0 : Nat → List (S118) → List (S86) → Bool → Int → Option ((List (S86)) × Int)
 | 0, _, _, _, _ => none
 | k + 1, x0, x4, x5, x6 => if x6 < (x0.length : Int) then (if 0 ≤ x6 then (if ((rd_T118 x0 x6).f2) < 0 then (flagstoneref09_Back.j1 k x0 x4 x5 x6 true) else (flagstoneref09_Back.j1 k x0 x4 x5 x6 (decide (((rd_T118 x0 x6).f2) > 255)))) else (none)) else (if x5 = true then (some (([] : List (S86)), 6)) else (if (x4.length : Int) > 9 then (some (([] : List (S86)), 3)) else (some (x4, 0))))
def flagstoneref09_Back.j1 : Nat → List (S118) → List (S86) → Bool → Int → Bool → Option ((List (S86)) × Int)
 | 0, _, _, _, _, _ => none
 | k + 1, x0, x4, x5, x6, x37 => if x37 = true then (some (([] : List (S86)), 4)) else (flagstoneref09_Back.l1 k x0 x4 x5 x6 0)
def flagstoneref09_Back.j3 : Nat → List (S118) → List (S86) → Bool → Int → Int → Option ((List (S86)) × Int)
 | 0, _, _, _, _, _ => none
 | k + 1, x0, x4, x5, x6, x7 => if x7 = (x4.length : Int) then (flagstoneref09_Back.j4 k x0 x4 x5 x6 x7 true) else (if 0 ≤ x7 then (if x7 < (x4.length : Int) then (if 0 ≤ x6 then (if x6 < (x0.length : Int) then (flagstoneref09_Back.j4 k x0 x4 x5 x6 x7 (((rd_T86 x4 x7).f0) != ((rd_T118 x0 x6).f2))) else (none)) else (none)) else (none)) else (none))
def flagstoneref09_Back.j4 : Nat → List (S118) → List (S86) → Bool → Int → Int → Bool → Option ((List (S86)) × Int)
 | 0, _, _, _, _, _, _ => none
 | k + 1, x0, x4, x5, x6, x7, x73 => if x73 = true then (if 0 ≤ x7 then (if x7 ≤ (x4.length : Int) then ((some (x4.take (x7 : Int).toNat : List (S86))).bind fun y107 => (if ([] : List (S86)).length + y107.length < 4398046511104 then ((some (([] : List (S86)) ++ y107 : List (S86))).bind fun y112 => (if 0 ≤ x6 then (if x6 < (x0.length : Int) then (if y112.length < 4398046511104 then ((some (y112 ++ [(⟨(rd_T118 x0 x6).f2, ([] : List (S24))⟩ : S86)] : List (S86))).bind fun y116 => ((some (x4.drop (x7 : Int).toNat : List (S86))).bind fun y119 => (if y116.length + y119.length < 4398046511104 then (flagstoneref09_Back.j5 k x0 (y116 ++ y119) x5 x6 x7) else (none)))) else (none)) else (none)) else (none))) else (none))) else (none)) else (none)) else (flagstoneref09_Back.j5 k x0 x4 x5 x6 x7)
def flagstoneref09_Back.j5 : Nat → List (S118) → List (S86) → Bool → Int → Int → Option ((List (S86)) × Int)
 | 0, _, _, _, _, _ => none
 | k + 1, x0, x4, x5, x6, x7 => if 0 ≤ x7 then (if x7 < (x4.length : Int) then (if 0 ≤ x6 then (if x6 < (x0.length : Int) then ((flagstoneref05_Put.f k ((rd_T86 x4 x7).f1) ((rd_T118 x0 x6).f3) ((rd_T118 x0 x6).f0) ((rd_T118 x0 x6).f1)).bind fun bt131 => (if bt131.2 = 0 then ((flagstoneref05_Look.f k ((rd_T86 x4 x7).f1) ((rd_T118 x0 x6).f3) ((rd_T118 x0 x6).f1)).bind fun bt137 => (flagstoneref09_Back.l2 k x0 x4 x5 x6 x7 bt131.1 bt137.1 0)) else (some (([] : List (S86)), 4)))) else (none)) else (none)) else (none)) else (none)
def flagstoneref09_Back.l2 : Nat → List (S118) → List (S86) → Bool → Int → Int → List (S24) → List (S24) → Int → Option ((List (S86)) × Int)
 | 0, _, _, _, _, _, _, _, _ => none
 | k + 1, x0, x4, x5, x6, x7, x10, x12, x14 => if x14 < (x12.length : Int) then (if x5 = true then (flagstoneref09_Back.l2 k x0 x4 true x6 x7 x10 x12 (wrap64 (x14 + 1))) else (if 0 ≤ x14 then (flagstoneref09_Back.l2 k x0 x4 (((rd_T24 x12 x14).f1) != (-1)) x6 x7 x10 x12 (wrap64 (x14 + 1))) else (none))) else (if 0 ≤ x7 then (if x7 < (x4.length : Int) then (flagstoneref09_Back.l0 k x0 (x4.set (x7 : Int).toNat (⟨(rd_T86 x4 x7).f0, x10⟩ : S86)) x5 (wrap64 (x6 + 1))) else (none)) else (none))
def flagstoneref09_Back.l1 : Nat → List (S118) → List (S86) → Bool → Int → Int → Option ((List (S86)) × Int)
 | 0, _, _, _, _, _ => none
 | k + 1, x0, x4, x5, x6, x7 => if x7 < (x4.length : Int) then (if 0 ≤ x7 then (if 0 ≤ x6 then (if x6 < (x0.length : Int) then (if ((rd_T86 x4 x7).f0) < ((rd_T118 x0 x6).f2) then (flagstoneref09_Back.l1 k x0 x4 x5 x6 (wrap64 (x7 + 1))) else (flagstoneref09_Back.j3 k x0 x4 x5 x6 x7)) else (none)) else (none)) else (none)) else (flagstoneref09_Back.j3 k x0 x4 x5 x6 x7)
end
def flagstoneref09_Back.f (k : Nat) (l0 : List (S118)) : Option ((List (S86)) × Int) := if (l0.length : Int) > 4096 then (some (([] : List (S86)), 3)) else (flagstoneref09_Back.l0 k l0 ([] : List (S86)) false 0)
theorem flagstoneref09_Back.mono_l : ∀ k, (∀ y0 y1 y2 y3, LeO (flagstoneref09_Back.l0 k y0 y1 y2 y3) (flagstoneref09_Back.l0 (k + 1) y0 y1 y2 y3)) ∧ (∀ y0 y1 y2 y3 y4, LeO (flagstoneref09_Back.j1 k y0 y1 y2 y3 y4) (flagstoneref09_Back.j1 (k + 1) y0 y1 y2 y3 y4)) ∧ (∀ y0 y1 y2 y3 y4, LeO (flagstoneref09_Back.j3 k y0 y1 y2 y3 y4) (flagstoneref09_Back.j3 (k + 1) y0 y1 y2 y3 y4)) ∧ (∀ y0 y1 y2 y3 y4 y5, LeO (flagstoneref09_Back.j4 k y0 y1 y2 y3 y4 y5) (flagstoneref09_Back.j4 (k + 1) y0 y1 y2 y3 y4 y5)) ∧ (∀ y0 y1 y2 y3 y4, LeO (flagstoneref09_Back.j5 k y0 y1 y2 y3 y4) (flagstoneref09_Back.j5 (k + 1) y0 y1 y2 y3 y4)) ∧ (∀ y0 y1 y2 y3 y4 y5 y6 y7, LeO (flagstoneref09_Back.l2 k y0 y1 y2 y3 y4 y5 y6 y7) (flagstoneref09_Back.l2 (k + 1) y0 y1 y2 y3 y4 y5 y6 y7)) ∧ (∀ y0 y1 y2 y3 y4, LeO (flagstoneref09_Back.l1 k y0 y1 y2 y3 y4) (flagstoneref09_Back.l1 (k + 1) y0 y1 y2 y3 y4))
 | 0 => ⟨fun _ _ _ _ r h => by simp [flagstoneref09_Back.l0] at h, fun _ _ _ _ _ r h => by simp [flagstoneref09_Back.j1] at h, fun _ _ _ _ _ r h => by simp [flagstoneref09_Back.j3] at h, fun _ _ _ _ _ _ r h => by simp [flagstoneref09_Back.j4] at h, fun _ _ _ _ _ r h => by simp [flagstoneref09_Back.j5] at h, fun _ _ _ _ _ _ _ _ r h => by simp [flagstoneref09_Back.l2] at h, fun _ _ _ _ _ r h => by simp [flagstoneref09_Back.l1] at h⟩
 | k + 1 => by
  obtain ⟨ih0, ih1, ih2, ih3, ih4, ih5, ih6⟩ := flagstoneref09_Back.mono_l k
  refine ⟨?_, ?_, ?_, ?_, ?_, ?_, ?_⟩
  ·intro y0 y1 y2 y3
   unfold flagstoneref09_Back.l0
   repeat' first
   | (with_reducible exact ih0 _ _ _ _)
   | (with_reducible exact ih1 _ _ _ _ _)
   | (with_reducible exact ih2 _ _ _ _ _)
   | (with_reducible exact ih3 _ _ _ _ _ _)
   | (with_reducible exact ih4 _ _ _ _ _)
   | (with_reducible exact ih5 _ _ _ _ _ _ _ _)
   | (with_reducible exact ih6 _ _ _ _ _)
   | (with_reducible exact flagstoneref05_Look.mono _ _ _ _)
   | (with_reducible exact flagstoneref05_Put.mono _ _ _ _ _)
   | (with_reducible exact LeO.refl _)
   | (with_reducible exact LeO.none _)
   | (with_reducible refine LeO.ite ?_ ?_)
   | (with_reducible refine LeO.bind ?_ (fun _ => ?_))
   | exact ih0 _ _ _ _
   | exact ih1 _ _ _ _ _
   | exact ih2 _ _ _ _ _
   | exact ih3 _ _ _ _ _ _
   | exact ih4 _ _ _ _ _
   | exact ih5 _ _ _ _ _ _ _ _
   | exact ih6 _ _ _ _ _
   | exact flagstoneref05_Look.mono _ _ _ _
   | exact flagstoneref05_Put.mono _ _ _ _ _
   | exact LeO.none _
   | refine LeO.ite ?_ ?_
   | refine LeO.bind ?_ (fun _ => ?_)
  ·intro y0 y1 y2 y3 y4
   unfold flagstoneref09_Back.j1
   repeat' first
   | (with_reducible exact ih0 _ _ _ _)
   | (with_reducible exact ih1 _ _ _ _ _)
   | (with_reducible exact ih2 _ _ _ _ _)
   | (with_reducible exact ih3 _ _ _ _ _ _)
   | (with_reducible exact ih4 _ _ _ _ _)
   | (with_reducible exact ih5 _ _ _ _ _ _ _ _)
   | (with_reducible exact ih6 _ _ _ _ _)
   | (with_reducible exact flagstoneref05_Look.mono _ _ _ _)
   | (with_reducible exact flagstoneref05_Put.mono _ _ _ _ _)
   | (with_reducible exact LeO.refl _)
   | (with_reducible exact LeO.none _)
   | (with_reducible refine LeO.ite ?_ ?_)
   | (with_reducible refine LeO.bind ?_ (fun _ => ?_))
   | exact ih0 _ _ _ _
   | exact ih1 _ _ _ _ _
   | exact ih2 _ _ _ _ _
   | exact ih3 _ _ _ _ _ _
   | exact ih4 _ _ _ _ _
   | exact ih5 _ _ _ _ _ _ _ _
   | exact ih6 _ _ _ _ _
   | exact flagstoneref05_Look.mono _ _ _ _
   | exact flagstoneref05_Put.mono _ _ _ _ _
   | exact LeO.none _
   | refine LeO.ite ?_ ?_
   | refine LeO.bind ?_ (fun _ => ?_)
  ·intro y0 y1 y2 y3 y4
   unfold flagstoneref09_Back.j3
   repeat' first
   | (with_reducible exact ih0 _ _ _ _)
   | (with_reducible exact ih1 _ _ _ _ _)
   | (with_reducible exact ih2 _ _ _ _ _)
   | (with_reducible exact ih3 _ _ _ _ _ _)
   | (with_reducible exact ih4 _ _ _ _ _)
   | (with_reducible exact ih5 _ _ _ _ _ _ _ _)
   | (with_reducible exact ih6 _ _ _ _ _)
   | (with_reducible exact flagstoneref05_Look.mono _ _ _ _)
   | (with_reducible exact flagstoneref05_Put.mono _ _ _ _ _)
   | (with_reducible exact LeO.refl _)
   | (with_reducible exact LeO.none _)
   | (with_reducible refine LeO.ite ?_ ?_)
   | (with_reducible refine LeO.bind ?_ (fun _ => ?_))
   | exact ih0 _ _ _ _
   | exact ih1 _ _ _ _ _
   | exact ih2 _ _ _ _ _
   | exact ih3 _ _ _ _ _ _
   | exact ih4 _ _ _ _ _
   | exact ih5 _ _ _ _ _ _ _ _
   | exact ih6 _ _ _ _ _
   | exact flagstoneref05_Look.mono _ _ _ _
   | exact flagstoneref05_Put.mono _ _ _ _ _
   | exact LeO.none _
   | refine LeO.ite ?_ ?_
   | refine LeO.bind ?_ (fun _ => ?_)
  ·intro y0 y1 y2 y3 y4 y5
   unfold flagstoneref09_Back.j4
   repeat' first
   | (with_reducible exact ih0 _ _ _ _)
   | (with_reducible exact ih1 _ _ _ _ _)
   | (with_reducible exact ih2 _ _ _ _ _)
   | (with_reducible exact ih3 _ _ _ _ _ _)
   | (with_reducible exact ih4 _ _ _ _ _)
   | (with_reducible exact ih5 _ _ _ _ _ _ _ _)
   | (with_reducible exact ih6 _ _ _ _ _)
   | (with_reducible exact flagstoneref05_Look.mono _ _ _ _)
   | (with_reducible exact flagstoneref05_Put.mono _ _ _ _ _)
   | (with_reducible exact LeO.refl _)
   | (with_reducible exact LeO.none _)
   | (with_reducible refine LeO.ite ?_ ?_)
   | (with_reducible refine LeO.bind ?_ (fun _ => ?_))
   | exact ih0 _ _ _ _
   | exact ih1 _ _ _ _ _
   | exact ih2 _ _ _ _ _
   | exact ih3 _ _ _ _ _ _
   | exact ih4 _ _ _ _ _
   | exact ih5 _ _ _ _ _ _ _ _
   | exact ih6 _ _ _ _ _
   | exact flagstoneref05_Look.mono _ _ _ _
   | exact flagstoneref05_Put.mono _ _ _ _ _
   | exact LeO.none _
   | refine LeO.ite ?_ ?_
   | refine LeO.bind ?_ (fun _ => ?_)
  ·intro y0 y1 y2 y3 y4
   unfold flagstoneref09_Back.j5
   repeat' first
   | (with_reducible exact ih0 _ _ _ _)
   | (with_reducible exact ih1 _ _ _ _ _)
   | (with_reducible exact ih2 _ _ _ _ _)
   | (with_reducible exact ih3 _ _ _ _ _ _)
   | (with_reducible exact ih4 _ _ _ _ _)
   | (with_reducible exact ih5 _ _ _ _ _ _ _ _)
   | (with_reducible exact ih6 _ _ _ _ _)
   | (with_reducible exact flagstoneref05_Look.mono _ _ _ _)
   | (with_reducible exact flagstoneref05_Put.mono _ _ _ _ _)
   | (with_reducible exact LeO.refl _)
   | (with_reducible exact LeO.none _)
   | (with_reducible refine LeO.ite ?_ ?_)
   | (with_reducible refine LeO.bind ?_ (fun _ => ?_))
   | exact ih0 _ _ _ _
   | exact ih1 _ _ _ _ _
   | exact ih2 _ _ _ _ _
   | exact ih3 _ _ _ _ _ _
   | exact ih4 _ _ _ _ _
   | exact ih5 _ _ _ _ _ _ _ _
   | exact ih6 _ _ _ _ _
   | exact flagstoneref05_Look.mono _ _ _ _
   | exact flagstoneref05_Put.mono _ _ _ _ _
   | exact LeO.none _
   | refine LeO.ite ?_ ?_
   | refine LeO.bind ?_ (fun _ => ?_)
  ·intro y0 y1 y2 y3 y4 y5 y6 y7
   unfold flagstoneref09_Back.l2
   repeat' first
   | (with_reducible exact ih0 _ _ _ _)
   | (with_reducible exact ih1 _ _ _ _ _)
   | (with_reducible exact ih2 _ _ _ _ _)
   | (with_reducible exact ih3 _ _ _ _ _ _)
   | (with_reducible exact ih4 _ _ _ _ _)
   | (with_reducible exact ih5 _ _ _ _ _ _ _ _)
   | (with_reducible exact ih6 _ _ _ _ _)
   | (with_reducible exact flagstoneref05_Look.mono _ _ _ _)
   | (with_reducible exact flagstoneref05_Put.mono _ _ _ _ _)
   | (with_reducible exact LeO.refl _)
   | (with_reducible exact LeO.none _)
   | (with_reducible refine LeO.ite ?_ ?_)
   | (with_reducible refine LeO.bind ?_ (fun _ => ?_))
   | exact ih0 _ _ _ _
   | exact ih1 _ _ _ _ _
   | exact ih2 _ _ _ _ _
   | exact ih3 _ _ _ _ _ _
   | exact ih4 _ _ _ _ _
   | exact ih5 _ _ _ _ _ _ _ _
   | exact ih6 _ _ _ _ _
   | exact flagstoneref05_Look.mono _ _ _ _
   | exact flagstoneref05_Put.mono _ _ _ _ _
   | exact LeO.none _
   | refine LeO.ite ?_ ?_
   | refine LeO.bind ?_ (fun _ => ?_)
  ·intro y0 y1 y2 y3 y4
   unfold flagstoneref09_Back.l1
   repeat' first
   | (with_reducible exact ih0 _ _ _ _)
   | (with_reducible exact ih1 _ _ _ _ _)
   | (with_reducible exact ih2 _ _ _ _ _)
   | (with_reducible exact ih3 _ _ _ _ _ _)
   | (with_reducible exact ih4 _ _ _ _ _)
   | (with_reducible exact ih5 _ _ _ _ _ _ _ _)
   | (with_reducible exact ih6 _ _ _ _ _)
   | (with_reducible exact flagstoneref05_Look.mono _ _ _ _)
   | (with_reducible exact flagstoneref05_Put.mono _ _ _ _ _)
   | (with_reducible exact LeO.refl _)
   | (with_reducible exact LeO.none _)
   | (with_reducible refine LeO.ite ?_ ?_)
   | (with_reducible refine LeO.bind ?_ (fun _ => ?_))
   | exact ih0 _ _ _ _
   | exact ih1 _ _ _ _ _
   | exact ih2 _ _ _ _ _
   | exact ih3 _ _ _ _ _ _
   | exact ih4 _ _ _ _ _
   | exact ih5 _ _ _ _ _ _ _ _
   | exact ih6 _ _ _ _ _
   | exact flagstoneref05_Look.mono _ _ _ _
   | exact flagstoneref05_Put.mono _ _ _ _ _
   | exact LeO.none _
   | refine LeO.ite ?_ ?_
   | refine LeO.bind ?_ (fun _ => ?_)
theorem flagstoneref09_Back.mono : ∀ a0 k, LeO (flagstoneref09_Back.f k a0) (flagstoneref09_Back.f (k + 1) a0) := by
 intro a0 k
 obtain ⟨ih0, ih1, ih2, ih3, ih4, ih5, ih6⟩ := flagstoneref09_Back.mono_l k
 unfold flagstoneref09_Back.f
 repeat' first
  | (with_reducible exact ih0 _ _ _ _)
  | (with_reducible exact ih1 _ _ _ _ _)
  | (with_reducible exact ih2 _ _ _ _ _)
  | (with_reducible exact ih3 _ _ _ _ _ _)
  | (with_reducible exact ih4 _ _ _ _ _)
  | (with_reducible exact ih5 _ _ _ _ _ _ _ _)
  | (with_reducible exact ih6 _ _ _ _ _)
  | (with_reducible exact flagstoneref05_Look.mono _ _ _ _)
  | (with_reducible exact flagstoneref05_Put.mono _ _ _ _ _)
  | (with_reducible exact LeO.refl _)
  | (with_reducible exact LeO.none _)
  | (with_reducible refine LeO.ite ?_ ?_)
  | (with_reducible refine LeO.bind ?_ (fun _ => ?_))
  | exact ih0 _ _ _ _
  | exact ih1 _ _ _ _ _
  | exact ih2 _ _ _ _ _
  | exact ih3 _ _ _ _ _ _
  | exact ih4 _ _ _ _ _
  | exact ih5 _ _ _ _ _ _ _ _
  | exact ih6 _ _ _ _ _
  | exact flagstoneref05_Look.mono _ _ _ _
  | exact flagstoneref05_Put.mono _ _ _ _ _
  | exact LeO.none _
  | refine LeO.ite ?_ ?_
  | refine LeO.bind ?_ (fun _ => ?_)
def flagstoneref09_Back.T11 : Bool × List (List Nat × List Nat) := (true, [([], []), ([], []), ([1], [1]), ([0, 2], [0, 2]), ([3], [3]), ([4], [4]), ([4], [4]), ([5, 6, 4], [4, 5, 6]), ([7, 4], [4, 7]), ([8, 4], [4, 8]), ([4], [4]), ([4], [4]), ([10, 11, 4], [4, 10, 11]), ([12, 4], [4, 12]), ([13, 4], [4, 13]), ([9, 14, 4], [4, 9, 14]), ([4, 15], [4, 15])])
def flagstoneref09_Back.B11 : List Nat := [0, 0, 2, 7, 15, 31, 31, 127, 255, 511, 31, 31, 3103, 7199, 15391, 32767, 65535]
theorem flagstoneref09_Back.tab11 : rtab .any (opsOf Try.f76 11) = flagstoneref09_Back.T11 := by kernel_rfl
theorem flagstoneref09_Back.bits11 : waitsOk flagstoneref09_Back.T11.2 flagstoneref09_Back.B11 = true := by kernel_rfl
def flagstoneref09_Back.T13 : Bool × List (List Nat × List Nat) := (true, [([], []), ([], []), ([1], [1]), ([0, 2], [0, 2]), ([3], [3]), ([4], [4]), ([4], [4]), ([5, 6, 4], [4, 5, 6]), ([7, 4], [4, 7]), ([8, 4], [4, 8]), ([4], [4]), ([4], [4]), ([10, 11, 4], [4, 10, 11]), ([12, 4], [4, 12]), ([13, 4], [4, 13]), ([9, 14, 4], [4, 9, 14]), ([4, 15], [4, 15])])
def flagstoneref09_Back.B13 : List Nat := [0, 0, 2, 7, 15, 31, 31, 127, 255, 511, 31, 31, 3103, 7199, 15391, 32767, 65535]
theorem flagstoneref09_Back.tab13 : rtab .any (opsOf Try.f76 13) = flagstoneref09_Back.T13 := by kernel_rfl
theorem flagstoneref09_Back.bits13 : waitsOk flagstoneref09_Back.T13.2 flagstoneref09_Back.B13 = true := by kernel_rfl
def flagstoneref09_Back.T19 : Bool × List (List Nat × List Nat) := (true, [([], []), ([], []), ([], []), ([1, 2], [1, 2]), ([3], [3]), ([4], [4]), ([], []), ([], []), ([6, 7], [6, 7]), ([8], [8]), ([9], [9]), ([], []), ([], []), ([11, 12], [11, 12]), ([13], [13]), ([14], [14]), ([5, 10, 15], [5, 10, 15]), ([0, 16], [0, 16]), ([17], [17]), ([18], [18]), ([18], [18]), ([19, 17, 0, 1, 2, 3, 4, 5, 6, 7, 8, 9, 10, 11, 12, 13, 14, 15, 16, 17, 18, 19], [19]), ([20, 21, 0, 1, 2, 3, 4, 5, 6, 7, 8, 9, 10, 11, 12, 13, 14, 15, 16, 17, 18, 19, 20, 21], [20])])
def flagstoneref09_Back.B19 : List Nat := [0, 0, 0, 6, 14, 30, 0, 0, 192, 448, 960, 0, 0, 6144, 14336, 30720, 65534, 131071, 262143, 524287, 524287, 1048575, 4194303]
theorem flagstoneref09_Back.tab19 : rtab .any (opsOf Try.f76 19) = flagstoneref09_Back.T19 := by kernel_rfl
theorem flagstoneref09_Back.bits19 : waitsOk flagstoneref09_Back.T19.2 flagstoneref09_Back.B19 = true := by kernel_rfl
def flagstoneref09_Back.T22 : Bool × List (List Nat × List Nat) := (true, [([], []), ([], []), ([], []), ([1, 2], [1, 2]), ([3], [3]), ([4], [4]), ([], []), ([], []), ([6, 7], [6, 7]), ([8], [8]), ([9], [9]), ([0, 5, 10], [0, 5, 10]), ([11], [11]), ([12], [12]), ([12], [12]), ([13, 11, 0, 1, 2, 3, 4, 5, 6, 7, 8, 9, 10, 11, 12, 13], [13]), ([14, 15, 0, 1, 2, 3, 4, 5, 6, 7, 8, 9, 10, 11, 12, 13, 14, 15], [14])])
def flagstoneref09_Back.B22 : List Nat := [0, 0, 0, 6, 14, 30, 0, 0, 192, 448, 960, 2047, 4095, 8191, 8191, 16383, 65535]
theorem flagstoneref09_Back.tab22 : rtab .any (opsOf Try.f76 22) = flagstoneref09_Back.T22 := by kernel_rfl
theorem flagstoneref09_Back.bits22 : waitsOk flagstoneref09_Back.T22.2 flagstoneref09_Back.B22 = true := by kernel_rfl
set_option maxHeartbeats 8000000 in
set_option maxRecDepth 100000 in
theorem flagstoneref09_Back.calls (k : Nat) (A0 : Option Addr) (c0 : Nat) (l0 : List (S118)) (r1 : List (S86)) (r2 : Int) (w : World) (hr0 : Kd.C k118 w A0 l0.length l0) (hc0 : l0.length ≤ c0) (h : flagstoneref09_Back.f k l0 = some (r1, r2)) :
 Calls Try.prog 76 #[.slice A0 l0.length c0] w fun e w' => ∃ v0_ : Value, e = .returned (.tuple #[v0_, .int .i64 r2]) ∧ Kd.N k86 86 w' w.heap.size (fun k_ => (w.heap.size ≤ k_)) v0_ r1 ∧ Below w.heap.size w w' := by
 have hu86 := Try.underlying86
 have hu24 := Try.underlying24
 have HR0 := Aside0.mk hr0
 have HC0 := Aside0.mk hc0
 clear hr0 hc0
 have HB := Aside0.mk (Below.refl w.heap.size w)
 have H : (if (l0.length : Int) > 4096 then (some (([] : List (S86)), 3)) else (flagstoneref09_Back.l0 k l0 ([] : List (S86)) false 0)) = some (r1, r2) := h
 clear h
 by_cases c2 : (l0.length : Int) > 4096
 ·rw [if_pos c2] at H
  have c2b0 : decide (4096 < (l0.length : Int)) = true := decide_eq_true c2
  have c2b1 : decide (4096 < l0.length) = true := decide_eq_true (by omega)
  clear c2
  simp only [Option.some.injEq, Prod.mk.injEq] at H
  obtain ⟨rfl, rfl⟩ := H
  go_enter Try.func76, Try.ntmps76
  go_wp2
  go_ret2
  exact ⟨_, by first | rfl | (simp [errW_none, errW_some] <;> rfl) | (simp [*, errW_none, errW_some] <;> rfl), by first | exact Kd.S_nil _ _ _ _ _ | exact Kd.N_nil _ _ _ _ _ | exact Kd.V_nil _ _ _ _ _ | exact Kd.Q_nil _ _ _ _ _ | exact Kd.R_nil _ _ _ _ _, by repeat (first | (with_reducible first | exact HB.out | apply below_alloc | apply pw_below_drewN | apply below_drew1) | exact HB.out)⟩
 ·rw [if_neg c2] at H
  have c2b0 : decide (4096 < (l0.length : Int)) = false := decide_eq_false c2
  have c2b1 : decide (4096 < l0.length) = false := decide_eq_false (by omega)
  clear c2
  have H' := Aside0.mk H
  clear H
  go_enter Try.func76, Try.ntmps76
  go_wp2
  go_loopg [4, 5, 6] k (fun kq v4 v5 v6 w' => ∃ (x4_1 : List (S86)) (x5_1 : Bool) (x6_1 : Int), v5 = .bool x5_1 ∧ v6 = .int .i64 x6_1 ∧ Aside0 (flagstoneref09_Back.l0 kq l0 x4_1 x5_1 x6_1 = some (r1, r2)) ∧ Aside0 (kq ≤ k) ∧ Aside0 (Kd.N k86 86 w' w.heap.size (fun k_ => (w.heap.size ≤ k_)) v4 x4_1) ∧ Aside0 (Below w.heap.size w w'))
  case atStart => exact ⟨(([] : List (S86))), (false), (0), (by first | rfl | (simp; done) | (simp [*]; done)), (by first | rfl | (simp; done) | (simp [*]; done)), H', ⟨Nat.le_refl _⟩, ⟨by first | exact Kd.S_nil _ _ _ _ _ | exact Kd.N_nil _ _ _ _ _ | exact Kd.V_nil _ _ _ _ _ | exact Kd.Q_nil _ _ _ _ _ | exact Kd.R_nil _ _ _ _ _⟩, ⟨by repeat (first | (with_reducible first | exact HB.out | apply below_alloc | apply pw_below_drewN | apply below_drew1) | exact HB.out)⟩⟩
  case round =>
   clear H'
   try clear c2
   try clear c2b0
   try clear c2b1
   try clear p2
   obtain ⟨x4_1, x5_1, x6_1, rfl, rfl, HA, HK1, HO_4, HB⟩ := hrel
   cases gk with
   | zero => exact absurd HA.out (by simp [flagstoneref09_Back.l0])
   | succ k1 =>
    have H := HA.out
    clear HA
    simp only [flagstoneref09_Back.l0] at H
    by_cases c3 : x6_1 < (l0.length : Int)
    ·rw [if_pos c3] at H
     have c3b0 : decide (x6_1 < (l0.length : Int)) = true := decide_eq_true c3
     clear c3
     have HC4 := Aside0.mk H
     clear H
     go_upto_region 8 with (fail)
     go_cut [37] (fun v37 wc => ∃ (kq : Nat) (x37_3 : Bool), v37 = .bool x37_3 ∧ Aside0 (flagstoneref09_Back.j1 kq l0 x4_1 x5_1 x6_1 x37_3 = some (r1, r2)) ∧ Aside0 (kq ≤ k1) ∧ Aside0 (Kd.N k86 86 wc w.heap.size (fun k_ => (w.heap.size ≤ k_)) u4 x4_1) ∧ Aside0 (Below w.heap.size w wc))
     case first =>
      have H := HC4.out
      clear HC4
      by_cases c5 : 0 ≤ x6_1
      ·rw [if_pos c5] at H
       have c5b0 : decide (0 ≤ x6_1) = true := decide_eq_true c5
       clear c5
       (first | rw [c5b0] | (simp only [i64_w, i32_w]; rw [c5b0]) | skip)
       by_cases c6 : ((rd_T118 l0 x6_1).f2) < 0
       ·rw [if_pos c6] at H
        have c6b0 : decide (((rd_T118 l0 x6_1).f2) < 0) = true := decide_eq_true c6
        clear c6
        have H' := Aside0.mk H
        clear H
        have p101 : 0 ≤ (x6_1 : Int) := of_decide_eq_true (by first | (with_reducible assumption) | assumption)
        have q101 : x6_1 < (l0.length : Int) := of_decide_eq_true (by first | (with_reducible assumption) | assumption)
        obtain ⟨ad101, e101, hx101_0, hx101_1, hx101_2, hx101_3⟩ := at_T118 HR0.out x6_1 p101 q101
        cases e101
        replace hx101_0 := (HB.out.cell (World.block_lt_of_cell? w _ hx101_0)).trans hx101_0
        replace hx101_1 := (HB.out.cell (World.block_lt_of_cell? w _ hx101_1)).trans hx101_1
        replace hx101_2 := (HB.out.cell (World.block_lt_of_cell? w _ hx101_2)).trans hx101_2
        replace hx101_3 := (HB.out.cell (World.block_lt_of_cell? w _ hx101_3)).trans hx101_3
        replace p101 := eq_true p101
        replace q101 := eq_true q101
        go_wp2
        go_meet
        case rel => exact ⟨_, (true), (by first | rfl | (simp; done) | (simp [*]; done)), H', ⟨by have := HK1.out; first | omega | exact Nat.le_refl _⟩, ⟨by (with_reducible repeat (first | apply Kd.N_alloc | apply Kd.N_drewN | apply Kd.N_drew)); exact HO_4.out⟩, ⟨by repeat (first | (with_reducible first | exact HB.out | apply below_alloc | apply pw_below_drewN | apply below_drew1) | exact HB.out)⟩⟩
       ·rw [if_neg c6] at H
        have c6b0 : decide (((rd_T118 l0 x6_1).f2) < 0) = false := decide_eq_false c6
        clear c6
        have H' := Aside0.mk H
        clear H
        have p101 : 0 ≤ (x6_1 : Int) := of_decide_eq_true (by first | (with_reducible assumption) | assumption)
        have q101 : x6_1 < (l0.length : Int) := of_decide_eq_true (by first | (with_reducible assumption) | assumption)
        obtain ⟨ad101, e101, hx101_0, hx101_1, hx101_2, hx101_3⟩ := at_T118 HR0.out x6_1 p101 q101
        cases e101
        replace hx101_0 := (HB.out.cell (World.block_lt_of_cell? w _ hx101_0)).trans hx101_0
        replace hx101_1 := (HB.out.cell (World.block_lt_of_cell? w _ hx101_1)).trans hx101_1
        replace hx101_2 := (HB.out.cell (World.block_lt_of_cell? w _ hx101_2)).trans hx101_2
        replace hx101_3 := (HB.out.cell (World.block_lt_of_cell? w _ hx101_3)).trans hx101_3
        replace p101 := eq_true p101
        replace q101 := eq_true q101
        have p102 : 0 ≤ (x6_1 : Int) := of_decide_eq_true (by first | (with_reducible assumption) | assumption)
        have q102 : x6_1 < (l0.length : Int) := of_decide_eq_true (by first | (with_reducible assumption) | assumption)
        obtain ⟨ad102, e102, hx102_0, hx102_1, hx102_2, hx102_3⟩ := at_T118 HR0.out x6_1 p102 q102
        obtain rfl : ad101 = ad102 := (by injection e102)
        replace hx102_0 := (HB.out.cell (World.block_lt_of_cell? w _ hx102_0)).trans hx102_0
        replace hx102_1 := (HB.out.cell (World.block_lt_of_cell? w _ hx102_1)).trans hx102_1
        replace hx102_2 := (HB.out.cell (World.block_lt_of_cell? w _ hx102_2)).trans hx102_2
        replace hx102_3 := (HB.out.cell (World.block_lt_of_cell? w _ hx102_3)).trans hx102_3
        replace p102 := eq_true p102
        replace q102 := eq_true q102
        go_wp2
        go_meet
        case rel => exact ⟨_, (decide (((rd_T118 l0 x6_1).f2) > 255)), (by first | rfl | (simp; done) | (simp [*]; done)), H', ⟨by have := HK1.out; first | omega | exact Nat.le_refl _⟩, ⟨by (with_reducible repeat (first | apply Kd.N_alloc | apply Kd.N_drewN | apply Kd.N_drew)); exact HO_4.out⟩, ⟨by repeat (first | (with_reducible first | exact HB.out | apply below_alloc | apply pw_below_drewN | apply below_drew1) | exact HB.out)⟩⟩
      ·rw [if_neg c5] at H
       exact absurd H (by simp)
     case rest =>
      clear HC4
      try clear p1
      try clear q1
      try clear hx1
      try clear c2
      try clear c2b0
      try clear c2b1
      try clear p2
      try clear c3
      try clear c3b0
      try clear c5
      try clear c5b0
      try clear c6
      try clear c6b0
      try clear hx101_0
      try clear hx101_1
      try clear hx101_2
      try clear hx101_3
      try clear hx102_0
      try clear hx102_1
      try clear hx102_2
      try clear hx102_3
      try clear p101
      try clear p102
      try clear p2
      try clear q101
      try clear q102
      obtain ⟨kq, x37_3, rfl, HA, HJ3, HO_4, HB⟩ := hcut
      cases kq with
      | zero => exact absurd HA.out (by simp [flagstoneref09_Back.j1])
      | succ kj3 =>
       have H := HA.out
       clear HA
       simp only [flagstoneref09_Back.j1] at H
       by_cases c7 : x37_3 = true
       ·subst c7
        have H1 : (some (([] : List (S86)), 4)) = some (r1, r2) := by rw [if_pos rfl] at H; exact H
        clear H
        have H := H1
        clear H1
        simp only [Option.some.injEq, Prod.mk.injEq] at H
        obtain ⟨rfl, rfl⟩ := H
        go_wp2
        go_ret2
        exact ⟨_, by first | rfl | (simp [errW_none, errW_some] <;> rfl) | (simp [*, errW_none, errW_some] <;> rfl), by first | exact Kd.S_nil _ _ _ _ _ | exact Kd.N_nil _ _ _ _ _ | exact Kd.V_nil _ _ _ _ _ | exact Kd.Q_nil _ _ _ _ _ | exact Kd.R_nil _ _ _ _ _, by repeat (first | (with_reducible first | exact HB.out | apply below_alloc | apply pw_below_drewN | apply below_drew1) | exact HB.out)⟩
       ·replace c7 := Bool.eq_false_iff.mpr c7
        subst c7
        have H1 : (flagstoneref09_Back.l1 kj3 l0 x4_1 x5_1 x6_1 0) = some (r1, r2) := by rw [if_neg (show ¬ (false = true) by decide)] at H; exact H
        clear H
        have H := H1
        clear H1
        have HC8 := Aside0.mk H
        clear H
        go_upto_block 2 with (fail)
        go_cut [7] (fun v7 wc => ∃ (kq : Nat) (x7_7 : Int), v7 = .int .i64 x7_7 ∧ Aside0 (flagstoneref09_Back.j3 kq l0 x4_1 x5_1 x6_1 x7_7 = some (r1, r2)) ∧ Aside0 (kq ≤ kj3) ∧ Aside0 (Kd.N k86 86 wc w.heap.size (fun k_ => (w.heap.size ≤ k_)) u4 x4_1) ∧ Aside0 (Below w.heap.size w wc))
        case first =>
         have H := HC8.out
         clear HC8
         have H' := Aside0.mk H
         clear H
         go_wp2
         go_loopg [7] kj3 (fun kq v7 w' => ∃ (x7_3 : Int), v7 = .int .i64 x7_3 ∧ Aside0 (flagstoneref09_Back.l1 kq l0 x4_1 x5_1 x6_1 x7_3 = some (r1, r2)) ∧ Aside0 (kq ≤ kj3) ∧ Aside0 (Kd.N k86 86 w' w.heap.size (fun k_ => (w.heap.size ≤ k_)) u4 x4_1) ∧ Aside0 (Below w.heap.size w w'))
         case atStart => exact ⟨(0), (by first | rfl | (simp; done) | (simp [*]; done)), H', ⟨Nat.le_refl _⟩, ⟨by (with_reducible repeat (first | apply Kd.N_alloc | apply Kd.N_drewN | apply Kd.N_drew)); exact HO_4.out⟩, ⟨by repeat (first | (with_reducible first | exact HB.out | apply below_alloc | apply pw_below_drewN | apply below_drew1) | exact HB.out)⟩⟩
         case round =>
          clear H'
          try clear p1
          try clear q1
          try clear hx1
          try clear c2
          try clear c2b0
          try clear c2b1
          try clear p2
          try clear c3
          try clear c3b0
          try clear c5
          try clear c5b0
          try clear c6
          try clear c6b0
          try clear c7
          try clear hx101_0
          try clear hx101_1
          try clear hx101_2
          try clear hx101_3
          try clear hx102_0
          try clear hx102_1
          try clear hx102_2
          try clear hx102_3
          try clear p1
          try clear p101
          try clear p102
          try clear p2
          try clear q1
          try clear q101
          try clear q102
          obtain ⟨x7_3, rfl, HA, HK3, HO_4, HB⟩ := hrel
          cases gk with
          | zero => exact absurd HA.out (by simp [flagstoneref09_Back.l1])
          | succ k3 =>
           have H := HA.out
           clear HA
           simp only [flagstoneref09_Back.l1] at H
           by_cases c9 : x7_3 < (x4_1.length : Int)
           ·rw [if_pos c9] at H
            have c9b0 : decide (x7_3 < (x4_1.length : Int)) = true := decide_eq_true c9
            clear c9
            (first | rw [c9b0] | (simp only [i64_w, i32_w]; rw [c9b0]) | skip)
            by_cases c10 : 0 ≤ x7_3
            ·rw [if_pos c10] at H
             have c10b0 : decide (0 ≤ x7_3) = true := decide_eq_true c10
             clear c10
             by_cases c11 : 0 ≤ x6_1
             ·rw [if_pos c11] at H
              have c11b0 : decide (0 ≤ x6_1) = true := decide_eq_true c11
              clear c11
              by_cases c12 : x6_1 < (l0.length : Int)
              ·rw [if_pos c12] at H
               have c12b0 : decide (x6_1 < (l0.length : Int)) = true := decide_eq_true c12
               clear c12
               by_cases c13 : ((rd_T86 x4_1 x7_3).f0) < ((rd_T118 l0 x6_1).f2)
               ·rw [if_pos c13] at H
                have c13b0 : decide (((rd_T86 x4_1 x7_3).f0) < ((rd_T118 l0 x6_1).f2)) = true := decide_eq_true c13
                clear c13
                have H' := Aside0.mk H
                clear H
                try go_wp2
                have n0_ := Aside0.mk (Kd.N_drew HO_4.out)
                have n1_ := Aside0.mk (below_drew1 HB.out)
                clear HO_4
                clear HB
                have HO_4 := n0_
                have HB := n1_
                clear n0_ n1_
                obtain ⟨Ao15, co15, eo15⟩ := Kd.N_slice HO_4.out
                (first | subst eo15 | (injection eo15 with f1_ f2_ f3_; have f4_ := f1_.symm; have f5_ := f3_.symm; clear f1_ f2_ f3_; subst f4_; subst f5_))
                have p103 : 0 ≤ (x7_3 : Int) := of_decide_eq_true (by first | (with_reducible assumption) | assumption)
                have q103 : x7_3 < (x4_1.length : Int) := of_decide_eq_true (by first | (with_reducible assumption) | assumption)
                obtain ⟨ad103, A103_1, c103_1, e103, hx103_0, hx103_1, hl103_1, hi103_1⟩ := at_T86 (Kd.N_reads' HO_4.out).2.2 x7_3 p103 q103
                cases e103
                obtain ⟨ce103, hce103, hMe103, hcc103⟩ := Kd.N_get HO_4.out z86 x7_3 p103 (by first | exact q103 | exact of_decide_eq_true (by first | (with_reducible assumption) | assumption) | (have e_ := (Kd.N_reads' HO_4.out).1; omega))
                obtain ⟨ua103_1, uc103_1, rfl, ul103_1, ge103_1⟩ := k86_openF hMe103
                have hv103_1 := hcc103 1 _ rfl
                rw [add_field _ _ 1 (by omega)] at hv103_1
                replace hv103_1 := Option.some.inj (hv103_1.symm.trans hx103_1)
                injection hv103_1 with hva_ hvn_ hvc_
                rw [hva_] at ge103_1
                rw [hvc_] at ul103_1
                have HL103_1 := Aside0.mk (show Kd.V k24 24 _ w.heap.size _ _ ((rd_T86 x4_1 x7_3).f1) from Kd.V_mk ul103_1 ge103_1)
                clear hva_ hvn_ hvc_ ge103_1 ul103_1
                clear hcc103 hce103
                have HR103_1 := Aside0.mk hi103_1
                have HC103_1 := Aside0.mk hl103_1
                clear hi103_1 hl103_1
                replace p103 := eq_true p103
                replace q103 := eq_true q103
                have p104 : 0 ≤ (x6_1 : Int) := of_decide_eq_true (by first | (with_reducible assumption) | assumption)
                have q104 : x6_1 < (l0.length : Int) := of_decide_eq_true (by first | (with_reducible assumption) | assumption)
                obtain ⟨ad104, e104, hx104_0, hx104_1, hx104_2, hx104_3⟩ := at_T118 HR0.out x6_1 p104 q104
                have hw104_3 := hx104_3
                have hw104_2 := hx104_2
                have hw104_1 := hx104_1
                have hw104_0 := hx104_0
                cases e104
                replace hx104_0 := (HB.out.cell (World.block_lt_of_cell? w _ hx104_0)).trans hx104_0
                replace hx104_1 := (HB.out.cell (World.block_lt_of_cell? w _ hx104_1)).trans hx104_1
                replace hx104_2 := (HB.out.cell (World.block_lt_of_cell? w _ hx104_2)).trans hx104_2
                replace hx104_3 := (HB.out.cell (World.block_lt_of_cell? w _ hx104_3)).trans hx104_3
                replace p104 := eq_true p104
                replace q104 := eq_true q104
                refine start_ (n := 17) (S := fun w' => w'.cell? (ad103.add ((x7_3).toNat * 2)) = some (.int .i64 ((rd_T86 x4_1 x7_3).f0)) ∧ w'.cell? ⟨(ad103.add ((x7_3).toNat * 2)).block, (ad103.add ((x7_3).toNat * 2)).off + 1, none⟩ = some (.slice A103_1 ((rd_T86 x4_1 x7_3).f1).length c103_1) ∧ w'.cell? (ad104.add ((x6_1).toNat * 4)) = some (.int .i64 ((rd_T118 l0 x6_1).f0)) ∧ w'.cell? ⟨(ad104.add ((x6_1).toNat * 4)).block, (ad104.add ((x6_1).toNat * 4)).off + 1, none⟩ = some (.int .i64 ((rd_T118 l0 x6_1).f1)) ∧ w'.cell? ⟨(ad104.add ((x6_1).toNat * 4)).block, (ad104.add ((x6_1).toNat * 4)).off + 2, none⟩ = some (.int .i64 ((rd_T118 l0 x6_1).f2)) ∧ w'.cell? ⟨(ad104.add ((x6_1).toNat * 4)).block, (ad104.add ((x6_1).toNat * 4)).off + 3, none⟩ = some (.int .i64 ((rd_T118 l0 x6_1).f3))) (ds := []) #[yF,yF,yF,yF,yF,yF,yF,yF,yF,yF,yF,yF,yF,yF,yF,yF,yF] (by kernel_rfl) rfl rfl ⟨hx103_0, hx103_1, ((HB.out.cell (World.block_lt_of_cell? w _ hw104_0)).trans hw104_0), ((HB.out.cell (World.block_lt_of_cell? w _ hw104_1)).trans hw104_1), ((HB.out.cell (World.block_lt_of_cell? w _ hw104_2)).trans hw104_2), ((HB.out.cell (World.block_lt_of_cell? w _ hw104_3)).trans hw104_3)⟩ (fun hHeld => ?_); refine with_tabW flagstoneref09_Back.tab11 flagstoneref09_Back.bits11 (fun HT_ HW_ => ?_)
                generalize wr.drew = w14 at HO_4 HB HL103_1 HR103_1 hx103_0 hx103_1 hx104_0 hx104_1 hx104_2 hx104_3 hHeld ⊢
                refine pu_ 0 38 17 1 ?_
                refine pu_ 1 39 17 3 ?_
                refine pu_ 2 40 17 7 ?_
                refine pu_ 3 41 17 15 ?_
                refine pu_ 4 42 17 31 ?_
                refine pu_ 5 43 17 63 ?_
                refine pu_ 6 44 17 127 ?_
                refine pu_ 7 45 17 255 ?_
                refine pu_ 8 46 17 511 ?_
                refine pu_ 10 48 17 1535 ?_
                refine pu_ 11 49 17 3583 ?_
                refine pu_ 12 50 17 7679 ?_
                refine pu_ 13 51 17 15871 ?_
                refine tk_ 9 47 17 16383 ?_
                refine tk_ 14 52 17 32767 ?_
                refine pu_ 15 53 17 65535 ?_
                refine pu_ 16 54 17 131071 ?_
                refine done_ (done_of HT_.out (by kernel_rfl)) ?_
                try go_wp2
                go_roundg k3
                case measure => have := HK1.out; have := HJ3.out; have := HK3.out; omega
                case rel => exact ⟨(wrap64 (x7_3 + 1)), (by first | rfl | (simp; done) | (simp [*]; done)), H', ⟨by have := HK1.out; have := HJ3.out; have := HK3.out; omega⟩, ⟨by (with_reducible repeat (first | apply Kd.N_alloc | apply Kd.N_drewN | apply Kd.N_drew)); exact HO_4.out⟩, ⟨by repeat (first | (with_reducible first | exact HB.out | apply below_alloc | apply pw_below_drewN | apply below_drew1) | exact HB.out)⟩⟩
               ·rw [if_neg c13] at H
                have c13b0 : decide (((rd_T86 x4_1 x7_3).f0) < ((rd_T118 l0 x6_1).f2)) = false := decide_eq_false c13
                clear c13
                have H' := Aside0.mk H
                clear H
                try go_wp2
                have n0_ := Aside0.mk (Kd.N_drew HO_4.out)
                have n1_ := Aside0.mk (below_drew1 HB.out)
                clear HO_4
                clear HB
                have HO_4 := n0_
                have HB := n1_
                clear n0_ n1_
                obtain ⟨Ao17, co17, eo17⟩ := Kd.N_slice HO_4.out
                (first | subst eo17 | (injection eo17 with f1_ f2_ f3_; have f4_ := f1_.symm; have f5_ := f3_.symm; clear f1_ f2_ f3_; subst f4_; subst f5_))
                have p103 : 0 ≤ (x7_3 : Int) := of_decide_eq_true (by first | (with_reducible assumption) | assumption)
                have q103 : x7_3 < (x4_1.length : Int) := of_decide_eq_true (by first | (with_reducible assumption) | assumption)
                obtain ⟨ad103, A103_1, c103_1, e103, hx103_0, hx103_1, hl103_1, hi103_1⟩ := at_T86 (Kd.N_reads' HO_4.out).2.2 x7_3 p103 q103
                cases e103
                obtain ⟨ce103, hce103, hMe103, hcc103⟩ := Kd.N_get HO_4.out z86 x7_3 p103 (by first | exact q103 | exact of_decide_eq_true (by first | (with_reducible assumption) | assumption) | (have e_ := (Kd.N_reads' HO_4.out).1; omega))
                obtain ⟨ua103_1, uc103_1, rfl, ul103_1, ge103_1⟩ := k86_openF hMe103
                have hv103_1 := hcc103 1 _ rfl
                rw [add_field _ _ 1 (by omega)] at hv103_1
                replace hv103_1 := Option.some.inj (hv103_1.symm.trans hx103_1)
                injection hv103_1 with hva_ hvn_ hvc_
                rw [hva_] at ge103_1
                rw [hvc_] at ul103_1
                have HL103_1 := Aside0.mk (show Kd.V k24 24 _ w.heap.size _ _ ((rd_T86 x4_1 x7_3).f1) from Kd.V_mk ul103_1 ge103_1)
                clear hva_ hvn_ hvc_ ge103_1 ul103_1
                clear hcc103 hce103
                have HR103_1 := Aside0.mk hi103_1
                have HC103_1 := Aside0.mk hl103_1
                clear hi103_1 hl103_1
                replace p103 := eq_true p103
                replace q103 := eq_true q103
                have p104 : 0 ≤ (x6_1 : Int) := of_decide_eq_true (by first | (with_reducible assumption) | assumption)
                have q104 : x6_1 < (l0.length : Int) := of_decide_eq_true (by first | (with_reducible assumption) | assumption)
                obtain ⟨ad104, e104, hx104_0, hx104_1, hx104_2, hx104_3⟩ := at_T118 HR0.out x6_1 p104 q104
                have hw104_3 := hx104_3
                have hw104_2 := hx104_2
                have hw104_1 := hx104_1
                have hw104_0 := hx104_0
                cases e104
                replace hx104_0 := (HB.out.cell (World.block_lt_of_cell? w _ hx104_0)).trans hx104_0
                replace hx104_1 := (HB.out.cell (World.block_lt_of_cell? w _ hx104_1)).trans hx104_1
                replace hx104_2 := (HB.out.cell (World.block_lt_of_cell? w _ hx104_2)).trans hx104_2
                replace hx104_3 := (HB.out.cell (World.block_lt_of_cell? w _ hx104_3)).trans hx104_3
                replace p104 := eq_true p104
                replace q104 := eq_true q104
                refine start_ (n := 17) (S := fun w' => w'.cell? (ad103.add ((x7_3).toNat * 2)) = some (.int .i64 ((rd_T86 x4_1 x7_3).f0)) ∧ w'.cell? ⟨(ad103.add ((x7_3).toNat * 2)).block, (ad103.add ((x7_3).toNat * 2)).off + 1, none⟩ = some (.slice A103_1 ((rd_T86 x4_1 x7_3).f1).length c103_1) ∧ w'.cell? (ad104.add ((x6_1).toNat * 4)) = some (.int .i64 ((rd_T118 l0 x6_1).f0)) ∧ w'.cell? ⟨(ad104.add ((x6_1).toNat * 4)).block, (ad104.add ((x6_1).toNat * 4)).off + 1, none⟩ = some (.int .i64 ((rd_T118 l0 x6_1).f1)) ∧ w'.cell? ⟨(ad104.add ((x6_1).toNat * 4)).block, (ad104.add ((x6_1).toNat * 4)).off + 2, none⟩ = some (.int .i64 ((rd_T118 l0 x6_1).f2)) ∧ w'.cell? ⟨(ad104.add ((x6_1).toNat * 4)).block, (ad104.add ((x6_1).toNat * 4)).off + 3, none⟩ = some (.int .i64 ((rd_T118 l0 x6_1).f3))) (ds := []) #[yF,yF,yF,yF,yF,yF,yF,yF,yF,yF,yF,yF,yF,yF,yF,yF,yF] (by kernel_rfl) rfl rfl ⟨hx103_0, hx103_1, ((HB.out.cell (World.block_lt_of_cell? w _ hw104_0)).trans hw104_0), ((HB.out.cell (World.block_lt_of_cell? w _ hw104_1)).trans hw104_1), ((HB.out.cell (World.block_lt_of_cell? w _ hw104_2)).trans hw104_2), ((HB.out.cell (World.block_lt_of_cell? w _ hw104_3)).trans hw104_3)⟩ (fun hHeld => ?_); refine with_tabW flagstoneref09_Back.tab11 flagstoneref09_Back.bits11 (fun HT_ HW_ => ?_)
                generalize wr.drew = w16 at HO_4 HB HL103_1 HR103_1 hx103_0 hx103_1 hx104_0 hx104_1 hx104_2 hx104_3 hHeld ⊢
                refine pu_ 0 38 17 1 ?_
                refine pu_ 1 39 17 3 ?_
                refine pu_ 2 40 17 7 ?_
                refine pu_ 3 41 17 15 ?_
                refine pu_ 4 42 17 31 ?_
                refine pu_ 5 43 17 63 ?_
                refine pu_ 6 44 17 127 ?_
                refine pu_ 7 45 17 255 ?_
                refine pu_ 8 46 17 511 ?_
                refine pu_ 10 48 17 1535 ?_
                refine pu_ 11 49 17 3583 ?_
                refine pu_ 12 50 17 7679 ?_
                refine pu_ 13 51 17 15871 ?_
                refine tk_ 9 47 17 16383 ?_
                refine tk_ 14 52 17 32767 ?_
                refine pu_ 15 53 17 65535 ?_
                refine pu_ 16 54 17 131071 ?_
                refine done_ (done_of HT_.out (by kernel_rfl)) ?_
                try go_wp2
                go_meet
                case rel => exact ⟨_, (x7_3), (by first | rfl | (simp; done) | (simp [*]; done)), H', ⟨by have := HK1.out; have := HJ3.out; have := HK3.out; first | omega | exact Nat.le_refl _⟩, ⟨by (with_reducible repeat (first | apply Kd.N_alloc | apply Kd.N_drewN | apply Kd.N_drew)); exact HO_4.out⟩, ⟨by repeat (first | (with_reducible first | exact HB.out | apply below_alloc | apply pw_below_drewN | apply below_drew1) | exact HB.out)⟩⟩
              ·rw [if_neg c12] at H
               exact absurd H (by simp)
             ·rw [if_neg c11] at H
              exact absurd H (by simp)
            ·rw [if_neg c10] at H
             exact absurd H (by simp)
           ·rw [if_neg c9] at H
            have c9b0 : decide (x7_3 < (x4_1.length : Int)) = false := decide_eq_false c9
            clear c9
            (first | rw [c9b0] | (simp only [i64_w, i32_w]; rw [c9b0]) | skip)
            have H' := Aside0.mk H
            clear H
            try go_wp2
            have n0_ := Aside0.mk (Kd.N_drew HO_4.out)
            have n1_ := Aside0.mk (below_drew1 HB.out)
            clear HO_4
            clear HB
            have HO_4 := n0_
            have HB := n1_
            clear n0_ n1_
            obtain ⟨Ao19, co19, eo19⟩ := Kd.N_slice HO_4.out
            (first | subst eo19 | (injection eo19 with f1_ f2_ f3_; have f4_ := f1_.symm; have f5_ := f3_.symm; clear f1_ f2_ f3_; subst f4_; subst f5_))
            refine start_ (n := 17) (S := fun w' => True) (ds := []) #[yF,yF,yF,yF,yF,yF,yF,yF,yF,yF,yF,yF,yF,yF,yF,yF,yF] (by kernel_rfl) rfl rfl trivial (fun hHeld => ?_); refine with_tabW flagstoneref09_Back.tab11 flagstoneref09_Back.bits11 (fun HT_ HW_ => ?_)
            generalize wr.drew = w18 at HO_4 HB hHeld ⊢
            refine pu_ 0 38 17 1 ?_
            refine pu_ 1 39 17 3 ?_
            refine pu_ 2 40 17 7 ?_
            refine pu_ 3 41 17 15 ?_
            refine pu_ 4 42 17 31 ?_
            refine pn_ 5 43 17 63 ?_
            refine pn_ 6 44 17 127 ?_
            refine pn_ 7 45 17 255 ?_
            refine pn_ 8 46 17 511 ?_
            refine pn_ 9 47 17 1023 ?_
            refine pn_ 10 48 17 2047 ?_
            refine pn_ 11 49 17 4095 ?_
            refine pn_ 12 50 17 8191 ?_
            refine pn_ 13 51 17 16383 ?_
            refine pn_ 14 52 17 32767 ?_
            refine pn_ 15 53 17 65535 ?_
            refine pu_ 16 54 17 131071 ?_
            refine done_ (done_of HT_.out (by kernel_rfl)) ?_
            try go_wp2
            go_meet
            case rel => exact ⟨_, (x7_3), (by first | rfl | (simp; done) | (simp [*]; done)), H', ⟨by have := HK1.out; have := HJ3.out; have := HK3.out; first | omega | exact Nat.le_refl _⟩, ⟨by (with_reducible repeat (first | apply Kd.N_alloc | apply Kd.N_drewN | apply Kd.N_drew)); exact HO_4.out⟩, ⟨by repeat (first | (with_reducible first | exact HB.out | apply below_alloc | apply pw_below_drewN | apply below_drew1) | exact HB.out)⟩⟩
        case rest =>
         clear HC8
         try clear c1
         try clear p1
         try clear q1
         try clear hx1
         try clear c2
         try clear c2b0
         try clear c2b1
         try clear p2
         try clear c3
         try clear c3b0
         try clear c5
         try clear c5b0
         try clear c6
         try clear c6b0
         try clear p6
         try clear c7
         try clear c9
         try clear c9b0
         try clear c10
         try clear c10b0
         try clear p10
         try clear q10
         try clear hx10
         try clear c11
         try clear c11b0
         try clear c12
         try clear c12b0
         try clear c13
         try clear c13b0
         try clear hx101_0
         try clear hx101_1
         try clear hx101_2
         try clear hx101_3
         try clear hx102_0
         try clear hx102_1
         try clear hx102_2
         try clear hx102_3
         try clear hx103_0
         try clear hx103_1
         try clear hx104_0
         try clear hx104_1
         try clear hx104_2
         try clear hx104_3
         try clear p1
         try clear p101
         try clear p102
         try clear p103
         try clear p104
         try clear p2
         try clear q1
         try clear q101
         try clear q102
         try clear q103
         try clear q104
         obtain ⟨kq, x7_7, rfl, HA, HJ7, HO_4, HB⟩ := hcut
         cases kq with
         | zero => exact absurd HA.out (by simp [flagstoneref09_Back.j3])
         | succ kj7 =>
          have H := HA.out
          clear HA
          simp only [flagstoneref09_Back.j3] at H
          have HC20 := Aside0.mk H
          clear H
          go_upto_region 13 with (fail)
          go_cut [73] (fun v73 wc => ∃ (kq : Nat) (x73_19 : Bool), v73 = .bool x73_19 ∧ Aside0 (flagstoneref09_Back.j4 kq l0 x4_1 x5_1 x6_1 x7_7 x73_19 = some (r1, r2)) ∧ Aside0 (kq ≤ kj7) ∧ Aside0 (Kd.N k86 86 wc w.heap.size (fun k_ => (w.heap.size ≤ k_)) u4 x4_1) ∧ Aside0 (Below w.heap.size w wc))
          case first =>
           have H := HC20.out
           clear HC20
           by_cases c21 : x7_7 = (x4_1.length : Int)
           ·rw [if_pos c21] at H
            have c21b0 : (x7_7 == (x4_1.length : Int)) = true := beq_iff_eq.mpr c21
            have c21b1 : (x7_7 != (x4_1.length : Int)) = false := bne_eq_false_iff_eq.mpr c21
            clear c21
            (first | rw [c21b0] | (simp only [i64_w, i32_w]; rw [c21b0]) | skip)
            have H' := Aside0.mk H
            clear H
            try go_wp2
            have n0_ := Aside0.mk (Kd.N_drew HO_4.out)
            have n1_ := Aside0.mk (below_drew1 HB.out)
            clear HO_4
            clear HB
            have HO_4 := n0_
            have HB := n1_
            clear n0_ n1_
            obtain ⟨Ao23, co23, eo23⟩ := Kd.N_slice HO_4.out
            (first | subst eo23 | (injection eo23 with f1_ f2_ f3_; have f4_ := f1_.symm; have f5_ := f3_.symm; clear f1_ f2_ f3_; subst f4_; subst f5_))
            refine start_ (n := 17) (S := fun w' => True) (ds := []) #[yF,yF,yF,yF,yF,yF,yF,yF,yF,yF,yF,yF,yF,yF,yF,yF,yF] (by kernel_rfl) rfl rfl trivial (fun hHeld => ?_); refine with_tabW flagstoneref09_Back.tab13 flagstoneref09_Back.bits13 (fun HT_ HW_ => ?_)
            generalize wc.drew = w22 at HO_4 HB hHeld ⊢
            refine pu_ 0 57 17 1 ?_
            refine pu_ 1 58 17 3 ?_
            refine pu_ 2 59 17 7 ?_
            refine pu_ 3 60 17 15 ?_
            refine pu_ 4 61 17 31 ?_
            refine pn_ 5 62 17 63 ?_
            refine pn_ 6 63 17 127 ?_
            refine pn_ 7 64 17 255 ?_
            refine pn_ 8 65 17 511 ?_
            refine pn_ 9 66 17 1023 ?_
            refine pn_ 10 67 17 2047 ?_
            refine pn_ 11 68 17 4095 ?_
            refine pn_ 12 69 17 8191 ?_
            refine pn_ 13 70 17 16383 ?_
            refine pn_ 14 71 17 32767 ?_
            refine pn_ 15 72 17 65535 ?_
            refine pu_ 16 73 17 131071 ?_
            refine done_ (done_of HT_.out (by kernel_rfl)) ?_
            try go_wp2
            go_meet
            case rel => exact ⟨_, (true), (by first | rfl | (simp; done) | (simp [*]; done)), H', ⟨by have := HK1.out; have := HJ3.out; have := HJ7.out; first | omega | exact Nat.le_refl _⟩, ⟨by (with_reducible repeat (first | apply Kd.N_alloc | apply Kd.N_drewN | apply Kd.N_drew)); exact HO_4.out⟩, ⟨by repeat (first | (with_reducible first | exact HB.out | apply below_alloc | apply pw_below_drewN | apply below_drew1) | exact HB.out)⟩⟩
           ·rw [if_neg c21] at H
            have c21b0 : (x7_7 == (x4_1.length : Int)) = false := beq_eq_false_iff_ne.mpr c21
            have c21b1 : (x7_7 != (x4_1.length : Int)) = true := bne_iff_ne.mpr c21
            (first | rw [c21b0] | (simp only [i64_w, i32_w]; rw [c21b0]) | skip)
            by_cases c24 : 0 ≤ x7_7
            ·rw [if_pos c24] at H
             have c24b0 : decide (0 ≤ x7_7) = true := decide_eq_true c24
             clear c24
             by_cases c25 : x7_7 < (x4_1.length : Int)
             ·rw [if_pos c25] at H
              have c25b0 : decide (x7_7 < (x4_1.length : Int)) = true := decide_eq_true c25
              clear c25
              by_cases c26 : 0 ≤ x6_1
              ·rw [if_pos c26] at H
               have c26b0 : decide (0 ≤ x6_1) = true := decide_eq_true c26
               clear c26
               by_cases c27 : x6_1 < (l0.length : Int)
               ·rw [if_pos c27] at H
                have c27b0 : decide (x6_1 < (l0.length : Int)) = true := decide_eq_true c27
                clear c27
                have H' := Aside0.mk H
                clear H
                try go_wp2
                have n0_ := Aside0.mk (Kd.N_drew HO_4.out)
                have n1_ := Aside0.mk (below_drew1 HB.out)
                clear HO_4
                clear HB
                have HO_4 := n0_
                have HB := n1_
                clear n0_ n1_
                obtain ⟨Ao29, co29, eo29⟩ := Kd.N_slice HO_4.out
                (first | subst eo29 | (injection eo29 with f1_ f2_ f3_; have f4_ := f1_.symm; have f5_ := f3_.symm; clear f1_ f2_ f3_; subst f4_; subst f5_))
                have p105 : 0 ≤ (x7_7 : Int) := of_decide_eq_true (by first | (with_reducible assumption) | assumption)
                have q105 : x7_7 < (x4_1.length : Int) := of_decide_eq_true (by first | (with_reducible assumption) | assumption)
                obtain ⟨ad105, A105_1, c105_1, e105, hx105_0, hx105_1, hl105_1, hi105_1⟩ := at_T86 (Kd.N_reads' HO_4.out).2.2 x7_7 p105 q105
                cases e105
                obtain ⟨ce105, hce105, hMe105, hcc105⟩ := Kd.N_get HO_4.out z86 x7_7 p105 (by first | exact q105 | exact of_decide_eq_true (by first | (with_reducible assumption) | assumption) | (have e_ := (Kd.N_reads' HO_4.out).1; omega))
                obtain ⟨ua105_1, uc105_1, rfl, ul105_1, ge105_1⟩ := k86_openF hMe105
                have hv105_1 := hcc105 1 _ rfl
                rw [add_field _ _ 1 (by omega)] at hv105_1
                replace hv105_1 := Option.some.inj (hv105_1.symm.trans hx105_1)
                injection hv105_1 with hva_ hvn_ hvc_
                rw [hva_] at ge105_1
                rw [hvc_] at ul105_1
                have HL105_1 := Aside0.mk (show Kd.V k24 24 _ w.heap.size _ _ ((rd_T86 x4_1 x7_7).f1) from Kd.V_mk ul105_1 ge105_1)
                clear hva_ hvn_ hvc_ ge105_1 ul105_1
                clear hcc105 hce105
                have HR105_1 := Aside0.mk hi105_1
                have HC105_1 := Aside0.mk hl105_1
                clear hi105_1 hl105_1
                replace p105 := eq_true p105
                replace q105 := eq_true q105
                have p106 : 0 ≤ (x6_1 : Int) := of_decide_eq_true (by first | (with_reducible assumption) | assumption)
                have q106 : x6_1 < (l0.length : Int) := of_decide_eq_true (by first | (with_reducible assumption) | assumption)
                obtain ⟨ad106, e106, hx106_0, hx106_1, hx106_2, hx106_3⟩ := at_T118 HR0.out x6_1 p106 q106
                have hw106_3 := hx106_3
                have hw106_2 := hx106_2
                have hw106_1 := hx106_1
                have hw106_0 := hx106_0
                cases e106
                replace hx106_0 := (HB.out.cell (World.block_lt_of_cell? w _ hx106_0)).trans hx106_0
                replace hx106_1 := (HB.out.cell (World.block_lt_of_cell? w _ hx106_1)).trans hx106_1
                replace hx106_2 := (HB.out.cell (World.block_lt_of_cell? w _ hx106_2)).trans hx106_2
                replace hx106_3 := (HB.out.cell (World.block_lt_of_cell? w _ hx106_3)).trans hx106_3
                replace p106 := eq_true p106
                replace q106 := eq_true q106
                refine start_ (n := 17) (S := fun w' => w'.cell? (ad105.add ((x7_7).toNat * 2)) = some (.int .i64 ((rd_T86 x4_1 x7_7).f0)) ∧ w'.cell? ⟨(ad105.add ((x7_7).toNat * 2)).block, (ad105.add ((x7_7).toNat * 2)).off + 1, none⟩ = some (.slice A105_1 ((rd_T86 x4_1 x7_7).f1).length c105_1) ∧ w'.cell? (ad106.add ((x6_1).toNat * 4)) = some (.int .i64 ((rd_T118 l0 x6_1).f0)) ∧ w'.cell? ⟨(ad106.add ((x6_1).toNat * 4)).block, (ad106.add ((x6_1).toNat * 4)).off + 1, none⟩ = some (.int .i64 ((rd_T118 l0 x6_1).f1)) ∧ w'.cell? ⟨(ad106.add ((x6_1).toNat * 4)).block, (ad106.add ((x6_1).toNat * 4)).off + 2, none⟩ = some (.int .i64 ((rd_T118 l0 x6_1).f2)) ∧ w'.cell? ⟨(ad106.add ((x6_1).toNat * 4)).block, (ad106.add ((x6_1).toNat * 4)).off + 3, none⟩ = some (.int .i64 ((rd_T118 l0 x6_1).f3))) (ds := []) #[yF,yF,yF,yF,yF,yF,yF,yF,yF,yF,yF,yF,yF,yF,yF,yF,yF] (by kernel_rfl) rfl rfl ⟨hx105_0, hx105_1, ((HB.out.cell (World.block_lt_of_cell? w _ hw106_0)).trans hw106_0), ((HB.out.cell (World.block_lt_of_cell? w _ hw106_1)).trans hw106_1), ((HB.out.cell (World.block_lt_of_cell? w _ hw106_2)).trans hw106_2), ((HB.out.cell (World.block_lt_of_cell? w _ hw106_3)).trans hw106_3)⟩ (fun hHeld => ?_); refine with_tabW flagstoneref09_Back.tab13 flagstoneref09_Back.bits13 (fun HT_ HW_ => ?_)
                generalize wc.drew = w28 at HO_4 HB HL105_1 HR105_1 hx105_0 hx105_1 hx106_0 hx106_1 hx106_2 hx106_3 hHeld ⊢
                refine pu_ 0 57 17 1 ?_
                refine pu_ 1 58 17 3 ?_
                refine pu_ 2 59 17 7 ?_
                refine pu_ 3 60 17 15 ?_
                refine pu_ 4 61 17 31 ?_
                refine pu_ 5 62 17 63 ?_
                refine pu_ 6 63 17 127 ?_
                refine pu_ 7 64 17 255 ?_
                refine pu_ 8 65 17 511 ?_
                refine pu_ 10 67 17 1535 ?_
                refine pu_ 11 68 17 3583 ?_
                refine pu_ 12 69 17 7679 ?_
                refine pu_ 13 70 17 15871 ?_
                refine tk_ 9 66 17 16383 ?_
                refine tk_ 14 71 17 32767 ?_
                refine pu_ 15 72 17 65535 ?_
                refine pu_ 16 73 17 131071 ?_
                refine done_ (done_of HT_.out (by kernel_rfl)) ?_
                try go_wp2
                go_meet
                case rel => exact ⟨_, ((((rd_T86 x4_1 x7_7).f0) != ((rd_T118 l0 x6_1).f2))), (by first | rfl | (simp; done) | (simp [*]; done)), H', ⟨by have := HK1.out; have := HJ3.out; have := HJ7.out; first | omega | exact Nat.le_refl _⟩, ⟨by (with_reducible repeat (first | apply Kd.N_alloc | apply Kd.N_drewN | apply Kd.N_drew)); exact HO_4.out⟩, ⟨by repeat (first | (with_reducible first | exact HB.out | apply below_alloc | apply pw_below_drewN | apply below_drew1) | exact HB.out)⟩⟩
               ·rw [if_neg c27] at H
                exact absurd H (by simp)
              ·rw [if_neg c26] at H
               exact absurd H (by simp)
             ·rw [if_neg c25] at H
              exact absurd H (by simp)
            ·rw [if_neg c24] at H
             exact absurd H (by simp)
          case rest =>
           clear HC20
           try clear c1
           try clear p1
           try clear q1
           try clear hx1
           try clear c2
           try clear c2b0
           try clear c2b1
           try clear p2
           try clear c3
           try clear c3b0
           try clear c5
           try clear c5b0
           try clear c6
           try clear c6b0
           try clear p6
           try clear c7
           try clear c9
           try clear c9b0
           try clear c10
           try clear c10b0
           try clear p10
           try clear q10
           try clear hx10
           try clear c11
           try clear c11b0
           try clear c12
           try clear c12b0
           try clear c13
           try clear c13b0
           try clear c21
           try clear c21b0
           try clear c21b1
           try clear c24
           try clear c24b0
           try clear c25
           try clear c25b0
           try clear c26
           try clear c26b0
           try clear c27
           try clear c27b0
           try clear hx101_0
           try clear hx101_1
           try clear hx101_2
           try clear hx101_3
           try clear hx102_0
           try clear hx102_1
           try clear hx102_2
           try clear hx102_3
           try clear hx103_0
           try clear hx103_1
           try clear hx104_0
           try clear hx104_1
           try clear hx104_2
           try clear hx104_3
           try clear hx105_0
           try clear hx105_1
           try clear hx106_0
           try clear hx106_1
           try clear hx106_2
           try clear hx106_3
           try clear p1
           try clear p10
           try clear p101
           try clear p102
           try clear p103
           try clear p104
           try clear p105
           try clear p106
           try clear p2
           try clear p6
           try clear q1
           try clear q10
           try clear q101
           try clear q102
           try clear q103
           try clear q104
           try clear q105
           try clear q106
           obtain ⟨kq, x73_19, rfl, HA, HJ19, HO_4, HB⟩ := hcut
           cases kq with
           | zero => exact absurd HA.out (by simp [flagstoneref09_Back.j4])
           | succ kj19 =>
            have H := HA.out
            clear HA
            simp only [flagstoneref09_Back.j4] at H
            have HC30 := Aside0.mk H
            clear H
            go_upto_if 73 with (fail)
            go_cut [4] (fun v4 wc => ∃ (kq : Nat) (x4_29 : List (S86)), Aside0 (flagstoneref09_Back.j5 kq l0 x4_29 x5_1 x6_1 x7_7 = some (r1, r2)) ∧ Aside0 (kq ≤ kj19) ∧ Aside0 (Kd.N k86 86 wc w.heap.size (fun k_ => (w.heap.size ≤ k_)) v4 x4_29) ∧ Aside0 (Below w.heap.size w wc))
            case first =>
             have H := HC30.out
             clear HC30
             by_cases c31 : x73_19 = true
             ·subst c31
              have H1 : (if 0 ≤ x7_7 then (if x7_7 ≤ (x4_1.length : Int) then ((some (x4_1.take (x7_7 : Int).toNat : List (S86))).bind fun y107 => (if ([] : List (S86)).length + y107.length < 4398046511104 then ((some (([] : List (S86)) ++ y107 : List (S86))).bind fun y112 => (if 0 ≤ x6_1 then (if x6_1 < (l0.length : Int) then (if y112.length < 4398046511104 then ((some (y112 ++ [(⟨(rd_T118 l0 x6_1).f2, ([] : List (S24))⟩ : S86)] : List (S86))).bind fun y116 => ((some (x4_1.drop (x7_7 : Int).toNat : List (S86))).bind fun y119 => (if y116.length + y119.length < 4398046511104 then (flagstoneref09_Back.j5 kj19 l0 (y116 ++ y119) x5_1 x6_1 x7_7) else (none)))) else (none)) else (none)) else (none))) else (none))) else (none)) else (none)) = some (r1, r2) := by rw [if_pos rfl] at H; exact H
              clear H
              have H := H1
              clear H1
              by_cases c32 : 0 ≤ x7_7
              ·rw [if_pos c32] at H
               have c32b0 := eq_true c32
               have c32b1 : decide (0 ≤ x7_7) = true := decide_eq_true c32
               clear c32
               by_cases c33 : x7_7 ≤ (x4_1.length : Int)
               ·rw [if_pos c33] at H
                have c33b0 := eq_true c33
                have c33b1 : decide (x7_7 ≤ (x4_1.length : Int)) = true := decide_eq_true c33
                clear c33
                obtain ⟨y107, hy107⟩ : ∃ y_ : List (S86), y_ = (x4_1.take (x7_7 : Int).toNat) := ⟨_, rfl⟩
                replace H : (if ([] : List (S86)).length + y107.length < 4398046511104 then ((some (([] : List (S86)) ++ y107 : List (S86))).bind fun y112 => (if 0 ≤ x6_1 then (if x6_1 < (l0.length : Int) then (if y112.length < 4398046511104 then ((some (y112 ++ [(⟨(rd_T118 l0 x6_1).f2, ([] : List (S24))⟩ : S86)] : List (S86))).bind fun y116 => ((some (x4_1.drop (x7_7 : Int).toNat : List (S86))).bind fun y119 => (if y116.length + y119.length < 4398046511104 then (flagstoneref09_Back.j5 kj19 l0 (y116 ++ y119) x5_1 x6_1 x7_7) else (none)))) else (none)) else (none)) else (none))) else (none)) = some (r1, r2) := by first | (rw [hy107]; with_reducible exact H) | (have H2_ := (Option.bind_some _ _).symm.trans H; rw [hy107]; with_reducible exact H2_) | (have H2_ := (Option.bind_some _ _).symm.trans H; with_reducible exact H2_) | with_reducible exact H | (rw [hy107]; exact H) | exact H
                have Ny107 := Aside0.mk hy107
                clear hy107
                by_cases c34 : ([] : List (S86)).length + y107.length < 4398046511104
                ·rw [if_pos c34] at H
                 have LMc34 := Aside0.mk c34
                 clear c34
                 obtain ⟨y112, hy112⟩ : ∃ y_ : List (S86), y_ = (([] : List (S86)) ++ y107) := ⟨_, rfl⟩
                 replace H : (if 0 ≤ x6_1 then (if x6_1 < (l0.length : Int) then (if y112.length < 4398046511104 then ((some (y112 ++ [(⟨(rd_T118 l0 x6_1).f2, ([] : List (S24))⟩ : S86)] : List (S86))).bind fun y116 => ((some (x4_1.drop (x7_7 : Int).toNat : List (S86))).bind fun y119 => (if y116.length + y119.length < 4398046511104 then (flagstoneref09_Back.j5 kj19 l0 (y116 ++ y119) x5_1 x6_1 x7_7) else (none)))) else (none)) else (none)) else (none)) = some (r1, r2) := by first | (rw [hy112]; with_reducible exact H) | (have H2_ := (Option.bind_some _ _).symm.trans H; rw [hy112]; with_reducible exact H2_) | (have H2_ := (Option.bind_some _ _).symm.trans H; with_reducible exact H2_) | with_reducible exact H | (rw [hy112]; exact H) | exact H
                 have Ny112 := Aside0.mk hy112
                 clear hy112
                 by_cases c35 : 0 ≤ x6_1
                 ·rw [if_pos c35] at H
                  have c35b0 : decide (0 ≤ x6_1) = true := decide_eq_true c35
                  clear c35
                  (first | rw [c35b0] | (simp only [i64_w, i32_w]; rw [c35b0]) | skip)
                  by_cases c36 : x6_1 < (l0.length : Int)
                  ·rw [if_pos c36] at H
                   have c36b0 : decide (x6_1 < (l0.length : Int)) = true := decide_eq_true c36
                   clear c36
                   by_cases c37 : y112.length < 4398046511104
                   ·rw [if_pos c37] at H
                    have LMc37 := Aside0.mk c37
                    clear c37
                    obtain ⟨y116, hy116⟩ : ∃ y_ : List (S86), y_ = (y112 ++ [(⟨(rd_T118 l0 x6_1).f2, ([] : List (S24))⟩ : S86)]) := ⟨_, rfl⟩
                    replace H : ((some (x4_1.drop (x7_7 : Int).toNat : List (S86))).bind fun y119 => (if y116.length + y119.length < 4398046511104 then (flagstoneref09_Back.j5 kj19 l0 (y116 ++ y119) x5_1 x6_1 x7_7) else (none))) = some (r1, r2) := by first | (rw [hy116]; with_reducible exact H) | (have H2_ := (Option.bind_some _ _).symm.trans H; rw [hy116]; with_reducible exact H2_) | (have H2_ := (Option.bind_some _ _).symm.trans H; with_reducible exact H2_) | with_reducible exact H | (rw [hy116]; exact H) | exact H
                    have Ny116 := Aside0.mk hy116
                    clear hy116
                    have c38b0 := eq_true (of_decide_eq_true (by first | (with_reducible assumption) | assumption) : 0 ≤ x7_7)
                    have c39b0 := eq_true (of_decide_eq_true (by first | (with_reducible assumption) | assumption) : x7_7 ≤ (x4_1.length : Int))
                    obtain ⟨y119, hy119⟩ : ∃ y_ : List (S86), y_ = (x4_1.drop (x7_7 : Int).toNat) := ⟨_, rfl⟩
                    replace H : (if y116.length + y119.length < 4398046511104 then (flagstoneref09_Back.j5 kj19 l0 (y116 ++ y119) x5_1 x6_1 x7_7) else (none)) = some (r1, r2) := by first | (rw [hy119]; with_reducible exact H) | (have H2_ := (Option.bind_some _ _).symm.trans H; rw [hy119]; with_reducible exact H2_) | (have H2_ := (Option.bind_some _ _).symm.trans H; with_reducible exact H2_) | with_reducible exact H | (rw [hy119]; exact H) | exact H
                    have Ny119 := Aside0.mk hy119
                    clear hy119
                    by_cases c40 : y116.length + y119.length < 4398046511104
                    ·rw [if_pos c40] at H
                     have LMc40 := Aside0.mk c40
                     clear c40
                     obtain ⟨y124, hy124⟩ : ∃ y_ : List (S86), y_ = (y116 ++ y119) := ⟨_, rfl⟩
                     replace H : (flagstoneref09_Back.j5 kj19 l0 y124 x5_1 x6_1 x7_7) = some (r1, r2) := by first | (rw [hy124]; with_reducible exact H) | (have H2_ := (Option.bind_some _ _).symm.trans H; rw [hy124]; with_reducible exact H2_) | (have H2_ := (Option.bind_some _ _).symm.trans H; with_reducible exact H2_) | with_reducible exact H | (rw [hy124]; exact H) | exact H
                     have Ny124 := Aside0.mk hy124
                     clear hy124
                     have H' := Aside0.mk H
                     clear H
                     obtain ⟨Ao42, co42, eo42⟩ := Kd.N_slice HO_4.out
                     subst eo42
                     have q41 : (x7_7 : Int) ≤ ((x4_1.length : Int) : Int) := of_decide_eq_true (by first | (with_reducible assumption) | assumption)
                     obtain ⟨i041, hi041, _, hsz41, _⟩ := info_parts info86
                     have hroom41 : x4_1.length ≤ co42 := (Kd.N_reads' HO_4.out).2.1
                     have hC41 : Kd.F k86 _ _ Ao42 x4_1.length x4_1 := (Kd.V_at (base := w.heap.size) (Kd.N_V HO_4.out)).2.2
                     have hcut41 := cut_to (P := Try.prog) 79 86 .i64 Try.underlying79 hi041 Ao42 x4_1.length co42 x7_7 (of_decide_eq_true (by first | (with_reducible assumption) | assumption)) q41 hroom41
                     have hr41 := Kd.F_take (m := (x7_7 : Int).toNat) hC41 (by omega)
                     have hy41 : y107.length = (x7_7 : Int).toNat := (by rw [Ny107.out, List.length_take]; omega)
                     rw [← Ny107.out] at hr41
                     rw [← hy41] at hcut41
                     have HO111 := Aside0.mk (show Kd.V k86 86 _ w.heap.size _ (.slice Ao42 y107.length co42) y107 from Kd.V_mk (by omega) hr41)
                     have HC111 := Aside0.mk (show y107.length ≤ co42 from by omega)
                     clear hr41 hC41 hroom41 hi041 hsz41
                     have KY41 := Aside0.mk hy41
                     clear hy41
                     replace q41 := eq_true q41
                     go_wp2_with (first | ((with_reducible refine gate_builtin (b := .append) (xs := #[.tmp 74, .tmp 77]) rfl ?_); at_builtin; refine Kd.N_append_rows k86 (w0 := w) w.heap.size rfl (.tmp 74) (.tmp 77) 79 86 (.agg #[(.int .i64 0), (.slice none 0 0)]) 32 rfl Try.underlying79 info86 rfl (by decide) (by omega) (.slice none 0 0) ([] : List (S86)) y107 _ _ _ (fun k_ => (w.heap.size ≤ k_)) (fun k_ => ((fun k_ => (w.heap.size ≤ k_))) k_ ∧ some k_ ≠ (.slice none 0 0 : Value).ownBlock) rfl rfl ?aO ?aR (fun _ hk => hk) ?aF ?aB ?aS ?aL ?_; (case aR => exact (by skip; exact Kd.V_F (Kd.V_mono (ok' := (fun k_ => ((fun k_ => (w.heap.size ≤ k_))) k_ ∧ some k_ ≠ (.slice none 0 0 : Value).ownBlock)) (HO111.out) (fun k_ hk => ⟨hk, (by simp [Value.ownBlock])⟩)))); (case aB => exact (by repeat (first | (with_reducible first | exact HB.out | apply below_alloc | apply pw_below_drewN | apply below_drew1) | exact HB.out))); (case aF => exact (fun k_ hk => (Nat.le_trans (below_size (by repeat (first | (with_reducible first | exact HB.out | apply below_alloc | apply pw_below_drewN | apply below_drew1) | exact HB.out))) hk))); (case aO => exact ((Kd.N_nil _ _ _ _ (fun k_ => (w.heap.size ≤ k_))))); (case aS => exact (below_size (by repeat (first | (with_reducible first | exact HB.out | apply below_alloc | apply pw_below_drewN | apply below_drew1) | exact HB.out)))); (case aL => have := LMc34.out; omega); intro v113 w43 ho hb hg hat; rw [← Ny112.out] at ho; have n0_ := Aside0.mk (Kd.N_afterv (Kd.N_apart_nil (by (with_reducible repeat (first | apply Kd.N_alloc | apply Kd.N_drewN | apply Kd.N_drew)); exact HO_4.out)) hg hat); have n1_ := Aside0.mk (Kd.V_afterv (Kd.V_apart_nil (by (with_reducible repeat (first | apply Kd.V_alloc | apply Kd.V_drewN | apply Kd.V_drew)); exact HO111.out)) hg hat); have n2_ := Aside0.mk (hb); have n3_ := Aside0.mk (ho); clear HO_4; clear HO111; clear HB; have HO_4 := n0_; have HO111 := n1_; have HB := n2_; have HO114 := n3_; clear n0_ n1_ n2_ n3_; clear ho hb hg hat; have p115 : 0 ≤ (x6_1 : Int) := of_decide_eq_true (by first | (with_reducible assumption) | assumption); have q115 : x6_1 < (l0.length : Int) := of_decide_eq_true (by first | (with_reducible assumption) | assumption); obtain ⟨ad115, e115, hx115_0, hx115_1, hx115_2, hx115_3⟩ := at_T118 HR0.out x6_1 p115 q115; cases e115; replace hx115_0 := (HB.out.cell (World.block_lt_of_cell? w _ hx115_0)).trans hx115_0; replace hx115_1 := (HB.out.cell (World.block_lt_of_cell? w _ hx115_1)).trans hx115_1; replace hx115_2 := (HB.out.cell (World.block_lt_of_cell? w _ hx115_2)).trans hx115_2; replace hx115_3 := (HB.out.cell (World.block_lt_of_cell? w _ hx115_3)).trans hx115_3; replace p115 := eq_true p115; replace q115 := eq_true q115) | ((with_reducible refine gate_builtin (b := .append) (xs := #[.tmp 79, .tmp 86]) rfl ?_); at_builtin; refine Kd.N_append k86 (w0 := w) w.heap.size rfl (.tmp 79) (.tmp 86) 79 86 (.agg #[(.int .i64 0), (.slice none 0 0)]) 32 rfl Try.underlying79 info86 rfl (by decide) (by omega) v113 y112 (⟨(rd_T118 l0 x6_1).f2, ([] : List (S24))⟩ : S86) [.int .i64 ((rd_T118 l0 x6_1).f2), .slice none 0 0] (fun k_ => (w.heap.size ≤ k_)) (fun k_ => ((fun k_ => (w.heap.size ≤ k_))) k_ ∧ some k_ ≠ (v113 : Value).ownBlock) rfl rfl ?aP (fun _ hk => hk) ?aF ?aO ?aB ?aS ?aL ?_; (case aP => exact (k86_mkF _ _ (⟨(rd_T118 l0 x6_1).f2, ([] : List (S24))⟩ : S86) (Nat.le_refl _) (Kd.F_nil _ _ _))); (case aB => exact (by repeat (first | (with_reducible first | exact HB.out | apply below_alloc | apply pw_below_drewN | apply below_drew1) | exact HB.out))); (case aF => exact (fun k_ hk => (Nat.le_trans (below_size (by repeat (first | (with_reducible first | exact HB.out | apply below_alloc | apply pw_below_drewN | apply below_drew1) | exact HB.out))) hk))); (case aO => exact (by (with_reducible repeat (first | apply Kd.N_alloc | apply Kd.N_drewN | apply Kd.N_drew)); exact HO114.out)); (case aS => exact (below_size (by repeat (first | (with_reducible first | exact HB.out | apply below_alloc | apply pw_below_drewN | apply below_drew1) | exact HB.out)))); (case aL => have := LMc37.out; omega); intro v117 w44 ho hb hg hat; rw [← Ny116.out] at ho; have n0_ := Aside0.mk (Kd.N_afterv (ok := (fun k_ => (w.heap.size ≤ k_))) (by (with_reducible repeat (first | apply Kd.N_alloc | apply Kd.N_drewN | apply Kd.N_drew)); exact HO_4.out) hg hat); have n1_ := Aside0.mk (Kd.V_afterv (ok := (fun k_ => (w.heap.size ≤ k_))) (by (with_reducible repeat (first | apply Kd.V_alloc | apply Kd.V_drewN | apply Kd.V_drew)); exact HO111.out) hg hat); have n2_ := Aside0.mk (hb); have n3_ := Aside0.mk (ho); clear HO_4; clear HO111; clear HB; clear HO114; have HO_4 := n0_; have HO111 := n1_; have HB := n2_; have HO118 := n3_; clear n0_ n1_ n2_ n3_; clear ho hb hg hat; have q45 : (x7_7 : Int) ≤ ((x4_1.length : Int) : Int) := of_decide_eq_true (by first | (with_reducible assumption) | assumption); obtain ⟨i045, hi045, _, hsz45, _⟩ := info_parts info86; have hroom45 : x4_1.length ≤ co42 := (Kd.N_reads' HO_4.out).2.1; have hC45 : Kd.F k86 _ _ Ao42 x4_1.length x4_1 := (Kd.V_at (base := w.heap.size) (Kd.N_V HO_4.out)).2.2; have q045 : (0 : Int) ≤ (x7_7 : Int) := of_decide_eq_true (by first | (with_reducible assumption) | assumption); have hcut45 := cut_from (P := Try.prog) 79 86 .i64 Try.underlying79 hi045 2 hsz45 Ao42 x4_1.length co42 x7_7 q045 q45; have hr45 := Kd.F_cut (m := (x7_7 : Int).toNat) (c := co42) hC45 (by omega) hroom45; obtain ⟨A45, hA45⟩ : ∃ A1, A1 = (if co42 = (x7_7 : Int).toNat then Ao42 else (Ao42 : Option Addr).map (·.add ((x7_7 : Int).toNat * 2))) := ⟨_, rfl⟩; obtain ⟨c45, hc45⟩ : ∃ c1, c1 = co42 - (x7_7 : Int).toNat := ⟨_, rfl⟩; have hy45 : y119.length = x4_1.length - (x7_7 : Int).toNat := (by rw [Ny119.out, List.length_drop] <;> omega); rw [show (x4_1).drop (x7_7 : Int).toNat = y119 from Ny119.out.symm] at hr45; replace hr45 : Kd.F k86 _ _ A45 y119.length y119 := (by rw [hA45]; exact hr45); rw [← hy45, ← hA45, ← hc45] at hcut45; have HO123 := Aside0.mk (show Kd.V k86 86 _ w.heap.size _ (.slice A45 y119.length c45) y119 from Kd.V_mk (by rw [hy45, hc45]; exact Nat.sub_le_sub_right hroom45 _) hr45); have HC123 := Aside0.mk (show y119.length ≤ c45 from by rw [hy45, hc45]; exact Nat.sub_le_sub_right hroom45 _); clear hr45 hC45 hroom45 hi045 hsz45 hc45; have KY45 := Aside0.mk hy45; have KA45 := Aside0.mk hA45; clear hy45 hA45; replace q45 := eq_true q45) | ((with_reducible refine gate_builtin (b := .append) (xs := #[.tmp 88, .tmp 91]) rfl ?_); at_builtin; refine Kd.N_append_rows k86 (w0 := w) w.heap.size rfl (.tmp 88) (.tmp 91) 79 86 (.agg #[(.int .i64 0), (.slice none 0 0)]) 32 rfl Try.underlying79 info86 rfl (by decide) (by omega) v117 y116 y119 _ _ _ (fun k_ => (w.heap.size ≤ k_)) (fun k_ => ((fun k_ => (w.heap.size ≤ k_))) k_ ∧ some k_ ≠ (v117 : Value).ownBlock) rfl rfl ?aO ?aR (fun _ hk => hk) ?aF ?aB ?aS ?aL ?_; (case aR => exact (by skip; exact Kd.V_F (Kd.V_mono (ok' := (fun k_ => ((fun k_ => (w.heap.size ≤ k_))) k_ ∧ some k_ ≠ (v117 : Value).ownBlock)) (HO123.out) (fun k_ hk => ⟨hk.1, hk.2⟩)))); (case aB => exact (by repeat (first | (with_reducible first | exact HB.out | apply below_alloc | apply pw_below_drewN | apply below_drew1) | exact HB.out))); (case aF => exact (fun k_ hk => (Nat.le_trans (below_size (by repeat (first | (with_reducible first | exact HB.out | apply below_alloc | apply pw_below_drewN | apply below_drew1) | exact HB.out))) hk))); (case aO => exact (by (with_reducible repeat (first | apply Kd.N_alloc | apply Kd.N_drewN | apply Kd.N_drew)); exact HO118.out)); (case aS => exact (below_size (by repeat (first | (with_reducible first | exact HB.out | apply below_alloc | apply pw_below_drewN | apply below_drew1) | exact HB.out)))); (case aL => have := LMc40.out; omega); intro v125 w46 ho hb hg hat; rw [← Ny124.out] at ho; have n0_ := Aside0.mk (Kd.N_afterv (ok := (fun k_ => (w.heap.size ≤ k_))) (by (with_reducible repeat (first | apply Kd.N_alloc | apply Kd.N_drewN | apply Kd.N_drew)); exact HO_4.out) hg hat); have n1_ := Aside0.mk (Kd.V_afterv (ok := (fun k_ => (w.heap.size ≤ k_))) (by (with_reducible repeat (first | apply Kd.V_alloc | apply Kd.V_drewN | apply Kd.V_drew)); exact HO111.out) hg hat); have n2_ := Aside0.mk (Kd.V_afterv (ok := (fun k_ => (w.heap.size ≤ k_))) (by (with_reducible repeat (first | apply Kd.V_alloc | apply Kd.V_drewN | apply Kd.V_drew)); exact HO123.out) hg hat); have n3_ := Aside0.mk (hb); have n4_ := Aside0.mk (ho); clear HO_4; clear HO111; clear HO123; clear HB; clear HO118; have HO_4 := n0_; have HO111 := n1_; have HO123 := n2_; have HB := n3_; have HO126 := n4_; clear n0_ n1_ n2_ n3_ n4_; clear ho hb hg hat))
                     go_meet
                     case rel => exact ⟨_, (y124), H', ⟨by have := HK1.out; have := HJ3.out; have := HJ7.out; have := HJ19.out; first | omega | exact Nat.le_refl _⟩, ⟨by (with_reducible repeat (first | apply Kd.N_alloc | apply Kd.N_drewN | apply Kd.N_drew)); exact HO126.out⟩, ⟨by repeat (first | (with_reducible first | exact HB.out | apply below_alloc | apply pw_below_drewN | apply below_drew1) | exact HB.out)⟩⟩
                    ·rw [if_neg c40] at H
                     exact absurd H (by simp)
                   ·rw [if_neg c37] at H
                    exact absurd H (by simp)
                  ·rw [if_neg c36] at H
                   exact absurd H (by simp)
                 ·rw [if_neg c35] at H
                  exact absurd H (by simp)
                ·rw [if_neg c34] at H
                 exact absurd H (by simp)
               ·rw [if_neg c33] at H
                exact absurd H (by simp)
              ·rw [if_neg c32] at H
               exact absurd H (by simp)
             ·replace c31 := Bool.eq_false_iff.mpr c31
              subst c31
              have H1 : (flagstoneref09_Back.j5 kj19 l0 x4_1 x5_1 x6_1 x7_7) = some (r1, r2) := by rw [if_neg (show ¬ (false = true) by decide)] at H; exact H
              clear H
              have H := H1
              clear H1
              have H' := Aside0.mk H
              clear H
              go_wp2
              go_meet
              case rel => exact ⟨_, (x4_1), H', ⟨by have := HK1.out; have := HJ3.out; have := HJ7.out; have := HJ19.out; first | omega | exact Nat.le_refl _⟩, ⟨by (with_reducible repeat (first | apply Kd.N_alloc | apply Kd.N_drewN | apply Kd.N_drew)); exact HO_4.out⟩, ⟨by repeat (first | (with_reducible first | exact HB.out | apply below_alloc | apply pw_below_drewN | apply below_drew1) | exact HB.out)⟩⟩
            case rest =>
             clear HC30
             try clear c1
             try clear p1
             try clear q1
             try clear hx1
             try clear c2
             try clear c2b0
             try clear c2b1
             try clear p2
             try clear c3
             try clear c3b0
             try clear c4
             try clear q4
             try clear c5
             try clear c5b0
             try clear c6
             try clear c6b0
             try clear p6
             try clear c7
             try clear c9
             try clear c9b0
             try clear c10
             try clear c10b0
             try clear p10
             try clear q10
             try clear hx10
             try clear c11
             try clear c11b0
             try clear p11
             try clear q11
             try clear hx11
             try clear c12
             try clear c12b0
             try clear c13
             try clear c13b0
             try clear c21
             try clear c21b0
             try clear c21b1
             try clear c24
             try clear c24b0
             try clear c25
             try clear c25b0
             try clear c26
             try clear c26b0
             try clear c27
             try clear c27b0
             try clear c31
             try clear c32
             try clear c32b0
             try clear c32b1
             try clear c33
             try clear c33b0
             try clear c33b1
             try clear c34
             try clear c35
             try clear c35b0
             try clear c36
             try clear c36b0
             try clear c37
             try clear c38
             try clear c38b0
             try clear c39
             try clear c39b0
             try clear c40
             try clear q41
             try clear c45
             try clear q45
             try clear hx101_0
             try clear hx101_1
             try clear hx101_2
             try clear hx101_3
             try clear hx102_0
             try clear hx102_1
             try clear hx102_2
             try clear hx102_3
             try clear hx103_0
             try clear hx103_1
             try clear hx104_0
             try clear hx104_1
             try clear hx104_2
             try clear hx104_3
             try clear hx105_0
             try clear hx105_1
             try clear hx106_0
             try clear hx106_1
             try clear hx106_2
             try clear hx106_3
             try clear hx115_0
             try clear hx115_1
             try clear hx115_2
             try clear hx115_3
             try clear p1
             try clear p10
             try clear p101
             try clear p102
             try clear p103
             try clear p104
             try clear p105
             try clear p106
             try clear p115
             try clear p2
             try clear p6
             try clear q045
             try clear q1
             try clear q10
             try clear q101
             try clear q102
             try clear q103
             try clear q104
             try clear q105
             try clear q106
             try clear q115
             try clear q41
             try clear q45
             obtain ⟨kq, x4_29, HA, HJ29, HO_4, HB⟩ := hcut
             cases kq with
             | zero => exact absurd HA.out (by simp [flagstoneref09_Back.j5])
             | succ kj29 =>
              have H := HA.out
              clear HA
              simp only [flagstoneref09_Back.j5] at H
              by_cases c47 : 0 ≤ x7_7
              ·rw [if_pos c47] at H
               have c47b0 : decide (0 ≤ x7_7) = true := decide_eq_true c47
               clear c47
               by_cases c48 : x7_7 < (x4_29.length : Int)
               ·rw [if_pos c48] at H
                have c48b0 : decide (x7_7 < (x4_29.length : Int)) = true := decide_eq_true c48
                clear c48
                by_cases c49 : 0 ≤ x6_1
                ·rw [if_pos c49] at H
                 have c49b0 : decide (0 ≤ x6_1) = true := decide_eq_true c49
                 clear c49
                 by_cases c50 : x6_1 < (l0.length : Int)
                 ·rw [if_pos c50] at H
                  have c50b0 : decide (x6_1 < (l0.length : Int)) = true := decide_eq_true c50
                  clear c50
                  replace H := Option.bind_eq_some_iff.mp H
                  obtain ⟨⟨t131, t134⟩, A510, H⟩ := H
                  replace H : (if t134 = 0 then ((flagstoneref05_Look.f kj29 ((rd_T86 x4_29 x7_7).f1) ((rd_T118 l0 x6_1).f3) ((rd_T118 l0 x6_1).f1)).bind fun bt137 => (flagstoneref09_Back.l2 kj29 l0 x4_29 x5_1 x6_1 x7_7 t131 bt137.1 0)) else (some (([] : List (S86)), 4))) = some (r1, r2) := H
                  have A51 := Aside0.mk A510
                  clear A510
                  by_cases c52 : t134 = 0
                  ·rw [if_pos c52] at H
                   have c52b0 : (t134 == 0) = true := beq_iff_eq.mpr c52
                   have c52b1 : (t134 != 0) = false := bne_eq_false_iff_eq.mpr c52
                   clear c52
                   replace H := Option.bind_eq_some_iff.mp H
                   obtain ⟨⟨t137, t138⟩, A530, H⟩ := H
                   replace H : (flagstoneref09_Back.l2 kj29 l0 x4_29 x5_1 x6_1 x7_7 t131 t137 0) = some (r1, r2) := H
                   have A53 := Aside0.mk A530
                   clear A530
                   have H' := Aside0.mk H
                   clear H
                   obtain ⟨Ao54, co54, eo54⟩ := Kd.N_slice HO_4.out
                   subst eo54
                   have p127 : 0 ≤ (x7_7 : Int) := of_decide_eq_true (by first | (with_reducible assumption) | assumption)
                   have q127 : x7_7 < (x4_29.length : Int) := of_decide_eq_true (by first | (with_reducible assumption) | assumption)
                   obtain ⟨ad127, A127_1, c127_1, e127, hx127_0, hx127_1, hl127_1, hi127_1⟩ := at_T86 (Kd.N_reads' HO_4.out).2.2 x7_7 p127 q127
                   cases e127
                   obtain ⟨ce127, hce127, hMe127, hcc127⟩ := Kd.N_get HO_4.out z86 x7_7 p127 (by first | exact q127 | exact of_decide_eq_true (by first | (with_reducible assumption) | assumption) | (have e_ := (Kd.N_reads' HO_4.out).1; omega))
                   obtain ⟨ua127_1, uc127_1, rfl, ul127_1, ge127_1⟩ := k86_openF hMe127
                   have hv127_1 := hcc127 1 _ rfl
                   rw [add_field _ _ 1 (by omega)] at hv127_1
                   replace hv127_1 := Option.some.inj (hv127_1.symm.trans hx127_1)
                   injection hv127_1 with hva_ hvn_ hvc_
                   rw [hva_] at ge127_1
                   rw [hvc_] at ul127_1
                   have HL127_1 := Aside0.mk (show Kd.V k24 24 _ w.heap.size _ _ ((rd_T86 x4_29 x7_7).f1) from Kd.V_mk ul127_1 ge127_1)
                   clear hva_ hvn_ hvc_ ge127_1 ul127_1
                   clear hcc127 hce127
                   have HR127_1 := Aside0.mk hi127_1
                   have HC127_1 := Aside0.mk hl127_1
                   clear hi127_1 hl127_1
                   replace p127 := eq_true p127
                   replace q127 := eq_true q127
                   try go_wp2
                   have n0_ := Aside0.mk (Kd.N_drew HO_4.out)
                   have n1_ := Aside0.mk (Kd.V_drew HL127_1.out)
                   have n2_ := Aside0.mk (Kd.C_drew HR127_1.out)
                   have n3_ := Aside0.mk (below_drew1 HB.out)
                   clear HO_4
                   clear HL127_1
                   clear HR127_1
                   clear HB
                   have HO_4 := n0_
                   have HL127_1 := n1_
                   have HR127_1 := n2_
                   have HB := n3_
                   clear n0_ n1_ n2_ n3_
                   have p128 : 0 ≤ (x6_1 : Int) := of_decide_eq_true (by first | (with_reducible assumption) | assumption)
                   have q128 : x6_1 < (l0.length : Int) := of_decide_eq_true (by first | (with_reducible assumption) | assumption)
                   obtain ⟨ad128, e128, hx128_0, hx128_1, hx128_2, hx128_3⟩ := at_T118 HR0.out x6_1 p128 q128
                   have hw128_3 := hx128_3
                   have hw128_2 := hx128_2
                   have hw128_1 := hx128_1
                   have hw128_0 := hx128_0
                   cases e128
                   replace hx128_0 := (HB.out.cell (World.block_lt_of_cell? w _ hx128_0)).trans hx128_0
                   replace hx128_1 := (HB.out.cell (World.block_lt_of_cell? w _ hx128_1)).trans hx128_1
                   replace hx128_2 := (HB.out.cell (World.block_lt_of_cell? w _ hx128_2)).trans hx128_2
                   replace hx128_3 := (HB.out.cell (World.block_lt_of_cell? w _ hx128_3)).trans hx128_3
                   replace p128 := eq_true p128
                   replace q128 := eq_true q128
                   have p129 : 0 ≤ (x6_1 : Int) := of_decide_eq_true (by first | (with_reducible assumption) | assumption)
                   have q129 : x6_1 < (l0.length : Int) := of_decide_eq_true (by first | (with_reducible assumption) | assumption)
                   obtain ⟨ad129, e129, hx129_0, hx129_1, hx129_2, hx129_3⟩ := at_T118 HR0.out x6_1 p129 q129
                   have hw129_3 := hx129_3
                   have hw129_2 := hx129_2
                   have hw129_1 := hx129_1
                   have hw129_0 := hx129_0
                   obtain rfl : ad128 = ad129 := (by injection e129)
                   replace hx129_0 := (HB.out.cell (World.block_lt_of_cell? w _ hx129_0)).trans hx129_0
                   replace hx129_1 := (HB.out.cell (World.block_lt_of_cell? w _ hx129_1)).trans hx129_1
                   replace hx129_2 := (HB.out.cell (World.block_lt_of_cell? w _ hx129_2)).trans hx129_2
                   replace hx129_3 := (HB.out.cell (World.block_lt_of_cell? w _ hx129_3)).trans hx129_3
                   replace p129 := eq_true p129
                   replace q129 := eq_true q129
                   have p130 : 0 ≤ (x6_1 : Int) := of_decide_eq_true (by first | (with_reducible assumption) | assumption)
                   have q130 : x6_1 < (l0.length : Int) := of_decide_eq_true (by first | (with_reducible assumption) | assumption)
                   obtain ⟨ad130, e130, hx130_0, hx130_1, hx130_2, hx130_3⟩ := at_T118 HR0.out x6_1 p130 q130
                   have hw130_3 := hx130_3
                   have hw130_2 := hx130_2
                   have hw130_1 := hx130_1
                   have hw130_0 := hx130_0
                   obtain rfl : ad128 = ad130 := (by injection e130)
                   replace hx130_0 := (HB.out.cell (World.block_lt_of_cell? w _ hx130_0)).trans hx130_0
                   replace hx130_1 := (HB.out.cell (World.block_lt_of_cell? w _ hx130_1)).trans hx130_1
                   replace hx130_2 := (HB.out.cell (World.block_lt_of_cell? w _ hx130_2)).trans hx130_2
                   replace hx130_3 := (HB.out.cell (World.block_lt_of_cell? w _ hx130_3)).trans hx130_3
                   replace p130 := eq_true p130
                   replace q130 := eq_true q130
                   refine start_ (n := 23) (S := fun w' => w'.cell? (ad128.add ((x6_1).toNat * 4)) = some (.int .i64 ((rd_T118 l0 x6_1).f0)) ∧ w'.cell? ⟨(ad128.add ((x6_1).toNat * 4)).block, (ad128.add ((x6_1).toNat * 4)).off + 1, none⟩ = some (.int .i64 ((rd_T118 l0 x6_1).f1)) ∧ w'.cell? ⟨(ad128.add ((x6_1).toNat * 4)).block, (ad128.add ((x6_1).toNat * 4)).off + 2, none⟩ = some (.int .i64 ((rd_T118 l0 x6_1).f2)) ∧ w'.cell? ⟨(ad128.add ((x6_1).toNat * 4)).block, (ad128.add ((x6_1).toNat * 4)).off + 3, none⟩ = some (.int .i64 ((rd_T118 l0 x6_1).f3)) ∧ w'.cell? (ad128.add ((x6_1).toNat * 4)) = some (.int .i64 ((rd_T118 l0 x6_1).f0)) ∧ w'.cell? ⟨(ad128.add ((x6_1).toNat * 4)).block, (ad128.add ((x6_1).toNat * 4)).off + 1, none⟩ = some (.int .i64 ((rd_T118 l0 x6_1).f1)) ∧ w'.cell? ⟨(ad128.add ((x6_1).toNat * 4)).block, (ad128.add ((x6_1).toNat * 4)).off + 2, none⟩ = some (.int .i64 ((rd_T118 l0 x6_1).f2)) ∧ w'.cell? ⟨(ad128.add ((x6_1).toNat * 4)).block, (ad128.add ((x6_1).toNat * 4)).off + 3, none⟩ = some (.int .i64 ((rd_T118 l0 x6_1).f3)) ∧ w'.cell? (ad128.add ((x6_1).toNat * 4)) = some (.int .i64 ((rd_T118 l0 x6_1).f0)) ∧ w'.cell? ⟨(ad128.add ((x6_1).toNat * 4)).block, (ad128.add ((x6_1).toNat * 4)).off + 1, none⟩ = some (.int .i64 ((rd_T118 l0 x6_1).f1)) ∧ w'.cell? ⟨(ad128.add ((x6_1).toNat * 4)).block, (ad128.add ((x6_1).toNat * 4)).off + 2, none⟩ = some (.int .i64 ((rd_T118 l0 x6_1).f2)) ∧ w'.cell? ⟨(ad128.add ((x6_1).toNat * 4)).block, (ad128.add ((x6_1).toNat * 4)).off + 3, none⟩ = some (.int .i64 ((rd_T118 l0 x6_1).f3))) (ds := []) #[yF,yF,yF,yF,yF,yF,yF,yF,yF,yF,yF,yF,yF,yF,yF,yF,yF,yF,yF,yF,yF,yF,yF] (by kernel_rfl) rfl rfl ⟨((HB.out.cell (World.block_lt_of_cell? w _ hw128_0)).trans hw128_0), ((HB.out.cell (World.block_lt_of_cell? w _ hw128_1)).trans hw128_1), ((HB.out.cell (World.block_lt_of_cell? w _ hw128_2)).trans hw128_2), ((HB.out.cell (World.block_lt_of_cell? w _ hw128_3)).trans hw128_3), ((HB.out.cell (World.block_lt_of_cell? w _ hw129_0)).trans hw129_0), ((HB.out.cell (World.block_lt_of_cell? w _ hw129_1)).trans hw129_1), ((HB.out.cell (World.block_lt_of_cell? w _ hw129_2)).trans hw129_2), ((HB.out.cell (World.block_lt_of_cell? w _ hw129_3)).trans hw129_3), ((HB.out.cell (World.block_lt_of_cell? w _ hw130_0)).trans hw130_0), ((HB.out.cell (World.block_lt_of_cell? w _ hw130_1)).trans hw130_1), ((HB.out.cell (World.block_lt_of_cell? w _ hw130_2)).trans hw130_2), ((HB.out.cell (World.block_lt_of_cell? w _ hw130_3)).trans hw130_3)⟩ (fun hHeld => ?_); refine with_tabW flagstoneref09_Back.tab19 flagstoneref09_Back.bits19 (fun HT_ HW_ => ?_)
                   generalize wc.drew = w55 at HO_4 HL127_1 HR127_1 HB hx128_0 hx128_1 hx128_2 hx128_3 hx129_0 hx129_1 hx129_2 hx129_3 hx130_0 hx130_1 hx130_2 hx130_3 hHeld ⊢
                   refine pu_ 0 99 23 1 ?_
                   refine pu_ 1 100 23 3 ?_
                   refine pu_ 2 101 23 7 ?_
                   refine pu_ 3 102 23 15 ?_
                   refine pu_ 4 103 23 31 ?_
                   refine pu_ 6 105 23 95 ?_
                   refine pu_ 7 106 23 223 ?_
                   refine pu_ 8 107 23 479 ?_
                   refine pu_ 9 108 23 991 ?_
                   refine pu_ 11 110 23 3039 ?_
                   refine pu_ 12 111 23 7135 ?_
                   refine pu_ 13 112 23 15327 ?_
                   refine pu_ 14 113 23 31711 ?_
                   refine tk_ 5 104 23 31743 ?_
                   refine tk_ 10 109 23 32767 ?_
                   refine tk_ 15 114 23 65535 ?_
                   refine pu_ 16 115 23 131071 ?_
                   refine on_ 17 116 23 262143 (fun K hK => ?_)
                   refine goes_ Try.func28 (by kernel_rfl) rfl #[.slice A127_1 ((rd_T86 x4_29 x7_7).f1).length c127_1, .agg #[.int .i64 ((rd_T118 l0 x6_1).f3), .int .i64 ((rd_T118 l0 x6_1).f0), .int .i64 ((rd_T118 l0 x6_1).f1)]] (by rfl) rfl rfl (by (try simp only [List.map_toArray, List.map_cons, List.map_nil]); first | done | rfl | (simp only [List.length_drop, List.length_take]; rfl)) ?_
                   with_reducible refine (flagstoneref05_Put.calls kj29 _ _ ((rd_T86 x4_29 x7_7).f1) ((rd_T118 l0 x6_1).f3) ((rd_T118 l0 x6_1).f0) ((rd_T118 l0 x6_1).f1) t131 t134 _ ?side1 ?side2 A51.out).mono ?_
                   (case side1 => repeat (first | exact (by repeat (first | (with_reducible exact HR127_1.out) | (with_reducible refine Kd.C_alloc ?_ _) | (with_reducible refine Kd.C_drewN ?_ _) | (with_reducible refine Kd.C_drew ?_) | exact HR127_1.out)) | (with_reducible refine Kd.C_alloc ?_ _) | (with_reducible refine Kd.C_drewN ?_ _) | (with_reducible refine Kd.C_drew ?_)))
                   (case side2 => exact HC127_1.out)
                   rintro e w56 ⟨v132, rfl, ho0, hb⟩
                   refine ⟨_, rfl, ?_⟩
                   have n0_ := Aside0.mk (Kd.N_elder' (by (with_reducible repeat (first | apply Kd.N_alloc | apply Kd.N_drewN | apply Kd.N_drew)); exact HO_4.out) (Kd.R_base ho0) hb)
                   have n1_ := Aside0.mk (Kd.V_elder' (by (with_reducible repeat (first | apply Kd.V_alloc | apply Kd.V_drewN | apply Kd.V_drew)); exact HL127_1.out) (Kd.R_base ho0) hb)
                   have n2_ := Aside0.mk (Kd.R_lower (Kd.R_newM (M := fun k_ => (w.heap.size ≤ k_)) ho0 (below_size (by repeat (first | (with_reducible first | exact HB.out | apply below_alloc | apply pw_below_drewN | apply below_drew1) | exact HB.out))) (fun k_ h_ => h_)) (below_size (by repeat (first | (with_reducible first | exact HB.out | apply below_alloc | apply pw_below_drewN | apply below_drew1) | exact HB.out))))
                   have n3_ := Aside0.mk (Kd.C_below (by repeat (first | (with_reducible exact HR127_1.out) | (with_reducible refine Kd.C_alloc ?_ _) | (with_reducible refine Kd.C_drewN ?_ _) | (with_reducible refine Kd.C_drew ?_) | exact HR127_1.out)) hb)
                   have n4_ := Aside0.mk (below_step (by repeat (first | (with_reducible first | exact HB.out | apply below_alloc | apply pw_below_drewN | apply below_drew1) | exact HB.out)) hb)
                   clear HO_4
                   clear HL127_1
                   clear HR127_1
                   clear HB
                   have HO_4 := n0_
                   have HL127_1 := n1_
                   have HO133 := n2_
                   have HR127_1 := n3_
                   have HB := n4_
                   clear n0_ n1_ n2_ n3_ n4_
                   (try clear hb)
                   (try clear hb2)
                   (try clear hk)
                   (try clear hi)
                   (try clear ho0)
                   refine hK.out _ _ ⟨((HB.out.cell (World.block_lt_of_cell? w _ hw128_0)).trans hw128_0), ((HB.out.cell (World.block_lt_of_cell? w _ hw128_1)).trans hw128_1), ((HB.out.cell (World.block_lt_of_cell? w _ hw128_2)).trans hw128_2), ((HB.out.cell (World.block_lt_of_cell? w _ hw128_3)).trans hw128_3), ((HB.out.cell (World.block_lt_of_cell? w _ hw129_0)).trans hw129_0), ((HB.out.cell (World.block_lt_of_cell? w _ hw129_1)).trans hw129_1), ((HB.out.cell (World.block_lt_of_cell? w _ hw129_2)).trans hw129_2), ((HB.out.cell (World.block_lt_of_cell? w _ hw129_3)).trans hw129_3), ((HB.out.cell (World.block_lt_of_cell? w _ hw130_0)).trans hw130_0), ((HB.out.cell (World.block_lt_of_cell? w _ hw130_1)).trans hw130_1), ((HB.out.cell (World.block_lt_of_cell? w _ hw130_2)).trans hw130_2), ((HB.out.cell (World.block_lt_of_cell? w _ hw130_3)).trans hw130_3)⟩ (fun hHeld => ?_)
                   clear hK K
                   refine nm_ 116 ?_
                   refine pu_ 18 98 23 524287 ?_
                   refine pu_ 19 117 23 1048575 ?_
                   refine pu_ 20 118 23 2097151 ?_
                   refine pu_ 21 10 23 4194303 ?_
                   refine pu_ 22 11 23 8388607 ?_
                   refine done_ (done_of HT_.out (by kernel_rfl)) ?_
                   try go_wp2
                   have n0_ := Aside0.mk (Kd.N_drew HO_4.out)
                   have n1_ := Aside0.mk (Kd.V_drew HL127_1.out)
                   have n2_ := Aside0.mk (Kd.R_drew HO133.out)
                   have n3_ := Aside0.mk (Kd.C_drew HR127_1.out)
                   have n4_ := Aside0.mk (below_drew1 HB.out)
                   clear HO_4
                   clear HL127_1
                   clear HO133
                   clear HR127_1
                   clear HB
                   have HO_4 := n0_
                   have HL127_1 := n1_
                   have HO133 := n2_
                   have HR127_1 := n3_
                   have HB := n4_
                   clear n0_ n1_ n2_ n3_ n4_
                   have p135 : 0 ≤ (x6_1 : Int) := of_decide_eq_true (by first | (with_reducible assumption) | assumption)
                   have q135 : x6_1 < (l0.length : Int) := of_decide_eq_true (by first | (with_reducible assumption) | assumption)
                   obtain ⟨ad135, e135, hx135_0, hx135_1, hx135_2, hx135_3⟩ := at_T118 HR0.out x6_1 p135 q135
                   have hw135_3 := hx135_3
                   have hw135_2 := hx135_2
                   have hw135_1 := hx135_1
                   have hw135_0 := hx135_0
                   obtain rfl : ad128 = ad135 := (by injection e135)
                   replace hx135_0 := (HB.out.cell (World.block_lt_of_cell? w _ hx135_0)).trans hx135_0
                   replace hx135_1 := (HB.out.cell (World.block_lt_of_cell? w _ hx135_1)).trans hx135_1
                   replace hx135_2 := (HB.out.cell (World.block_lt_of_cell? w _ hx135_2)).trans hx135_2
                   replace hx135_3 := (HB.out.cell (World.block_lt_of_cell? w _ hx135_3)).trans hx135_3
                   replace p135 := eq_true p135
                   replace q135 := eq_true q135
                   have p136 : 0 ≤ (x6_1 : Int) := of_decide_eq_true (by first | (with_reducible assumption) | assumption)
                   have q136 : x6_1 < (l0.length : Int) := of_decide_eq_true (by first | (with_reducible assumption) | assumption)
                   obtain ⟨ad136, e136, hx136_0, hx136_1, hx136_2, hx136_3⟩ := at_T118 HR0.out x6_1 p136 q136
                   have hw136_3 := hx136_3
                   have hw136_2 := hx136_2
                   have hw136_1 := hx136_1
                   have hw136_0 := hx136_0
                   obtain rfl : ad128 = ad136 := (by injection e136)
                   replace hx136_0 := (HB.out.cell (World.block_lt_of_cell? w _ hx136_0)).trans hx136_0
                   replace hx136_1 := (HB.out.cell (World.block_lt_of_cell? w _ hx136_1)).trans hx136_1
                   replace hx136_2 := (HB.out.cell (World.block_lt_of_cell? w _ hx136_2)).trans hx136_2
                   replace hx136_3 := (HB.out.cell (World.block_lt_of_cell? w _ hx136_3)).trans hx136_3
                   replace p136 := eq_true p136
                   replace q136 := eq_true q136
                   refine start_ (n := 17) (S := fun w' => w'.cell? (ad128.add ((x6_1).toNat * 4)) = some (.int .i64 ((rd_T118 l0 x6_1).f0)) ∧ w'.cell? ⟨(ad128.add ((x6_1).toNat * 4)).block, (ad128.add ((x6_1).toNat * 4)).off + 1, none⟩ = some (.int .i64 ((rd_T118 l0 x6_1).f1)) ∧ w'.cell? ⟨(ad128.add ((x6_1).toNat * 4)).block, (ad128.add ((x6_1).toNat * 4)).off + 2, none⟩ = some (.int .i64 ((rd_T118 l0 x6_1).f2)) ∧ w'.cell? ⟨(ad128.add ((x6_1).toNat * 4)).block, (ad128.add ((x6_1).toNat * 4)).off + 3, none⟩ = some (.int .i64 ((rd_T118 l0 x6_1).f3)) ∧ w'.cell? (ad128.add ((x6_1).toNat * 4)) = some (.int .i64 ((rd_T118 l0 x6_1).f0)) ∧ w'.cell? ⟨(ad128.add ((x6_1).toNat * 4)).block, (ad128.add ((x6_1).toNat * 4)).off + 1, none⟩ = some (.int .i64 ((rd_T118 l0 x6_1).f1)) ∧ w'.cell? ⟨(ad128.add ((x6_1).toNat * 4)).block, (ad128.add ((x6_1).toNat * 4)).off + 2, none⟩ = some (.int .i64 ((rd_T118 l0 x6_1).f2)) ∧ w'.cell? ⟨(ad128.add ((x6_1).toNat * 4)).block, (ad128.add ((x6_1).toNat * 4)).off + 3, none⟩ = some (.int .i64 ((rd_T118 l0 x6_1).f3))) (ds := []) #[yF,yF,yF,yF,yF,yF,yF,yF,yF,yF,yF,yF,yF,yF,yF,yF,yF] (by kernel_rfl) rfl rfl ⟨((HB.out.cell (World.block_lt_of_cell? w _ hw135_0)).trans hw135_0), ((HB.out.cell (World.block_lt_of_cell? w _ hw135_1)).trans hw135_1), ((HB.out.cell (World.block_lt_of_cell? w _ hw135_2)).trans hw135_2), ((HB.out.cell (World.block_lt_of_cell? w _ hw135_3)).trans hw135_3), ((HB.out.cell (World.block_lt_of_cell? w _ hw136_0)).trans hw136_0), ((HB.out.cell (World.block_lt_of_cell? w _ hw136_1)).trans hw136_1), ((HB.out.cell (World.block_lt_of_cell? w _ hw136_2)).trans hw136_2), ((HB.out.cell (World.block_lt_of_cell? w _ hw136_3)).trans hw136_3)⟩ (fun hHeld => ?_); refine with_tabW flagstoneref09_Back.tab22 flagstoneref09_Back.bits22 (fun HT_ HW_ => ?_)
                   generalize w56.drew = w57 at HO_4 HL127_1 HO133 HR127_1 HB hx135_0 hx135_1 hx135_2 hx135_3 hx136_0 hx136_1 hx136_2 hx136_3 hHeld ⊢
                   refine pu_ 0 122 17 1 ?_
                   refine pu_ 1 123 17 3 ?_
                   refine pu_ 2 124 17 7 ?_
                   refine pu_ 3 125 17 15 ?_
                   refine pu_ 4 126 17 31 ?_
                   refine pu_ 6 128 17 95 ?_
                   refine pu_ 7 129 17 223 ?_
                   refine pu_ 8 130 17 479 ?_
                   refine pu_ 9 131 17 991 ?_
                   refine tk_ 5 127 17 1023 ?_
                   refine tk_ 10 132 17 2047 ?_
                   refine on_ 11 133 17 4095 (fun K hK => ?_)
                   refine goes_ Try.func39 (by kernel_rfl) rfl #[.slice A127_1 ((rd_T86 x4_29 x7_7).f1).length c127_1, .int .i64 ((rd_T118 l0 x6_1).f3), .int .i64 ((rd_T118 l0 x6_1).f1)] (by rfl) rfl rfl (by (try simp only [List.map_toArray, List.map_cons, List.map_nil]); first | done | rfl | (simp only [List.length_drop, List.length_take]; rfl)) ?_
                   with_reducible refine (flagstoneref05_Look.calls kj29 _ _ ((rd_T86 x4_29 x7_7).f1) ((rd_T118 l0 x6_1).f3) ((rd_T118 l0 x6_1).f1) t137 t138 _ ?side1 ?side2 A53.out).mono ?_
                   (case side1 => repeat (first | exact (by repeat (first | (with_reducible exact HR127_1.out) | (with_reducible refine Kd.C_alloc ?_ _) | (with_reducible refine Kd.C_drewN ?_ _) | (with_reducible refine Kd.C_drew ?_) | exact HR127_1.out)) | (with_reducible refine Kd.C_alloc ?_ _) | (with_reducible refine Kd.C_drewN ?_ _) | (with_reducible refine Kd.C_drew ?_)))
                   (case side2 => exact HC127_1.out)
                   rintro e w58 ⟨v139, rfl, ho0, hb⟩
                   refine ⟨_, rfl, ?_⟩
                   have n0_ := Aside0.mk (Kd.N_elder' (by (with_reducible repeat (first | apply Kd.N_alloc | apply Kd.N_drewN | apply Kd.N_drew)); exact HO_4.out) (Kd.R_base ho0) hb)
                   have n1_ := Aside0.mk (Kd.V_elder' (by (with_reducible repeat (first | apply Kd.V_alloc | apply Kd.V_drewN | apply Kd.V_drew)); exact HL127_1.out) (Kd.R_base ho0) hb)
                   have n2_ := Aside0.mk (Kd.R_elder' (by (with_reducible repeat (first | apply Kd.R_alloc | apply Kd.R_drewN | apply Kd.R_drew)); exact HO133.out) (Kd.R_base ho0) hb)
                   have n3_ := Aside0.mk (Kd.R_lower (Kd.R_new' (Kd.R_newM (M := fun k_ => (w.heap.size ≤ k_)) ho0 (below_size (by repeat (first | (with_reducible first | exact HB.out | apply below_alloc | apply pw_below_drewN | apply below_drew1) | exact HB.out))) (fun k_ h_ => h_)) (Kd.R_lt (by (with_reducible repeat (first | apply Kd.R_alloc | apply Kd.R_drewN | apply Kd.R_drew)); exact HO133.out))) (below_size (by repeat (first | (with_reducible first | exact HB.out | apply below_alloc | apply pw_below_drewN | apply below_drew1) | exact HB.out))))
                   have n4_ := Aside0.mk (Kd.C_below (by repeat (first | (with_reducible exact HR127_1.out) | (with_reducible refine Kd.C_alloc ?_ _) | (with_reducible refine Kd.C_drewN ?_ _) | (with_reducible refine Kd.C_drew ?_) | exact HR127_1.out)) hb)
                   have n5_ := Aside0.mk (below_step (by repeat (first | (with_reducible first | exact HB.out | apply below_alloc | apply pw_below_drewN | apply below_drew1) | exact HB.out)) hb)
                   clear HO_4
                   clear HL127_1
                   clear HO133
                   clear HR127_1
                   clear HB
                   have HO_4 := n0_
                   have HL127_1 := n1_
                   have HO133 := n2_
                   have HO140 := n3_
                   have HR127_1 := n4_
                   have HB := n5_
                   clear n0_ n1_ n2_ n3_ n4_ n5_
                   (try clear hb)
                   (try clear hb2)
                   (try clear hk)
                   (try clear hi)
                   (try clear ho0)
                   refine hK.out _ _ ⟨((HB.out.cell (World.block_lt_of_cell? w _ hw135_0)).trans hw135_0), ((HB.out.cell (World.block_lt_of_cell? w _ hw135_1)).trans hw135_1), ((HB.out.cell (World.block_lt_of_cell? w _ hw135_2)).trans hw135_2), ((HB.out.cell (World.block_lt_of_cell? w _ hw135_3)).trans hw135_3), ((HB.out.cell (World.block_lt_of_cell? w _ hw136_0)).trans hw136_0), ((HB.out.cell (World.block_lt_of_cell? w _ hw136_1)).trans hw136_1), ((HB.out.cell (World.block_lt_of_cell? w _ hw136_2)).trans hw136_2), ((HB.out.cell (World.block_lt_of_cell? w _ hw136_3)).trans hw136_3)⟩ (fun hHeld => ?_)
                   clear hK K
                   refine nm_ 133 ?_
                   refine pu_ 12 121 17 8191 ?_
                   refine pu_ 13 134 17 16383 ?_
                   refine pu_ 14 135 17 32767 ?_
                   refine pu_ 15 12 17 65535 ?_
                   refine pu_ 16 13 17 131071 ?_
                   refine done_ (done_of HT_.out (by kernel_rfl)) ?_
                   try go_wp2
                   go_loopg [5, 14] kj29 (fun kq v5 v14 w' => ∃ (x5_6 : Bool) (x14_6 : Int), v5 = .bool x5_6 ∧ v14 = .int .i64 x14_6 ∧ Aside0 (flagstoneref09_Back.l2 kq l0 x4_29 x5_6 x6_1 x7_7 t131 t137 x14_6 = some (r1, r2)) ∧ Aside0 (kq ≤ kj29) ∧ Aside0 (Kd.N k86 86 w' w.heap.size (fun k_ => (w.heap.size ≤ k_) ∧ some k_ ≠ (v132 : Value).ownBlock ∧ some k_ ≠ (v139 : Value).ownBlock) (.slice (some ad127) x4_29.length co54) x4_29) ∧ Aside0 (Kd.R k24 24 w' w.heap.size (fun k_ => (w.heap.size ≤ k_) ∧ some k_ ≠ (v139 : Value).ownBlock) v132 t131) ∧ Aside0 (Kd.R k24 24 w' w.heap.size (fun k_ => (w.heap.size ≤ k_) ∧ some k_ ≠ (v132 : Value).ownBlock) v139 t137) ∧ Aside0 (Kd.C k24 w' A127_1 ((rd_T86 x4_29 x7_7).f1).length ((rd_T86 x4_29 x7_7).f1)) ∧ Aside0 (Below w.heap.size w w'))
                   case atStart => exact ⟨(x5_1), (0), (by first | rfl | (simp; done) | (simp [*]; done)), (by first | rfl | (simp; done) | (simp [*]; done)), H', ⟨Nat.le_refl _⟩, ⟨by (with_reducible repeat (first | apply Kd.N_alloc | apply Kd.N_drewN | apply Kd.N_drew)); exact Kd.N_mono HO_4.out (fun _ hk => ⟨hk.1.1, ⟨hk.1.2, hk.2⟩⟩)⟩, ⟨by (with_reducible repeat (first | apply Kd.R_alloc | apply Kd.R_drewN | apply Kd.R_drew)); exact Kd.R_mono HO133.out (fun _ hk => ⟨hk.1.1, hk.2⟩)⟩, ⟨by (with_reducible repeat (first | apply Kd.R_alloc | apply Kd.R_drewN | apply Kd.R_drew)); exact Kd.R_mono HO140.out (fun _ hk => ⟨hk.1.1, hk.2⟩)⟩, ⟨by repeat (first | (with_reducible exact HR127_1.out) | (with_reducible refine Kd.C_alloc ?_ _) | (with_reducible refine Kd.C_drewN ?_ _) | (with_reducible refine Kd.C_drew ?_) | exact HR127_1.out)⟩, ⟨by repeat (first | (with_reducible first | exact HB.out | apply below_alloc | apply pw_below_drewN | apply below_drew1) | exact HB.out)⟩⟩
                   case round =>
                    clear H'
                    try clear c1
                    try clear p1
                    try clear q1
                    try clear hx1
                    try clear c2
                    try clear p2
                    try clear c3
                    try clear c4
                    try clear q4
                    try clear c5
                    try clear p6
                    try clear p10
                    try clear q10
                    try clear hx10
                    try clear p11
                    try clear q11
                    try clear hx11
                    try clear c12
                    try clear p12
                    try clear q12
                    try clear hx12
                    try clear p13
                    try clear q13
                    try clear hx13
                    try clear c28
                    try clear c39
                    try clear c40
                    try clear q41
                    try clear c45
                    try clear q45
                    try clear c47
                    try clear c47b0
                    try clear c48
                    try clear c48b0
                    try clear c49
                    try clear c49b0
                    try clear c50
                    try clear c50b0
                    try clear c52
                    try clear c52b0
                    try clear c52b1
                    try clear hx101_0
                    try clear hx101_1
                    try clear hx101_2
                    try clear hx101_3
                    try clear hx102_0
                    try clear hx102_1
                    try clear hx102_2
                    try clear hx102_3
                    try clear hx103_0
                    try clear hx103_1
                    try clear hx104_0
                    try clear hx104_1
                    try clear hx104_2
                    try clear hx104_3
                    try clear hx105_0
                    try clear hx105_1
                    try clear hx106_0
                    try clear hx106_1
                    try clear hx106_2
                    try clear hx106_3
                    try clear hx115_0
                    try clear hx115_1
                    try clear hx115_2
                    try clear hx115_3
                    try clear hx127_0
                    try clear hx127_1
                    try clear hx128_0
                    try clear hx128_1
                    try clear hx128_2
                    try clear hx128_3
                    try clear hx129_0
                    try clear hx129_1
                    try clear hx129_2
                    try clear hx129_3
                    try clear hx130_0
                    try clear hx130_1
                    try clear hx130_2
                    try clear hx130_3
                    try clear hx135_0
                    try clear hx135_1
                    try clear hx135_2
                    try clear hx135_3
                    try clear hx136_0
                    try clear hx136_1
                    try clear hx136_2
                    try clear hx136_3
                    try clear p1
                    try clear p10
                    try clear p101
                    try clear p102
                    try clear p103
                    try clear p104
                    try clear p105
                    try clear p106
                    try clear p115
                    try clear p127
                    try clear p128
                    try clear p129
                    try clear p130
                    try clear p135
                    try clear p136
                    try clear p2
                    try clear p6
                    try clear q045
                    try clear q1
                    try clear q10
                    try clear q101
                    try clear q102
                    try clear q103
                    try clear q104
                    try clear q105
                    try clear q106
                    try clear q115
                    try clear q127
                    try clear q128
                    try clear q129
                    try clear q130
                    try clear q135
                    try clear q136
                    try clear q41
                    try clear q45
                    obtain ⟨x5_6, x14_6, rfl, rfl, HA, HK6, HO_4, HO_10, HO_12, HR127_1, HB⟩ := hrel
                    cases gk with
                    | zero => exact absurd HA.out (by simp [flagstoneref09_Back.l2])
                    | succ k6 =>
                     have H := HA.out
                     clear HA
                     simp only [flagstoneref09_Back.l2] at H
                     by_cases c59 : x14_6 < (t137.length : Int)
                     ·rw [if_pos c59] at H
                      have c59b0 : decide (x14_6 < (t137.length : Int)) = true := decide_eq_true c59
                      clear c59
                      by_cases c60 : x5_6 = true
                      ·subst c60
                       have H1 : (flagstoneref09_Back.l2 k6 l0 x4_29 true x6_1 x7_7 t131 t137 (wrap64 (x14_6 + 1))) = some (r1, r2) := by rw [if_pos rfl] at H; exact H
                       clear H
                       have H := H1
                       clear H1
                       have H' := Aside0.mk H
                       clear H
                       obtain ⟨Ao61, co61, eo61⟩ := Kd.R_slice HO_12.out
                       subst eo61
                       go_wp2
                       go_roundg k6
                       case measure => have := HK1.out; have := HJ3.out; have := HJ7.out; have := HJ19.out; have := HJ29.out; have := HK6.out; omega
                       case rel => exact ⟨(true), (wrap64 (x14_6 + 1)), (by first | rfl | (simp; done) | (simp [*]; done)), (by first | rfl | (simp; done) | (simp [*]; done)), H', ⟨by have := HK1.out; have := HJ3.out; have := HJ7.out; have := HJ19.out; have := HJ29.out; have := HK6.out; omega⟩, ⟨by (with_reducible repeat (first | apply Kd.N_alloc | apply Kd.N_drewN | apply Kd.N_drew)); exact HO_4.out⟩, ⟨by (with_reducible repeat (first | apply Kd.R_alloc | apply Kd.R_drewN | apply Kd.R_drew)); exact HO_10.out⟩, ⟨by (with_reducible repeat (first | apply Kd.R_alloc | apply Kd.R_drewN | apply Kd.R_drew)); exact HO_12.out⟩, ⟨by repeat (first | (with_reducible exact HR127_1.out) | (with_reducible refine Kd.C_alloc ?_ _) | (with_reducible refine Kd.C_drewN ?_ _) | (with_reducible refine Kd.C_drew ?_) | exact HR127_1.out)⟩, ⟨by repeat (first | (with_reducible first | exact HB.out | apply below_alloc | apply pw_below_drewN | apply below_drew1) | exact HB.out)⟩⟩
                      ·replace c60 := Bool.eq_false_iff.mpr c60
                       subst c60
                       have H1 : (if 0 ≤ x14_6 then (flagstoneref09_Back.l2 k6 l0 x4_29 (((rd_T24 t137 x14_6).f1) != (-1)) x6_1 x7_7 t131 t137 (wrap64 (x14_6 + 1))) else (none)) = some (r1, r2) := by rw [if_neg (show ¬ (false = true) by decide)] at H; exact H
                       clear H
                       have H := H1
                       clear H1
                       by_cases c62 : 0 ≤ x14_6
                       ·rw [if_pos c62] at H
                        have c62b0 : decide (0 ≤ x14_6) = true := decide_eq_true c62
                        clear c62
                        have H' := Aside0.mk H
                        clear H
                        obtain ⟨Ao63, co63, eo63⟩ := Kd.R_slice HO_12.out
                        subst eo63
                        have p141 : 0 ≤ (x14_6 : Int) := of_decide_eq_true (by first | (with_reducible assumption) | assumption)
                        have q141 : x14_6 < (t137.length : Int) := of_decide_eq_true (by first | (with_reducible assumption) | assumption)
                        obtain ⟨ad141, e141, hx141_0, hx141_1, hx141_2⟩ := at_T24 (Kd.R_reads' HO_12.out).2.2 x14_6 p141 q141
                        cases e141
                        replace p141 := eq_true p141
                        replace q141 := eq_true q141
                        go_wp2
                        go_roundg k6
                        case measure => have := HK1.out; have := HJ3.out; have := HJ7.out; have := HJ19.out; have := HJ29.out; have := HK6.out; omega
                        case rel => exact ⟨((((rd_T24 t137 x14_6).f1) != (-1))), (wrap64 (x14_6 + 1)), (by first | rfl | (simp; done) | (simp [*]; done)), (by first | rfl | (simp; done) | (simp [*]; done)), H', ⟨by have := HK1.out; have := HJ3.out; have := HJ7.out; have := HJ19.out; have := HJ29.out; have := HK6.out; omega⟩, ⟨by (with_reducible repeat (first | apply Kd.N_alloc | apply Kd.N_drewN | apply Kd.N_drew)); exact HO_4.out⟩, ⟨by (with_reducible repeat (first | apply Kd.R_alloc | apply Kd.R_drewN | apply Kd.R_drew)); exact HO_10.out⟩, ⟨by (with_reducible repeat (first | apply Kd.R_alloc | apply Kd.R_drewN | apply Kd.R_drew)); exact HO_12.out⟩, ⟨by repeat (first | (with_reducible exact HR127_1.out) | (with_reducible refine Kd.C_alloc ?_ _) | (with_reducible refine Kd.C_drewN ?_ _) | (with_reducible refine Kd.C_drew ?_) | exact HR127_1.out)⟩, ⟨by repeat (first | (with_reducible first | exact HB.out | apply below_alloc | apply pw_below_drewN | apply below_drew1) | exact HB.out)⟩⟩
                       ·rw [if_neg c62] at H
                        exact absurd H (by simp)
                     ·rw [if_neg c59] at H
                      have c59b0 : decide (x14_6 < (t137.length : Int)) = false := decide_eq_false c59
                      clear c59
                      by_cases c64 : 0 ≤ x7_7
                      ·rw [if_pos c64] at H
                       have c64b0 : decide (0 ≤ x7_7) = true := decide_eq_true c64
                       clear c64
                       by_cases c65 : x7_7 < (x4_29.length : Int)
                       ·rw [if_pos c65] at H
                        have c65b0 : decide (x7_7 < (x4_29.length : Int)) = true := decide_eq_true c65
                        clear c65
                        obtain ⟨y142, hy142⟩ : ∃ y_ : List (S86), y_ = (x4_29.set (x7_7 : Int).toNat (⟨(rd_T86 x4_29 x7_7).f0, t131⟩ : S86)) := ⟨_, rfl⟩
                        replace H : (flagstoneref09_Back.l0 k6 l0 y142 x5_6 (wrap64 (x6_1 + 1))) = some (r1, r2) := by first | (rw [hy142]; with_reducible exact H) | (have H2_ := (Option.bind_some _ _).symm.trans H; rw [hy142]; with_reducible exact H2_) | (have H2_ := (Option.bind_some _ _).symm.trans H; with_reducible exact H2_) | with_reducible exact H | (rw [hy142]; exact H) | exact H
                        have Ny142 := Aside0.mk hy142
                        clear hy142
                        have H' := Aside0.mk H
                        clear H
                        obtain ⟨Ao67, co67, eo67⟩ := Kd.R_slice HO_12.out
                        subst eo67
                        have p66 : 0 ≤ (x7_7 : Int) := of_decide_eq_true (by first | (with_reducible assumption) | assumption)
                        have q66 : (x7_7 : Int) < ((x4_29.length : Int) : Int) := of_decide_eq_true (by first | (with_reducible assumption) | assumption)
                        obtain ⟨go66, co66, eo66, gb66, gl66, cl66, HG66⟩ := Kd.N_form HO_4.out (by omega)
                        (first | cases eo66 | (injection eo66 with ea_ en_ ec_; (first | subst ea_ | (injection ea_ with ea_; subst ea_)); subst ec_; clear en_))
                        have GB66 := Aside0.mk gb66
                        have GG66 := Aside0.mk HG66
                        clear gb66 gl66 HG66
                        (first | simp only [add_plain] at hx127_0 | skip)
                        (first | simp only [add_plain] at hx127_1 | skip)
                        obtain ⟨ce66, hcl66, hM66, hcc66, hfr66⟩ := Kd.N_elem HO_4.out z86 (x7_7 : Int) p66 q66
                        obtain ⟨ua66_1, uc66_1, rfl, ul66_1, ge66_1⟩ := k86_openF hM66
                        have hx66_0 : wr.cell? ⟨go66, (x7_7 : Int).toNat * 2, none⟩ = some (.int .i64 ((rd_T86 x4_29 x7_7).f0)) := hcc66 0 _ rfl
                        have hx66_1 : wr.cell? ⟨go66, (x7_7 : Int).toNat * 2 + 1, none⟩ = some (.slice ua66_1 ((rd_T86 x4_29 x7_7).f1).length uc66_1) := hcc66 1 _ rfl
                        have hf66_0 : wr.frozen? ⟨go66, (x7_7 : Int).toNat * 2, none⟩ = false := hfr66 0
                        have hf66_1 : wr.frozen? ⟨go66, (x7_7 : Int).toNat * 2 + 1, none⟩ = false := hfr66 1
                        clear hcl66 hcc66 hfr66 hM66
                        replace p66 := eq_true p66
                        replace q66 := eq_true q66
                        have HX68 := Aside0.mk (show Kd.N k86 86 wr w.heap.size (fun k_ => (w.heap.size ≤ k_) ∧ some k_ ≠ (.slice Ao67 t137.length co67 : Value).ownBlock) (.slice (some ⟨go66, 0, none⟩) x4_29.length co54) x4_29 from (by (with_reducible repeat (first | apply Kd.N_alloc | apply Kd.N_drewN | apply Kd.N_drew)); exact Kd.N_mono HO_4.out (fun _ hk => ⟨hk.1, hk.2.2⟩)))
                        obtain ⟨ce68, hcl68, hM68, hcc68, hfr68⟩ := Kd.N_elem HX68.out z86 (x7_7 : Int) (of_decide_eq_true (by first | (with_reducible assumption) | assumption)) (by have h_ : (x7_7 : Int) < ((x4_29.length : Int) : Int) := of_decide_eq_true (by first | (with_reducible assumption) | assumption); first | exact h_ | (have e_ := (Kd.N_reads' HO_4.out).1; omega) | simpa using h_)
                        obtain ⟨ua68_1, uc68_1, rfl, ul68_1, ge68_1⟩ := k86_openF hM68
                        have hA_ := Kd.R_apart' (d := k24) (e := 24) (e' := 86) (HO_10.out) (Kd.N_typed HO_4.out) (by decide)
                        obtain ⟨Ah_, ch_, hv_⟩ := Kd.R_slice HO_10.out
                        have hB_ : Kd.R k24 24 wr w.heap.size (fun k_ => ((fun k_ => (w.heap.size ≤ k_) ∧ some k_ ≠ (.slice Ao67 t137.length co67 : Value).ownBlock)) k_ ∧ k_ ≠ go66) (.slice Ah_ t131.length ch_) t131 := by rw [← hv_]; exact Kd.R_mono hA_ (fun k_ hk => ⟨⟨hk.1.1, hk.1.2⟩, fun e_ => hk.2 (by rw [e_]; rfl)⟩)
                        have hK_ : Kd.FK k86 wr (fun k_ => ((fun k_ => (w.heap.size ≤ k_) ∧ some k_ ≠ (.slice Ao67 t137.length co67 : Value).ownBlock)) k_ ∧ k_ ≠ go66) (⟨(rd_T86 x4_29 x7_7).f0, t131⟩ : S86) [.int .i64 (rd_T86 x4_29 x7_7).f0, v132] := by rw [hv_]; exact k86_mkF _ _ (⟨(rd_T86 x4_29 x7_7).f0, t131⟩ : S86) (Kd.R_reads' hB_).2.1 (Kd.R_F hB_)
                        have HP68 := Kd.N_seg HX68.out (x7_7 : Int) (of_decide_eq_true (by first | (with_reducible assumption) | assumption)) (by have h_ : (x7_7 : Int) < ((x4_29.length : Int) : Int) := of_decide_eq_true (by first | (with_reducible assumption) | assumption); first | exact h_ | (have e_ := (Kd.N_reads' HO_4.out).1; omega) | simpa using h_) (seg := [v132]) (j := 1) hcl68 hcc68 (show 2 ≤ 2 from by decide) (x' := (⟨(rd_T86 x4_29 x7_7).f0, t131⟩ : S86)) hK_ (fun _ hk => hk)
                        have hx68_1 := hcc68 1 _ rfl
                        (try simp only [show (k86).sz = 2 from rfl, Nat.mul_one, Nat.add_zero] at hx68_1)
                        have hf68_1 := hfr68 1
                        (try simp only [show (k86).sz = 2 from rfl, Nat.mul_one, Nat.add_zero] at hf68_1)
                        clear hcl68 hcc68 hfr68 hM68
                        go_wp2_with (first | ((with_reducible refine gate_store (t := 22) (p := 155) rfl ?_); refine store_event (t := 22) (p := 155) (v := ?vo_w69) (w1 := (wr.setCell ⟨go66, (x7_7 : Int).toNat * 2 + 1, none⟩ (v132))) ?hg ?ho ?hn ?hr ?_; (case ho => rfl); (case hg => rfl); (case hn => rfl); (case hr => first | (go_simp; done) | (go_simp; rfl)); intro w69 hw; have hg : wr.grownBy w69 (some go66) := (by rw [hw]; exact HP68.2); have hp_ : Kd.N k86 86 w69 w.heap.size (fun k_ => (w.heap.size ≤ k_) ∧ some k_ ≠ (.slice Ao67 t137.length co67 : Value).ownBlock) (.slice (some ⟨go66, 0, none⟩) x4_29.length co54) y142 := (by rw [hw, Ny142.out]; exact HP68.1); clear HP68; have n0_ := Aside0.mk (hp_); have n1_ := Aside0.mk (Kd.R_over' (v := (.slice (some ⟨go66, 0, none⟩) x4_29.length co54)) (by (with_reducible repeat (first | apply Kd.R_alloc | apply Kd.R_drewN | apply Kd.R_drew)); exact HO_12.out) (Kd.N_typed HO_4.out) (by decide) hg); have n2_ := Aside0.mk ((by rw [hw]; exact below_set (HB.out) GB66.out : Below w.heap.size w w69)); clear HO_4; clear HO_12; clear HB; clear HO_10; have HO_4 := n0_; have HO_12 := n1_; have HB := n2_; clear n0_ n1_ n2_; clear hg hw hp_))
                        go_roundg k6
                        case measure => have := HK1.out; have := HJ3.out; have := HJ7.out; have := HJ19.out; have := HJ29.out; have := HK6.out; omega
                        case rel => exact ⟨(y142), (x5_6), (wrap64 (x6_1 + 1)), (by first | rfl | (simp; done) | (simp [*]; done)), (by first | rfl | (simp; done) | (simp [*]; done)), H', ⟨by have := HK1.out; have := HJ3.out; have := HJ7.out; have := HJ19.out; have := HJ29.out; have := HK6.out; omega⟩, ⟨by (with_reducible repeat (first | apply Kd.N_alloc | apply Kd.N_drewN | apply Kd.N_drew)); exact Kd.N_mono HO_4.out (fun _ hk => hk.1)⟩, ⟨by repeat (first | (with_reducible first | exact HB.out | apply below_alloc | apply pw_below_drewN | apply below_drew1) | exact HB.out)⟩⟩
                       ·rw [if_neg c65] at H
                        exact absurd H (by simp)
                      ·rw [if_neg c64] at H
                       exact absurd H (by simp)
                  ·rw [if_neg c52] at H
                   have c52b0 : (t134 == 0) = false := beq_eq_false_iff_ne.mpr c52
                   have c52b1 : (t134 != 0) = true := bne_iff_ne.mpr c52
                   simp only [Option.some.injEq, Prod.mk.injEq] at H
                   obtain ⟨rfl, rfl⟩ := H
                   obtain ⟨Ao70, co70, eo70⟩ := Kd.N_slice HO_4.out
                   subst eo70
                   have p127 : 0 ≤ (x7_7 : Int) := of_decide_eq_true (by first | (with_reducible assumption) | assumption)
                   have q127 : x7_7 < (x4_29.length : Int) := of_decide_eq_true (by first | (with_reducible assumption) | assumption)
                   obtain ⟨ad127, A127_1, c127_1, e127, hx127_0, hx127_1, hl127_1, hi127_1⟩ := at_T86 (Kd.N_reads' HO_4.out).2.2 x7_7 p127 q127
                   cases e127
                   obtain ⟨ce127, hce127, hMe127, hcc127⟩ := Kd.N_get HO_4.out z86 x7_7 p127 (by first | exact q127 | exact of_decide_eq_true (by first | (with_reducible assumption) | assumption) | (have e_ := (Kd.N_reads' HO_4.out).1; omega))
                   obtain ⟨ua127_1, uc127_1, rfl, ul127_1, ge127_1⟩ := k86_openF hMe127
                   have hv127_1 := hcc127 1 _ rfl
                   rw [add_field _ _ 1 (by omega)] at hv127_1
                   replace hv127_1 := Option.some.inj (hv127_1.symm.trans hx127_1)
                   injection hv127_1 with hva_ hvn_ hvc_
                   rw [hva_] at ge127_1
                   rw [hvc_] at ul127_1
                   have HL127_1 := Aside0.mk (show Kd.V k24 24 _ w.heap.size _ _ ((rd_T86 x4_29 x7_7).f1) from Kd.V_mk ul127_1 ge127_1)
                   clear hva_ hvn_ hvc_ ge127_1 ul127_1
                   clear hcc127 hce127
                   have HR127_1 := Aside0.mk hi127_1
                   have HC127_1 := Aside0.mk hl127_1
                   clear hi127_1 hl127_1
                   replace p127 := eq_true p127
                   replace q127 := eq_true q127
                   try go_wp2
                   have n0_ := Aside0.mk (Kd.N_drew HO_4.out)
                   have n1_ := Aside0.mk (Kd.V_drew HL127_1.out)
                   have n2_ := Aside0.mk (Kd.C_drew HR127_1.out)
                   have n3_ := Aside0.mk (below_drew1 HB.out)
                   clear HO_4
                   clear HL127_1
                   clear HR127_1
                   clear HB
                   have HO_4 := n0_
                   have HL127_1 := n1_
                   have HR127_1 := n2_
                   have HB := n3_
                   clear n0_ n1_ n2_ n3_
                   have p128 : 0 ≤ (x6_1 : Int) := of_decide_eq_true (by first | (with_reducible assumption) | assumption)
                   have q128 : x6_1 < (l0.length : Int) := of_decide_eq_true (by first | (with_reducible assumption) | assumption)
                   obtain ⟨ad128, e128, hx128_0, hx128_1, hx128_2, hx128_3⟩ := at_T118 HR0.out x6_1 p128 q128
                   have hw128_3 := hx128_3
                   have hw128_2 := hx128_2
                   have hw128_1 := hx128_1
                   have hw128_0 := hx128_0
                   cases e128
                   replace hx128_0 := (HB.out.cell (World.block_lt_of_cell? w _ hx128_0)).trans hx128_0
                   replace hx128_1 := (HB.out.cell (World.block_lt_of_cell? w _ hx128_1)).trans hx128_1
                   replace hx128_2 := (HB.out.cell (World.block_lt_of_cell? w _ hx128_2)).trans hx128_2
                   replace hx128_3 := (HB.out.cell (World.block_lt_of_cell? w _ hx128_3)).trans hx128_3
                   replace p128 := eq_true p128
                   replace q128 := eq_true q128
                   have p129 : 0 ≤ (x6_1 : Int) := of_decide_eq_true (by first | (with_reducible assumption) | assumption)
                   have q129 : x6_1 < (l0.length : Int) := of_decide_eq_true (by first | (with_reducible assumption) | assumption)
                   obtain ⟨ad129, e129, hx129_0, hx129_1, hx129_2, hx129_3⟩ := at_T118 HR0.out x6_1 p129 q129
                   have hw129_3 := hx129_3
                   have hw129_2 := hx129_2
                   have hw129_1 := hx129_1
                   have hw129_0 := hx129_0
                   obtain rfl : ad128 = ad129 := (by injection e129)
                   replace hx129_0 := (HB.out.cell (World.block_lt_of_cell? w _ hx129_0)).trans hx129_0
                   replace hx129_1 := (HB.out.cell (World.block_lt_of_cell? w _ hx129_1)).trans hx129_1
                   replace hx129_2 := (HB.out.cell (World.block_lt_of_cell? w _ hx129_2)).trans hx129_2
                   replace hx129_3 := (HB.out.cell (World.block_lt_of_cell? w _ hx129_3)).trans hx129_3
                   replace p129 := eq_true p129
                   replace q129 := eq_true q129
                   have p130 : 0 ≤ (x6_1 : Int) := of_decide_eq_true (by first | (with_reducible assumption) | assumption)
                   have q130 : x6_1 < (l0.length : Int) := of_decide_eq_true (by first | (with_reducible assumption) | assumption)
                   obtain ⟨ad130, e130, hx130_0, hx130_1, hx130_2, hx130_3⟩ := at_T118 HR0.out x6_1 p130 q130
                   have hw130_3 := hx130_3
                   have hw130_2 := hx130_2
                   have hw130_1 := hx130_1
                   have hw130_0 := hx130_0
                   obtain rfl : ad128 = ad130 := (by injection e130)
                   replace hx130_0 := (HB.out.cell (World.block_lt_of_cell? w _ hx130_0)).trans hx130_0
                   replace hx130_1 := (HB.out.cell (World.block_lt_of_cell? w _ hx130_1)).trans hx130_1
                   replace hx130_2 := (HB.out.cell (World.block_lt_of_cell? w _ hx130_2)).trans hx130_2
                   replace hx130_3 := (HB.out.cell (World.block_lt_of_cell? w _ hx130_3)).trans hx130_3
                   replace p130 := eq_true p130
                   replace q130 := eq_true q130
                   refine start_ (n := 23) (S := fun w' => w'.cell? (ad128.add ((x6_1).toNat * 4)) = some (.int .i64 ((rd_T118 l0 x6_1).f0)) ∧ w'.cell? ⟨(ad128.add ((x6_1).toNat * 4)).block, (ad128.add ((x6_1).toNat * 4)).off + 1, none⟩ = some (.int .i64 ((rd_T118 l0 x6_1).f1)) ∧ w'.cell? ⟨(ad128.add ((x6_1).toNat * 4)).block, (ad128.add ((x6_1).toNat * 4)).off + 2, none⟩ = some (.int .i64 ((rd_T118 l0 x6_1).f2)) ∧ w'.cell? ⟨(ad128.add ((x6_1).toNat * 4)).block, (ad128.add ((x6_1).toNat * 4)).off + 3, none⟩ = some (.int .i64 ((rd_T118 l0 x6_1).f3)) ∧ w'.cell? (ad128.add ((x6_1).toNat * 4)) = some (.int .i64 ((rd_T118 l0 x6_1).f0)) ∧ w'.cell? ⟨(ad128.add ((x6_1).toNat * 4)).block, (ad128.add ((x6_1).toNat * 4)).off + 1, none⟩ = some (.int .i64 ((rd_T118 l0 x6_1).f1)) ∧ w'.cell? ⟨(ad128.add ((x6_1).toNat * 4)).block, (ad128.add ((x6_1).toNat * 4)).off + 2, none⟩ = some (.int .i64 ((rd_T118 l0 x6_1).f2)) ∧ w'.cell? ⟨(ad128.add ((x6_1).toNat * 4)).block, (ad128.add ((x6_1).toNat * 4)).off + 3, none⟩ = some (.int .i64 ((rd_T118 l0 x6_1).f3)) ∧ w'.cell? (ad128.add ((x6_1).toNat * 4)) = some (.int .i64 ((rd_T118 l0 x6_1).f0)) ∧ w'.cell? ⟨(ad128.add ((x6_1).toNat * 4)).block, (ad128.add ((x6_1).toNat * 4)).off + 1, none⟩ = some (.int .i64 ((rd_T118 l0 x6_1).f1)) ∧ w'.cell? ⟨(ad128.add ((x6_1).toNat * 4)).block, (ad128.add ((x6_1).toNat * 4)).off + 2, none⟩ = some (.int .i64 ((rd_T118 l0 x6_1).f2)) ∧ w'.cell? ⟨(ad128.add ((x6_1).toNat * 4)).block, (ad128.add ((x6_1).toNat * 4)).off + 3, none⟩ = some (.int .i64 ((rd_T118 l0 x6_1).f3))) (ds := []) #[yF,yF,yF,yF,yF,yF,yF,yF,yF,yF,yF,yF,yF,yF,yF,yF,yF,yF,yF,yF,yF,yF,yF] (by kernel_rfl) rfl rfl ⟨((HB.out.cell (World.block_lt_of_cell? w _ hw128_0)).trans hw128_0), ((HB.out.cell (World.block_lt_of_cell? w _ hw128_1)).trans hw128_1), ((HB.out.cell (World.block_lt_of_cell? w _ hw128_2)).trans hw128_2), ((HB.out.cell (World.block_lt_of_cell? w _ hw128_3)).trans hw128_3), ((HB.out.cell (World.block_lt_of_cell? w _ hw129_0)).trans hw129_0), ((HB.out.cell (World.block_lt_of_cell? w _ hw129_1)).trans hw129_1), ((HB.out.cell (World.block_lt_of_cell? w _ hw129_2)).trans hw129_2), ((HB.out.cell (World.block_lt_of_cell? w _ hw129_3)).trans hw129_3), ((HB.out.cell (World.block_lt_of_cell? w _ hw130_0)).trans hw130_0), ((HB.out.cell (World.block_lt_of_cell? w _ hw130_1)).trans hw130_1), ((HB.out.cell (World.block_lt_of_cell? w _ hw130_2)).trans hw130_2), ((HB.out.cell (World.block_lt_of_cell? w _ hw130_3)).trans hw130_3)⟩ (fun hHeld => ?_); refine with_tabW flagstoneref09_Back.tab19 flagstoneref09_Back.bits19 (fun HT_ HW_ => ?_)
                   generalize wc.drew = w71 at HO_4 HL127_1 HR127_1 HB hx128_0 hx128_1 hx128_2 hx128_3 hx129_0 hx129_1 hx129_2 hx129_3 hx130_0 hx130_1 hx130_2 hx130_3 hHeld ⊢
                   refine pu_ 0 99 23 1 ?_
                   refine pu_ 1 100 23 3 ?_
                   refine pu_ 2 101 23 7 ?_
                   refine pu_ 3 102 23 15 ?_
                   refine pu_ 4 103 23 31 ?_
                   refine pu_ 6 105 23 95 ?_
                   refine pu_ 7 106 23 223 ?_
                   refine pu_ 8 107 23 479 ?_
                   refine pu_ 9 108 23 991 ?_
                   refine pu_ 11 110 23 3039 ?_
                   refine pu_ 12 111 23 7135 ?_
                   refine pu_ 13 112 23 15327 ?_
                   refine pu_ 14 113 23 31711 ?_
                   refine tk_ 5 104 23 31743 ?_
                   refine tk_ 10 109 23 32767 ?_
                   refine tk_ 15 114 23 65535 ?_
                   refine pu_ 16 115 23 131071 ?_
                   refine on_ 17 116 23 262143 (fun K hK => ?_)
                   refine goes_ Try.func28 (by kernel_rfl) rfl #[.slice A127_1 ((rd_T86 x4_29 x7_7).f1).length c127_1, .agg #[.int .i64 ((rd_T118 l0 x6_1).f3), .int .i64 ((rd_T118 l0 x6_1).f0), .int .i64 ((rd_T118 l0 x6_1).f1)]] (by rfl) rfl rfl (by (try simp only [List.map_toArray, List.map_cons, List.map_nil]); first | done | rfl | (simp only [List.length_drop, List.length_take]; rfl)) ?_
                   with_reducible refine (flagstoneref05_Put.calls kj29 _ _ ((rd_T86 x4_29 x7_7).f1) ((rd_T118 l0 x6_1).f3) ((rd_T118 l0 x6_1).f0) ((rd_T118 l0 x6_1).f1) t131 t134 _ ?side1 ?side2 A51.out).mono ?_
                   (case side1 => repeat (first | exact (by repeat (first | (with_reducible exact HR127_1.out) | (with_reducible refine Kd.C_alloc ?_ _) | (with_reducible refine Kd.C_drewN ?_ _) | (with_reducible refine Kd.C_drew ?_) | exact HR127_1.out)) | (with_reducible refine Kd.C_alloc ?_ _) | (with_reducible refine Kd.C_drewN ?_ _) | (with_reducible refine Kd.C_drew ?_)))
                   (case side2 => exact HC127_1.out)
                   rintro e w72 ⟨v132, rfl, ho0, hb⟩
                   refine ⟨_, rfl, ?_⟩
                   have n0_ := Aside0.mk (Kd.N_elder' (by (with_reducible repeat (first | apply Kd.N_alloc | apply Kd.N_drewN | apply Kd.N_drew)); exact HO_4.out) (Kd.R_base ho0) hb)
                   have n1_ := Aside0.mk (Kd.V_elder' (by (with_reducible repeat (first | apply Kd.V_alloc | apply Kd.V_drewN | apply Kd.V_drew)); exact HL127_1.out) (Kd.R_base ho0) hb)
                   have n2_ := Aside0.mk (Kd.R_lower (Kd.R_newM (M := fun k_ => (w.heap.size ≤ k_)) ho0 (below_size (by repeat (first | (with_reducible first | exact HB.out | apply below_alloc | apply pw_below_drewN | apply below_drew1) | exact HB.out))) (fun k_ h_ => h_)) (below_size (by repeat (first | (with_reducible first | exact HB.out | apply below_alloc | apply pw_below_drewN | apply below_drew1) | exact HB.out))))
                   have n3_ := Aside0.mk (Kd.C_below (by repeat (first | (with_reducible exact HR127_1.out) | (with_reducible refine Kd.C_alloc ?_ _) | (with_reducible refine Kd.C_drewN ?_ _) | (with_reducible refine Kd.C_drew ?_) | exact HR127_1.out)) hb)
                   have n4_ := Aside0.mk (below_step (by repeat (first | (with_reducible first | exact HB.out | apply below_alloc | apply pw_below_drewN | apply below_drew1) | exact HB.out)) hb)
                   clear HO_4
                   clear HL127_1
                   clear HR127_1
                   clear HB
                   have HO_4 := n0_
                   have HL127_1 := n1_
                   have HO133 := n2_
                   have HR127_1 := n3_
                   have HB := n4_
                   clear n0_ n1_ n2_ n3_ n4_
                   (try clear hb)
                   (try clear hb2)
                   (try clear hk)
                   (try clear hi)
                   (try clear ho0)
                   refine hK.out _ _ ⟨((HB.out.cell (World.block_lt_of_cell? w _ hw128_0)).trans hw128_0), ((HB.out.cell (World.block_lt_of_cell? w _ hw128_1)).trans hw128_1), ((HB.out.cell (World.block_lt_of_cell? w _ hw128_2)).trans hw128_2), ((HB.out.cell (World.block_lt_of_cell? w _ hw128_3)).trans hw128_3), ((HB.out.cell (World.block_lt_of_cell? w _ hw129_0)).trans hw129_0), ((HB.out.cell (World.block_lt_of_cell? w _ hw129_1)).trans hw129_1), ((HB.out.cell (World.block_lt_of_cell? w _ hw129_2)).trans hw129_2), ((HB.out.cell (World.block_lt_of_cell? w _ hw129_3)).trans hw129_3), ((HB.out.cell (World.block_lt_of_cell? w _ hw130_0)).trans hw130_0), ((HB.out.cell (World.block_lt_of_cell? w _ hw130_1)).trans hw130_1), ((HB.out.cell (World.block_lt_of_cell? w _ hw130_2)).trans hw130_2), ((HB.out.cell (World.block_lt_of_cell? w _ hw130_3)).trans hw130_3)⟩ (fun hHeld => ?_)
                   clear hK K
                   refine nm_ 116 ?_
                   refine pu_ 18 98 23 524287 ?_
                   refine pu_ 19 117 23 1048575 ?_
                   refine pu_ 20 118 23 2097151 ?_
                   refine pu_ 21 10 23 4194303 ?_
                   refine pu_ 22 11 23 8388607 ?_
                   refine done_ (done_of HT_.out (by kernel_rfl)) ?_
                   try go_wp2
                   go_ret2
                   exact ⟨_, by first | rfl | (simp [errW_none, errW_some] <;> rfl) | (simp [*, errW_none, errW_some] <;> rfl), by first | exact Kd.S_nil _ _ _ _ _ | exact Kd.N_nil _ _ _ _ _ | exact Kd.V_nil _ _ _ _ _ | exact Kd.Q_nil _ _ _ _ _ | exact Kd.R_nil _ _ _ _ _, by repeat (first | (with_reducible first | exact HB.out | apply below_alloc | apply pw_below_drewN | apply below_drew1) | exact HB.out)⟩
                 ·rw [if_neg c50] at H
                  exact absurd H (by simp)
                ·rw [if_neg c49] at H
                 exact absurd H (by simp)
               ·rw [if_neg c48] at H
                exact absurd H (by simp)
              ·rw [if_neg c47] at H
               exact absurd H (by simp)
    ·rw [if_neg c3] at H
     have c3b0 : decide (x6_1 < (l0.length : Int)) = false := decide_eq_false c3
     clear c3
     by_cases c73 : x5_1 = true
     ·subst c73
      have H1 : (some (([] : List (S86)), 6)) = some (r1, r2) := by rw [if_pos rfl] at H; exact H
      clear H
      have H := H1
      clear H1
      simp only [Option.some.injEq, Prod.mk.injEq] at H
      obtain ⟨rfl, rfl⟩ := H
      go_wp2
      go_ret2
      exact ⟨_, by first | rfl | (simp [errW_none, errW_some] <;> rfl) | (simp [*, errW_none, errW_some] <;> rfl), by first | exact Kd.S_nil _ _ _ _ _ | exact Kd.N_nil _ _ _ _ _ | exact Kd.V_nil _ _ _ _ _ | exact Kd.Q_nil _ _ _ _ _ | exact Kd.R_nil _ _ _ _ _, by repeat (first | (with_reducible first | exact HB.out | apply below_alloc | apply pw_below_drewN | apply below_drew1) | exact HB.out)⟩
     ·replace c73 := Bool.eq_false_iff.mpr c73
      subst c73
      have H1 : (if (x4_1.length : Int) > 9 then (some (([] : List (S86)), 3)) else (some (x4_1, 0))) = some (r1, r2) := by rw [if_neg (show ¬ (false = true) by decide)] at H; exact H
      clear H
      have H := H1
      clear H1
      by_cases c74 : (x4_1.length : Int) > 9
      ·rw [if_pos c74] at H
       have c74b0 : decide (9 < (x4_1.length : Int)) = true := decide_eq_true c74
       have c74b1 : decide (9 < x4_1.length) = true := decide_eq_true (by omega)
       clear c74
       simp only [Option.some.injEq, Prod.mk.injEq] at H
       obtain ⟨rfl, rfl⟩ := H
       obtain ⟨Ao75, co75, eo75⟩ := Kd.N_slice HO_4.out
       subst eo75
       go_wp2
       go_ret2
       exact ⟨_, by first | rfl | (simp [errW_none, errW_some] <;> rfl) | (simp [*, errW_none, errW_some] <;> rfl), by first | exact Kd.S_nil _ _ _ _ _ | exact Kd.N_nil _ _ _ _ _ | exact Kd.V_nil _ _ _ _ _ | exact Kd.Q_nil _ _ _ _ _ | exact Kd.R_nil _ _ _ _ _, by repeat (first | (with_reducible first | exact HB.out | apply below_alloc | apply pw_below_drewN | apply below_drew1) | exact HB.out)⟩
      ·rw [if_neg c74] at H
       have c74b0 : decide (9 < (x4_1.length : Int)) = false := decide_eq_false c74
       have c74b1 : decide (9 < x4_1.length) = false := decide_eq_false (by omega)
       clear c74
       simp only [Option.some.injEq, Prod.mk.injEq] at H
       obtain ⟨rfl, rfl⟩ := H
       obtain ⟨Ao76, co76, eo76⟩ := Kd.N_slice HO_4.out
       subst eo76
       go_wp2
       go_ret2
       exact ⟨_, by first | rfl | (simp [errW_none, errW_some] <;> rfl) | (simp [*, errW_none, errW_some] <;> rfl), by (with_reducible repeat (first | apply Kd.N_alloc | apply Kd.N_drewN | apply Kd.N_drew)); exact HO_4.out, by repeat (first | (with_reducible first | exact HB.out | apply below_alloc | apply pw_below_drewN | apply below_drew1) | exact HB.out)⟩
end Go.Proofs.Ytkkfkdncddbaeaa.Fn
