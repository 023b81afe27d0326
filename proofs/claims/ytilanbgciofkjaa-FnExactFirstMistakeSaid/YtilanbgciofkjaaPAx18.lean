-- Written by this claim's printing program (wip/tools/xprint.py) out of the translation; Lean checks it.
import Derived.Test.YtilanbgciofkjaaPAx0
import Derived.Test.YtilanbgciofkjaaPAx1
import Derived.Test.YtilanbgciofkjaaPAx2
import Derived.Test.YtilanbgciofkjaaPAx3
import Derived.Test.YtilanbgciofkjaaPAx17
namespace Go.Proofs.Ytilanbgciofkjaa.PA
open Go.RowKit Go.Proofs.YtilanbgciofkjaaW.PrintWords Go.Proofs.YtilanbgciofkjaaW.PrintLast Go.Proofs.YtilanbgciofkjaaW.PrintMore
attribute [local go_sem] max2_int min2_int max_two min_two max_three min_three max_four min_four   -- for this text's walks alone
set_option linter.unusedVariables false
set_option linter.unusedSimpArgs false

theorem sA_ {α : Type} (l : List α) (i : Nat) (a : α) : l.toArray.setIfInBounds i a = (l.set i a).toArray := List.setIfInBounds_toArray ..
theorem sB_ {α : Type} (x a : α) (l : List α) : (x :: l).set 0 a = a :: l := rfl
theorem sC_ {α : Type} (x a : α) (l : List α) (n : Nat) : (x :: l).set (n + 1) a = x :: l.set n a := rfl
abbrev t_ : Bool := true
abbrev f_ : Bool := false
/-! ### spec_RecordOk: function 73 -/
mutual
def spec_RecordOk.j0 : Nat → Int → Bool → Int → List Int → List Int → List Int → Option (Bool)
 | 0, _, _, _, _, _, _ => none
 | k + 1, x5, x42, x275000, x275001, x276000, x276001 => if x42 = true then (some false) else (if 0 < (x276000.length : Int) then (if 0 < (x276001.length : Int) then (if (rd x276000 0) = (rd x276001 0) then (spec_RecordOk.j1 k x5 (decide (x5 > 1)) x275000 x275001 x276000 x276001) else (spec_RecordOk.j1 k x5 false x275000 x275001 x276000 x276001)) else (none)) else (none))
def spec_RecordOk.j1 : Nat → Int → Bool → Int → List Int → List Int → List Int → Option (Bool)
 | 0, _, _, _, _, _, _ => none
 | k + 1, x5, x55, x275000, x275001, x276000, x276001 => if x55 = true then (some false) else (spec_RecordOk.l0 k x5 1 x275000 x275001 x276000 x276001)
def spec_RecordOk.l0 : Nat → Int → Int → Int → List Int → List Int → List Int → Option (Bool)
 | 0, _, _, _, _, _, _ => none
 | k + 1, x5, x6, x275000, x275001, x276000, x276001 => if x6 < x5 then (if 0 ≤ (wrap64 (x6 - 1)) then (if (wrap64 (x6 - 1)) < (x276000.length : Int) then (if 0 ≤ x6 then (if x6 < (x276000.length : Int) then ((spec_l07Step.f x275000 x275001 (rd x276000 (wrap64 (x6 - 1))) (rd x276000 x6)).bind fun t286 => (if t286 = true then (if (wrap64 (x6 - 1)) < (x276001.length : Int) then (if x6 < (x276001.length : Int) then ((spec_l07Step.f x275000 x275001 (rd x276001 (wrap64 (x6 - 1))) (rd x276001 x6)).bind fun t289 => (spec_RecordOk.j3 k x5 x6 (!t289) x275000 x275001 x276000 x276001)) else (none)) else (none)) else (spec_RecordOk.j3 k x5 x6 true x275000 x275001 x276000 x276001))) else (none)) else (none)) else (none)) else (none)) else (some true)
def spec_RecordOk.j3 : Nat → Int → Int → Bool → Int → List Int → List Int → List Int → Option (Bool)
 | 0, _, _, _, _, _, _, _ => none
 | k + 1, x5, x6, x90, x275000, x275001, x276000, x276001 => if x90 = true then (some false) else (if 0 ≤ x6 then (if x6 < (x276000.length : Int) then (if 0 ≤ (wrap64 (x6 - 1)) then (if (wrap64 (x6 - 1)) < (x276001.length : Int) then (if (rd x276000 x6) = (rd x276001 (wrap64 (x6 - 1))) then (if x6 < (x276001.length : Int) then (if (rd x276001 x6) = (rd x276001 (wrap64 (x6 - 1))) then (spec_RecordOk.j4 k x5 x6 (decide (x6 < (wrap64 (x5 - 1)))) x275000 x275001 x276000 x276001) else (spec_RecordOk.j4 k x5 x6 true x275000 x275001 x276000 x276001)) else (none)) else (spec_RecordOk.j4 k x5 x6 false x275000 x275001 x276000 x276001)) else (none)) else (none)) else (none)) else (none))
def spec_RecordOk.j4 : Nat → Int → Int → Bool → Int → List Int → List Int → List Int → Option (Bool)
 | 0, _, _, _, _, _, _, _ => none
 | k + 1, x5, x6, x122, x275000, x275001, x276000, x276001 => if x122 = true then (some false) else (if 0 ≤ x6 then (if x6 < (x276000.length : Int) then (if x6 < (x276001.length : Int) then (if (rd x276000 x6) = (rd x276001 x6) then (if x6 < (wrap64 (x5 - 1)) then (some false) else (spec_RecordOk.l0 k x5 (wrap64 (x6 + 1)) x275000 x275001 x276000 x276001)) else (spec_RecordOk.l0 k x5 (wrap64 (x6 + 1)) x275000 x275001 x276000 x276001)) else (none)) else (none)) else (none))
end
def spec_RecordOk.f (k : Nat) (a0_0 : Int) (l0_1 : List Int) (l1_0 : List Int) (l1_1 : List Int) : Option (Bool) := (spec_GraphOk.f k a0_0 l0_1).bind fun t276 => (if t276 = true then ((spec_l01In.f (l1_0.length : Int) 1 60).bind fun t277 => (if t277 = true then (if (l1_1.length : Int) = (l1_0.length : Int) then (if 0 < (l1_0.length : Int) then ((spec_l02Vertex.f a0_0 l0_1 (rd l1_0 0)).bind fun t279 => (if t279 = true then (if 0 < (l1_1.length : Int) then ((spec_l02Vertex.f a0_0 l0_1 (rd l1_1 0)).bind fun t281 => (spec_RecordOk.j0 k (l1_0.length : Int) (!t281) a0_0 l0_1 l1_0 l1_1)) else (none)) else (spec_RecordOk.j0 k (l1_0.length : Int) true a0_0 l0_1 l1_0 l1_1))) else (none)) else (spec_RecordOk.j0 k (l1_0.length : Int) true a0_0 l0_1 l1_0 l1_1)) else (spec_RecordOk.j0 k (l1_0.length : Int) true a0_0 l0_1 l1_0 l1_1))) else (spec_RecordOk.j0 k (l1_0.length : Int) true a0_0 l0_1 l1_0 l1_1))
theorem spec_RecordOk.mono_l : ∀ k, (∀ y0 y1 y2 y3 y4 y5, LeO (spec_RecordOk.j0 k y0 y1 y2 y3 y4 y5) (spec_RecordOk.j0 (k + 1) y0 y1 y2 y3 y4 y5)) ∧ (∀ y0 y1 y2 y3 y4 y5, LeO (spec_RecordOk.j1 k y0 y1 y2 y3 y4 y5) (spec_RecordOk.j1 (k + 1) y0 y1 y2 y3 y4 y5)) ∧ (∀ y0 y1 y2 y3 y4 y5, LeO (spec_RecordOk.l0 k y0 y1 y2 y3 y4 y5) (spec_RecordOk.l0 (k + 1) y0 y1 y2 y3 y4 y5)) ∧ (∀ y0 y1 y2 y3 y4 y5 y6, LeO (spec_RecordOk.j3 k y0 y1 y2 y3 y4 y5 y6) (spec_RecordOk.j3 (k + 1) y0 y1 y2 y3 y4 y5 y6)) ∧ (∀ y0 y1 y2 y3 y4 y5 y6, LeO (spec_RecordOk.j4 k y0 y1 y2 y3 y4 y5 y6) (spec_RecordOk.j4 (k + 1) y0 y1 y2 y3 y4 y5 y6))
 | 0 => ⟨fun _ _ _ _ _ _ r h => by simp [spec_RecordOk.j0] at h, fun _ _ _ _ _ _ r h => by simp [spec_RecordOk.j1] at h, fun _ _ _ _ _ _ r h => by simp [spec_RecordOk.l0] at h, fun _ _ _ _ _ _ _ r h => by simp [spec_RecordOk.j3] at h, fun _ _ _ _ _ _ _ r h => by simp [spec_RecordOk.j4] at h⟩
 | k + 1 => by
  obtain ⟨ih0, ih1, ih2, ih3, ih4⟩ := spec_RecordOk.mono_l k
  refine ⟨?_, ?_, ?_, ?_, ?_⟩
  · intro y0 y1 y2 y3 y4 y5
    unfold spec_RecordOk.j0
    repeat' first
    | (with_reducible exact ih0 _ _ _ _ _ _)
    | (with_reducible exact ih1 _ _ _ _ _ _)
    | (with_reducible exact ih2 _ _ _ _ _ _)
    | (with_reducible exact ih3 _ _ _ _ _ _ _)
    | (with_reducible exact ih4 _ _ _ _ _ _ _)
    | (with_reducible exact spec_GraphOk.mono _ _ _)
    | (with_reducible exact LeO.refl _)
    | (with_reducible exact LeO.none _)
    | (with_reducible refine LeO.ite ?_ ?_)
    | (with_reducible refine LeO.bind ?_ (fun _ => ?_))
    | exact ih0 _ _ _ _ _ _
    | exact ih1 _ _ _ _ _ _
    | exact ih2 _ _ _ _ _ _
    | exact ih3 _ _ _ _ _ _ _
    | exact ih4 _ _ _ _ _ _ _
    | exact spec_GraphOk.mono _ _ _
    | exact LeO.none _
    | refine LeO.ite ?_ ?_
    | refine LeO.bind ?_ (fun _ => ?_)
  · intro y0 y1 y2 y3 y4 y5
    unfold spec_RecordOk.j1
    repeat' first
    | (with_reducible exact ih0 _ _ _ _ _ _)
    | (with_reducible exact ih1 _ _ _ _ _ _)
    | (with_reducible exact ih2 _ _ _ _ _ _)
    | (with_reducible exact ih3 _ _ _ _ _ _ _)
    | (with_reducible exact ih4 _ _ _ _ _ _ _)
    | (with_reducible exact spec_GraphOk.mono _ _ _)
    | (with_reducible exact LeO.refl _)
    | (with_reducible exact LeO.none _)
    | (with_reducible refine LeO.ite ?_ ?_)
    | (with_reducible refine LeO.bind ?_ (fun _ => ?_))
    | exact ih0 _ _ _ _ _ _
    | exact ih1 _ _ _ _ _ _
    | exact ih2 _ _ _ _ _ _
    | exact ih3 _ _ _ _ _ _ _
    | exact ih4 _ _ _ _ _ _ _
    | exact spec_GraphOk.mono _ _ _
    | exact LeO.none _
    | refine LeO.ite ?_ ?_
    | refine LeO.bind ?_ (fun _ => ?_)
  · intro y0 y1 y2 y3 y4 y5
    unfold spec_RecordOk.l0
    repeat' first
    | (with_reducible exact ih0 _ _ _ _ _ _)
    | (with_reducible exact ih1 _ _ _ _ _ _)
    | (with_reducible exact ih2 _ _ _ _ _ _)
    | (with_reducible exact ih3 _ _ _ _ _ _ _)
    | (with_reducible exact ih4 _ _ _ _ _ _ _)
    | (with_reducible exact spec_GraphOk.mono _ _ _)
    | (with_reducible exact LeO.refl _)
    | (with_reducible exact LeO.none _)
    | (with_reducible refine LeO.ite ?_ ?_)
    | (with_reducible refine LeO.bind ?_ (fun _ => ?_))
    | exact ih0 _ _ _ _ _ _
    | exact ih1 _ _ _ _ _ _
    | exact ih2 _ _ _ _ _ _
    | exact ih3 _ _ _ _ _ _ _
    | exact ih4 _ _ _ _ _ _ _
    | exact spec_GraphOk.mono _ _ _
    | exact LeO.none _
    | refine LeO.ite ?_ ?_
    | refine LeO.bind ?_ (fun _ => ?_)
  · intro y0 y1 y2 y3 y4 y5 y6
    unfold spec_RecordOk.j3
    repeat' first
    | (with_reducible exact ih0 _ _ _ _ _ _)
    | (with_reducible exact ih1 _ _ _ _ _ _)
    | (with_reducible exact ih2 _ _ _ _ _ _)
    | (with_reducible exact ih3 _ _ _ _ _ _ _)
    | (with_reducible exact ih4 _ _ _ _ _ _ _)
    | (with_reducible exact spec_GraphOk.mono _ _ _)
    | (with_reducible exact LeO.refl _)
    | (with_reducible exact LeO.none _)
    | (with_reducible refine LeO.ite ?_ ?_)
    | (with_reducible refine LeO.bind ?_ (fun _ => ?_))
    | exact ih0 _ _ _ _ _ _
    | exact ih1 _ _ _ _ _ _
    | exact ih2 _ _ _ _ _ _
    | exact ih3 _ _ _ _ _ _ _
    | exact ih4 _ _ _ _ _ _ _
    | exact spec_GraphOk.mono _ _ _
    | exact LeO.none _
    | refine LeO.ite ?_ ?_
    | refine LeO.bind ?_ (fun _ => ?_)
  · intro y0 y1 y2 y3 y4 y5 y6
    unfold spec_RecordOk.j4
    repeat' first
    | (with_reducible exact ih0 _ _ _ _ _ _)
    | (with_reducible exact ih1 _ _ _ _ _ _)
    | (with_reducible exact ih2 _ _ _ _ _ _)
    | (with_reducible exact ih3 _ _ _ _ _ _ _)
    | (with_reducible exact ih4 _ _ _ _ _ _ _)
    | (with_reducible exact spec_GraphOk.mono _ _ _)
    | (with_reducible exact LeO.refl _)
    | (with_reducible exact LeO.none _)
    | (with_reducible refine LeO.ite ?_ ?_)
    | (with_reducible refine LeO.bind ?_ (fun _ => ?_))
    | exact ih0 _ _ _ _ _ _
    | exact ih1 _ _ _ _ _ _
    | exact ih2 _ _ _ _ _ _
    | exact ih3 _ _ _ _ _ _ _
    | exact ih4 _ _ _ _ _ _ _
    | exact spec_GraphOk.mono _ _ _
    | exact LeO.none _
    | refine LeO.ite ?_ ?_
    | refine LeO.bind ?_ (fun _ => ?_)
theorem spec_RecordOk.mono : ∀ a0 a1 a2 a3 k, LeO (spec_RecordOk.f k a0 a1 a2 a3) (spec_RecordOk.f (k + 1) a0 a1 a2 a3) := by
 intro a0 a1 a2 a3 k
 obtain ⟨ih0, ih1, ih2, ih3, ih4⟩ := spec_RecordOk.mono_l k
 unfold spec_RecordOk.f
 repeat' first
  | (with_reducible exact ih0 _ _ _ _ _ _)
  | (with_reducible exact ih1 _ _ _ _ _ _)
  | (with_reducible exact ih2 _ _ _ _ _ _)
  | (with_reducible exact ih3 _ _ _ _ _ _ _)
  | (with_reducible exact ih4 _ _ _ _ _ _ _)
  | (with_reducible exact spec_GraphOk.mono _ _ _)
  | (with_reducible exact LeO.refl _)
  | (with_reducible exact LeO.none _)
  | (with_reducible refine LeO.ite ?_ ?_)
  | (with_reducible refine LeO.bind ?_ (fun _ => ?_))
  | exact ih0 _ _ _ _ _ _
  | exact ih1 _ _ _ _ _ _
  | exact ih2 _ _ _ _ _ _
  | exact ih3 _ _ _ _ _ _ _
  | exact ih4 _ _ _ _ _ _ _
  | exact spec_GraphOk.mono _ _ _
  | exact LeO.none _
  | refine LeO.ite ?_ ?_
  | refine LeO.bind ?_ (fun _ => ?_)
def spec_RecordOk.T2 : Bool × List (List Nat × List Nat) := (true, [([], []), ([0], [0]), ([1], [1]), ([2, 1], [2]), ([3], [3]), ([4, 3, 3], [3, 4]), ([5, 3], [3, 5]), ([3, 6], [3, 6]), ([7, 5], [7]), ([8], [8]), ([9, 8], [8, 9]), ([10, 8], [8, 10]), ([8], [8]), ([11, 12, 8], [8, 11, 12]), ([8, 13], [8, 13]), ([14, 8], [14]), ([15], [15]), ([15], [15]), ([17, 15], [15, 17]), ([18, 15], [15, 18]), ([19, 15], [15, 19]), ([16, 20, 15, 15], [15, 16, 20]), ([21, 15], [15, 21]), ([15, 22], [15, 22]), ([23, 21], [23]), ([24], [24]), ([24], [24]), ([26, 24], [24, 26]), ([27, 24], [24, 27]), ([28, 24], [24, 28]), ([25, 29, 24, 24], [24, 25, 29]), ([30, 24], [24, 30]), ([24, 31], [24, 31])])
def spec_RecordOk.B2 : List Nat := [0, 1, 3, 7, 15, 31, 63, 127, 255, 511, 1023, 2047, 511, 8191, 16383, 32767, 65535, 65535, 196607, 458751, 983039, 2097151, 4194303, 8388607, 16777215, 33554431, 33554431, 100663295, 234881023, 503316479, 1073741823, 2147483647, 4294967295]
theorem spec_RecordOk.tab2 : rtab .any (opsOf Try.f73 2) = spec_RecordOk.T2 := by kernel_rfl
theorem spec_RecordOk.bits2 : waitsOk spec_RecordOk.T2.2 spec_RecordOk.B2 = true := by kernel_rfl
def spec_RecordOk.T4 : Bool × List (List Nat × List Nat) := (true, [([], []), ([0], [0]), ([1], [1]), ([2], [2]), ([], []), ([4], [4]), ([5], [5]), ([6], [6]), ([3, 7], [3, 7]), ([8], [8]), ([9], [9]), ([10, 9], [9, 10]), ([9, 11], [9, 11])])
def spec_RecordOk.B4 : List Nat := [0, 1, 3, 7, 0, 16, 48, 112, 255, 511, 1023, 2047, 4095]
theorem spec_RecordOk.tab4 : rtab .any (opsOf Try.f73 4) = spec_RecordOk.T4 := by kernel_rfl
theorem spec_RecordOk.bits4 : waitsOk spec_RecordOk.T4.2 spec_RecordOk.B4 = true := by kernel_rfl
def spec_RecordOk.T9 : Bool × List (List Nat × List Nat) := (true, [([], []), ([], []), ([1], [1]), ([], []), ([3], [3]), ([2, 4], [2, 4]), ([5], [5]), ([], []), ([7], [7]), ([], []), ([8, 9], [8, 9]), ([10], [10]), ([0, 6, 11], [0, 6, 11]), ([12], [12]), ([13, 12], [13]), ([14], [14]), ([14], [14]), ([16, 14], [14, 16]), ([14], [14]), ([18, 14], [14, 18]), ([17, 19, 14], [14, 17, 19]), ([20, 14], [14, 20]), ([14], [14]), ([22, 14], [14, 22]), ([14], [14]), ([23, 24, 14], [14, 23, 24]), ([25, 14], [14, 25]), ([15, 21, 26, 14, 14], [14, 15, 21, 26]), ([27, 14], [14, 27]), ([14, 28], [14, 28])])
def spec_RecordOk.B9 : List Nat := [0, 0, 2, 0, 8, 30, 62, 0, 128, 0, 896, 1920, 4095, 8191, 16383, 32767, 32767, 98303, 32767, 294911, 1015807, 2064383, 32767, 4227071, 32767, 29392895, 62947327, 134217727, 268435455, 536870911]
theorem spec_RecordOk.tab9 : rtab .any (opsOf Try.f73 9) = spec_RecordOk.T9 := by kernel_rfl
theorem spec_RecordOk.bits9 : waitsOk spec_RecordOk.T9.2 spec_RecordOk.B9 = true := by kernel_rfl
def spec_RecordOk.T11 : Bool × List (List Nat × List Nat) := (true, [([], []), ([0], [0]), ([], []), ([1, 2], [1, 2]), ([3], [3]), ([], []), ([5], [5]), ([], []), ([7], [7]), ([6, 8], [6, 8]), ([9], [9]), ([4, 10], [4, 10]), ([11], [11]), ([12], [12]), ([13, 12], [12, 13]), ([12], [12]), ([14, 15, 12], [12, 14, 15]), ([16, 12], [12, 16]), ([12], [12]), ([18, 12], [12, 18]), ([12], [12]), ([20, 12], [12, 20]), ([19, 21, 12], [12, 19, 21]), ([22, 12], [12, 22]), ([17, 23, 12], [12, 17, 23]), ([24, 12, 12], [12, 24]), ([25], [25]), ([25], [25]), ([27, 25], [25, 27]), ([26, 28, 25], [25, 26, 28]), ([25, 29, 12], [12, 25, 29]), ([12, 30], [12, 30])])
def spec_RecordOk.B11 : List Nat := [0, 1, 0, 7, 15, 0, 32, 0, 128, 480, 992, 2047, 4095, 8191, 16383, 8191, 65535, 131071, 8191, 270335, 8191, 1056767, 3940351, 8134655, 16777215, 33554431, 67108863, 67108863, 201326591, 536870911, 1073741823, 2147483647]
theorem spec_RecordOk.tab11 : rtab .any (opsOf Try.f73 11) = spec_RecordOk.T11 := by kernel_rfl
theorem spec_RecordOk.bits11 : waitsOk spec_RecordOk.T11.2 spec_RecordOk.B11 = true := by kernel_rfl
def spec_RecordOk.T13 : Bool × List (List Nat × List Nat) := (true, [([], []), ([0], [0]), ([], []), ([1, 2], [1, 2]), ([3], [3]), ([], []), ([5], [5]), ([], []), ([6, 7], [6, 7]), ([8], [8]), ([4, 9], [4, 9]), ([10], [10]), ([11], [11]), ([11], [11]), ([13, 11], [11, 13]), ([12, 14, 11], [11, 12, 14]), ([11, 15], [11, 15])])
def spec_RecordOk.B13 : List Nat := [0, 1, 0, 7, 15, 0, 32, 0, 224, 480, 1023, 2047, 4095, 4095, 12287, 32767, 65535]
theorem spec_RecordOk.tab13 : rtab .any (opsOf Try.f73 13) = spec_RecordOk.T13 := by kernel_rfl
theorem spec_RecordOk.bits13 : waitsOk spec_RecordOk.T13.2 spec_RecordOk.B13 = true := by kernel_rfl
abbrev b0_ : Array Bool := #[f_, f_, f_, f_, f_, f_, f_, f_, f_, f_, f_, f_, f_, f_, f_, f_, f_, f_, f_, f_, f_, f_, f_, f_, f_, f_, f_, f_, f_, f_, f_, f_, f_]
abbrev b1_ : Array Bool := #[t_, f_, f_, f_, f_, f_, f_, f_, f_, f_, f_, f_, f_, f_, f_, f_, f_, f_, f_, f_, f_, f_, f_, f_, f_, f_, f_, f_, f_, f_, f_, f_, f_]
abbrev b2_ : Array Bool := #[t_, t_, f_, f_, f_, f_, f_, f_, f_, f_, f_, f_, f_, f_, f_, f_, f_, f_, f_, f_, f_, f_, f_, f_, f_, f_, f_, f_, f_, f_, f_, f_, f_]
abbrev b3_ : Array Bool := #[t_, t_, t_, f_, f_, f_, f_, f_, f_, f_, f_, f_, f_, f_, f_, f_, f_, f_, f_, f_, f_, f_, f_, f_, f_, f_, f_, f_, f_, f_, f_, f_, f_]
abbrev b4_ : Array Bool := #[t_, t_, t_, t_, f_, f_, f_, f_, f_, f_, f_, f_, f_, f_, f_, f_, f_, f_, f_, f_, f_, f_, f_, f_, f_, f_, f_, f_, f_, f_, f_, f_, f_]
abbrev b5_ : Array Bool := #[t_, t_, t_, t_, t_, f_, f_, f_, f_, f_, f_, f_, f_, f_, f_, f_, f_, f_, f_, f_, f_, f_, f_, f_, f_, f_, f_, f_, f_, f_, f_, f_, f_]
abbrev b6_ : Array Bool := #[t_, t_, t_, t_, t_, t_, f_, f_, f_, f_, f_, f_, f_, f_, f_, f_, f_, f_, f_, f_, f_, f_, f_, f_, f_, f_, f_, f_, f_, f_, f_, f_, f_]
abbrev b7_ : Array Bool := #[t_, t_, t_, t_, t_, t_, t_, f_, f_, f_, f_, f_, f_, f_, f_, f_, f_, f_, f_, f_, f_, f_, f_, f_, f_, f_, f_, f_, f_, f_, f_, f_, f_]
abbrev b8_ : Array Bool := #[t_, t_, t_, t_, t_, t_, t_, t_, f_, f_, f_, f_, f_, f_, f_, f_, f_, f_, f_, f_, f_, f_, f_, f_, f_, f_, f_, f_, f_, f_, f_, f_, f_]
abbrev b9_ : Array Bool := #[t_, t_, t_, t_, t_, t_, t_, t_, t_, f_, f_, f_, f_, f_, f_, f_, f_, f_, f_, f_, f_, f_, f_, f_, f_, f_, f_, f_, f_, f_, f_, f_, f_]
abbrev b10_ : Array Bool := #[t_, t_, t_, t_, t_, t_, t_, t_, t_, t_, f_, f_, f_, f_, f_, f_, f_, f_, f_, f_, f_, f_, f_, f_, f_, f_, f_, f_, f_, f_, f_, f_, f_]
abbrev b11_ : Array Bool := #[t_, t_, t_, t_, t_, t_, t_, t_, t_, t_, f_, f_, t_, f_, f_, f_, f_, f_, f_, f_, f_, f_, f_, f_, f_, f_, f_, f_, f_, f_, f_, f_, f_]
abbrev b12_ : Array Bool := #[t_, t_, t_, t_, t_, t_, t_, t_, t_, t_, t_, f_, t_, f_, f_, f_, f_, f_, f_, f_, f_, f_, f_, f_, f_, f_, f_, f_, f_, f_, f_, f_, f_]
abbrev b13_ : Array Bool := #[t_, t_, t_, t_, t_, t_, t_, t_, t_, t_, t_, t_, t_, f_, f_, f_, f_, f_, f_, f_, f_, f_, f_, f_, f_, f_, f_, f_, f_, f_, f_, f_, f_]
abbrev b14_ : Array Bool := #[t_, t_, t_, t_, t_, t_, t_, t_, t_, t_, t_, t_, t_, t_, f_, f_, f_, f_, f_, f_, f_, f_, f_, f_, f_, f_, f_, f_, f_, f_, f_, f_, f_]
abbrev b15_ : Array Bool := #[t_, t_, t_, t_, t_, t_, t_, t_, t_, t_, t_, t_, t_, t_, t_, f_, f_, f_, f_, f_, f_, f_, f_, f_, f_, f_, f_, f_, f_, f_, f_, f_, f_]
abbrev b16_ : Array Bool := #[t_, t_, t_, t_, t_, t_, t_, t_, t_, t_, t_, t_, t_, t_, t_, t_, f_, f_, f_, f_, f_, f_, f_, f_, f_, f_, f_, f_, f_, f_, f_, f_, f_]
abbrev b17_ : Array Bool := #[t_, t_, t_, t_, t_, t_, t_, t_, t_, t_, t_, t_, t_, t_, t_, t_, f_, t_, f_, f_, f_, f_, f_, f_, f_, f_, f_, f_, f_, f_, f_, f_, f_]
abbrev b18_ : Array Bool := #[t_, t_, t_, t_, t_, t_, t_, t_, t_, t_, t_, t_, t_, t_, t_, t_, t_, t_, f_, f_, f_, f_, f_, f_, f_, f_, f_, f_, f_, f_, f_, f_, f_]
abbrev b19_ : Array Bool := #[t_, t_, t_, t_, t_, t_, t_, t_, t_, t_, t_, t_, t_, t_, t_, t_, t_, t_, t_, f_, f_, f_, f_, f_, f_, f_, f_, f_, f_, f_, f_, f_, f_]
abbrev b20_ : Array Bool := #[t_, t_, t_, t_, t_, t_, t_, t_, t_, t_, t_, t_, t_, t_, t_, t_, t_, t_, t_, t_, f_, f_, f_, f_, f_, f_, f_, f_, f_, f_, f_, f_, f_]
abbrev b21_ : Array Bool := #[t_, t_, t_, t_, t_, t_, t_, t_, t_, t_, t_, t_, t_, t_, t_, t_, t_, t_, t_, t_, t_, f_, f_, f_, f_, f_, f_, f_, f_, f_, f_, f_, f_]
abbrev b22_ : Array Bool := #[t_, t_, t_, t_, t_, t_, t_, t_, t_, t_, t_, t_, t_, t_, t_, t_, t_, t_, t_, t_, t_, t_, f_, f_, f_, f_, f_, f_, f_, f_, f_, f_, f_]
abbrev b23_ : Array Bool := #[t_, t_, t_, t_, t_, t_, t_, t_, t_, t_, t_, t_, t_, t_, t_, t_, t_, t_, t_, t_, t_, t_, t_, f_, f_, f_, f_, f_, f_, f_, f_, f_, f_]
abbrev b24_ : Array Bool := #[t_, t_, t_, t_, t_, t_, t_, t_, t_, t_, t_, t_, t_, t_, t_, t_, t_, t_, t_, t_, t_, t_, t_, t_, f_, f_, f_, f_, f_, f_, f_, f_, f_]
abbrev b25_ : Array Bool := #[t_, t_, t_, t_, t_, t_, t_, t_, t_, t_, t_, t_, t_, t_, t_, t_, t_, t_, t_, t_, t_, t_, t_, t_, t_, f_, f_, f_, f_, f_, f_, f_, f_]
abbrev b26_ : Array Bool := #[t_, t_, t_, t_, t_, t_, t_, t_, t_, t_, t_, t_, t_, t_, t_, t_, t_, t_, t_, t_, t_, t_, t_, t_, t_, f_, t_, f_, f_, f_, f_, f_, f_]
abbrev b27_ : Array Bool := #[t_, t_, t_, t_, t_, t_, t_, t_, t_, t_, t_, t_, t_, t_, t_, t_, t_, t_, t_, t_, t_, t_, t_, t_, t_, t_, t_, f_, f_, f_, f_, f_, f_]
abbrev b28_ : Array Bool := #[t_, t_, t_, t_, t_, t_, t_, t_, t_, t_, t_, t_, t_, t_, t_, t_, t_, t_, t_, t_, t_, t_, t_, t_, t_, t_, t_, t_, f_, f_, f_, f_, f_]
abbrev b29_ : Array Bool := #[t_, t_, t_, t_, t_, t_, t_, t_, t_, t_, t_, t_, t_, t_, t_, t_, t_, t_, t_, t_, t_, t_, t_, t_, t_, t_, t_, t_, t_, f_, f_, f_, f_]
abbrev b30_ : Array Bool := #[t_, t_, t_, t_, t_, t_, t_, t_, t_, t_, t_, t_, t_, t_, t_, t_, t_, t_, t_, t_, t_, t_, t_, t_, t_, t_, t_, t_, t_, t_, f_, f_, f_]
abbrev b31_ : Array Bool := #[t_, t_, t_, t_, t_, t_, t_, t_, t_, t_, t_, t_, t_, t_, t_, t_, t_, t_, t_, t_, t_, t_, t_, t_, t_, t_, t_, t_, t_, t_, t_, f_, f_]
abbrev b32_ : Array Bool := #[t_, t_, t_, t_, t_, t_, t_, t_, t_, t_, t_, t_, t_, t_, t_, t_, t_, t_, t_, t_, t_, t_, t_, t_, t_, t_, t_, t_, t_, t_, t_, t_, f_]
abbrev b33_ : Array Bool := #[t_, t_, t_, t_, t_, t_, t_, t_, t_, t_, t_, t_, t_, t_, t_, t_, t_, t_, t_, t_, t_, t_, t_, t_, t_, t_, t_, t_, t_, t_, t_, t_, t_]
abbrev b34_ : Array Bool := #[t_, t_, t_, t_, t_, t_, t_, t_, t_, t_, t_, t_, t_, t_, t_, t_, t_, t_, t_, t_, t_, t_, t_, t_, t_, t_, f_, f_, f_, f_, f_, f_, f_]
abbrev b35_ : Array Bool := #[t_, t_, t_, t_, t_, t_, t_, t_, t_, t_, t_, t_, t_, t_, t_, t_, t_, f_, f_, f_, f_, f_, f_, f_, f_, f_, f_, f_, f_, f_, f_, f_, f_]
abbrev b36_ : Array Bool := #[t_, t_, t_, t_, t_, t_, t_, t_, t_, t_, t_, f_, f_, f_, f_, f_, f_, f_, f_, f_, f_, f_, f_, f_, f_, f_, f_, f_, f_, f_, f_, f_, f_]
abbrev b37_ : Array Bool := #[t_, t_, t_, t_, t_, t_, t_, t_, t_, t_, t_, t_, f_, f_, f_, f_, f_, f_, f_, f_, f_, f_, f_, f_, f_, f_, f_, f_, f_, f_, f_, f_, f_]
abbrev b38_ : Array Bool := #[f_, f_, f_, f_, f_, f_, f_, f_, f_, f_, f_, f_, f_]
abbrev b39_ : Array Bool := #[t_, f_, f_, f_, f_, f_, f_, f_, f_, f_, f_, f_, f_]
abbrev b40_ : Array Bool := #[t_, f_, f_, f_, t_, f_, f_, f_, f_, f_, f_, f_, f_]
abbrev b41_ : Array Bool := #[t_, t_, f_, f_, t_, f_, f_, f_, f_, f_, f_, f_, f_]
abbrev b42_ : Array Bool := #[t_, t_, t_, f_, t_, f_, f_, f_, f_, f_, f_, f_, f_]
abbrev b43_ : Array Bool := #[t_, t_, t_, t_, t_, f_, f_, f_, f_, f_, f_, f_, f_]
abbrev b44_ : Array Bool := #[t_, t_, t_, t_, t_, t_, f_, f_, f_, f_, f_, f_, f_]
abbrev b45_ : Array Bool := #[t_, t_, t_, t_, t_, t_, t_, f_, f_, f_, f_, f_, f_]
abbrev b46_ : Array Bool := #[t_, t_, t_, t_, t_, t_, t_, t_, f_, f_, f_, f_, f_]
abbrev b47_ : Array Bool := #[t_, t_, t_, t_, t_, t_, t_, t_, t_, f_, f_, f_, f_]
abbrev b48_ : Array Bool := #[t_, t_, t_, t_, t_, t_, t_, t_, t_, t_, f_, f_, f_]
abbrev b49_ : Array Bool := #[t_, t_, t_, t_, t_, t_, t_, t_, t_, t_, t_, f_, f_]
abbrev b50_ : Array Bool := #[t_, t_, t_, t_, t_, t_, t_, t_, t_, t_, t_, t_, f_]
abbrev b51_ : Array Bool := #[t_, t_, t_, t_, t_, t_, t_, t_, t_, t_, t_, t_, t_]
abbrev b52_ : Array Bool := #[f_, f_, f_, f_, f_, f_, f_, f_, f_, f_, f_, f_, f_, f_, f_, f_, f_, f_, f_, f_, f_, f_, f_, f_, f_, f_, f_, f_, f_, f_]
abbrev b53_ : Array Bool := #[f_, t_, f_, f_, f_, f_, f_, f_, f_, f_, f_, f_, f_, f_, f_, f_, f_, f_, f_, f_, f_, f_, f_, f_, f_, f_, f_, f_, f_, f_]
abbrev b54_ : Array Bool := #[f_, t_, f_, t_, f_, f_, f_, f_, f_, f_, f_, f_, f_, f_, f_, f_, f_, f_, f_, f_, f_, f_, f_, f_, f_, f_, f_, f_, f_, f_]
abbrev b55_ : Array Bool := #[f_, t_, f_, t_, t_, f_, f_, f_, f_, f_, f_, f_, f_, f_, f_, f_, f_, f_, f_, f_, f_, f_, f_, f_, f_, f_, f_, f_, f_, f_]
abbrev b56_ : Array Bool := #[f_, t_, f_, t_, t_, f_, f_, t_, f_, f_, f_, f_, f_, f_, f_, f_, f_, f_, f_, f_, f_, f_, f_, f_, f_, f_, f_, f_, f_, f_]
abbrev b57_ : Array Bool := #[f_, t_, f_, t_, t_, f_, f_, t_, f_, t_, f_, f_, f_, f_, f_, f_, f_, f_, f_, f_, f_, f_, f_, f_, f_, f_, f_, f_, f_, f_]
abbrev b58_ : Array Bool := #[t_, t_, f_, t_, t_, f_, f_, t_, f_, t_, f_, f_, f_, f_, f_, f_, f_, f_, f_, f_, f_, f_, f_, f_, f_, f_, f_, f_, f_, f_]
abbrev b59_ : Array Bool := #[t_, t_, t_, t_, t_, f_, f_, t_, f_, t_, f_, f_, f_, f_, f_, f_, f_, f_, f_, f_, f_, f_, f_, f_, f_, f_, f_, f_, f_, f_]
abbrev b60_ : Array Bool := #[t_, t_, t_, t_, t_, t_, f_, t_, f_, t_, f_, f_, f_, f_, f_, f_, f_, f_, f_, f_, f_, f_, f_, f_, f_, f_, f_, f_, f_, f_]
abbrev b61_ : Array Bool := #[t_, t_, t_, t_, t_, t_, t_, t_, f_, t_, f_, f_, f_, f_, f_, f_, f_, f_, f_, f_, f_, f_, f_, f_, f_, f_, f_, f_, f_, f_]
abbrev b62_ : Array Bool := #[t_, t_, t_, t_, t_, t_, t_, t_, t_, t_, f_, f_, f_, f_, f_, f_, f_, f_, f_, f_, f_, f_, f_, f_, f_, f_, f_, f_, f_, f_]
abbrev b63_ : Array Bool := #[t_, t_, t_, t_, t_, t_, t_, t_, t_, t_, t_, f_, f_, f_, f_, f_, f_, f_, f_, f_, f_, f_, f_, f_, f_, f_, f_, f_, f_, f_]
abbrev b64_ : Array Bool := #[t_, t_, t_, t_, t_, t_, t_, t_, t_, t_, t_, t_, f_, f_, f_, f_, f_, f_, f_, f_, f_, f_, f_, f_, f_, f_, f_, f_, f_, f_]
abbrev b65_ : Array Bool := #[t_, t_, t_, t_, t_, t_, t_, t_, t_, t_, t_, t_, t_, f_, f_, f_, f_, f_, f_, f_, f_, f_, f_, f_, f_, f_, f_, f_, f_, f_]
abbrev b66_ : Array Bool := #[t_, t_, t_, t_, t_, t_, t_, t_, t_, t_, t_, t_, t_, t_, f_, f_, f_, f_, f_, f_, f_, f_, f_, f_, f_, f_, f_, f_, f_, f_]
abbrev b67_ : Array Bool := #[t_, t_, t_, t_, t_, t_, t_, t_, t_, t_, t_, t_, t_, t_, t_, f_, f_, f_, f_, f_, f_, f_, f_, f_, f_, f_, f_, f_, f_, f_]
abbrev b68_ : Array Bool := #[t_, t_, t_, t_, t_, t_, t_, t_, t_, t_, t_, t_, t_, t_, t_, f_, t_, f_, f_, f_, f_, f_, f_, f_, f_, f_, f_, f_, f_, f_]
abbrev b69_ : Array Bool := #[t_, t_, t_, t_, t_, t_, t_, t_, t_, t_, t_, t_, t_, t_, t_, f_, t_, f_, t_, f_, f_, f_, f_, f_, f_, f_, f_, f_, f_, f_]
abbrev b70_ : Array Bool := #[t_, t_, t_, t_, t_, t_, t_, t_, t_, t_, t_, t_, t_, t_, t_, f_, t_, f_, t_, t_, f_, f_, f_, f_, f_, f_, f_, f_, f_, f_]
abbrev b71_ : Array Bool := #[t_, t_, t_, t_, t_, t_, t_, t_, t_, t_, t_, t_, t_, t_, t_, f_, t_, f_, t_, t_, f_, f_, t_, f_, f_, f_, f_, f_, f_, f_]
abbrev b72_ : Array Bool := #[t_, t_, t_, t_, t_, t_, t_, t_, t_, t_, t_, t_, t_, t_, t_, f_, t_, f_, t_, t_, f_, f_, t_, f_, t_, f_, f_, f_, f_, f_]
abbrev b73_ : Array Bool := #[t_, t_, t_, t_, t_, t_, t_, t_, t_, t_, t_, t_, t_, t_, t_, t_, t_, f_, t_, t_, f_, f_, t_, f_, t_, f_, f_, f_, f_, f_]
abbrev b74_ : Array Bool := #[t_, t_, t_, t_, t_, t_, t_, t_, t_, t_, t_, t_, t_, t_, t_, t_, t_, t_, t_, t_, f_, f_, t_, f_, t_, f_, f_, f_, f_, f_]
abbrev b75_ : Array Bool := #[t_, t_, t_, t_, t_, t_, t_, t_, t_, t_, t_, t_, t_, t_, t_, t_, t_, t_, t_, t_, t_, f_, t_, f_, t_, f_, f_, f_, f_, f_]
abbrev b76_ : Array Bool := #[t_, t_, t_, t_, t_, t_, t_, t_, t_, t_, t_, t_, t_, t_, t_, t_, t_, t_, t_, t_, t_, t_, t_, f_, t_, f_, f_, f_, f_, f_]
abbrev b77_ : Array Bool := #[t_, t_, t_, t_, t_, t_, t_, t_, t_, t_, t_, t_, t_, t_, t_, t_, t_, t_, t_, t_, t_, t_, t_, t_, t_, f_, f_, f_, f_, f_]
abbrev b78_ : Array Bool := #[t_, t_, t_, t_, t_, t_, t_, t_, t_, t_, t_, t_, t_, t_, t_, t_, t_, t_, t_, t_, t_, t_, t_, t_, t_, t_, f_, f_, f_, f_]
abbrev b79_ : Array Bool := #[t_, t_, t_, t_, t_, t_, t_, t_, t_, t_, t_, t_, t_, t_, t_, t_, t_, t_, t_, t_, t_, t_, t_, t_, t_, t_, t_, f_, f_, f_]
abbrev b80_ : Array Bool := #[t_, t_, t_, t_, t_, t_, t_, t_, t_, t_, t_, t_, t_, t_, t_, t_, t_, t_, t_, t_, t_, t_, t_, t_, t_, t_, t_, t_, f_, f_]
abbrev b81_ : Array Bool := #[t_, t_, t_, t_, t_, t_, t_, t_, t_, t_, t_, t_, t_, t_, t_, t_, t_, t_, t_, t_, t_, t_, t_, t_, t_, t_, t_, t_, t_, f_]
abbrev b82_ : Array Bool := #[t_, t_, t_, t_, t_, t_, t_, t_, t_, t_, t_, t_, t_, t_, t_, t_, t_, t_, t_, t_, t_, t_, t_, t_, t_, t_, t_, t_, t_, t_]
abbrev b83_ : Array Bool := #[t_, t_, t_, t_, t_, t_, t_, t_, t_, t_, t_, t_, t_, t_, t_, t_, f_, f_, f_, f_, f_, f_, f_, f_, f_, f_, f_, f_, f_, f_]
abbrev b84_ : Array Bool := #[t_, t_, t_, t_, t_, t_, t_, t_, t_, t_, t_, t_, t_, t_, t_, t_, t_, f_, f_, f_, f_, f_, f_, f_, f_, f_, f_, f_, f_, f_]
abbrev b85_ : Array Bool := #[t_, t_, t_, t_, t_, t_, t_, t_, t_, t_, t_, t_, t_, t_, t_, t_, t_, t_, f_, f_, f_, f_, f_, f_, f_, f_, f_, f_, f_, f_]
abbrev b86_ : Array Bool := #[t_, t_, t_, t_, t_, t_, t_, t_, t_, t_, t_, t_, t_, t_, t_, t_, t_, t_, t_, f_, f_, f_, f_, f_, f_, f_, f_, f_, f_, f_]
abbrev b87_ : Array Bool := #[t_, t_, t_, t_, t_, t_, t_, t_, t_, t_, t_, t_, t_, t_, t_, t_, t_, t_, t_, t_, f_, f_, f_, f_, f_, f_, f_, f_, f_, f_]
abbrev b88_ : Array Bool := #[t_, t_, t_, t_, t_, t_, t_, t_, t_, t_, t_, t_, t_, t_, t_, t_, t_, t_, t_, t_, t_, f_, f_, f_, f_, f_, f_, f_, f_, f_]
abbrev b89_ : Array Bool := #[t_, t_, t_, t_, t_, t_, t_, t_, t_, t_, t_, t_, t_, t_, t_, t_, t_, t_, t_, t_, t_, t_, f_, f_, f_, f_, f_, f_, f_, f_]
abbrev b90_ : Array Bool := #[t_, t_, t_, t_, t_, t_, t_, t_, t_, t_, t_, t_, t_, t_, t_, t_, t_, t_, t_, t_, t_, t_, t_, f_, f_, f_, f_, f_, f_, f_]
abbrev b91_ : Array Bool := #[t_, t_, t_, t_, t_, t_, t_, t_, t_, t_, t_, t_, t_, t_, t_, t_, t_, t_, t_, t_, t_, t_, t_, t_, f_, f_, f_, f_, f_, f_]
abbrev b92_ : Array Bool := #[f_, f_, f_, f_, f_, f_, f_, f_, f_, f_, f_, f_, f_, f_, f_, f_, f_, f_, f_, f_, f_, f_, f_, f_, f_, f_, f_, f_, f_, f_, f_, f_]
abbrev b93_ : Array Bool := #[t_, f_, f_, f_, f_, f_, f_, f_, f_, f_, f_, f_, f_, f_, f_, f_, f_, f_, f_, f_, f_, f_, f_, f_, f_, f_, f_, f_, f_, f_, f_, f_]
abbrev b94_ : Array Bool := #[t_, f_, t_, f_, f_, f_, f_, f_, f_, f_, f_, f_, f_, f_, f_, f_, f_, f_, f_, f_, f_, f_, f_, f_, f_, f_, f_, f_, f_, f_, f_, f_]
abbrev b95_ : Array Bool := #[t_, f_, t_, f_, f_, t_, f_, f_, f_, f_, f_, f_, f_, f_, f_, f_, f_, f_, f_, f_, f_, f_, f_, f_, f_, f_, f_, f_, f_, f_, f_, f_]
abbrev b96_ : Array Bool := #[t_, f_, t_, f_, f_, t_, f_, t_, f_, f_, f_, f_, f_, f_, f_, f_, f_, f_, f_, f_, f_, f_, f_, f_, f_, f_, f_, f_, f_, f_, f_, f_]
abbrev b97_ : Array Bool := #[t_, f_, t_, f_, f_, t_, f_, t_, t_, f_, f_, f_, f_, f_, f_, f_, f_, f_, f_, f_, f_, f_, f_, f_, f_, f_, f_, f_, f_, f_, f_, f_]
abbrev b98_ : Array Bool := #[t_, t_, t_, f_, f_, t_, f_, t_, t_, f_, f_, f_, f_, f_, f_, f_, f_, f_, f_, f_, f_, f_, f_, f_, f_, f_, f_, f_, f_, f_, f_, f_]
abbrev b99_ : Array Bool := #[t_, t_, t_, t_, f_, t_, f_, t_, t_, f_, f_, f_, f_, f_, f_, f_, f_, f_, f_, f_, f_, f_, f_, f_, f_, f_, f_, f_, f_, f_, f_, f_]
abbrev b100_ : Array Bool := #[t_, t_, t_, t_, t_, t_, f_, t_, t_, f_, f_, f_, f_, f_, f_, f_, f_, f_, f_, f_, f_, f_, f_, f_, f_, f_, f_, f_, f_, f_, f_, f_]
abbrev b101_ : Array Bool := #[t_, t_, t_, t_, t_, t_, t_, t_, t_, f_, f_, f_, f_, f_, f_, f_, f_, f_, f_, f_, f_, f_, f_, f_, f_, f_, f_, f_, f_, f_, f_, f_]
abbrev b102_ : Array Bool := #[t_, t_, t_, t_, t_, t_, t_, t_, t_, t_, f_, f_, f_, f_, f_, f_, f_, f_, f_, f_, f_, f_, f_, f_, f_, f_, f_, f_, f_, f_, f_, f_]
abbrev b103_ : Array Bool := #[t_, t_, t_, t_, t_, t_, t_, t_, t_, t_, t_, f_, f_, f_, f_, f_, f_, f_, f_, f_, f_, f_, f_, f_, f_, f_, f_, f_, f_, f_, f_, f_]
abbrev b104_ : Array Bool := #[t_, t_, t_, t_, t_, t_, t_, t_, t_, t_, t_, t_, f_, f_, f_, f_, f_, f_, f_, f_, f_, f_, f_, f_, f_, f_, f_, f_, f_, f_, f_, f_]
abbrev b105_ : Array Bool := #[t_, t_, t_, t_, t_, t_, t_, t_, t_, t_, t_, t_, t_, f_, f_, f_, f_, f_, f_, f_, f_, f_, f_, f_, f_, f_, f_, f_, f_, f_, f_, f_]
abbrev b106_ : Array Bool := #[t_, t_, t_, t_, t_, t_, t_, t_, t_, t_, t_, t_, t_, t_, f_, f_, f_, f_, f_, f_, f_, f_, f_, f_, f_, f_, f_, f_, f_, f_, f_, f_]
abbrev b107_ : Array Bool := #[t_, t_, t_, t_, t_, t_, t_, t_, t_, t_, t_, t_, t_, t_, f_, t_, f_, f_, f_, f_, f_, f_, f_, f_, f_, f_, f_, f_, f_, f_, f_, f_]
abbrev b108_ : Array Bool := #[t_, t_, t_, t_, t_, t_, t_, t_, t_, t_, t_, t_, t_, t_, f_, t_, f_, f_, t_, f_, f_, f_, f_, f_, f_, f_, f_, f_, f_, f_, f_, f_]
abbrev b109_ : Array Bool := #[t_, t_, t_, t_, t_, t_, t_, t_, t_, t_, t_, t_, t_, t_, f_, t_, f_, f_, t_, f_, t_, f_, f_, f_, f_, f_, f_, f_, f_, f_, f_, f_]
abbrev b110_ : Array Bool := #[t_, t_, t_, t_, t_, t_, t_, t_, t_, t_, t_, t_, t_, t_, f_, t_, f_, f_, t_, f_, t_, t_, f_, f_, f_, f_, f_, f_, f_, f_, f_, f_]
abbrev b111_ : Array Bool := #[t_, t_, t_, t_, t_, t_, t_, t_, t_, t_, t_, t_, t_, t_, t_, t_, f_, f_, t_, f_, t_, t_, f_, f_, f_, f_, f_, f_, f_, f_, f_, f_]
abbrev b112_ : Array Bool := #[t_, t_, t_, t_, t_, t_, t_, t_, t_, t_, t_, t_, t_, t_, t_, t_, t_, f_, t_, f_, t_, t_, f_, f_, f_, f_, f_, f_, f_, f_, f_, f_]
abbrev b113_ : Array Bool := #[t_, t_, t_, t_, t_, t_, t_, t_, t_, t_, t_, t_, t_, t_, t_, t_, t_, t_, t_, f_, t_, t_, f_, f_, f_, f_, f_, f_, f_, f_, f_, f_]
abbrev b114_ : Array Bool := #[t_, t_, t_, t_, t_, t_, t_, t_, t_, t_, t_, t_, t_, t_, t_, t_, t_, t_, t_, t_, t_, t_, f_, f_, f_, f_, f_, f_, f_, f_, f_, f_]
abbrev b115_ : Array Bool := #[t_, t_, t_, t_, t_, t_, t_, t_, t_, t_, t_, t_, t_, t_, t_, t_, t_, t_, t_, t_, t_, t_, t_, f_, f_, f_, f_, f_, f_, f_, f_, f_]
abbrev b116_ : Array Bool := #[t_, t_, t_, t_, t_, t_, t_, t_, t_, t_, t_, t_, t_, t_, t_, t_, t_, t_, t_, t_, t_, t_, t_, t_, f_, f_, f_, f_, f_, f_, f_, f_]
abbrev b117_ : Array Bool := #[t_, t_, t_, t_, t_, t_, t_, t_, t_, t_, t_, t_, t_, t_, t_, t_, t_, t_, t_, t_, t_, t_, t_, t_, t_, f_, f_, f_, f_, f_, f_, f_]
abbrev b118_ : Array Bool := #[t_, t_, t_, t_, t_, t_, t_, t_, t_, t_, t_, t_, t_, t_, t_, t_, t_, t_, t_, t_, t_, t_, t_, t_, t_, t_, f_, f_, f_, f_, f_, f_]
abbrev b119_ : Array Bool := #[t_, t_, t_, t_, t_, t_, t_, t_, t_, t_, t_, t_, t_, t_, t_, t_, t_, t_, t_, t_, t_, t_, t_, t_, t_, t_, t_, f_, f_, f_, f_, f_]
abbrev b120_ : Array Bool := #[t_, t_, t_, t_, t_, t_, t_, t_, t_, t_, t_, t_, t_, t_, t_, t_, t_, t_, t_, t_, t_, t_, t_, t_, t_, t_, t_, t_, f_, f_, f_, f_]
abbrev b121_ : Array Bool := #[t_, t_, t_, t_, t_, t_, t_, t_, t_, t_, t_, t_, t_, t_, t_, t_, t_, t_, t_, t_, t_, t_, t_, t_, t_, t_, t_, t_, t_, f_, f_, f_]
abbrev b122_ : Array Bool := #[t_, t_, t_, t_, t_, t_, t_, t_, t_, t_, t_, t_, t_, t_, t_, t_, t_, t_, t_, t_, t_, t_, t_, t_, t_, t_, t_, t_, t_, t_, f_, f_]
abbrev b123_ : Array Bool := #[t_, t_, t_, t_, t_, t_, t_, t_, t_, t_, t_, t_, t_, t_, t_, t_, t_, t_, t_, t_, t_, t_, t_, t_, t_, t_, t_, t_, t_, t_, t_, f_]
abbrev b124_ : Array Bool := #[t_, t_, t_, t_, t_, t_, t_, t_, t_, t_, t_, t_, t_, t_, t_, t_, t_, t_, t_, t_, t_, t_, t_, t_, t_, t_, t_, t_, t_, t_, t_, t_]
abbrev b125_ : Array Bool := #[t_, t_, t_, t_, t_, t_, t_, t_, t_, t_, t_, t_, t_, t_, t_, f_, f_, f_, f_, f_, f_, f_, f_, f_, f_, f_, f_, f_, f_, f_, f_, f_]
abbrev b126_ : Array Bool := #[t_, t_, t_, t_, t_, t_, t_, t_, t_, t_, t_, t_, t_, t_, t_, t_, f_, f_, f_, f_, f_, f_, f_, f_, f_, f_, f_, f_, f_, f_, f_, f_]
abbrev b127_ : Array Bool := #[t_, t_, t_, t_, t_, t_, t_, t_, t_, t_, t_, t_, t_, t_, t_, t_, t_, f_, f_, f_, f_, f_, f_, f_, f_, f_, f_, f_, f_, f_, f_, f_]
abbrev b128_ : Array Bool := #[t_, t_, t_, t_, t_, t_, t_, t_, t_, t_, t_, t_, t_, t_, t_, t_, t_, t_, f_, f_, f_, f_, f_, f_, f_, f_, f_, f_, f_, f_, f_, f_]
abbrev b129_ : Array Bool := #[t_, t_, t_, t_, t_, t_, t_, t_, t_, t_, t_, t_, t_, t_, t_, t_, t_, t_, t_, f_, f_, f_, f_, f_, f_, f_, f_, f_, f_, f_, f_, f_]
abbrev b130_ : Array Bool := #[t_, t_, t_, t_, t_, t_, t_, t_, t_, t_, t_, t_, t_, t_, t_, t_, t_, t_, t_, t_, f_, f_, f_, f_, f_, f_, f_, f_, f_, f_, f_, f_]
abbrev b131_ : Array Bool := #[t_, t_, t_, t_, t_, t_, t_, t_, t_, t_, t_, t_, t_, t_, t_, t_, t_, t_, t_, t_, t_, f_, f_, f_, f_, f_, f_, f_, f_, f_, f_, f_]
abbrev b132_ : Array Bool := #[f_, f_, f_, f_, f_, f_, f_, f_, f_, f_, f_, f_, f_, f_, f_, f_, f_]
abbrev b133_ : Array Bool := #[t_, f_, f_, f_, f_, f_, f_, f_, f_, f_, f_, f_, f_, f_, f_, f_, f_]
abbrev b134_ : Array Bool := #[t_, f_, t_, f_, f_, f_, f_, f_, f_, f_, f_, f_, f_, f_, f_, f_, f_]
abbrev b135_ : Array Bool := #[t_, f_, t_, f_, f_, t_, f_, f_, f_, f_, f_, f_, f_, f_, f_, f_, f_]
abbrev b136_ : Array Bool := #[t_, f_, t_, f_, f_, t_, f_, t_, f_, f_, f_, f_, f_, f_, f_, f_, f_]
abbrev b137_ : Array Bool := #[t_, t_, t_, f_, f_, t_, f_, t_, f_, f_, f_, f_, f_, f_, f_, f_, f_]
abbrev b138_ : Array Bool := #[t_, t_, t_, t_, f_, t_, f_, t_, f_, f_, f_, f_, f_, f_, f_, f_, f_]
abbrev b139_ : Array Bool := #[t_, t_, t_, t_, t_, t_, f_, t_, f_, f_, f_, f_, f_, f_, f_, f_, f_]
abbrev b140_ : Array Bool := #[t_, t_, t_, t_, t_, t_, t_, t_, f_, f_, f_, f_, f_, f_, f_, f_, f_]
abbrev b141_ : Array Bool := #[t_, t_, t_, t_, t_, t_, t_, t_, t_, f_, f_, f_, f_, f_, f_, f_, f_]
abbrev b142_ : Array Bool := #[t_, t_, t_, t_, t_, t_, t_, t_, t_, t_, f_, f_, f_, f_, f_, f_, f_]
abbrev b143_ : Array Bool := #[t_, t_, t_, t_, t_, t_, t_, t_, t_, t_, t_, f_, f_, f_, f_, f_, f_]
abbrev b144_ : Array Bool := #[t_, t_, t_, t_, t_, t_, t_, t_, t_, t_, t_, t_, f_, f_, f_, f_, f_]
abbrev b145_ : Array Bool := #[t_, t_, t_, t_, t_, t_, t_, t_, t_, t_, t_, t_, t_, f_, f_, f_, f_]
abbrev b146_ : Array Bool := #[t_, t_, t_, t_, t_, t_, t_, t_, t_, t_, t_, t_, t_, t_, f_, f_, f_]
abbrev b147_ : Array Bool := #[t_, t_, t_, t_, t_, t_, t_, t_, t_, t_, t_, t_, t_, t_, t_, f_, f_]
abbrev b148_ : Array Bool := #[t_, t_, t_, t_, t_, t_, t_, t_, t_, t_, t_, t_, t_, t_, t_, t_, f_]
abbrev b149_ : Array Bool := #[t_, t_, t_, t_, t_, t_, t_, t_, t_, t_, t_, t_, t_, t_, t_, t_, t_]
set_option maxHeartbeats 8000000 in
set_option maxRecDepth 100000 in
theorem spec_RecordOk.calls (k : Nat) (a0_0 : Int) (A0_1 : Option Addr) (c0_1 : Nat) (l0_1 : List Int) (A1_0 : Option Addr) (c1_0 : Nat) (l1_0 : List Int) (A1_1 : Option Addr) (c1_1 : Nat) (l1_1 : List Int) (r : Bool) (w : World) (hr0_1 : Kd.C (Kd.int .i64) w A0_1 l0_1.length l0_1) (hc0_1 : l0_1.length ≤ c0_1) (hr1_0 : Kd.C (Kd.int .i64) w A1_0 l1_0.length l1_0) (hc1_0 : l1_0.length ≤ c1_0) (hr1_1 : Kd.C (Kd.int .i64) w A1_1 l1_1.length l1_1) (hc1_1 : l1_1.length ≤ c1_1) (h : spec_RecordOk.f k a0_0 l0_1 l1_0 l1_1 = some r) :
 Calls Try.prog 73 #[.agg #[.int .i64 a0_0, .slice A0_1 l0_1.length c0_1], .agg #[.slice A1_0 l1_0.length c1_0, .slice A1_1 l1_1.length c1_1]] w fun e w' => e = .returned (.bool r) ∧ Below w.heap.size w w' := by
 have hu27 := Try.underlying27
 have hu42 := Try.underlying42
 have HR0_1 := Aside0.mk hr0_1
 have HC0_1 := Aside0.mk hc0_1
 clear hr0_1 hc0_1
 have HR1_0 := Aside0.mk hr1_0
 have HC1_0 := Aside0.mk hc1_0
 clear hr1_0 hc1_0
 have HR1_1 := Aside0.mk hr1_1
 have HC1_1 := Aside0.mk hc1_1
 clear hr1_1 hc1_1
 have HB := Aside0.mk (Below.refl w.heap.size w)
 have H : ((spec_GraphOk.f k a0_0 l0_1).bind fun t276 => (if t276 = true then ((spec_l01In.f (l1_0.length : Int) 1 60).bind fun t277 => (if t277 = true then (if (l1_1.length : Int) = (l1_0.length : Int) then (if 0 < (l1_0.length : Int) then ((spec_l02Vertex.f a0_0 l0_1 (rd l1_0 0)).bind fun t279 => (if t279 = true then (if 0 < (l1_1.length : Int) then ((spec_l02Vertex.f a0_0 l0_1 (rd l1_1 0)).bind fun t281 => (spec_RecordOk.j0 k (l1_0.length : Int) (!t281) a0_0 l0_1 l1_0 l1_1)) else (none)) else (spec_RecordOk.j0 k (l1_0.length : Int) true a0_0 l0_1 l1_0 l1_1))) else (none)) else (spec_RecordOk.j0 k (l1_0.length : Int) true a0_0 l0_1 l1_0 l1_1)) else (spec_RecordOk.j0 k (l1_0.length : Int) true a0_0 l0_1 l1_0 l1_1))) else (spec_RecordOk.j0 k (l1_0.length : Int) true a0_0 l0_1 l1_0 l1_1))) = some r := h
 clear h
 have HC3 := Aside0.mk H
 clear H
 go_enter Try.func73, Try.ntmps73
 go_upto_region 2 with (first | ((with_reducible refine gate_dst (N := 2) rfl ?_); (try (refine gate_guard (by rfl) ?_; dsimp only)); refine box_event ?hg (N := 2) ?hd (cs := #[.int .i64 a0_0, .slice A0_1 l0_1.length c0_1]) (t := 27) ?hr ?_; (case hd => rfl); (case hg => rfl); (case hr => first | (go_simp; done) | (go_simp; rfl)); intro gb274 hg w4 hbox hb; have n0_ := Aside0.mk (below_step (by repeat (first | (with_reducible first | exact HB.out | apply below_alloc | apply pw_below_drewN | apply below_drew1) | exact HB.out)) hb); have n1_ := Aside0.mk (hbox); have n2_ := Aside0.mk ((by rw [hg]; exact (below_size (by repeat (first | (with_reducible first | exact HB.out | apply below_alloc | apply pw_below_drewN | apply below_drew1) | exact HB.out))) : w.heap.size ≤ gb274)); have n3_ := Aside0.mk ((by rw [hg]; exact (below_size (by repeat (first | (with_reducible first | exact HB.out | apply below_alloc | apply pw_below_drewN | apply below_drew1) | exact HB.out))) : w.heap.size ≤ gb274)); clear HB; have HB := n0_; have BK274 := n1_; have GW274 := n2_; have GE274 := n3_; clear n0_ n1_ n2_ n3_; clear hb hbox hg) | ((with_reducible refine gate_dst (N := 3) rfl ?_); (try (refine gate_guard (by rfl) ?_; dsimp only)); refine box_event ?hg (N := 3) ?hd (cs := #[.slice A1_0 l1_0.length c1_0, .slice A1_1 l1_1.length c1_1]) (t := 42) ?hr ?_; (case hd => rfl); (case hg => rfl); (case hr => first | (go_simp; done) | (go_simp; rfl)); intro gb275 hg w5 hbox hb; have n0_ := Aside0.mk (blk_below (g := gb274) (o := .cells #[.int .i64 a0_0, .slice A0_1 l0_1.length c0_1] 27 (0, 0)) (by (with_reducible repeat (first | refine blk_drewN ?_ _ | refine blk_drew ?_ | refine blk_alloc ?_ _)); exact BK274.out) hb); have n1_ := Aside0.mk (below_step (by repeat (first | (with_reducible first | exact HB.out | apply below_alloc | apply pw_below_drewN | apply below_drew1 | refine below_set ?_ GE274.out) | exact HB.out)) hb); have n2_ := Aside0.mk (hbox); have n3_ := Aside0.mk ((by rw [hg]; exact (below_size (by repeat (first | (with_reducible first | exact HB.out | apply below_alloc | apply pw_below_drewN | apply below_drew1 | refine below_set ?_ GE274.out) | exact HB.out))) : w.heap.size ≤ gb275)); have n4_ := Aside0.mk ((by rw [hg]; exact (below_size (by repeat (first | (with_reducible first | exact HB.out | apply below_alloc | apply pw_below_drewN | apply below_drew1 | refine below_set ?_ GE274.out) | exact HB.out))) : w.heap.size ≤ gb275)); have n5_ := Aside0.mk ((by rw [hg]; exact Nat.ne_of_lt (blk_lt (g := gb274) (o := .cells #[.int .i64 a0_0, .slice A0_1 l0_1.length c0_1] 27 (0, 0)) (by (with_reducible repeat (first | refine blk_drewN ?_ _ | refine blk_drew ?_ | refine blk_alloc ?_ _)); exact BK274.out)) : gb274 ≠ gb275)); have n6_ := Aside0.mk ((by rw [hg]; exact Nat.ne_of_gt (blk_lt (g := gb274) (o := .cells #[.int .i64 a0_0, .slice A0_1 l0_1.length c0_1] 27 (0, 0)) (by (with_reducible repeat (first | refine blk_drewN ?_ _ | refine blk_drew ?_ | refine blk_alloc ?_ _)); exact BK274.out)) : gb275 ≠ gb274)); clear BK274; clear HB; have BK274 := n0_; have HB := n1_; have BK275 := n2_; have GW275 := n3_; have GE275 := n4_; have NB274_275 := n5_; have NB275_274 := n6_; clear n0_ n1_ n2_ n3_ n4_ n5_ n6_; clear hb hbox hg; have hnb6 := NB275_274.out; have hnc6 := NB274_275.out; have hcz7_0 : w5.cell? ⟨gb275, 0, none⟩ = some (.slice A1_0 l1_0.length c1_0) := (blk_cell BK275.out 0).trans rfl; have hcz7_1 : w5.cell? ⟨gb275, 1, none⟩ = some (.slice A1_1 l1_1.length c1_1) := (blk_cell BK275.out 1).trans rfl; have hfz7_0 := blk_frozen BK275.out 0; have hfz7_1 := blk_frozen BK275.out 1))
 (try simp only [Act.put, List.setIfInBounds_toArray, List.set_cons_zero, List.set_cons_succ])
 go_cut [42] (fun v42 wc => ∃ (kq : Nat) (x42_2 : Bool), v42 = .bool x42_2 ∧ Aside0 (spec_RecordOk.j0 kq (l1_0.length : Int) x42_2 a0_0 l0_1 l1_0 l1_1 = some r) ∧ Aside0 (kq ≤ k) ∧ Aside0 (wc.heap[gb274]? = some (.cells #[.int .i64 a0_0, (.slice A0_1 l0_1.length c0_1)] 27 (0, 0))) ∧ Aside0 (wc.heap[gb275]? = some (.cells #[(.slice A1_0 l1_0.length c1_0), (.slice A1_1 l1_1.length c1_1)] 42 (0, 0))) ∧ Aside0 (Below w.heap.size w wc))
 case first =>
  have H := HC3.out
  clear HC3
  replace H := Option.bind_eq_some_iff.mp H
  obtain ⟨t276, A80, H⟩ := H
  replace H : (if t276 = true then ((spec_l01In.f (l1_0.length : Int) 1 60).bind fun t277 => (if t277 = true then (if (l1_1.length : Int) = (l1_0.length : Int) then (if 0 < (l1_0.length : Int) then ((spec_l02Vertex.f a0_0 l0_1 (rd l1_0 0)).bind fun t279 => (if t279 = true then (if 0 < (l1_1.length : Int) then ((spec_l02Vertex.f a0_0 l0_1 (rd l1_1 0)).bind fun t281 => (spec_RecordOk.j0 k (l1_0.length : Int) (!t281) a0_0 l0_1 l1_0 l1_1)) else (none)) else (spec_RecordOk.j0 k (l1_0.length : Int) true a0_0 l0_1 l1_0 l1_1))) else (none)) else (spec_RecordOk.j0 k (l1_0.length : Int) true a0_0 l0_1 l1_0 l1_1)) else (spec_RecordOk.j0 k (l1_0.length : Int) true a0_0 l0_1 l1_0 l1_1))) else (spec_RecordOk.j0 k (l1_0.length : Int) true a0_0 l0_1 l1_0 l1_1)) = some r := H
  have A8 := Aside0.mk A80
  clear A80
  by_cases c9 : t276 = true
  · subst c9
    have H1 : ((spec_l01In.f (l1_0.length : Int) 1 60).bind fun t277 => (if t277 = true then (if (l1_1.length : Int) = (l1_0.length : Int) then (if 0 < (l1_0.length : Int) then ((spec_l02Vertex.f a0_0 l0_1 (rd l1_0 0)).bind fun t279 => (if t279 = true then (if 0 < (l1_1.length : Int) then ((spec_l02Vertex.f a0_0 l0_1 (rd l1_1 0)).bind fun t281 => (spec_RecordOk.j0 k (l1_0.length : Int) (!t281) a0_0 l0_1 l1_0 l1_1)) else (none)) else (spec_RecordOk.j0 k (l1_0.length : Int) true a0_0 l0_1 l1_0 l1_1))) else (none)) else (spec_RecordOk.j0 k (l1_0.length : Int) true a0_0 l0_1 l1_0 l1_1)) else (spec_RecordOk.j0 k (l1_0.length : Int) true a0_0 l0_1 l1_0 l1_1))) = some r := by rw [if_pos rfl] at H; exact H
    clear H
    have H := H1
    clear H1
    replace H := Option.bind_eq_some_iff.mp H
    obtain ⟨t277, A100, H⟩ := H
    replace H : (if t277 = true then (if (l1_1.length : Int) = (l1_0.length : Int) then (if 0 < (l1_0.length : Int) then ((spec_l02Vertex.f a0_0 l0_1 (rd l1_0 0)).bind fun t279 => (if t279 = true then (if 0 < (l1_1.length : Int) then ((spec_l02Vertex.f a0_0 l0_1 (rd l1_1 0)).bind fun t281 => (spec_RecordOk.j0 k (l1_0.length : Int) (!t281) a0_0 l0_1 l1_0 l1_1)) else (none)) else (spec_RecordOk.j0 k (l1_0.length : Int) true a0_0 l0_1 l1_0 l1_1))) else (none)) else (spec_RecordOk.j0 k (l1_0.length : Int) true a0_0 l0_1 l1_0 l1_1)) else (spec_RecordOk.j0 k (l1_0.length : Int) true a0_0 l0_1 l1_0 l1_1)) = some r := H
    have A10 := Aside0.mk A100
    clear A100
    by_cases c11 : t277 = true
    · subst c11
      have H1 : (if (l1_1.length : Int) = (l1_0.length : Int) then (if 0 < (l1_0.length : Int) then ((spec_l02Vertex.f a0_0 l0_1 (rd l1_0 0)).bind fun t279 => (if t279 = true then (if 0 < (l1_1.length : Int) then ((spec_l02Vertex.f a0_0 l0_1 (rd l1_1 0)).bind fun t281 => (spec_RecordOk.j0 k (l1_0.length : Int) (!t281) a0_0 l0_1 l1_0 l1_1)) else (none)) else (spec_RecordOk.j0 k (l1_0.length : Int) true a0_0 l0_1 l1_0 l1_1))) else (none)) else (spec_RecordOk.j0 k (l1_0.length : Int) true a0_0 l0_1 l1_0 l1_1)) = some r := by rw [if_pos rfl] at H; exact H
      clear H
      have H := H1
      clear H1
      by_cases c12 : (l1_1.length : Int) = (l1_0.length : Int)
      · rw [if_pos c12] at H
        have c12b0 : ((l1_1.length : Int) == (l1_0.length : Int)) = true := beq_iff_eq.mpr c12
        have c12b1 : ((l1_1.length : Int) != (l1_0.length : Int)) = false := bne_eq_false_iff_eq.mpr c12
        have c12b2 : (l1_1.length == l1_0.length) = true := by first | simpa using c12 | (simp at c12 ⊢; omega)
        clear c12
        (first | rw [c12b0] | (simp only [i64_w, i32_w]; rw [c12b0]) | skip)
        by_cases c13 : 0 < (l1_0.length : Int)
        · rw [if_pos c13] at H
          have c13b0 : decide (0 < (l1_0.length : Int)) = true := decide_eq_true c13
          have c13b1 : decide (0 < l1_0.length) = true := decide_eq_true (by omega)
          clear c13
          replace H := Option.bind_eq_some_iff.mp H
          obtain ⟨t279, A140, H⟩ := H
          replace H : (if t279 = true then (if 0 < (l1_1.length : Int) then ((spec_l02Vertex.f a0_0 l0_1 (rd l1_1 0)).bind fun t281 => (spec_RecordOk.j0 k (l1_0.length : Int) (!t281) a0_0 l0_1 l1_0 l1_1)) else (none)) else (spec_RecordOk.j0 k (l1_0.length : Int) true a0_0 l0_1 l1_0 l1_1)) = some r := H
          have A14 := Aside0.mk A140
          clear A140
          by_cases c15 : t279 = true
          · subst c15
            have H1 : (if 0 < (l1_1.length : Int) then ((spec_l02Vertex.f a0_0 l0_1 (rd l1_1 0)).bind fun t281 => (spec_RecordOk.j0 k (l1_0.length : Int) (!t281) a0_0 l0_1 l1_0 l1_1)) else (none)) = some r := by rw [if_pos rfl] at H; exact H
            clear H
            have H := H1
            clear H1
            by_cases c16 : 0 < (l1_1.length : Int)
            · rw [if_pos c16] at H
              have c16b0 : decide (0 < (l1_1.length : Int)) = true := decide_eq_true c16
              have c16b1 : decide (0 < l1_1.length) = true := decide_eq_true (by omega)
              clear c16
              replace H := Option.bind_eq_some_iff.mp H
              obtain ⟨t281, A170, H⟩ := H
              replace H : (spec_RecordOk.j0 k (l1_0.length : Int) (!t281) a0_0 l0_1 l1_0 l1_1) = some r := H
              have A17 := Aside0.mk A170
              clear A170
              have H' := Aside0.mk H
              clear H
              try go_wp2
              have n0_ := Aside0.mk (blk_drew BK274.out)
              have n1_ := Aside0.mk (blk_drew BK275.out)
              have n2_ := Aside0.mk (below_drew1 HB.out)
              clear BK274
              clear BK275
              clear HB
              have BK274 := n0_
              have BK275 := n1_
              have HB := n2_
              clear n0_ n1_ n2_
              have p278 : 0 ≤ (0 : Int) := (by omega)
              have q278 : 0 < (l1_0.length : Int) := of_decide_eq_true (by first | (with_reducible assumption) | assumption)
              obtain ⟨ad278, e278, hx278_0⟩ := Kd.at_int HR1_0.out 0 p278 q278
              have hw278_0 := hx278_0
              (try rw [show ((0 : Int)).toNat = 0 from rfl] at hw278_0)
              (try rw [show 0 * 1 = 0 from rfl] at hw278_0)
              (try rw [Addr.add_zero'] at hw278_0)
              cases e278
              have qi278 : (0 < l1_0.length) = True := eq_true (by omega)
              (try rw [show ((0 : Int)).toNat = 0 from rfl] at hx278_0)
              (try rw [Addr.add_zero'] at hx278_0)
              replace hx278_0 := (HB.out.cell (World.block_lt_of_cell? w _ hx278_0)).trans hx278_0
              replace p278 := eq_true p278
              replace q278 := eq_true q278
              have p280 : 0 ≤ (0 : Int) := (by omega)
              have q280 : 0 < (l1_1.length : Int) := of_decide_eq_true (by first | (with_reducible assumption) | assumption)
              obtain ⟨ad280, e280, hx280_0⟩ := Kd.at_int HR1_1.out 0 p280 q280
              have hw280_0 := hx280_0
              (try rw [show ((0 : Int)).toNat = 0 from rfl] at hw280_0)
              (try rw [show 0 * 1 = 0 from rfl] at hw280_0)
              (try rw [Addr.add_zero'] at hw280_0)
              cases e280
              have qi280 : (0 < l1_1.length) = True := eq_true (by omega)
              (try rw [show ((0 : Int)).toNat = 0 from rfl] at hx280_0)
              (try rw [Addr.add_zero'] at hx280_0)
              replace hx280_0 := (HB.out.cell (World.block_lt_of_cell? w _ hx280_0)).trans hx280_0
              replace p280 := eq_true p280
              replace q280 := eq_true q280
              refine start_ (n := 33) (S := fun w' => w'.cell? ⟨gb274, 0, none⟩ = some (.int .i64 a0_0) ∧ w'.cell? ⟨gb274, 1, none⟩ = some (.slice A0_1 l0_1.length c0_1) ∧ w'.cell? ⟨gb275, 0, none⟩ = some (.slice (some ad278) l1_0.length c1_0) ∧ w'.cell? ⟨gb275, 1, none⟩ = some (.slice (some ad280) l1_1.length c1_1) ∧ w'.cell? ad278 = some (.int .i64 (rd l1_0 0)) ∧ w'.cell? ad280 = some (.int .i64 (rd l1_1 0))) (ds := []) b0_ (by kernel_rfl) rfl rfl ⟨(blk_cell BK274.out 0).trans rfl, (blk_cell BK274.out 1).trans rfl, (blk_cell BK275.out 0).trans rfl, (blk_cell BK275.out 1).trans rfl, ((HB.out.cell (World.block_lt_of_cell? w _ hw278_0)).trans hw278_0), ((HB.out.cell (World.block_lt_of_cell? w _ hw280_0)).trans hw280_0)⟩ (fun hHeld => ?_); refine with_tabW spec_RecordOk.tab2 spec_RecordOk.bits2 (fun HT_ HW_ => ?_)
              generalize w5.drew = w18 at BK274 BK275 HB hx278_0 hx280_0 hHeld ⊢
              refine take_ (i := 0) (N := some 10) (v := ?_) (a' := ?_) b1_ rfl rfl (take_ofW HT_.out HW_.out (by kernel_rfl)) (fun _ _ _ h => h) (Or.inl ⟨by rfl, ?_⟩) hHeld ?_ ?_
              rotate_left; (· rintro w' ⟨s0, s1, s2, s3, s4, s5⟩; go_simp; with_reducible rfl); rotate_left; (· simp only [Act.put, sA_, sB_, sC_, i64_w, i32_w]; rfl)
              refine one_ (i := 1) (N := some 11) b2_ rfl rfl (one_of HT_.out (by kernel_rfl)) (by decide) (fun K hK => ?_)
              refine goes_ Try.func72 (by kernel_rfl) rfl #[.agg #[.int .i64 a0_0, .slice A0_1 l0_1.length c0_1]] (by rfl) rfl rfl (by (try simp only [List.map_toArray, List.map_cons, List.map_nil]); first | done | rfl | (simp only [List.length_drop, List.length_take]; rfl)) ?_
              with_reducible refine (spec_GraphOk.calls k a0_0 _ _ l0_1 true _ ?side1 ?side2 A8.out).mono ?_
              (case side1 => repeat (first | exact (Kd.C_below HR0_1.out HB.out) | (with_reducible refine Kd.C_alloc ?_ _) | (with_reducible refine Kd.C_drewN ?_ _) | (with_reducible refine Kd.C_drew ?_)))
              (case side2 => exact HC0_1.out)
              rintro e w19 ⟨rfl, hb⟩
              refine ⟨_, rfl, ?_⟩
              have n0_ := Aside0.mk (blk_below (g := gb274) (o := .cells #[.int .i64 a0_0, .slice A0_1 l0_1.length c0_1] 27 (0, 0)) (by (with_reducible repeat (first | refine blk_drewN ?_ _ | refine blk_drew ?_ | refine blk_alloc ?_ _)); exact BK274.out) hb)
              have n1_ := Aside0.mk (blk_below (g := gb275) (o := .cells #[.slice (some ad278) l1_0.length c1_0, .slice (some ad280) l1_1.length c1_1] 42 (0, 0)) (by (with_reducible repeat (first | refine blk_drewN ?_ _ | refine blk_drew ?_ | refine blk_alloc ?_ _)); exact BK275.out) hb)
              have n2_ := Aside0.mk (below_step (by repeat (first | (with_reducible first | exact HB.out | apply below_alloc | apply pw_below_drewN | apply below_drew1 | refine below_set ?_ GE274.out | refine below_set ?_ GE275.out) | exact HB.out)) hb)
              clear BK274
              clear BK275
              clear HB
              have BK274 := n0_
              have BK275 := n1_
              have HB := n2_
              clear n0_ n1_ n2_
              (try clear hb)
              (try clear hb2)
              (try clear hk)
              (try clear hi)
              refine hK.out _ _ ⟨(blk_cell BK274.out 0).trans rfl, (blk_cell BK274.out 1).trans rfl, (blk_cell BK275.out 0).trans rfl, (blk_cell BK275.out 1).trans rfl, ((HB.out.cell (World.block_lt_of_cell? w _ hw278_0)).trans hw278_0), ((HB.out.cell (World.block_lt_of_cell? w _ hw280_0)).trans hw280_0)⟩ (fun hHeld => ?_)
              clear hK K
              refine norm_ (a' := ?_) ?_ ?_
              rotate_left
              · show Act.put _ (some 11) _ = _
                simp only [Act.put, sA_, sB_, sC_, i64_w, i32_w]
                rfl
              refine pure_ (i := 2) (N := some 12) (v := ?_) (a' := ?_) b3_ rfl rfl (any_of HT_.out (by kernel_rfl)) (fun _ _ _ h => h) (Or.inl ⟨by rfl, ?_⟩) ?_ ?_
              rotate_left; (· intro w'; go_simp; with_reducible rfl); rotate_left; (· simp only [Act.put, sA_, sB_, sC_, i64_w, i32_w]; rfl)
              refine pure_ (i := 3) (N := some 13) (v := ?_) (a' := ?_) b4_ rfl rfl (any_of HT_.out (by kernel_rfl)) (fun _ _ _ h => h) (Or.inl ⟨by rfl, ?_⟩) ?_ ?_
              rotate_left; (· intro w'; go_simp; with_reducible rfl); rotate_left; (· simp only [Act.put, sA_, sB_, sC_, i64_w, i32_w]; rfl)
              refine pure_ (i := 4) (N := some 14) (v := ?_) (a' := ?_) b5_ rfl rfl (any_of HT_.out (by kernel_rfl)) (fun _ _ _ h => h) (Or.inl ⟨by rfl, ?_⟩) ?_ ?_
              rotate_left; (· intro w'; go_simp; with_reducible rfl); rotate_left; (· simp only [Act.put, sA_, sB_, sC_, i64_w, i32_w]; rfl)
              refine one_ (i := 5) (N := some 15) b6_ rfl rfl (one_of HT_.out (by kernel_rfl)) (by decide) (fun K hK => ?_)
              refine goes_ Try.func79 (by kernel_rfl) rfl #[.int .i64 (l1_0.length : Int), .int .i64 1, .int .i64 60] (by rfl) rfl rfl (by (try simp only [List.map_toArray, List.map_cons, List.map_nil]); first | done | rfl | (simp only [List.length_drop, List.length_take]; rfl)) ?_
              with_reducible refine (spec_l01In.calls (l1_0.length : Int) 1 60 true _ A10.out).mono ?_
              rintro e w' ⟨rfl, ⟨nd, rfl⟩⟩
              refine ⟨_, rfl, ?_⟩
              refine hK.out _ _ ⟨(blk_cell BK274.out 0).trans rfl, (blk_cell BK274.out 1).trans rfl, (blk_cell BK275.out 0).trans rfl, (blk_cell BK275.out 1).trans rfl, ((HB.out.cell (World.block_lt_of_cell? w _ hw278_0)).trans hw278_0), ((HB.out.cell (World.block_lt_of_cell? w _ hw280_0)).trans hw280_0)⟩ (fun hHeld => ?_)
              clear hK K
              refine norm_ (a' := ?_) ?_ ?_
              rotate_left
              · show Act.put _ (some 15) _ = _
                simp only [Act.put, sA_, sB_, sC_, i64_w, i32_w]
                rfl
              refine pure_ (i := 6) (N := some 16) (v := ?_) (a' := ?_) b7_ rfl rfl (any_of HT_.out (by kernel_rfl)) (fun _ _ _ h => h) (Or.inl ⟨by rfl, ?_⟩) ?_ ?_
              rotate_left; (· intro w'; go_simp; with_reducible rfl); rotate_left; (· simp only [Act.put, sA_, sB_, sC_, i64_w, i32_w]; rfl)
              refine pure_ (i := 7) (N := some 17) (v := ?_) (a' := ?_) b8_ rfl rfl (any_of HT_.out (by kernel_rfl)) (fun _ _ _ h => h) (Or.inl ⟨by rfl, ?_⟩) ?_ ?_
              rotate_left; (· intro w'; go_simp; with_reducible rfl); rotate_left; (· simp only [Act.put, sA_, sB_, sC_, i64_w, i32_w]; rfl)
              refine pure_ (i := 8) (N := some 18) (v := ?_) (a' := ?_) b9_ rfl rfl (any_of HT_.out (by kernel_rfl)) (fun _ _ _ h => h) (Or.inl ⟨by rfl, ?_⟩) ?_ ?_
              rotate_left; (· intro w'; go_simp; with_reducible rfl); rotate_left; (· simp only [Act.put, sA_, sB_, sC_, i64_w, i32_w]; rfl)
              refine pure_ (i := 9) (N := some 19) (v := ?_) (a' := ?_) b10_ rfl rfl (any_of HT_.out (by kernel_rfl)) (fun _ _ _ h => h) (Or.inl ⟨by rfl, ?_⟩) ?_ ?_
              rotate_left; (· intro w'; go_simp; with_reducible rfl); rotate_left; (· simp only [Act.put, sA_, sB_, sC_, i64_w, i32_w]; rfl)
              refine pure_ (i := 12) (N := some 22) (v := ?_) (a' := ?_) b11_ rfl rfl (any_of HT_.out (by kernel_rfl)) (fun _ _ _ h => h) (Or.inl ⟨by rfl, ?_⟩) ?_ ?_
              rotate_left; (· intro w'; go_simp; with_reducible rfl); rotate_left; (· simp only [Act.put, sA_, sB_, sC_, i64_w, i32_w]; rfl)
              refine take_ (i := 10) (N := some 20) (v := ?_) (a' := ?_) b12_ rfl rfl (take_ofW HT_.out HW_.out (by kernel_rfl)) (fun _ _ _ h => h) (Or.inl ⟨by rfl, ?_⟩) hHeld ?_ ?_
              rotate_left; (· rintro w' ⟨s0, s1, s2, s3, s4, s5⟩; go_simp; with_reducible rfl); rotate_left; (· simp only [Act.put, sA_, sB_, sC_, i64_w, i32_w]; rfl)
              refine pure_ (i := 11) (N := some 21) (v := ?_) (a' := ?_) b13_ rfl rfl (any_of HT_.out (by kernel_rfl)) (fun _ _ _ h => h) (Or.inl ⟨by rfl, ?_⟩) ?_ ?_
              rotate_left; (· intro w'; go_simp; with_reducible rfl); rotate_left; (· simp only [Act.put, sA_, sB_, sC_, i64_w, i32_w]; rfl)
              refine pure_ (i := 13) (N := some 23) (v := ?_) (a' := ?_) b14_ rfl rfl (any_of HT_.out (by kernel_rfl)) (fun _ _ _ h => h) (Or.inl ⟨by rfl, ?_⟩) ?_ ?_
              rotate_left; (· intro w'; go_simp; with_reducible rfl); rotate_left; (· simp only [Act.put, sA_, sB_, sC_, i64_w, i32_w]; rfl)
              refine pure_ (i := 14) (N := some 24) (v := ?_) (a' := ?_) b15_ rfl rfl (any_of HT_.out (by kernel_rfl)) (fun _ _ _ h => h) (Or.inl ⟨by rfl, ?_⟩) ?_ ?_
              rotate_left; (· intro w'; go_simp; with_reducible rfl); rotate_left; (· simp only [Act.put, sA_, sB_, sC_, i64_w, i32_w]; rfl)
              refine pure_ (i := 15) (N := some 25) (v := ?_) (a' := ?_) b16_ rfl rfl (any_of HT_.out (by kernel_rfl)) (fun _ _ _ h => h) (Or.inl ⟨by rfl, ?_⟩) ?_ ?_
              rotate_left; (· intro w'; go_simp; with_reducible rfl); rotate_left; (· simp only [Act.put, sA_, sB_, sC_, i64_w, i32_w]; rfl)
              refine pure_ (i := 17) (N := some 27) (v := ?_) (a' := ?_) b17_ rfl rfl (any_of HT_.out (by kernel_rfl)) (fun _ _ _ h => h) (Or.inl ⟨by rfl, ?_⟩) ?_ ?_
              rotate_left; (· intro w'; go_simp; with_reducible rfl); rotate_left; (· simp only [Act.put, sA_, sB_, sC_, i64_w, i32_w]; rfl)
              refine take_ (i := 16) (N := some 26) (v := ?_) (a' := ?_) b18_ rfl rfl (take_ofW HT_.out HW_.out (by kernel_rfl)) (fun _ _ _ h => h) (Or.inl ⟨by rfl, ?_⟩) hHeld ?_ ?_
              rotate_left; (· rintro w' ⟨s0, s1, s2, s3, s4, s5⟩; go_simp; with_reducible rfl); rotate_left; (· simp only [Act.put, sA_, sB_, sC_, i64_w, i32_w]; rfl)
              refine take_ (i := 18) (N := some 28) (v := ?_) (a' := ?_) b19_ rfl rfl (take_ofW HT_.out HW_.out (by kernel_rfl)) (fun _ _ _ h => h) (Or.inl ⟨by rfl, ?_⟩) hHeld ?_ ?_
              rotate_left; (· rintro w' ⟨s0, s1, s2, s3, s4, s5⟩; go_simp; with_reducible rfl); rotate_left; (· simp only [Act.put, sA_, sB_, sC_, i64_w, i32_w]; rfl)
              refine pure_ (i := 19) (N := some 29) (v := ?_) (a' := ?_) b20_ rfl rfl (any_of HT_.out (by kernel_rfl)) (fun _ _ _ h => h) (Or.inl ⟨by rfl, ?_⟩) ?_ ?_
              rotate_left; (· intro w'; go_simp; with_reducible rfl); rotate_left; (· simp only [Act.put, sA_, sB_, sC_, i64_w, i32_w]; rfl)
              refine take_ (i := 20) (N := some 30) (v := ?_) (a' := ?_) b21_ rfl rfl (take_ofW HT_.out HW_.out (by kernel_rfl)) (fun _ _ _ h => h) (Or.inl ⟨by rfl, ?_⟩) hHeld ?_ ?_
              rotate_left; (· rintro w' ⟨s0, s1, s2, s3, s4, s5⟩; go_simp; with_reducible rfl); rotate_left; (· simp only [Act.put, sA_, sB_, sC_, i64_w, i32_w]; rfl)
              refine one_ (i := 21) (N := some 31) b22_ rfl rfl (one_of HT_.out (by kernel_rfl)) (by decide) (fun K hK => ?_)
              refine goes_ Try.func90 (by kernel_rfl) rfl #[.agg #[.int .i64 a0_0, .slice A0_1 l0_1.length c0_1], .int .i64 (rd l1_0 0)] (by rfl) rfl rfl (by (try simp only [List.map_toArray, List.map_cons, List.map_nil]); first | done | rfl | (simp only [List.length_drop, List.length_take]; rfl)) ?_
              with_reducible refine (spec_l02Vertex.calls a0_0 _ _ l0_1 (rd l1_0 0) true _ ?side1 ?side2 A14.out).mono ?_
              (case side1 => repeat (first | exact (Kd.C_below HR0_1.out (by repeat (first | (with_reducible first | exact HB.out | apply below_alloc | apply pw_below_drewN | apply below_drew1 | refine below_set ?_ GE274.out | refine below_set ?_ GE275.out) | exact HB.out))) | (with_reducible refine Kd.C_alloc ?_ _) | (with_reducible refine Kd.C_drewN ?_ _) | (with_reducible refine Kd.C_drew ?_)))
              (case side2 => exact HC0_1.out)
              rintro e w20 ⟨rfl, hb⟩
              refine ⟨_, rfl, ?_⟩
              have n0_ := Aside0.mk (blk_below (g := gb274) (o := .cells #[.int .i64 a0_0, .slice A0_1 l0_1.length c0_1] 27 (0, 0)) (by (with_reducible repeat (first | refine blk_drewN ?_ _ | refine blk_drew ?_ | refine blk_alloc ?_ _)); exact BK274.out) hb)
              have n1_ := Aside0.mk (blk_below (g := gb275) (o := .cells #[.slice (some ad278) l1_0.length c1_0, .slice (some ad280) l1_1.length c1_1] 42 (0, 0)) (by (with_reducible repeat (first | refine blk_drewN ?_ _ | refine blk_drew ?_ | refine blk_alloc ?_ _)); exact BK275.out) hb)
              have n2_ := Aside0.mk (below_step (by repeat (first | (with_reducible first | exact HB.out | apply below_alloc | apply pw_below_drewN | apply below_drew1 | refine below_set ?_ GE274.out | refine below_set ?_ GE275.out) | exact HB.out)) hb)
              clear BK274
              clear BK275
              clear HB
              have BK274 := n0_
              have BK275 := n1_
              have HB := n2_
              clear n0_ n1_ n2_
              (try clear hb)
              (try clear hb2)
              (try clear hk)
              (try clear hi)
              refine hK.out _ _ ⟨(blk_cell BK274.out 0).trans rfl, (blk_cell BK274.out 1).trans rfl, (blk_cell BK275.out 0).trans rfl, (blk_cell BK275.out 1).trans rfl, ((HB.out.cell (World.block_lt_of_cell? w _ hw278_0)).trans hw278_0), ((HB.out.cell (World.block_lt_of_cell? w _ hw280_0)).trans hw280_0)⟩ (fun hHeld => ?_)
              clear hK K
              refine norm_ (a' := ?_) ?_ ?_
              rotate_left
              · show Act.put _ (some 31) _ = _
                simp only [Act.put, sA_, sB_, sC_, i64_w, i32_w]
                rfl
              refine pure_ (i := 22) (N := some 32) (v := ?_) (a' := ?_) b23_ rfl rfl (any_of HT_.out (by kernel_rfl)) (fun _ _ _ h => h) (Or.inl ⟨by rfl, ?_⟩) ?_ ?_
              rotate_left; (· intro w'; go_simp; with_reducible rfl); rotate_left; (· simp only [Act.put, sA_, sB_, sC_, i64_w, i32_w]; rfl)
              refine pure_ (i := 23) (N := some 33) (v := ?_) (a' := ?_) b24_ rfl rfl (any_of HT_.out (by kernel_rfl)) (fun _ _ _ h => h) (Or.inl ⟨by rfl, ?_⟩) ?_ ?_
              rotate_left; (· intro w'; go_simp; with_reducible rfl); rotate_left; (· simp only [Act.put, sA_, sB_, sC_, i64_w, i32_w]; rfl)
              refine pure_ (i := 24) (N := some 34) (v := ?_) (a' := ?_) b25_ rfl rfl (any_of HT_.out (by kernel_rfl)) (fun _ _ _ h => h) (Or.inl ⟨by rfl, ?_⟩) ?_ ?_
              rotate_left; (· intro w'; go_simp; with_reducible rfl); rotate_left; (· simp only [Act.put, sA_, sB_, sC_, i64_w, i32_w]; rfl)
              refine pure_ (i := 26) (N := some 36) (v := ?_) (a' := ?_) b26_ rfl rfl (any_of HT_.out (by kernel_rfl)) (fun _ _ _ h => h) (Or.inl ⟨by rfl, ?_⟩) ?_ ?_
              rotate_left; (· intro w'; go_simp; with_reducible rfl); rotate_left; (· simp only [Act.put, sA_, sB_, sC_, i64_w, i32_w]; rfl)
              refine take_ (i := 25) (N := some 35) (v := ?_) (a' := ?_) b27_ rfl rfl (take_ofW HT_.out HW_.out (by kernel_rfl)) (fun _ _ _ h => h) (Or.inl ⟨by rfl, ?_⟩) hHeld ?_ ?_
              rotate_left; (· rintro w' ⟨s0, s1, s2, s3, s4, s5⟩; go_simp; with_reducible rfl); rotate_left; (· simp only [Act.put, sA_, sB_, sC_, i64_w, i32_w]; rfl)
              refine take_ (i := 27) (N := some 37) (v := ?_) (a' := ?_) b28_ rfl rfl (take_ofW HT_.out HW_.out (by kernel_rfl)) (fun _ _ _ h => h) (Or.inl ⟨by rfl, ?_⟩) hHeld ?_ ?_
              rotate_left; (· rintro w' ⟨s0, s1, s2, s3, s4, s5⟩; go_simp; with_reducible rfl); rotate_left; (· simp only [Act.put, sA_, sB_, sC_, i64_w, i32_w]; rfl)
              refine pure_ (i := 28) (N := some 38) (v := ?_) (a' := ?_) b29_ rfl rfl (any_of HT_.out (by kernel_rfl)) (fun _ _ _ h => h) (Or.inl ⟨by rfl, ?_⟩) ?_ ?_
              rotate_left; (· intro w'; go_simp; with_reducible rfl); rotate_left; (· simp only [Act.put, sA_, sB_, sC_, i64_w, i32_w]; rfl)
              refine take_ (i := 29) (N := some 39) (v := ?_) (a' := ?_) b30_ rfl rfl (take_ofW HT_.out HW_.out (by kernel_rfl)) (fun _ _ _ h => h) (Or.inl ⟨by rfl, ?_⟩) hHeld ?_ ?_
              rotate_left; (· rintro w' ⟨s0, s1, s2, s3, s4, s5⟩; go_simp; with_reducible rfl); rotate_left; (· simp only [Act.put, sA_, sB_, sC_, i64_w, i32_w]; rfl)
              refine one_ (i := 30) (N := some 40) b31_ rfl rfl (one_of HT_.out (by kernel_rfl)) (by decide) (fun K hK => ?_)
              refine goes_ Try.func90 (by kernel_rfl) rfl #[.agg #[.int .i64 a0_0, .slice A0_1 l0_1.length c0_1], .int .i64 (rd l1_1 0)] (by rfl) rfl rfl (by (try simp only [List.map_toArray, List.map_cons, List.map_nil]); first | done | rfl | (simp only [List.length_drop, List.length_take]; rfl)) ?_
              with_reducible refine (spec_l02Vertex.calls a0_0 _ _ l0_1 (rd l1_1 0) t281 _ ?side1 ?side2 A17.out).mono ?_
              (case side1 => repeat (first | exact (Kd.C_below HR0_1.out HB.out) | (with_reducible refine Kd.C_alloc ?_ _) | (with_reducible refine Kd.C_drewN ?_ _) | (with_reducible refine Kd.C_drew ?_)))
              (case side2 => exact HC0_1.out)
              rintro e w21 ⟨rfl, hb⟩
              refine ⟨_, rfl, ?_⟩
              have n0_ := Aside0.mk (blk_below (g := gb274) (o := .cells #[.int .i64 a0_0, .slice A0_1 l0_1.length c0_1] 27 (0, 0)) (by (with_reducible repeat (first | refine blk_drewN ?_ _ | refine blk_drew ?_ | refine blk_alloc ?_ _)); exact BK274.out) hb)
              have n1_ := Aside0.mk (blk_below (g := gb275) (o := .cells #[.slice (some ad278) l1_0.length c1_0, .slice (some ad280) l1_1.length c1_1] 42 (0, 0)) (by (with_reducible repeat (first | refine blk_drewN ?_ _ | refine blk_drew ?_ | refine blk_alloc ?_ _)); exact BK275.out) hb)
              have n2_ := Aside0.mk (below_step (by repeat (first | (with_reducible first | exact HB.out | apply below_alloc | apply pw_below_drewN | apply below_drew1 | refine below_set ?_ GE274.out | refine below_set ?_ GE275.out) | exact HB.out)) hb)
              clear BK274
              clear BK275
              clear HB
              have BK274 := n0_
              have BK275 := n1_
              have HB := n2_
              clear n0_ n1_ n2_
              (try clear hb)
              (try clear hb2)
              (try clear hk)
              (try clear hi)
              refine hK.out _ _ ⟨(blk_cell BK274.out 0).trans rfl, (blk_cell BK274.out 1).trans rfl, (blk_cell BK275.out 0).trans rfl, (blk_cell BK275.out 1).trans rfl, ((HB.out.cell (World.block_lt_of_cell? w _ hw278_0)).trans hw278_0), ((HB.out.cell (World.block_lt_of_cell? w _ hw280_0)).trans hw280_0)⟩ (fun hHeld => ?_)
              clear hK K
              refine norm_ (a' := ?_) ?_ ?_
              rotate_left
              · show Act.put _ (some 40) _ = _
                simp only [Act.put, sA_, sB_, sC_, i64_w, i32_w]
                rfl
              refine pure_ (i := 31) (N := some 41) (v := ?_) (a' := ?_) b32_ rfl rfl (any_of HT_.out (by kernel_rfl)) (fun _ _ _ h => h) (Or.inl ⟨by rfl, ?_⟩) ?_ ?_
              rotate_left; (· intro w'; go_simp; with_reducible rfl); rotate_left; (· simp only [Act.put, sA_, sB_, sC_, i64_w, i32_w]; rfl)
              refine pure_ (i := 32) (N := some 42) (v := ?_) (a' := ?_) b33_ rfl rfl (any_of HT_.out (by kernel_rfl)) (fun _ _ _ h => h) (Or.inl ⟨by rfl, ?_⟩) ?_ ?_
              rotate_left; (· intro w'; go_simp; with_reducible rfl); rotate_left; (· simp only [Act.put, sA_, sB_, sC_, i64_w, i32_w]; rfl)
              refine done_ (done_of HT_.out (by kernel_rfl)) ?_
              try go_wp2
              go_meet
              case rel => exact ⟨_, (!t281), (by first | rfl | (simp; done) | (simp [*]; done)), H', ⟨by first | omega | exact Nat.le_refl _⟩, ⟨by (with_reducible repeat (first | refine blk_drewN ?_ _ | refine blk_drew ?_ | refine blk_alloc ?_ _)); exact BK274.out⟩, ⟨by (with_reducible repeat (first | refine blk_drewN ?_ _ | refine blk_drew ?_ | refine blk_alloc ?_ _)); exact BK275.out⟩, ⟨by repeat (first | (with_reducible first | exact HB.out | apply below_alloc | apply pw_below_drewN | apply below_drew1 | refine below_set ?_ GE274.out | refine below_set ?_ GE275.out) | exact HB.out)⟩⟩
            · rw [if_neg c16] at H
              exact absurd H (by simp)
          · replace c15 := Bool.eq_false_iff.mpr c15
            subst c15
            have H1 : (spec_RecordOk.j0 k (l1_0.length : Int) true a0_0 l0_1 l1_0 l1_1) = some r := by rw [if_neg (show ¬ (false = true) by decide)] at H; exact H
            clear H
            have H := H1
            clear H1
            have H' := Aside0.mk H
            clear H
            try go_wp2
            have n0_ := Aside0.mk (blk_drew BK274.out)
            have n1_ := Aside0.mk (blk_drew BK275.out)
            have n2_ := Aside0.mk (below_drew1 HB.out)
            clear BK274
            clear BK275
            clear HB
            have BK274 := n0_
            have BK275 := n1_
            have HB := n2_
            clear n0_ n1_ n2_
            have p278 : 0 ≤ (0 : Int) := (by omega)
            have q278 : 0 < (l1_0.length : Int) := of_decide_eq_true (by first | (with_reducible assumption) | assumption)
            obtain ⟨ad278, e278, hx278_0⟩ := Kd.at_int HR1_0.out 0 p278 q278
            have hw278_0 := hx278_0
            (try rw [show ((0 : Int)).toNat = 0 from rfl] at hw278_0)
            (try rw [show 0 * 1 = 0 from rfl] at hw278_0)
            (try rw [Addr.add_zero'] at hw278_0)
            cases e278
            have qi278 : (0 < l1_0.length) = True := eq_true (by omega)
            (try rw [show ((0 : Int)).toNat = 0 from rfl] at hx278_0)
            (try rw [Addr.add_zero'] at hx278_0)
            replace hx278_0 := (HB.out.cell (World.block_lt_of_cell? w _ hx278_0)).trans hx278_0
            replace p278 := eq_true p278
            replace q278 := eq_true q278
            refine start_ (n := 33) (S := fun w' => w'.cell? ⟨gb274, 0, none⟩ = some (.int .i64 a0_0) ∧ w'.cell? ⟨gb274, 1, none⟩ = some (.slice A0_1 l0_1.length c0_1) ∧ w'.cell? ⟨gb275, 0, none⟩ = some (.slice (some ad278) l1_0.length c1_0) ∧ w'.cell? ⟨gb275, 1, none⟩ = some (.slice A1_1 l1_1.length c1_1) ∧ w'.cell? ad278 = some (.int .i64 (rd l1_0 0))) (ds := []) b0_ (by kernel_rfl) rfl rfl ⟨(blk_cell BK274.out 0).trans rfl, (blk_cell BK274.out 1).trans rfl, (blk_cell BK275.out 0).trans rfl, (blk_cell BK275.out 1).trans rfl, ((HB.out.cell (World.block_lt_of_cell? w _ hw278_0)).trans hw278_0)⟩ (fun hHeld => ?_); refine with_tabW spec_RecordOk.tab2 spec_RecordOk.bits2 (fun HT_ HW_ => ?_)
            generalize w5.drew = w22 at BK274 BK275 HB hx278_0 hHeld ⊢
            refine take_ (i := 0) (N := some 10) (v := ?_) (a' := ?_) b1_ rfl rfl (take_ofW HT_.out HW_.out (by kernel_rfl)) (fun _ _ _ h => h) (Or.inl ⟨by rfl, ?_⟩) hHeld ?_ ?_
            rotate_left; (· rintro w' ⟨s0, s1, s2, s3, s4⟩; go_simp; with_reducible rfl); rotate_left; (· simp only [Act.put, sA_, sB_, sC_, i64_w, i32_w]; rfl)
            refine one_ (i := 1) (N := some 11) b2_ rfl rfl (one_of HT_.out (by kernel_rfl)) (by decide) (fun K hK => ?_)
            refine goes_ Try.func72 (by kernel_rfl) rfl #[.agg #[.int .i64 a0_0, .slice A0_1 l0_1.length c0_1]] (by rfl) rfl rfl (by (try simp only [List.map_toArray, List.map_cons, List.map_nil]); first | done | rfl | (simp only [List.length_drop, List.length_take]; rfl)) ?_
            with_reducible refine (spec_GraphOk.calls k a0_0 _ _ l0_1 true _ ?side1 ?side2 A8.out).mono ?_
            (case side1 => repeat (first | exact (Kd.C_below HR0_1.out HB.out) | (with_reducible refine Kd.C_alloc ?_ _) | (with_reducible refine Kd.C_drewN ?_ _) | (with_reducible refine Kd.C_drew ?_)))
            (case side2 => exact HC0_1.out)
            rintro e w23 ⟨rfl, hb⟩
            refine ⟨_, rfl, ?_⟩
            have n0_ := Aside0.mk (blk_below (g := gb274) (o := .cells #[.int .i64 a0_0, .slice A0_1 l0_1.length c0_1] 27 (0, 0)) (by (with_reducible repeat (first | refine blk_drewN ?_ _ | refine blk_drew ?_ | refine blk_alloc ?_ _)); exact BK274.out) hb)
            have n1_ := Aside0.mk (blk_below (g := gb275) (o := .cells #[.slice (some ad278) l1_0.length c1_0, .slice A1_1 l1_1.length c1_1] 42 (0, 0)) (by (with_reducible repeat (first | refine blk_drewN ?_ _ | refine blk_drew ?_ | refine blk_alloc ?_ _)); exact BK275.out) hb)
            have n2_ := Aside0.mk (below_step (by repeat (first | (with_reducible first | exact HB.out | apply below_alloc | apply pw_below_drewN | apply below_drew1 | refine below_set ?_ GE274.out | refine below_set ?_ GE275.out) | exact HB.out)) hb)
            clear BK274
            clear BK275
            clear HB
            have BK274 := n0_
            have BK275 := n1_
            have HB := n2_
            clear n0_ n1_ n2_
            (try clear hb)
            (try clear hb2)
            (try clear hk)
            (try clear hi)
            refine hK.out _ _ ⟨(blk_cell BK274.out 0).trans rfl, (blk_cell BK274.out 1).trans rfl, (blk_cell BK275.out 0).trans rfl, (blk_cell BK275.out 1).trans rfl, ((HB.out.cell (World.block_lt_of_cell? w _ hw278_0)).trans hw278_0)⟩ (fun hHeld => ?_)
            clear hK K
            refine norm_ (a' := ?_) ?_ ?_
            rotate_left
            · show Act.put _ (some 11) _ = _
              simp only [Act.put, sA_, sB_, sC_, i64_w, i32_w]
              rfl
            refine pure_ (i := 2) (N := some 12) (v := ?_) (a' := ?_) b3_ rfl rfl (any_of HT_.out (by kernel_rfl)) (fun _ _ _ h => h) (Or.inl ⟨by rfl, ?_⟩) ?_ ?_
            rotate_left; (· intro w'; go_simp; with_reducible rfl); rotate_left; (· simp only [Act.put, sA_, sB_, sC_, i64_w, i32_w]; rfl)
            refine pure_ (i := 3) (N := some 13) (v := ?_) (a' := ?_) b4_ rfl rfl (any_of HT_.out (by kernel_rfl)) (fun _ _ _ h => h) (Or.inl ⟨by rfl, ?_⟩) ?_ ?_
            rotate_left; (· intro w'; go_simp; with_reducible rfl); rotate_left; (· simp only [Act.put, sA_, sB_, sC_, i64_w, i32_w]; rfl)
            refine pure_ (i := 4) (N := some 14) (v := ?_) (a' := ?_) b5_ rfl rfl (any_of HT_.out (by kernel_rfl)) (fun _ _ _ h => h) (Or.inl ⟨by rfl, ?_⟩) ?_ ?_
            rotate_left; (· intro w'; go_simp; with_reducible rfl); rotate_left; (· simp only [Act.put, sA_, sB_, sC_, i64_w, i32_w]; rfl)
            refine one_ (i := 5) (N := some 15) b6_ rfl rfl (one_of HT_.out (by kernel_rfl)) (by decide) (fun K hK => ?_)
            refine goes_ Try.func79 (by kernel_rfl) rfl #[.int .i64 (l1_0.length : Int), .int .i64 1, .int .i64 60] (by rfl) rfl rfl (by (try simp only [List.map_toArray, List.map_cons, List.map_nil]); first | done | rfl | (simp only [List.length_drop, List.length_take]; rfl)) ?_
            with_reducible refine (spec_l01In.calls (l1_0.length : Int) 1 60 true _ A10.out).mono ?_
            rintro e w' ⟨rfl, ⟨nd, rfl⟩⟩
            refine ⟨_, rfl, ?_⟩
            refine hK.out _ _ ⟨(blk_cell BK274.out 0).trans rfl, (blk_cell BK274.out 1).trans rfl, (blk_cell BK275.out 0).trans rfl, (blk_cell BK275.out 1).trans rfl, ((HB.out.cell (World.block_lt_of_cell? w _ hw278_0)).trans hw278_0)⟩ (fun hHeld => ?_)
            clear hK K
            refine norm_ (a' := ?_) ?_ ?_
            rotate_left
            · show Act.put _ (some 15) _ = _
              simp only [Act.put, sA_, sB_, sC_, i64_w, i32_w]
              rfl
            refine pure_ (i := 6) (N := some 16) (v := ?_) (a' := ?_) b7_ rfl rfl (any_of HT_.out (by kernel_rfl)) (fun _ _ _ h => h) (Or.inl ⟨by rfl, ?_⟩) ?_ ?_
            rotate_left; (· intro w'; go_simp; with_reducible rfl); rotate_left; (· simp only [Act.put, sA_, sB_, sC_, i64_w, i32_w]; rfl)
            refine pure_ (i := 7) (N := some 17) (v := ?_) (a' := ?_) b8_ rfl rfl (any_of HT_.out (by kernel_rfl)) (fun _ _ _ h => h) (Or.inl ⟨by rfl, ?_⟩) ?_ ?_
            rotate_left; (· intro w'; go_simp; with_reducible rfl); rotate_left; (· simp only [Act.put, sA_, sB_, sC_, i64_w, i32_w]; rfl)
            refine pure_ (i := 8) (N := some 18) (v := ?_) (a' := ?_) b9_ rfl rfl (any_of HT_.out (by kernel_rfl)) (fun _ _ _ h => h) (Or.inl ⟨by rfl, ?_⟩) ?_ ?_
            rotate_left; (· intro w'; go_simp; with_reducible rfl); rotate_left; (· simp only [Act.put, sA_, sB_, sC_, i64_w, i32_w]; rfl)
            refine pure_ (i := 9) (N := some 19) (v := ?_) (a' := ?_) b10_ rfl rfl (any_of HT_.out (by kernel_rfl)) (fun _ _ _ h => h) (Or.inl ⟨by rfl, ?_⟩) ?_ ?_
            rotate_left; (· intro w'; go_simp; with_reducible rfl); rotate_left; (· simp only [Act.put, sA_, sB_, sC_, i64_w, i32_w]; rfl)
            refine pure_ (i := 12) (N := some 22) (v := ?_) (a' := ?_) b11_ rfl rfl (any_of HT_.out (by kernel_rfl)) (fun _ _ _ h => h) (Or.inl ⟨by rfl, ?_⟩) ?_ ?_
            rotate_left; (· intro w'; go_simp; with_reducible rfl); rotate_left; (· simp only [Act.put, sA_, sB_, sC_, i64_w, i32_w]; rfl)
            refine take_ (i := 10) (N := some 20) (v := ?_) (a' := ?_) b12_ rfl rfl (take_ofW HT_.out HW_.out (by kernel_rfl)) (fun _ _ _ h => h) (Or.inl ⟨by rfl, ?_⟩) hHeld ?_ ?_
            rotate_left; (· rintro w' ⟨s0, s1, s2, s3, s4⟩; go_simp; with_reducible rfl); rotate_left; (· simp only [Act.put, sA_, sB_, sC_, i64_w, i32_w]; rfl)
            refine pure_ (i := 11) (N := some 21) (v := ?_) (a' := ?_) b13_ rfl rfl (any_of HT_.out (by kernel_rfl)) (fun _ _ _ h => h) (Or.inl ⟨by rfl, ?_⟩) ?_ ?_
            rotate_left; (· intro w'; go_simp; with_reducible rfl); rotate_left; (· simp only [Act.put, sA_, sB_, sC_, i64_w, i32_w]; rfl)
            refine pure_ (i := 13) (N := some 23) (v := ?_) (a' := ?_) b14_ rfl rfl (any_of HT_.out (by kernel_rfl)) (fun _ _ _ h => h) (Or.inl ⟨by rfl, ?_⟩) ?_ ?_
            rotate_left; (· intro w'; go_simp; with_reducible rfl); rotate_left; (· simp only [Act.put, sA_, sB_, sC_, i64_w, i32_w]; rfl)
            refine pure_ (i := 14) (N := some 24) (v := ?_) (a' := ?_) b15_ rfl rfl (any_of HT_.out (by kernel_rfl)) (fun _ _ _ h => h) (Or.inl ⟨by rfl, ?_⟩) ?_ ?_
            rotate_left; (· intro w'; go_simp; with_reducible rfl); rotate_left; (· simp only [Act.put, sA_, sB_, sC_, i64_w, i32_w]; rfl)
            refine pure_ (i := 15) (N := some 25) (v := ?_) (a' := ?_) b16_ rfl rfl (any_of HT_.out (by kernel_rfl)) (fun _ _ _ h => h) (Or.inl ⟨by rfl, ?_⟩) ?_ ?_
            rotate_left; (· intro w'; go_simp; with_reducible rfl); rotate_left; (· simp only [Act.put, sA_, sB_, sC_, i64_w, i32_w]; rfl)
            refine pure_ (i := 17) (N := some 27) (v := ?_) (a' := ?_) b17_ rfl rfl (any_of HT_.out (by kernel_rfl)) (fun _ _ _ h => h) (Or.inl ⟨by rfl, ?_⟩) ?_ ?_
            rotate_left; (· intro w'; go_simp; with_reducible rfl); rotate_left; (· simp only [Act.put, sA_, sB_, sC_, i64_w, i32_w]; rfl)
            refine take_ (i := 16) (N := some 26) (v := ?_) (a' := ?_) b18_ rfl rfl (take_ofW HT_.out HW_.out (by kernel_rfl)) (fun _ _ _ h => h) (Or.inl ⟨by rfl, ?_⟩) hHeld ?_ ?_
            rotate_left; (· rintro w' ⟨s0, s1, s2, s3, s4⟩; go_simp; with_reducible rfl); rotate_left; (· simp only [Act.put, sA_, sB_, sC_, i64_w, i32_w]; rfl)
            refine take_ (i := 18) (N := some 28) (v := ?_) (a' := ?_) b19_ rfl rfl (take_ofW HT_.out HW_.out (by kernel_rfl)) (fun _ _ _ h => h) (Or.inl ⟨by rfl, ?_⟩) hHeld ?_ ?_
            rotate_left; (· rintro w' ⟨s0, s1, s2, s3, s4⟩; go_simp; with_reducible rfl); rotate_left; (· simp only [Act.put, sA_, sB_, sC_, i64_w, i32_w]; rfl)
            refine pure_ (i := 19) (N := some 29) (v := ?_) (a' := ?_) b20_ rfl rfl (any_of HT_.out (by kernel_rfl)) (fun _ _ _ h => h) (Or.inl ⟨by rfl, ?_⟩) ?_ ?_
            rotate_left; (· intro w'; go_simp; with_reducible rfl); rotate_left; (· simp only [Act.put, sA_, sB_, sC_, i64_w, i32_w]; rfl)
            refine take_ (i := 20) (N := some 30) (v := ?_) (a' := ?_) b21_ rfl rfl (take_ofW HT_.out HW_.out (by kernel_rfl)) (fun _ _ _ h => h) (Or.inl ⟨by rfl, ?_⟩) hHeld ?_ ?_
            rotate_left; (· rintro w' ⟨s0, s1, s2, s3, s4⟩; go_simp; with_reducible rfl); rotate_left; (· simp only [Act.put, sA_, sB_, sC_, i64_w, i32_w]; rfl)
            refine one_ (i := 21) (N := some 31) b22_ rfl rfl (one_of HT_.out (by kernel_rfl)) (by decide) (fun K hK => ?_)
            refine goes_ Try.func90 (by kernel_rfl) rfl #[.agg #[.int .i64 a0_0, .slice A0_1 l0_1.length c0_1], .int .i64 (rd l1_0 0)] (by rfl) rfl rfl (by (try simp only [List.map_toArray, List.map_cons, List.map_nil]); first | done | rfl | (simp only [List.length_drop, List.length_take]; rfl)) ?_
            with_reducible refine (spec_l02Vertex.calls a0_0 _ _ l0_1 (rd l1_0 0) false _ ?side1 ?side2 A14.out).mono ?_
            (case side1 => repeat (first | exact (Kd.C_below HR0_1.out (by repeat (first | (with_reducible first | exact HB.out | apply below_alloc | apply pw_below_drewN | apply below_drew1 | refine below_set ?_ GE274.out | refine below_set ?_ GE275.out) | exact HB.out))) | (with_reducible refine Kd.C_alloc ?_ _) | (with_reducible refine Kd.C_drewN ?_ _) | (with_reducible refine Kd.C_drew ?_)))
            (case side2 => exact HC0_1.out)
            rintro e w24 ⟨rfl, hb⟩
            refine ⟨_, rfl, ?_⟩
            have n0_ := Aside0.mk (blk_below (g := gb274) (o := .cells #[.int .i64 a0_0, .slice A0_1 l0_1.length c0_1] 27 (0, 0)) (by (with_reducible repeat (first | refine blk_drewN ?_ _ | refine blk_drew ?_ | refine blk_alloc ?_ _)); exact BK274.out) hb)
            have n1_ := Aside0.mk (blk_below (g := gb275) (o := .cells #[.slice (some ad278) l1_0.length c1_0, .slice A1_1 l1_1.length c1_1] 42 (0, 0)) (by (with_reducible repeat (first | refine blk_drewN ?_ _ | refine blk_drew ?_ | refine blk_alloc ?_ _)); exact BK275.out) hb)
            have n2_ := Aside0.mk (below_step (by repeat (first | (with_reducible first | exact HB.out | apply below_alloc | apply pw_below_drewN | apply below_drew1 | refine below_set ?_ GE274.out | refine below_set ?_ GE275.out) | exact HB.out)) hb)
            clear BK274
            clear BK275
            clear HB
            have BK274 := n0_
            have BK275 := n1_
            have HB := n2_
            clear n0_ n1_ n2_
            (try clear hb)
            (try clear hb2)
            (try clear hk)
            (try clear hi)
            refine hK.out _ _ ⟨(blk_cell BK274.out 0).trans rfl, (blk_cell BK274.out 1).trans rfl, (blk_cell BK275.out 0).trans rfl, (blk_cell BK275.out 1).trans rfl, ((HB.out.cell (World.block_lt_of_cell? w _ hw278_0)).trans hw278_0)⟩ (fun hHeld => ?_)
            clear hK K
            refine norm_ (a' := ?_) ?_ ?_
            rotate_left
            · show Act.put _ (some 31) _ = _
              simp only [Act.put, sA_, sB_, sC_, i64_w, i32_w]
              rfl
            refine pure_ (i := 22) (N := some 32) (v := ?_) (a' := ?_) b23_ rfl rfl (any_of HT_.out (by kernel_rfl)) (fun _ _ _ h => h) (Or.inl ⟨by rfl, ?_⟩) ?_ ?_
            rotate_left; (· intro w'; go_simp; with_reducible rfl); rotate_left; (· simp only [Act.put, sA_, sB_, sC_, i64_w, i32_w]; rfl)
            refine pure_ (i := 23) (N := some 33) (v := ?_) (a' := ?_) b24_ rfl rfl (any_of HT_.out (by kernel_rfl)) (fun _ _ _ h => h) (Or.inl ⟨by rfl, ?_⟩) ?_ ?_
            rotate_left; (· intro w'; go_simp; with_reducible rfl); rotate_left; (· simp only [Act.put, sA_, sB_, sC_, i64_w, i32_w]; rfl)
            refine pure_ (i := 24) (N := some 34) (v := ?_) (a' := ?_) b25_ rfl rfl (any_of HT_.out (by kernel_rfl)) (fun _ _ _ h => h) (Or.inl ⟨by rfl, ?_⟩) ?_ ?_
            rotate_left; (· intro w'; go_simp; with_reducible rfl); rotate_left; (· simp only [Act.put, sA_, sB_, sC_, i64_w, i32_w]; rfl)
            refine pure_ (i := 25) (N := some 35) (v := undef) (a' := ?_) b34_ rfl rfl (any_of HT_.out (by kernel_rfl)) (fun _ _ _ h => h) (Or.inr ⟨by rfl, rfl⟩) ?_ ?_
            rotate_left; (· simp only [Act.put, sA_, sB_, sC_, i64_w, i32_w]; rfl)
            refine pure_ (i := 26) (N := some 36) (v := undef) (a' := ?_) b27_ rfl rfl (any_of HT_.out (by kernel_rfl)) (fun _ _ _ h => h) (Or.inr ⟨by rfl, rfl⟩) ?_ ?_
            rotate_left; (· simp only [Act.put, sA_, sB_, sC_, i64_w, i32_w]; rfl)
            refine pure_ (i := 27) (N := some 37) (v := undef) (a' := ?_) b28_ rfl rfl (any_of HT_.out (by kernel_rfl)) (fun _ _ _ h => h) (Or.inr ⟨by rfl, rfl⟩) ?_ ?_
            rotate_left; (· simp only [Act.put, sA_, sB_, sC_, i64_w, i32_w]; rfl)
            refine pure_ (i := 28) (N := some 38) (v := undef) (a' := ?_) b29_ rfl rfl (any_of HT_.out (by kernel_rfl)) (fun _ _ _ h => h) (Or.inr ⟨by rfl, rfl⟩) ?_ ?_
            rotate_left; (· simp only [Act.put, sA_, sB_, sC_, i64_w, i32_w]; rfl)
            refine pure_ (i := 29) (N := some 39) (v := undef) (a' := ?_) b30_ rfl rfl (any_of HT_.out (by kernel_rfl)) (fun _ _ _ h => h) (Or.inr ⟨by rfl, rfl⟩) ?_ ?_
            rotate_left; (· simp only [Act.put, sA_, sB_, sC_, i64_w, i32_w]; rfl)
            refine pure_ (i := 30) (N := some 40) (v := undef) (a' := ?_) b31_ rfl rfl (any_of HT_.out (by kernel_rfl)) (fun _ _ _ h => h) (Or.inr ⟨by rfl, rfl⟩) ?_ ?_
            rotate_left; (· simp only [Act.put, sA_, sB_, sC_, i64_w, i32_w]; rfl)
            refine pure_ (i := 31) (N := some 41) (v := undef) (a' := ?_) b32_ rfl rfl (any_of HT_.out (by kernel_rfl)) (fun _ _ _ h => h) (Or.inr ⟨by rfl, rfl⟩) ?_ ?_
            rotate_left; (· simp only [Act.put, sA_, sB_, sC_, i64_w, i32_w]; rfl)
            refine pure_ (i := 32) (N := some 42) (v := ?_) (a' := ?_) b33_ rfl rfl (any_of HT_.out (by kernel_rfl)) (fun _ _ _ h => h) (Or.inl ⟨by rfl, ?_⟩) ?_ ?_
            rotate_left; (· intro w'; go_simp; with_reducible rfl); rotate_left; (· simp only [Act.put, sA_, sB_, sC_, i64_w, i32_w]; rfl)
            refine done_ (done_of HT_.out (by kernel_rfl)) ?_
            try go_wp2
            go_meet
            case rel => exact ⟨_, (true), (by first | rfl | (simp; done) | (simp [*]; done)), H', ⟨by first | omega | exact Nat.le_refl _⟩, ⟨by (with_reducible repeat (first | refine blk_drewN ?_ _ | refine blk_drew ?_ | refine blk_alloc ?_ _)); exact BK274.out⟩, ⟨by (with_reducible repeat (first | refine blk_drewN ?_ _ | refine blk_drew ?_ | refine blk_alloc ?_ _)); exact BK275.out⟩, ⟨by repeat (first | (with_reducible first | exact HB.out | apply below_alloc | apply pw_below_drewN | apply below_drew1 | refine below_set ?_ GE274.out | refine below_set ?_ GE275.out) | exact HB.out)⟩⟩
        · rw [if_neg c13] at H
          exact absurd H (by simp)
      · rw [if_neg c12] at H
        have c12b0 : ((l1_1.length : Int) == (l1_0.length : Int)) = false := beq_eq_false_iff_ne.mpr c12
        have c12b1 : ((l1_1.length : Int) != (l1_0.length : Int)) = true := bne_iff_ne.mpr c12
        have c12b2 : (l1_1.length == l1_0.length) = false := by first | simpa using c12 | (simp at c12 ⊢; omega)
        (first | rw [c12b0] | (simp only [i64_w, i32_w]; rw [c12b0]) | skip)
        have H' := Aside0.mk H
        clear H
        try go_wp2
        have n0_ := Aside0.mk (blk_drew BK274.out)
        have n1_ := Aside0.mk (blk_drew BK275.out)
        have n2_ := Aside0.mk (below_drew1 HB.out)
        clear BK274
        clear BK275
        clear HB
        have BK274 := n0_
        have BK275 := n1_
        have HB := n2_
        clear n0_ n1_ n2_
        refine start_ (n := 33) (S := fun w' => w'.cell? ⟨gb274, 0, none⟩ = some (.int .i64 a0_0) ∧ w'.cell? ⟨gb274, 1, none⟩ = some (.slice A0_1 l0_1.length c0_1) ∧ w'.cell? ⟨gb275, 0, none⟩ = some (.slice A1_0 l1_0.length c1_0) ∧ w'.cell? ⟨gb275, 1, none⟩ = some (.slice A1_1 l1_1.length c1_1)) (ds := []) b0_ (by kernel_rfl) rfl rfl ⟨(blk_cell BK274.out 0).trans rfl, (blk_cell BK274.out 1).trans rfl, (blk_cell BK275.out 0).trans rfl, (blk_cell BK275.out 1).trans rfl⟩ (fun hHeld => ?_); refine with_tabW spec_RecordOk.tab2 spec_RecordOk.bits2 (fun HT_ HW_ => ?_)
        generalize w5.drew = w25 at BK274 BK275 HB hHeld ⊢
        refine take_ (i := 0) (N := some 10) (v := ?_) (a' := ?_) b1_ rfl rfl (take_ofW HT_.out HW_.out (by kernel_rfl)) (fun _ _ _ h => h) (Or.inl ⟨by rfl, ?_⟩) hHeld ?_ ?_
        rotate_left; (· rintro w' ⟨s0, s1, s2, s3⟩; go_simp; with_reducible rfl); rotate_left; (· simp only [Act.put, sA_, sB_, sC_, i64_w, i32_w]; rfl)
        refine one_ (i := 1) (N := some 11) b2_ rfl rfl (one_of HT_.out (by kernel_rfl)) (by decide) (fun K hK => ?_)
        refine goes_ Try.func72 (by kernel_rfl) rfl #[.agg #[.int .i64 a0_0, .slice A0_1 l0_1.length c0_1]] (by rfl) rfl rfl (by (try simp only [List.map_toArray, List.map_cons, List.map_nil]); first | done | rfl | (simp only [List.length_drop, List.length_take]; rfl)) ?_
        with_reducible refine (spec_GraphOk.calls k a0_0 _ _ l0_1 true _ ?side1 ?side2 A8.out).mono ?_
        (case side1 => repeat (first | exact (Kd.C_below HR0_1.out HB.out) | (with_reducible refine Kd.C_alloc ?_ _) | (with_reducible refine Kd.C_drewN ?_ _) | (with_reducible refine Kd.C_drew ?_)))
        (case side2 => exact HC0_1.out)
        rintro e w26 ⟨rfl, hb⟩
        refine ⟨_, rfl, ?_⟩
        have n0_ := Aside0.mk (blk_below (g := gb274) (o := .cells #[.int .i64 a0_0, .slice A0_1 l0_1.length c0_1] 27 (0, 0)) (by (with_reducible repeat (first | refine blk_drewN ?_ _ | refine blk_drew ?_ | refine blk_alloc ?_ _)); exact BK274.out) hb)
        have n1_ := Aside0.mk (blk_below (g := gb275) (o := .cells #[.slice A1_0 l1_0.length c1_0, .slice A1_1 l1_1.length c1_1] 42 (0, 0)) (by (with_reducible repeat (first | refine blk_drewN ?_ _ | refine blk_drew ?_ | refine blk_alloc ?_ _)); exact BK275.out) hb)
        have n2_ := Aside0.mk (below_step (by repeat (first | (with_reducible first | exact HB.out | apply below_alloc | apply pw_below_drewN | apply below_drew1 | refine below_set ?_ GE274.out | refine below_set ?_ GE275.out) | exact HB.out)) hb)
        clear BK274
        clear BK275
        clear HB
        have BK274 := n0_
        have BK275 := n1_
        have HB := n2_
        clear n0_ n1_ n2_
        (try clear hb)
        (try clear hb2)
        (try clear hk)
        (try clear hi)
        refine hK.out _ _ ⟨(blk_cell BK274.out 0).trans rfl, (blk_cell BK274.out 1).trans rfl, (blk_cell BK275.out 0).trans rfl, (blk_cell BK275.out 1).trans rfl⟩ (fun hHeld => ?_)
        clear hK K
        refine norm_ (a' := ?_) ?_ ?_
        rotate_left
        · show Act.put _ (some 11) _ = _
          simp only [Act.put, sA_, sB_, sC_, i64_w, i32_w]
          rfl
        refine pure_ (i := 2) (N := some 12) (v := ?_) (a' := ?_) b3_ rfl rfl (any_of HT_.out (by kernel_rfl)) (fun _ _ _ h => h) (Or.inl ⟨by rfl, ?_⟩) ?_ ?_
        rotate_left; (· intro w'; go_simp; with_reducible rfl); rotate_left; (· simp only [Act.put, sA_, sB_, sC_, i64_w, i32_w]; rfl)
        refine pure_ (i := 3) (N := some 13) (v := ?_) (a' := ?_) b4_ rfl rfl (any_of HT_.out (by kernel_rfl)) (fun _ _ _ h => h) (Or.inl ⟨by rfl, ?_⟩) ?_ ?_
        rotate_left; (· intro w'; go_simp; with_reducible rfl); rotate_left; (· simp only [Act.put, sA_, sB_, sC_, i64_w, i32_w]; rfl)
        refine pure_ (i := 4) (N := some 14) (v := ?_) (a' := ?_) b5_ rfl rfl (any_of HT_.out (by kernel_rfl)) (fun _ _ _ h => h) (Or.inl ⟨by rfl, ?_⟩) ?_ ?_
        rotate_left; (· intro w'; go_simp; with_reducible rfl); rotate_left; (· simp only [Act.put, sA_, sB_, sC_, i64_w, i32_w]; rfl)
        refine one_ (i := 5) (N := some 15) b6_ rfl rfl (one_of HT_.out (by kernel_rfl)) (by decide) (fun K hK => ?_)
        refine goes_ Try.func79 (by kernel_rfl) rfl #[.int .i64 (l1_0.length : Int), .int .i64 1, .int .i64 60] (by rfl) rfl rfl (by (try simp only [List.map_toArray, List.map_cons, List.map_nil]); first | done | rfl | (simp only [List.length_drop, List.length_take]; rfl)) ?_
        with_reducible refine (spec_l01In.calls (l1_0.length : Int) 1 60 true _ A10.out).mono ?_
        rintro e w' ⟨rfl, ⟨nd, rfl⟩⟩
        refine ⟨_, rfl, ?_⟩
        refine hK.out _ _ ⟨(blk_cell BK274.out 0).trans rfl, (blk_cell BK274.out 1).trans rfl, (blk_cell BK275.out 0).trans rfl, (blk_cell BK275.out 1).trans rfl⟩ (fun hHeld => ?_)
        clear hK K
        refine norm_ (a' := ?_) ?_ ?_
        rotate_left
        · show Act.put _ (some 15) _ = _
          simp only [Act.put, sA_, sB_, sC_, i64_w, i32_w]
          rfl
        refine pure_ (i := 6) (N := some 16) (v := ?_) (a' := ?_) b7_ rfl rfl (any_of HT_.out (by kernel_rfl)) (fun _ _ _ h => h) (Or.inl ⟨by rfl, ?_⟩) ?_ ?_
        rotate_left; (· intro w'; go_simp; with_reducible rfl); rotate_left; (· simp only [Act.put, sA_, sB_, sC_, i64_w, i32_w]; rfl)
        refine pure_ (i := 7) (N := some 17) (v := ?_) (a' := ?_) b8_ rfl rfl (any_of HT_.out (by kernel_rfl)) (fun _ _ _ h => h) (Or.inl ⟨by rfl, ?_⟩) ?_ ?_
        rotate_left; (· intro w'; go_simp; with_reducible rfl); rotate_left; (· simp only [Act.put, sA_, sB_, sC_, i64_w, i32_w]; rfl)
        refine pure_ (i := 8) (N := some 18) (v := ?_) (a' := ?_) b9_ rfl rfl (any_of HT_.out (by kernel_rfl)) (fun _ _ _ h => h) (Or.inl ⟨by rfl, ?_⟩) ?_ ?_
        rotate_left; (· intro w'; go_simp; with_reducible rfl); rotate_left; (· simp only [Act.put, sA_, sB_, sC_, i64_w, i32_w]; rfl)
        refine pure_ (i := 9) (N := some 19) (v := ?_) (a' := ?_) b10_ rfl rfl (any_of HT_.out (by kernel_rfl)) (fun _ _ _ h => h) (Or.inl ⟨by rfl, ?_⟩) ?_ ?_
        rotate_left; (· intro w'; go_simp; with_reducible rfl); rotate_left; (· simp only [Act.put, sA_, sB_, sC_, i64_w, i32_w]; rfl)
        refine pure_ (i := 12) (N := some 22) (v := ?_) (a' := ?_) b11_ rfl rfl (any_of HT_.out (by kernel_rfl)) (fun _ _ _ h => h) (Or.inl ⟨by rfl, ?_⟩) ?_ ?_
        rotate_left; (· intro w'; go_simp; with_reducible rfl); rotate_left; (· simp only [Act.put, sA_, sB_, sC_, i64_w, i32_w]; rfl)
        refine take_ (i := 10) (N := some 20) (v := ?_) (a' := ?_) b12_ rfl rfl (take_ofW HT_.out HW_.out (by kernel_rfl)) (fun _ _ _ h => h) (Or.inl ⟨by rfl, ?_⟩) hHeld ?_ ?_
        rotate_left; (· rintro w' ⟨s0, s1, s2, s3⟩; go_simp; with_reducible rfl); rotate_left; (· simp only [Act.put, sA_, sB_, sC_, i64_w, i32_w]; rfl)
        refine pure_ (i := 11) (N := some 21) (v := ?_) (a' := ?_) b13_ rfl rfl (any_of HT_.out (by kernel_rfl)) (fun _ _ _ h => h) (Or.inl ⟨by rfl, ?_⟩) ?_ ?_
        rotate_left; (· intro w'; go_simp; with_reducible rfl); rotate_left; (· simp only [Act.put, sA_, sB_, sC_, i64_w, i32_w]; rfl)
        refine pure_ (i := 13) (N := some 23) (v := ?_) (a' := ?_) b14_ rfl rfl (any_of HT_.out (by kernel_rfl)) (fun _ _ _ h => h) (Or.inl ⟨by rfl, ?_⟩) ?_ ?_
        rotate_left; (· intro w'; go_simp; with_reducible rfl); rotate_left; (· simp only [Act.put, sA_, sB_, sC_, i64_w, i32_w]; rfl)
        refine pure_ (i := 14) (N := some 24) (v := ?_) (a' := ?_) b15_ rfl rfl (any_of HT_.out (by kernel_rfl)) (fun _ _ _ h => h) (Or.inl ⟨by rfl, ?_⟩) ?_ ?_
        rotate_left; (· intro w'; go_simp; with_reducible rfl); rotate_left; (· simp only [Act.put, sA_, sB_, sC_, i64_w, i32_w]; rfl)
        refine pure_ (i := 15) (N := some 25) (v := ?_) (a' := ?_) b16_ rfl rfl (any_of HT_.out (by kernel_rfl)) (fun _ _ _ h => h) (Or.inl ⟨by rfl, ?_⟩) ?_ ?_
        rotate_left; (· intro w'; go_simp; with_reducible rfl); rotate_left; (· simp only [Act.put, sA_, sB_, sC_, i64_w, i32_w]; rfl)
        refine pure_ (i := 16) (N := some 26) (v := undef) (a' := ?_) b35_ rfl rfl (any_of HT_.out (by kernel_rfl)) (fun _ _ _ h => h) (Or.inr ⟨by rfl, rfl⟩) ?_ ?_
        rotate_left; (· simp only [Act.put, sA_, sB_, sC_, i64_w, i32_w]; rfl)
        refine pure_ (i := 17) (N := some 27) (v := undef) (a' := ?_) b18_ rfl rfl (any_of HT_.out (by kernel_rfl)) (fun _ _ _ h => h) (Or.inr ⟨by rfl, rfl⟩) ?_ ?_
        rotate_left; (· simp only [Act.put, sA_, sB_, sC_, i64_w, i32_w]; rfl)
        refine pure_ (i := 18) (N := some 28) (v := undef) (a' := ?_) b19_ rfl rfl (any_of HT_.out (by kernel_rfl)) (fun _ _ _ h => h) (Or.inr ⟨by rfl, rfl⟩) ?_ ?_
        rotate_left; (· simp only [Act.put, sA_, sB_, sC_, i64_w, i32_w]; rfl)
        refine pure_ (i := 19) (N := some 29) (v := undef) (a' := ?_) b20_ rfl rfl (any_of HT_.out (by kernel_rfl)) (fun _ _ _ h => h) (Or.inr ⟨by rfl, rfl⟩) ?_ ?_
        rotate_left; (· simp only [Act.put, sA_, sB_, sC_, i64_w, i32_w]; rfl)
        refine pure_ (i := 20) (N := some 30) (v := undef) (a' := ?_) b21_ rfl rfl (any_of HT_.out (by kernel_rfl)) (fun _ _ _ h => h) (Or.inr ⟨by rfl, rfl⟩) ?_ ?_
        rotate_left; (· simp only [Act.put, sA_, sB_, sC_, i64_w, i32_w]; rfl)
        refine pure_ (i := 21) (N := some 31) (v := undef) (a' := ?_) b22_ rfl rfl (any_of HT_.out (by kernel_rfl)) (fun _ _ _ h => h) (Or.inr ⟨by rfl, rfl⟩) ?_ ?_
        rotate_left; (· simp only [Act.put, sA_, sB_, sC_, i64_w, i32_w]; rfl)
        refine pure_ (i := 22) (N := some 32) (v := undef) (a' := ?_) b23_ rfl rfl (any_of HT_.out (by kernel_rfl)) (fun _ _ _ h => h) (Or.inr ⟨by rfl, rfl⟩) ?_ ?_
        rotate_left; (· simp only [Act.put, sA_, sB_, sC_, i64_w, i32_w]; rfl)
        refine pure_ (i := 23) (N := some 33) (v := ?_) (a' := ?_) b24_ rfl rfl (any_of HT_.out (by kernel_rfl)) (fun _ _ _ h => h) (Or.inl ⟨by rfl, ?_⟩) ?_ ?_
        rotate_left; (· intro w'; go_simp; with_reducible rfl); rotate_left; (· simp only [Act.put, sA_, sB_, sC_, i64_w, i32_w]; rfl)
        refine pure_ (i := 24) (N := some 34) (v := ?_) (a' := ?_) b25_ rfl rfl (any_of HT_.out (by kernel_rfl)) (fun _ _ _ h => h) (Or.inl ⟨by rfl, ?_⟩) ?_ ?_
        rotate_left; (· intro w'; go_simp; with_reducible rfl); rotate_left; (· simp only [Act.put, sA_, sB_, sC_, i64_w, i32_w]; rfl)
        refine pure_ (i := 25) (N := some 35) (v := undef) (a' := ?_) b34_ rfl rfl (any_of HT_.out (by kernel_rfl)) (fun _ _ _ h => h) (Or.inr ⟨by rfl, rfl⟩) ?_ ?_
        rotate_left; (· simp only [Act.put, sA_, sB_, sC_, i64_w, i32_w]; rfl)
        refine pure_ (i := 26) (N := some 36) (v := undef) (a' := ?_) b27_ rfl rfl (any_of HT_.out (by kernel_rfl)) (fun _ _ _ h => h) (Or.inr ⟨by rfl, rfl⟩) ?_ ?_
        rotate_left; (· simp only [Act.put, sA_, sB_, sC_, i64_w, i32_w]; rfl)
        refine pure_ (i := 27) (N := some 37) (v := undef) (a' := ?_) b28_ rfl rfl (any_of HT_.out (by kernel_rfl)) (fun _ _ _ h => h) (Or.inr ⟨by rfl, rfl⟩) ?_ ?_
        rotate_left; (· simp only [Act.put, sA_, sB_, sC_, i64_w, i32_w]; rfl)
        refine pure_ (i := 28) (N := some 38) (v := undef) (a' := ?_) b29_ rfl rfl (any_of HT_.out (by kernel_rfl)) (fun _ _ _ h => h) (Or.inr ⟨by rfl, rfl⟩) ?_ ?_
        rotate_left; (· simp only [Act.put, sA_, sB_, sC_, i64_w, i32_w]; rfl)
        refine pure_ (i := 29) (N := some 39) (v := undef) (a' := ?_) b30_ rfl rfl (any_of HT_.out (by kernel_rfl)) (fun _ _ _ h => h) (Or.inr ⟨by rfl, rfl⟩) ?_ ?_
        rotate_left; (· simp only [Act.put, sA_, sB_, sC_, i64_w, i32_w]; rfl)
        refine pure_ (i := 30) (N := some 40) (v := undef) (a' := ?_) b31_ rfl rfl (any_of HT_.out (by kernel_rfl)) (fun _ _ _ h => h) (Or.inr ⟨by rfl, rfl⟩) ?_ ?_
        rotate_left; (· simp only [Act.put, sA_, sB_, sC_, i64_w, i32_w]; rfl)
        refine pure_ (i := 31) (N := some 41) (v := undef) (a' := ?_) b32_ rfl rfl (any_of HT_.out (by kernel_rfl)) (fun _ _ _ h => h) (Or.inr ⟨by rfl, rfl⟩) ?_ ?_
        rotate_left; (· simp only [Act.put, sA_, sB_, sC_, i64_w, i32_w]; rfl)
        refine pure_ (i := 32) (N := some 42) (v := ?_) (a' := ?_) b33_ rfl rfl (any_of HT_.out (by kernel_rfl)) (fun _ _ _ h => h) (Or.inl ⟨by rfl, ?_⟩) ?_ ?_
        rotate_left; (· intro w'; go_simp; with_reducible rfl); rotate_left; (· simp only [Act.put, sA_, sB_, sC_, i64_w, i32_w]; rfl)
        refine done_ (done_of HT_.out (by kernel_rfl)) ?_
        try go_wp2
        go_meet
        case rel => exact ⟨_, (true), (by first | rfl | (simp; done) | (simp [*]; done)), H', ⟨by first | omega | exact Nat.le_refl _⟩, ⟨by (with_reducible repeat (first | refine blk_drewN ?_ _ | refine blk_drew ?_ | refine blk_alloc ?_ _)); exact BK274.out⟩, ⟨by (with_reducible repeat (first | refine blk_drewN ?_ _ | refine blk_drew ?_ | refine blk_alloc ?_ _)); exact BK275.out⟩, ⟨by repeat (first | (with_reducible first | exact HB.out | apply below_alloc | apply pw_below_drewN | apply below_drew1 | refine below_set ?_ GE274.out | refine below_set ?_ GE275.out) | exact HB.out)⟩⟩
    · replace c11 := Bool.eq_false_iff.mpr c11
      subst c11
      have H1 : (spec_RecordOk.j0 k (l1_0.length : Int) true a0_0 l0_1 l1_0 l1_1) = some r := by rw [if_neg (show ¬ (false = true) by decide)] at H; exact H
      clear H
      have H := H1
      clear H1
      have H' := Aside0.mk H
      clear H
      try go_wp2
      have n0_ := Aside0.mk (blk_drew BK274.out)
      have n1_ := Aside0.mk (blk_drew BK275.out)
      have n2_ := Aside0.mk (below_drew1 HB.out)
      clear BK274
      clear BK275
      clear HB
      have BK274 := n0_
      have BK275 := n1_
      have HB := n2_
      clear n0_ n1_ n2_
      refine start_ (n := 33) (S := fun w' => w'.cell? ⟨gb274, 0, none⟩ = some (.int .i64 a0_0) ∧ w'.cell? ⟨gb274, 1, none⟩ = some (.slice A0_1 l0_1.length c0_1)) (ds := []) b0_ (by kernel_rfl) rfl rfl ⟨(blk_cell BK274.out 0).trans rfl, (blk_cell BK274.out 1).trans rfl⟩ (fun hHeld => ?_); refine with_tabW spec_RecordOk.tab2 spec_RecordOk.bits2 (fun HT_ HW_ => ?_)
      generalize w5.drew = w27 at BK274 BK275 HB hHeld ⊢
      refine take_ (i := 0) (N := some 10) (v := ?_) (a' := ?_) b1_ rfl rfl (take_ofW HT_.out HW_.out (by kernel_rfl)) (fun _ _ _ h => h) (Or.inl ⟨by rfl, ?_⟩) hHeld ?_ ?_
      rotate_left; (· rintro w' ⟨s0, s1⟩; go_simp; with_reducible rfl); rotate_left; (· simp only [Act.put, sA_, sB_, sC_, i64_w, i32_w]; rfl)
      refine one_ (i := 1) (N := some 11) b2_ rfl rfl (one_of HT_.out (by kernel_rfl)) (by decide) (fun K hK => ?_)
      refine goes_ Try.func72 (by kernel_rfl) rfl #[.agg #[.int .i64 a0_0, .slice A0_1 l0_1.length c0_1]] (by rfl) rfl rfl (by (try simp only [List.map_toArray, List.map_cons, List.map_nil]); first | done | rfl | (simp only [List.length_drop, List.length_take]; rfl)) ?_
      with_reducible refine (spec_GraphOk.calls k a0_0 _ _ l0_1 true _ ?side1 ?side2 A8.out).mono ?_
      (case side1 => repeat (first | exact (Kd.C_below HR0_1.out HB.out) | (with_reducible refine Kd.C_alloc ?_ _) | (with_reducible refine Kd.C_drewN ?_ _) | (with_reducible refine Kd.C_drew ?_)))
      (case side2 => exact HC0_1.out)
      rintro e w28 ⟨rfl, hb⟩
      refine ⟨_, rfl, ?_⟩
      have n0_ := Aside0.mk (blk_below (g := gb274) (o := .cells #[.int .i64 a0_0, .slice A0_1 l0_1.length c0_1] 27 (0, 0)) (by (with_reducible repeat (first | refine blk_drewN ?_ _ | refine blk_drew ?_ | refine blk_alloc ?_ _)); exact BK274.out) hb)
      have n1_ := Aside0.mk (blk_below (g := gb275) (o := .cells #[.slice A1_0 l1_0.length c1_0, .slice A1_1 l1_1.length c1_1] 42 (0, 0)) (by (with_reducible repeat (first | refine blk_drewN ?_ _ | refine blk_drew ?_ | refine blk_alloc ?_ _)); exact BK275.out) hb)
      have n2_ := Aside0.mk (below_step (by repeat (first | (with_reducible first | exact HB.out | apply below_alloc | apply pw_below_drewN | apply below_drew1 | refine below_set ?_ GE274.out | refine below_set ?_ GE275.out) | exact HB.out)) hb)
      clear BK274
      clear BK275
      clear HB
      have BK274 := n0_
      have BK275 := n1_
      have HB := n2_
      clear n0_ n1_ n2_
      (try clear hb)
      (try clear hb2)
      (try clear hk)
      (try clear hi)
      refine hK.out _ _ ⟨(blk_cell BK274.out 0).trans rfl, (blk_cell BK274.out 1).trans rfl⟩ (fun hHeld => ?_)
      clear hK K
      refine norm_ (a' := ?_) ?_ ?_
      rotate_left
      · show Act.put _ (some 11) _ = _
        simp only [Act.put, sA_, sB_, sC_, i64_w, i32_w]
        rfl
      refine pure_ (i := 2) (N := some 12) (v := ?_) (a' := ?_) b3_ rfl rfl (any_of HT_.out (by kernel_rfl)) (fun _ _ _ h => h) (Or.inl ⟨by rfl, ?_⟩) ?_ ?_
      rotate_left; (· intro w'; go_simp; with_reducible rfl); rotate_left; (· simp only [Act.put, sA_, sB_, sC_, i64_w, i32_w]; rfl)
      refine pure_ (i := 3) (N := some 13) (v := ?_) (a' := ?_) b4_ rfl rfl (any_of HT_.out (by kernel_rfl)) (fun _ _ _ h => h) (Or.inl ⟨by rfl, ?_⟩) ?_ ?_
      rotate_left; (· intro w'; go_simp; with_reducible rfl); rotate_left; (· simp only [Act.put, sA_, sB_, sC_, i64_w, i32_w]; rfl)
      refine pure_ (i := 4) (N := some 14) (v := ?_) (a' := ?_) b5_ rfl rfl (any_of HT_.out (by kernel_rfl)) (fun _ _ _ h => h) (Or.inl ⟨by rfl, ?_⟩) ?_ ?_
      rotate_left; (· intro w'; go_simp; with_reducible rfl); rotate_left; (· simp only [Act.put, sA_, sB_, sC_, i64_w, i32_w]; rfl)
      refine one_ (i := 5) (N := some 15) b6_ rfl rfl (one_of HT_.out (by kernel_rfl)) (by decide) (fun K hK => ?_)
      refine goes_ Try.func79 (by kernel_rfl) rfl #[.int .i64 (l1_0.length : Int), .int .i64 1, .int .i64 60] (by rfl) rfl rfl (by (try simp only [List.map_toArray, List.map_cons, List.map_nil]); first | done | rfl | (simp only [List.length_drop, List.length_take]; rfl)) ?_
      with_reducible refine (spec_l01In.calls (l1_0.length : Int) 1 60 false _ A10.out).mono ?_
      rintro e w' ⟨rfl, ⟨nd, rfl⟩⟩
      refine ⟨_, rfl, ?_⟩
      refine hK.out _ _ ⟨(blk_cell BK274.out 0).trans rfl, (blk_cell BK274.out 1).trans rfl⟩ (fun hHeld => ?_)
      clear hK K
      refine norm_ (a' := ?_) ?_ ?_
      rotate_left
      · show Act.put _ (some 15) _ = _
        simp only [Act.put, sA_, sB_, sC_, i64_w, i32_w]
        rfl
      refine pure_ (i := 6) (N := some 16) (v := ?_) (a' := ?_) b7_ rfl rfl (any_of HT_.out (by kernel_rfl)) (fun _ _ _ h => h) (Or.inl ⟨by rfl, ?_⟩) ?_ ?_
      rotate_left; (· intro w'; go_simp; with_reducible rfl); rotate_left; (· simp only [Act.put, sA_, sB_, sC_, i64_w, i32_w]; rfl)
      refine pure_ (i := 7) (N := some 17) (v := ?_) (a' := ?_) b8_ rfl rfl (any_of HT_.out (by kernel_rfl)) (fun _ _ _ h => h) (Or.inl ⟨by rfl, ?_⟩) ?_ ?_
      rotate_left; (· intro w'; go_simp; with_reducible rfl); rotate_left; (· simp only [Act.put, sA_, sB_, sC_, i64_w, i32_w]; rfl)
      refine pure_ (i := 8) (N := some 18) (v := ?_) (a' := ?_) b9_ rfl rfl (any_of HT_.out (by kernel_rfl)) (fun _ _ _ h => h) (Or.inl ⟨by rfl, ?_⟩) ?_ ?_
      rotate_left; (· intro w'; go_simp; with_reducible rfl); rotate_left; (· simp only [Act.put, sA_, sB_, sC_, i64_w, i32_w]; rfl)
      refine pure_ (i := 9) (N := some 19) (v := undef) (a' := ?_) b10_ rfl rfl (any_of HT_.out (by kernel_rfl)) (fun _ _ _ h => h) (Or.inr ⟨by rfl, rfl⟩) ?_ ?_
      rotate_left; (· simp only [Act.put, sA_, sB_, sC_, i64_w, i32_w]; rfl)
      refine pure_ (i := 10) (N := some 20) (v := undef) (a' := ?_) b36_ rfl rfl (any_of HT_.out (by kernel_rfl)) (fun _ _ _ h => h) (Or.inr ⟨by rfl, rfl⟩) ?_ ?_
      rotate_left; (· simp only [Act.put, sA_, sB_, sC_, i64_w, i32_w]; rfl)
      refine pure_ (i := 11) (N := some 21) (v := undef) (a' := ?_) b37_ rfl rfl (any_of HT_.out (by kernel_rfl)) (fun _ _ _ h => h) (Or.inr ⟨by rfl, rfl⟩) ?_ ?_
      rotate_left; (· simp only [Act.put, sA_, sB_, sC_, i64_w, i32_w]; rfl)
      refine pure_ (i := 12) (N := some 22) (v := undef) (a' := ?_) b13_ rfl rfl (any_of HT_.out (by kernel_rfl)) (fun _ _ _ h => h) (Or.inr ⟨by rfl, rfl⟩) ?_ ?_
      rotate_left; (· simp only [Act.put, sA_, sB_, sC_, i64_w, i32_w]; rfl)
      refine pure_ (i := 13) (N := some 23) (v := undef) (a' := ?_) b14_ rfl rfl (any_of HT_.out (by kernel_rfl)) (fun _ _ _ h => h) (Or.inr ⟨by rfl, rfl⟩) ?_ ?_
      rotate_left; (· simp only [Act.put, sA_, sB_, sC_, i64_w, i32_w]; rfl)
      refine pure_ (i := 14) (N := some 24) (v := ?_) (a' := ?_) b15_ rfl rfl (any_of HT_.out (by kernel_rfl)) (fun _ _ _ h => h) (Or.inl ⟨by rfl, ?_⟩) ?_ ?_
      rotate_left; (· intro w'; go_simp; with_reducible rfl); rotate_left; (· simp only [Act.put, sA_, sB_, sC_, i64_w, i32_w]; rfl)
      refine pure_ (i := 15) (N := some 25) (v := ?_) (a' := ?_) b16_ rfl rfl (any_of HT_.out (by kernel_rfl)) (fun _ _ _ h => h) (Or.inl ⟨by rfl, ?_⟩) ?_ ?_
      rotate_left; (· intro w'; go_simp; with_reducible rfl); rotate_left; (· simp only [Act.put, sA_, sB_, sC_, i64_w, i32_w]; rfl)
      refine pure_ (i := 16) (N := some 26) (v := undef) (a' := ?_) b35_ rfl rfl (any_of HT_.out (by kernel_rfl)) (fun _ _ _ h => h) (Or.inr ⟨by rfl, rfl⟩) ?_ ?_
      rotate_left; (· simp only [Act.put, sA_, sB_, sC_, i64_w, i32_w]; rfl)
      refine pure_ (i := 17) (N := some 27) (v := undef) (a' := ?_) b18_ rfl rfl (any_of HT_.out (by kernel_rfl)) (fun _ _ _ h => h) (Or.inr ⟨by rfl, rfl⟩) ?_ ?_
      rotate_left; (· simp only [Act.put, sA_, sB_, sC_, i64_w, i32_w]; rfl)
      refine pure_ (i := 18) (N := some 28) (v := undef) (a' := ?_) b19_ rfl rfl (any_of HT_.out (by kernel_rfl)) (fun _ _ _ h => h) (Or.inr ⟨by rfl, rfl⟩) ?_ ?_
      rotate_left; (· simp only [Act.put, sA_, sB_, sC_, i64_w, i32_w]; rfl)
      refine pure_ (i := 19) (N := some 29) (v := undef) (a' := ?_) b20_ rfl rfl (any_of HT_.out (by kernel_rfl)) (fun _ _ _ h => h) (Or.inr ⟨by rfl, rfl⟩) ?_ ?_
      rotate_left; (· simp only [Act.put, sA_, sB_, sC_, i64_w, i32_w]; rfl)
      refine pure_ (i := 20) (N := some 30) (v := undef) (a' := ?_) b21_ rfl rfl (any_of HT_.out (by kernel_rfl)) (fun _ _ _ h => h) (Or.inr ⟨by rfl, rfl⟩) ?_ ?_
      rotate_left; (· simp only [Act.put, sA_, sB_, sC_, i64_w, i32_w]; rfl)
      refine pure_ (i := 21) (N := some 31) (v := undef) (a' := ?_) b22_ rfl rfl (any_of HT_.out (by kernel_rfl)) (fun _ _ _ h => h) (Or.inr ⟨by rfl, rfl⟩) ?_ ?_
      rotate_left; (· simp only [Act.put, sA_, sB_, sC_, i64_w, i32_w]; rfl)
      refine pure_ (i := 22) (N := some 32) (v := undef) (a' := ?_) b23_ rfl rfl (any_of HT_.out (by kernel_rfl)) (fun _ _ _ h => h) (Or.inr ⟨by rfl, rfl⟩) ?_ ?_
      rotate_left; (· simp only [Act.put, sA_, sB_, sC_, i64_w, i32_w]; rfl)
      refine pure_ (i := 23) (N := some 33) (v := ?_) (a' := ?_) b24_ rfl rfl (any_of HT_.out (by kernel_rfl)) (fun _ _ _ h => h) (Or.inl ⟨by rfl, ?_⟩) ?_ ?_
      rotate_left; (· intro w'; go_simp; with_reducible rfl); rotate_left; (· simp only [Act.put, sA_, sB_, sC_, i64_w, i32_w]; rfl)
      refine pure_ (i := 24) (N := some 34) (v := ?_) (a' := ?_) b25_ rfl rfl (any_of HT_.out (by kernel_rfl)) (fun _ _ _ h => h) (Or.inl ⟨by rfl, ?_⟩) ?_ ?_
      rotate_left; (· intro w'; go_simp; with_reducible rfl); rotate_left; (· simp only [Act.put, sA_, sB_, sC_, i64_w, i32_w]; rfl)
      refine pure_ (i := 25) (N := some 35) (v := undef) (a' := ?_) b34_ rfl rfl (any_of HT_.out (by kernel_rfl)) (fun _ _ _ h => h) (Or.inr ⟨by rfl, rfl⟩) ?_ ?_
      rotate_left; (· simp only [Act.put, sA_, sB_, sC_, i64_w, i32_w]; rfl)
      refine pure_ (i := 26) (N := some 36) (v := undef) (a' := ?_) b27_ rfl rfl (any_of HT_.out (by kernel_rfl)) (fun _ _ _ h => h) (Or.inr ⟨by rfl, rfl⟩) ?_ ?_
      rotate_left; (· simp only [Act.put, sA_, sB_, sC_, i64_w, i32_w]; rfl)
      refine pure_ (i := 27) (N := some 37) (v := undef) (a' := ?_) b28_ rfl rfl (any_of HT_.out (by kernel_rfl)) (fun _ _ _ h => h) (Or.inr ⟨by rfl, rfl⟩) ?_ ?_
      rotate_left; (· simp only [Act.put, sA_, sB_, sC_, i64_w, i32_w]; rfl)
      refine pure_ (i := 28) (N := some 38) (v := undef) (a' := ?_) b29_ rfl rfl (any_of HT_.out (by kernel_rfl)) (fun _ _ _ h => h) (Or.inr ⟨by rfl, rfl⟩) ?_ ?_
      rotate_left; (· simp only [Act.put, sA_, sB_, sC_, i64_w, i32_w]; rfl)
      refine pure_ (i := 29) (N := some 39) (v := undef) (a' := ?_) b30_ rfl rfl (any_of HT_.out (by kernel_rfl)) (fun _ _ _ h => h) (Or.inr ⟨by rfl, rfl⟩) ?_ ?_
      rotate_left; (· simp only [Act.put, sA_, sB_, sC_, i64_w, i32_w]; rfl)
      refine pure_ (i := 30) (N := some 40) (v := undef) (a' := ?_) b31_ rfl rfl (any_of HT_.out (by kernel_rfl)) (fun _ _ _ h => h) (Or.inr ⟨by rfl, rfl⟩) ?_ ?_
      rotate_left; (· simp only [Act.put, sA_, sB_, sC_, i64_w, i32_w]; rfl)
      refine pure_ (i := 31) (N := some 41) (v := undef) (a' := ?_) b32_ rfl rfl (any_of HT_.out (by kernel_rfl)) (fun _ _ _ h => h) (Or.inr ⟨by rfl, rfl⟩) ?_ ?_
      rotate_left; (· simp only [Act.put, sA_, sB_, sC_, i64_w, i32_w]; rfl)
      refine pure_ (i := 32) (N := some 42) (v := ?_) (a' := ?_) b33_ rfl rfl (any_of HT_.out (by kernel_rfl)) (fun _ _ _ h => h) (Or.inl ⟨by rfl, ?_⟩) ?_ ?_
      rotate_left; (· intro w'; go_simp; with_reducible rfl); rotate_left; (· simp only [Act.put, sA_, sB_, sC_, i64_w, i32_w]; rfl)
      refine done_ (done_of HT_.out (by kernel_rfl)) ?_
      try go_wp2
      go_meet
      case rel => exact ⟨_, (true), (by first | rfl | (simp; done) | (simp [*]; done)), H', ⟨by first | omega | exact Nat.le_refl _⟩, ⟨by (with_reducible repeat (first | refine blk_drewN ?_ _ | refine blk_drew ?_ | refine blk_alloc ?_ _)); exact BK274.out⟩, ⟨by (with_reducible repeat (first | refine blk_drewN ?_ _ | refine blk_drew ?_ | refine blk_alloc ?_ _)); exact BK275.out⟩, ⟨by repeat (first | (with_reducible first | exact HB.out | apply below_alloc | apply pw_below_drewN | apply below_drew1 | refine below_set ?_ GE274.out | refine below_set ?_ GE275.out) | exact HB.out)⟩⟩
  · replace c9 := Bool.eq_false_iff.mpr c9
    subst c9
    have H1 : (spec_RecordOk.j0 k (l1_0.length : Int) true a0_0 l0_1 l1_0 l1_1) = some r := by rw [if_neg (show ¬ (false = true) by decide)] at H; exact H
    clear H
    have H := H1
    clear H1
    have H' := Aside0.mk H
    clear H
    try go_wp2
    have n0_ := Aside0.mk (blk_drew BK274.out)
    have n1_ := Aside0.mk (blk_drew BK275.out)
    have n2_ := Aside0.mk (below_drew1 HB.out)
    clear BK274
    clear BK275
    clear HB
    have BK274 := n0_
    have BK275 := n1_
    have HB := n2_
    clear n0_ n1_ n2_
    refine start_ (n := 33) (S := fun w' => w'.cell? ⟨gb274, 0, none⟩ = some (.int .i64 a0_0) ∧ w'.cell? ⟨gb274, 1, none⟩ = some (.slice A0_1 l0_1.length c0_1)) (ds := []) b0_ (by kernel_rfl) rfl rfl ⟨(blk_cell BK274.out 0).trans rfl, (blk_cell BK274.out 1).trans rfl⟩ (fun hHeld => ?_); refine with_tabW spec_RecordOk.tab2 spec_RecordOk.bits2 (fun HT_ HW_ => ?_)
    generalize w5.drew = w29 at BK274 BK275 HB hHeld ⊢
    refine take_ (i := 0) (N := some 10) (v := ?_) (a' := ?_) b1_ rfl rfl (take_ofW HT_.out HW_.out (by kernel_rfl)) (fun _ _ _ h => h) (Or.inl ⟨by rfl, ?_⟩) hHeld ?_ ?_
    rotate_left; (· rintro w' ⟨s0, s1⟩; go_simp; with_reducible rfl); rotate_left; (· simp only [Act.put, sA_, sB_, sC_, i64_w, i32_w]; rfl)
    refine one_ (i := 1) (N := some 11) b2_ rfl rfl (one_of HT_.out (by kernel_rfl)) (by decide) (fun K hK => ?_)
    refine goes_ Try.func72 (by kernel_rfl) rfl #[.agg #[.int .i64 a0_0, .slice A0_1 l0_1.length c0_1]] (by rfl) rfl rfl (by (try simp only [List.map_toArray, List.map_cons, List.map_nil]); first | done | rfl | (simp only [List.length_drop, List.length_take]; rfl)) ?_
    with_reducible refine (spec_GraphOk.calls k a0_0 _ _ l0_1 false _ ?side1 ?side2 A8.out).mono ?_
    (case side1 => repeat (first | exact (Kd.C_below HR0_1.out HB.out) | (with_reducible refine Kd.C_alloc ?_ _) | (with_reducible refine Kd.C_drewN ?_ _) | (with_reducible refine Kd.C_drew ?_)))
    (case side2 => exact HC0_1.out)
    rintro e w30 ⟨rfl, hb⟩
    refine ⟨_, rfl, ?_⟩
    have n0_ := Aside0.mk (blk_below (g := gb274) (o := .cells #[.int .i64 a0_0, .slice A0_1 l0_1.length c0_1] 27 (0, 0)) (by (with_reducible repeat (first | refine blk_drewN ?_ _ | refine blk_drew ?_ | refine blk_alloc ?_ _)); exact BK274.out) hb)
    have n1_ := Aside0.mk (blk_below (g := gb275) (o := .cells #[.slice A1_0 l1_0.length c1_0, .slice A1_1 l1_1.length c1_1] 42 (0, 0)) (by (with_reducible repeat (first | refine blk_drewN ?_ _ | refine blk_drew ?_ | refine blk_alloc ?_ _)); exact BK275.out) hb)
    have n2_ := Aside0.mk (below_step (by repeat (first | (with_reducible first | exact HB.out | apply below_alloc | apply pw_below_drewN | apply below_drew1 | refine below_set ?_ GE274.out | refine below_set ?_ GE275.out) | exact HB.out)) hb)
    clear BK274
    clear BK275
    clear HB
    have BK274 := n0_
    have BK275 := n1_
    have HB := n2_
    clear n0_ n1_ n2_
    (try clear hb)
    (try clear hb2)
    (try clear hk)
    (try clear hi)
    refine hK.out _ _ ⟨(blk_cell BK274.out 0).trans rfl, (blk_cell BK274.out 1).trans rfl⟩ (fun hHeld => ?_)
    clear hK K
    refine norm_ (a' := ?_) ?_ ?_
    rotate_left
    · show Act.put _ (some 11) _ = _
      simp only [Act.put, sA_, sB_, sC_, i64_w, i32_w]
      rfl
    refine pure_ (i := 2) (N := some 12) (v := ?_) (a' := ?_) b3_ rfl rfl (any_of HT_.out (by kernel_rfl)) (fun _ _ _ h => h) (Or.inl ⟨by rfl, ?_⟩) ?_ ?_
    rotate_left; (· intro w'; go_simp; with_reducible rfl); rotate_left; (· simp only [Act.put, sA_, sB_, sC_, i64_w, i32_w]; rfl)
    refine pure_ (i := 3) (N := some 13) (v := ?_) (a' := ?_) b4_ rfl rfl (any_of HT_.out (by kernel_rfl)) (fun _ _ _ h => h) (Or.inl ⟨by rfl, ?_⟩) ?_ ?_
    rotate_left; (· intro w'; go_simp; with_reducible rfl); rotate_left; (· simp only [Act.put, sA_, sB_, sC_, i64_w, i32_w]; rfl)
    refine pure_ (i := 4) (N := some 14) (v := undef) (a' := ?_) b5_ rfl rfl (any_of HT_.out (by kernel_rfl)) (fun _ _ _ h => h) (Or.inr ⟨by rfl, rfl⟩) ?_ ?_
    rotate_left; (· simp only [Act.put, sA_, sB_, sC_, i64_w, i32_w]; rfl)
    refine pure_ (i := 5) (N := some 15) (v := undef) (a' := ?_) b6_ rfl rfl (any_of HT_.out (by kernel_rfl)) (fun _ _ _ h => h) (Or.inr ⟨by rfl, rfl⟩) ?_ ?_
    rotate_left; (· simp only [Act.put, sA_, sB_, sC_, i64_w, i32_w]; rfl)
    refine pure_ (i := 6) (N := some 16) (v := undef) (a' := ?_) b7_ rfl rfl (any_of HT_.out (by kernel_rfl)) (fun _ _ _ h => h) (Or.inr ⟨by rfl, rfl⟩) ?_ ?_
    rotate_left; (· simp only [Act.put, sA_, sB_, sC_, i64_w, i32_w]; rfl)
    refine pure_ (i := 7) (N := some 17) (v := ?_) (a' := ?_) b8_ rfl rfl (any_of HT_.out (by kernel_rfl)) (fun _ _ _ h => h) (Or.inl ⟨by rfl, ?_⟩) ?_ ?_
    rotate_left; (· intro w'; go_simp; with_reducible rfl); rotate_left; (· simp only [Act.put, sA_, sB_, sC_, i64_w, i32_w]; rfl)
    refine pure_ (i := 8) (N := some 18) (v := ?_) (a' := ?_) b9_ rfl rfl (any_of HT_.out (by kernel_rfl)) (fun _ _ _ h => h) (Or.inl ⟨by rfl, ?_⟩) ?_ ?_
    rotate_left; (· intro w'; go_simp; with_reducible rfl); rotate_left; (· simp only [Act.put, sA_, sB_, sC_, i64_w, i32_w]; rfl)
    refine pure_ (i := 9) (N := some 19) (v := undef) (a' := ?_) b10_ rfl rfl (any_of HT_.out (by kernel_rfl)) (fun _ _ _ h => h) (Or.inr ⟨by rfl, rfl⟩) ?_ ?_
    rotate_left; (· simp only [Act.put, sA_, sB_, sC_, i64_w, i32_w]; rfl)
    refine pure_ (i := 10) (N := some 20) (v := undef) (a' := ?_) b36_ rfl rfl (any_of HT_.out (by kernel_rfl)) (fun _ _ _ h => h) (Or.inr ⟨by rfl, rfl⟩) ?_ ?_
    rotate_left; (· simp only [Act.put, sA_, sB_, sC_, i64_w, i32_w]; rfl)
    refine pure_ (i := 11) (N := some 21) (v := undef) (a' := ?_) b37_ rfl rfl (any_of HT_.out (by kernel_rfl)) (fun _ _ _ h => h) (Or.inr ⟨by rfl, rfl⟩) ?_ ?_
    rotate_left; (· simp only [Act.put, sA_, sB_, sC_, i64_w, i32_w]; rfl)
    refine pure_ (i := 12) (N := some 22) (v := undef) (a' := ?_) b13_ rfl rfl (any_of HT_.out (by kernel_rfl)) (fun _ _ _ h => h) (Or.inr ⟨by rfl, rfl⟩) ?_ ?_
    rotate_left; (· simp only [Act.put, sA_, sB_, sC_, i64_w, i32_w]; rfl)
    refine pure_ (i := 13) (N := some 23) (v := undef) (a' := ?_) b14_ rfl rfl (any_of HT_.out (by kernel_rfl)) (fun _ _ _ h => h) (Or.inr ⟨by rfl, rfl⟩) ?_ ?_
    rotate_left; (· simp only [Act.put, sA_, sB_, sC_, i64_w, i32_w]; rfl)
    refine pure_ (i := 14) (N := some 24) (v := ?_) (a' := ?_) b15_ rfl rfl (any_of HT_.out (by kernel_rfl)) (fun _ _ _ h => h) (Or.inl ⟨by rfl, ?_⟩) ?_ ?_
    rotate_left; (· intro w'; go_simp; with_reducible rfl); rotate_left; (· simp only [Act.put, sA_, sB_, sC_, i64_w, i32_w]; rfl)
    refine pure_ (i := 15) (N := some 25) (v := ?_) (a' := ?_) b16_ rfl rfl (any_of HT_.out (by kernel_rfl)) (fun _ _ _ h => h) (Or.inl ⟨by rfl, ?_⟩) ?_ ?_
    rotate_left; (· intro w'; go_simp; with_reducible rfl); rotate_left; (· simp only [Act.put, sA_, sB_, sC_, i64_w, i32_w]; rfl)
    refine pure_ (i := 16) (N := some 26) (v := undef) (a' := ?_) b35_ rfl rfl (any_of HT_.out (by kernel_rfl)) (fun _ _ _ h => h) (Or.inr ⟨by rfl, rfl⟩) ?_ ?_
    rotate_left; (· simp only [Act.put, sA_, sB_, sC_, i64_w, i32_w]; rfl)
    refine pure_ (i := 17) (N := some 27) (v := undef) (a' := ?_) b18_ rfl rfl (any_of HT_.out (by kernel_rfl)) (fun _ _ _ h => h) (Or.inr ⟨by rfl, rfl⟩) ?_ ?_
    rotate_left; (· simp only [Act.put, sA_, sB_, sC_, i64_w, i32_w]; rfl)
    refine pure_ (i := 18) (N := some 28) (v := undef) (a' := ?_) b19_ rfl rfl (any_of HT_.out (by kernel_rfl)) (fun _ _ _ h => h) (Or.inr ⟨by rfl, rfl⟩) ?_ ?_
    rotate_left; (· simp only [Act.put, sA_, sB_, sC_, i64_w, i32_w]; rfl)
    refine pure_ (i := 19) (N := some 29) (v := undef) (a' := ?_) b20_ rfl rfl (any_of HT_.out (by kernel_rfl)) (fun _ _ _ h => h) (Or.inr ⟨by rfl, rfl⟩) ?_ ?_
    rotate_left; (· simp only [Act.put, sA_, sB_, sC_, i64_w, i32_w]; rfl)
    refine pure_ (i := 20) (N := some 30) (v := undef) (a' := ?_) b21_ rfl rfl (any_of HT_.out (by kernel_rfl)) (fun _ _ _ h => h) (Or.inr ⟨by rfl, rfl⟩) ?_ ?_
    rotate_left; (· simp only [Act.put, sA_, sB_, sC_, i64_w, i32_w]; rfl)
    refine pure_ (i := 21) (N := some 31) (v := undef) (a' := ?_) b22_ rfl rfl (any_of HT_.out (by kernel_rfl)) (fun _ _ _ h => h) (Or.inr ⟨by rfl, rfl⟩) ?_ ?_
    rotate_left; (· simp only [Act.put, sA_, sB_, sC_, i64_w, i32_w]; rfl)
    refine pure_ (i := 22) (N := some 32) (v := undef) (a' := ?_) b23_ rfl rfl (any_of HT_.out (by kernel_rfl)) (fun _ _ _ h => h) (Or.inr ⟨by rfl, rfl⟩) ?_ ?_
    rotate_left; (· simp only [Act.put, sA_, sB_, sC_, i64_w, i32_w]; rfl)
    refine pure_ (i := 23) (N := some 33) (v := ?_) (a' := ?_) b24_ rfl rfl (any_of HT_.out (by kernel_rfl)) (fun _ _ _ h => h) (Or.inl ⟨by rfl, ?_⟩) ?_ ?_
    rotate_left; (· intro w'; go_simp; with_reducible rfl); rotate_left; (· simp only [Act.put, sA_, sB_, sC_, i64_w, i32_w]; rfl)
    refine pure_ (i := 24) (N := some 34) (v := ?_) (a' := ?_) b25_ rfl rfl (any_of HT_.out (by kernel_rfl)) (fun _ _ _ h => h) (Or.inl ⟨by rfl, ?_⟩) ?_ ?_
    rotate_left; (· intro w'; go_simp; with_reducible rfl); rotate_left; (· simp only [Act.put, sA_, sB_, sC_, i64_w, i32_w]; rfl)
    refine pure_ (i := 25) (N := some 35) (v := undef) (a' := ?_) b34_ rfl rfl (any_of HT_.out (by kernel_rfl)) (fun _ _ _ h => h) (Or.inr ⟨by rfl, rfl⟩) ?_ ?_
    rotate_left; (· simp only [Act.put, sA_, sB_, sC_, i64_w, i32_w]; rfl)
    refine pure_ (i := 26) (N := some 36) (v := undef) (a' := ?_) b27_ rfl rfl (any_of HT_.out (by kernel_rfl)) (fun _ _ _ h => h) (Or.inr ⟨by rfl, rfl⟩) ?_ ?_
    rotate_left; (· simp only [Act.put, sA_, sB_, sC_, i64_w, i32_w]; rfl)
    refine pure_ (i := 27) (N := some 37) (v := undef) (a' := ?_) b28_ rfl rfl (any_of HT_.out (by kernel_rfl)) (fun _ _ _ h => h) (Or.inr ⟨by rfl, rfl⟩) ?_ ?_
    rotate_left; (· simp only [Act.put, sA_, sB_, sC_, i64_w, i32_w]; rfl)
    refine pure_ (i := 28) (N := some 38) (v := undef) (a' := ?_) b29_ rfl rfl (any_of HT_.out (by kernel_rfl)) (fun _ _ _ h => h) (Or.inr ⟨by rfl, rfl⟩) ?_ ?_
    rotate_left; (· simp only [Act.put, sA_, sB_, sC_, i64_w, i32_w]; rfl)
    refine pure_ (i := 29) (N := some 39) (v := undef) (a' := ?_) b30_ rfl rfl (any_of HT_.out (by kernel_rfl)) (fun _ _ _ h => h) (Or.inr ⟨by rfl, rfl⟩) ?_ ?_
    rotate_left; (· simp only [Act.put, sA_, sB_, sC_, i64_w, i32_w]; rfl)
    refine pure_ (i := 30) (N := some 40) (v := undef) (a' := ?_) b31_ rfl rfl (any_of HT_.out (by kernel_rfl)) (fun _ _ _ h => h) (Or.inr ⟨by rfl, rfl⟩) ?_ ?_
    rotate_left; (· simp only [Act.put, sA_, sB_, sC_, i64_w, i32_w]; rfl)
    refine pure_ (i := 31) (N := some 41) (v := undef) (a' := ?_) b32_ rfl rfl (any_of HT_.out (by kernel_rfl)) (fun _ _ _ h => h) (Or.inr ⟨by rfl, rfl⟩) ?_ ?_
    rotate_left; (· simp only [Act.put, sA_, sB_, sC_, i64_w, i32_w]; rfl)
    refine pure_ (i := 32) (N := some 42) (v := ?_) (a' := ?_) b33_ rfl rfl (any_of HT_.out (by kernel_rfl)) (fun _ _ _ h => h) (Or.inl ⟨by rfl, ?_⟩) ?_ ?_
    rotate_left; (· intro w'; go_simp; with_reducible rfl); rotate_left; (· simp only [Act.put, sA_, sB_, sC_, i64_w, i32_w]; rfl)
    refine done_ (done_of HT_.out (by kernel_rfl)) ?_
    try go_wp2
    go_meet
    case rel => exact ⟨_, (true), (by first | rfl | (simp; done) | (simp [*]; done)), H', ⟨by first | omega | exact Nat.le_refl _⟩, ⟨by (with_reducible repeat (first | refine blk_drewN ?_ _ | refine blk_drew ?_ | refine blk_alloc ?_ _)); exact BK274.out⟩, ⟨by (with_reducible repeat (first | refine blk_drewN ?_ _ | refine blk_drew ?_ | refine blk_alloc ?_ _)); exact BK275.out⟩, ⟨by repeat (first | (with_reducible first | exact HB.out | apply below_alloc | apply pw_below_drewN | apply below_drew1 | refine below_set ?_ GE274.out | refine below_set ?_ GE275.out) | exact HB.out)⟩⟩
 case rest =>
  clear HC3
  try clear c1
  try clear p2
  try clear c7
  try clear c9
  try clear c11
  obtain ⟨kq, x42_2, rfl, HA, HJ2, BK274, BK275, HB⟩ := hcut
  cases kq with
  | zero => exact absurd HA.out (by simp [spec_RecordOk.j0])
  | succ kj2 =>
   have H := HA.out
   clear HA
   simp only [spec_RecordOk.j0] at H
   by_cases c31 : x42_2 = true
   · subst c31
     have H1 : (some false) = some r := by rw [if_pos rfl] at H; exact H
     clear H
     have H := H1
     clear H1
     obtain rfl := Option.some.inj H
     go_wp2
     go_ret
     exact ⟨by first | rfl | (simp [errW_none, errW_some] <;> rfl) | (simp [*, errW_none, errW_some] <;> rfl), by repeat (first | (with_reducible first | exact HB.out | apply below_alloc | apply pw_below_drewN | apply below_drew1 | refine below_set ?_ GE274.out | refine below_set ?_ GE275.out) | exact HB.out)⟩
   · replace c31 := Bool.eq_false_iff.mpr c31
     subst c31
     have H1 : (if 0 < (l1_0.length : Int) then (if 0 < (l1_1.length : Int) then (if (rd l1_0 0) = (rd l1_1 0) then (spec_RecordOk.j1 kj2 (l1_0.length : Int) (decide ((l1_0.length : Int) > 1)) a0_0 l0_1 l1_0 l1_1) else (spec_RecordOk.j1 kj2 (l1_0.length : Int) false a0_0 l0_1 l1_0 l1_1)) else (none)) else (none)) = some r := by rw [if_neg (show ¬ (false = true) by decide)] at H; exact H
     clear H
     have H := H1
     clear H1
     have HC32 := Aside0.mk H
     clear H
     go_upto_region 4 with (fail)
     go_cut [55] (fun v55 wc => ∃ (kq : Nat) (x55_31 : Bool), v55 = .bool x55_31 ∧ Aside0 (spec_RecordOk.j1 kq (l1_0.length : Int) x55_31 a0_0 l0_1 l1_0 l1_1 = some r) ∧ Aside0 (kq ≤ kj2) ∧ Aside0 (wc.heap[gb274]? = some (.cells #[.int .i64 a0_0, (.slice A0_1 l0_1.length c0_1)] 27 (0, 0))) ∧ Aside0 (wc.heap[gb275]? = some (.cells #[(.slice A1_0 l1_0.length c1_0), (.slice A1_1 l1_1.length c1_1)] 42 (0, 0))) ∧ Aside0 (Below w.heap.size w wc))
     case first =>
      have H := HC32.out
      clear HC32
      by_cases c33 : 0 < (l1_0.length : Int)
      · rw [if_pos c33] at H
        have c33b0 : decide (0 < (l1_0.length : Int)) = true := decide_eq_true c33
        have c33b1 : decide (0 < l1_0.length) = true := decide_eq_true (by omega)
        clear c33
        (first | rw [c33b0] | (simp only [i64_w, i32_w]; rw [c33b0]) | skip)
        by_cases c34 : 0 < (l1_1.length : Int)
        · rw [if_pos c34] at H
          have c34b0 : decide (0 < (l1_1.length : Int)) = true := decide_eq_true c34
          have c34b1 : decide (0 < l1_1.length) = true := decide_eq_true (by omega)
          clear c34
          by_cases c35 : (rd l1_0 0) = (rd l1_1 0)
          · rw [if_pos c35] at H
            have c35b0 : ((rd l1_0 0) == (rd l1_1 0)) = true := beq_iff_eq.mpr c35
            have c35b1 : ((rd l1_0 0) != (rd l1_1 0)) = false := bne_eq_false_iff_eq.mpr c35
            clear c35
            have H' := Aside0.mk H
            clear H
            try go_wp2
            have n0_ := Aside0.mk (blk_drew BK274.out)
            have n1_ := Aside0.mk (blk_drew BK275.out)
            have n2_ := Aside0.mk (below_drew1 HB.out)
            clear BK274
            clear BK275
            clear HB
            have BK274 := n0_
            have BK275 := n1_
            have HB := n2_
            clear n0_ n1_ n2_
            have p282 : 0 ≤ (0 : Int) := (by omega)
            have q282 : 0 < (l1_0.length : Int) := of_decide_eq_true (by first | (with_reducible assumption) | assumption)
            obtain ⟨ad282, e282, hx282_0⟩ := Kd.at_int HR1_0.out 0 p282 q282
            have hw282_0 := hx282_0
            (try rw [show ((0 : Int)).toNat = 0 from rfl] at hw282_0)
            (try rw [show 0 * 1 = 0 from rfl] at hw282_0)
            (try rw [Addr.add_zero'] at hw282_0)
            cases e282
            have qi282 : (0 < l1_0.length) = True := eq_true (by omega)
            (try rw [show ((0 : Int)).toNat = 0 from rfl] at hx282_0)
            (try rw [Addr.add_zero'] at hx282_0)
            replace hx282_0 := (HB.out.cell (World.block_lt_of_cell? w _ hx282_0)).trans hx282_0
            replace p282 := eq_true p282
            replace q282 := eq_true q282
            have p283 : 0 ≤ (0 : Int) := (by omega)
            have q283 : 0 < (l1_1.length : Int) := of_decide_eq_true (by first | (with_reducible assumption) | assumption)
            obtain ⟨ad283, e283, hx283_0⟩ := Kd.at_int HR1_1.out 0 p283 q283
            have hw283_0 := hx283_0
            (try rw [show ((0 : Int)).toNat = 0 from rfl] at hw283_0)
            (try rw [show 0 * 1 = 0 from rfl] at hw283_0)
            (try rw [Addr.add_zero'] at hw283_0)
            cases e283
            have qi283 : (0 < l1_1.length) = True := eq_true (by omega)
            (try rw [show ((0 : Int)).toNat = 0 from rfl] at hx283_0)
            (try rw [Addr.add_zero'] at hx283_0)
            replace hx283_0 := (HB.out.cell (World.block_lt_of_cell? w _ hx283_0)).trans hx283_0
            replace p283 := eq_true p283
            replace q283 := eq_true q283
            refine start_ (n := 13) (S := fun w' => w'.cell? ⟨gb275, 0, none⟩ = some (.slice (some ad282) l1_0.length c1_0) ∧ w'.cell? ⟨gb275, 1, none⟩ = some (.slice (some ad283) l1_1.length c1_1) ∧ w'.cell? ad282 = some (.int .i64 (rd l1_0 0)) ∧ w'.cell? ad283 = some (.int .i64 (rd l1_1 0))) (ds := []) b38_ (by kernel_rfl) rfl rfl ⟨(blk_cell BK275.out 0).trans rfl, (blk_cell BK275.out 1).trans rfl, ((HB.out.cell (World.block_lt_of_cell? w _ hw282_0)).trans hw282_0), ((HB.out.cell (World.block_lt_of_cell? w _ hw283_0)).trans hw283_0)⟩ (fun hHeld => ?_); refine with_tabW spec_RecordOk.tab4 spec_RecordOk.bits4 (fun HT_ HW_ => ?_)
            generalize wc.drew = w36 at BK274 BK275 HB hx282_0 hx283_0 hHeld ⊢
            refine pure_ (i := 0) (N := some 43) (v := ?_) (a' := ?_) b39_ rfl rfl (any_of HT_.out (by kernel_rfl)) (fun _ _ _ h => h) (Or.inl ⟨by rfl, ?_⟩) ?_ ?_
            rotate_left; (· intro w'; go_simp; with_reducible rfl); rotate_left; (· simp only [Act.put, sA_, sB_, sC_, i64_w, i32_w]; rfl)
            refine pure_ (i := 4) (N := some 47) (v := ?_) (a' := ?_) b40_ rfl rfl (any_of HT_.out (by kernel_rfl)) (fun _ _ _ h => h) (Or.inl ⟨by rfl, ?_⟩) ?_ ?_
            rotate_left; (· intro w'; go_simp; with_reducible rfl); rotate_left; (· simp only [Act.put, sA_, sB_, sC_, i64_w, i32_w]; rfl)
            refine take_ (i := 1) (N := some 44) (v := ?_) (a' := ?_) b41_ rfl rfl (take_ofW HT_.out HW_.out (by kernel_rfl)) (fun _ _ _ h => h) (Or.inl ⟨by rfl, ?_⟩) hHeld ?_ ?_
            rotate_left; (· rintro w' ⟨s0, s1, s2, s3⟩; go_simp; with_reducible rfl); rotate_left; (· simp only [Act.put, sA_, sB_, sC_, i64_w, i32_w]; rfl)
            refine pure_ (i := 2) (N := some 45) (v := ?_) (a' := ?_) b42_ rfl rfl (any_of HT_.out (by kernel_rfl)) (fun _ _ _ h => h) (Or.inl ⟨by rfl, ?_⟩) ?_ ?_
            rotate_left; (· intro w'; go_simp; with_reducible rfl); rotate_left; (· simp only [Act.put, sA_, sB_, sC_, i64_w, i32_w]; rfl)
            refine take_ (i := 3) (N := some 46) (v := ?_) (a' := ?_) b43_ rfl rfl (take_ofW HT_.out HW_.out (by kernel_rfl)) (fun _ _ _ h => h) (Or.inl ⟨by rfl, ?_⟩) hHeld ?_ ?_
            rotate_left; (· rintro w' ⟨s0, s1, s2, s3⟩; go_simp; with_reducible rfl); rotate_left; (· simp only [Act.put, sA_, sB_, sC_, i64_w, i32_w]; rfl)
            refine take_ (i := 5) (N := some 48) (v := ?_) (a' := ?_) b44_ rfl rfl (take_ofW HT_.out HW_.out (by kernel_rfl)) (fun _ _ _ h => h) (Or.inl ⟨by rfl, ?_⟩) hHeld ?_ ?_
            rotate_left; (· rintro w' ⟨s0, s1, s2, s3⟩; go_simp; with_reducible rfl); rotate_left; (· simp only [Act.put, sA_, sB_, sC_, i64_w, i32_w]; rfl)
            refine pure_ (i := 6) (N := some 49) (v := ?_) (a' := ?_) b45_ rfl rfl (any_of HT_.out (by kernel_rfl)) (fun _ _ _ h => h) (Or.inl ⟨by rfl, ?_⟩) ?_ ?_
            rotate_left; (· intro w'; go_simp; with_reducible rfl); rotate_left; (· simp only [Act.put, sA_, sB_, sC_, i64_w, i32_w]; rfl)
            refine take_ (i := 7) (N := some 50) (v := ?_) (a' := ?_) b46_ rfl rfl (take_ofW HT_.out HW_.out (by kernel_rfl)) (fun _ _ _ h => h) (Or.inl ⟨by rfl, ?_⟩) hHeld ?_ ?_
            rotate_left; (· rintro w' ⟨s0, s1, s2, s3⟩; go_simp; with_reducible rfl); rotate_left; (· simp only [Act.put, sA_, sB_, sC_, i64_w, i32_w]; rfl)
            refine pure_ (i := 8) (N := some 51) (v := ?_) (a' := ?_) b47_ rfl rfl (any_of HT_.out (by kernel_rfl)) (fun _ _ _ h => h) (Or.inl ⟨by rfl, ?_⟩) ?_ ?_
            rotate_left; (· intro w'; go_simp; with_reducible rfl); rotate_left; (· simp only [Act.put, sA_, sB_, sC_, i64_w, i32_w]; rfl)
            refine pure_ (i := 9) (N := some 52) (v := ?_) (a' := ?_) b48_ rfl rfl (any_of HT_.out (by kernel_rfl)) (fun _ _ _ h => h) (Or.inl ⟨by rfl, ?_⟩) ?_ ?_
            rotate_left; (· intro w'; go_simp; with_reducible rfl); rotate_left; (· simp only [Act.put, sA_, sB_, sC_, i64_w, i32_w]; rfl)
            refine pure_ (i := 10) (N := some 53) (v := ?_) (a' := ?_) b49_ rfl rfl (any_of HT_.out (by kernel_rfl)) (fun _ _ _ h => h) (Or.inl ⟨by rfl, ?_⟩) ?_ ?_
            rotate_left; (· intro w'; go_simp; with_reducible rfl); rotate_left; (· simp only [Act.put, sA_, sB_, sC_, i64_w, i32_w]; rfl)
            refine pure_ (i := 11) (N := some 54) (v := ?_) (a' := ?_) b50_ rfl rfl (any_of HT_.out (by kernel_rfl)) (fun _ _ _ h => h) (Or.inl ⟨by rfl, ?_⟩) ?_ ?_
            rotate_left; (· intro w'; go_simp; with_reducible rfl); rotate_left; (· simp only [Act.put, sA_, sB_, sC_, i64_w, i32_w]; rfl)
            refine pure_ (i := 12) (N := some 55) (v := ?_) (a' := ?_) b51_ rfl rfl (any_of HT_.out (by kernel_rfl)) (fun _ _ _ h => h) (Or.inl ⟨by rfl, ?_⟩) ?_ ?_
            rotate_left; (· intro w'; go_simp; with_reducible rfl); rotate_left; (· simp only [Act.put, sA_, sB_, sC_, i64_w, i32_w]; rfl)
            refine done_ (done_of HT_.out (by kernel_rfl)) ?_
            try go_wp2
            go_meet
            case rel => exact ⟨_, (decide ((l1_0.length : Int) > 1)), (by first | rfl | (simp; done) | (simp [*]; done)), H', ⟨by have := HJ2.out; first | omega | exact Nat.le_refl _⟩, ⟨by (with_reducible repeat (first | refine blk_drewN ?_ _ | refine blk_drew ?_ | refine blk_alloc ?_ _)); exact BK274.out⟩, ⟨by (with_reducible repeat (first | refine blk_drewN ?_ _ | refine blk_drew ?_ | refine blk_alloc ?_ _)); exact BK275.out⟩, ⟨by repeat (first | (with_reducible first | exact HB.out | apply below_alloc | apply pw_below_drewN | apply below_drew1 | refine below_set ?_ GE274.out | refine below_set ?_ GE275.out) | exact HB.out)⟩⟩
          · rw [if_neg c35] at H
            have c35b0 : ((rd l1_0 0) == (rd l1_1 0)) = false := beq_eq_false_iff_ne.mpr c35
            have c35b1 : ((rd l1_0 0) != (rd l1_1 0)) = true := bne_iff_ne.mpr c35
            have H' := Aside0.mk H
            clear H
            try go_wp2
            have n0_ := Aside0.mk (blk_drew BK274.out)
            have n1_ := Aside0.mk (blk_drew BK275.out)
            have n2_ := Aside0.mk (below_drew1 HB.out)
            clear BK274
            clear BK275
            clear HB
            have BK274 := n0_
            have BK275 := n1_
            have HB := n2_
            clear n0_ n1_ n2_
            have p282 : 0 ≤ (0 : Int) := (by omega)
            have q282 : 0 < (l1_0.length : Int) := of_decide_eq_true (by first | (with_reducible assumption) | assumption)
            obtain ⟨ad282, e282, hx282_0⟩ := Kd.at_int HR1_0.out 0 p282 q282
            have hw282_0 := hx282_0
            (try rw [show ((0 : Int)).toNat = 0 from rfl] at hw282_0)
            (try rw [show 0 * 1 = 0 from rfl] at hw282_0)
            (try rw [Addr.add_zero'] at hw282_0)
            cases e282
            have qi282 : (0 < l1_0.length) = True := eq_true (by omega)
            (try rw [show ((0 : Int)).toNat = 0 from rfl] at hx282_0)
            (try rw [Addr.add_zero'] at hx282_0)
            replace hx282_0 := (HB.out.cell (World.block_lt_of_cell? w _ hx282_0)).trans hx282_0
            replace p282 := eq_true p282
            replace q282 := eq_true q282
            have p283 : 0 ≤ (0 : Int) := (by omega)
            have q283 : 0 < (l1_1.length : Int) := of_decide_eq_true (by first | (with_reducible assumption) | assumption)
            obtain ⟨ad283, e283, hx283_0⟩ := Kd.at_int HR1_1.out 0 p283 q283
            have hw283_0 := hx283_0
            (try rw [show ((0 : Int)).toNat = 0 from rfl] at hw283_0)
            (try rw [show 0 * 1 = 0 from rfl] at hw283_0)
            (try rw [Addr.add_zero'] at hw283_0)
            cases e283
            have qi283 : (0 < l1_1.length) = True := eq_true (by omega)
            (try rw [show ((0 : Int)).toNat = 0 from rfl] at hx283_0)
            (try rw [Addr.add_zero'] at hx283_0)
            replace hx283_0 := (HB.out.cell (World.block_lt_of_cell? w _ hx283_0)).trans hx283_0
            replace p283 := eq_true p283
            replace q283 := eq_true q283
            refine start_ (n := 13) (S := fun w' => w'.cell? ⟨gb275, 0, none⟩ = some (.slice (some ad282) l1_0.length c1_0) ∧ w'.cell? ⟨gb275, 1, none⟩ = some (.slice (some ad283) l1_1.length c1_1) ∧ w'.cell? ad282 = some (.int .i64 (rd l1_0 0)) ∧ w'.cell? ad283 = some (.int .i64 (rd l1_1 0))) (ds := []) b38_ (by kernel_rfl) rfl rfl ⟨(blk_cell BK275.out 0).trans rfl, (blk_cell BK275.out 1).trans rfl, ((HB.out.cell (World.block_lt_of_cell? w _ hw282_0)).trans hw282_0), ((HB.out.cell (World.block_lt_of_cell? w _ hw283_0)).trans hw283_0)⟩ (fun hHeld => ?_); refine with_tabW spec_RecordOk.tab4 spec_RecordOk.bits4 (fun HT_ HW_ => ?_)
            generalize wc.drew = w37 at BK274 BK275 HB hx282_0 hx283_0 hHeld ⊢
            refine pure_ (i := 0) (N := some 43) (v := ?_) (a' := ?_) b39_ rfl rfl (any_of HT_.out (by kernel_rfl)) (fun _ _ _ h => h) (Or.inl ⟨by rfl, ?_⟩) ?_ ?_
            rotate_left; (· intro w'; go_simp; with_reducible rfl); rotate_left; (· simp only [Act.put, sA_, sB_, sC_, i64_w, i32_w]; rfl)
            refine pure_ (i := 4) (N := some 47) (v := ?_) (a' := ?_) b40_ rfl rfl (any_of HT_.out (by kernel_rfl)) (fun _ _ _ h => h) (Or.inl ⟨by rfl, ?_⟩) ?_ ?_
            rotate_left; (· intro w'; go_simp; with_reducible rfl); rotate_left; (· simp only [Act.put, sA_, sB_, sC_, i64_w, i32_w]; rfl)
            refine take_ (i := 1) (N := some 44) (v := ?_) (a' := ?_) b41_ rfl rfl (take_ofW HT_.out HW_.out (by kernel_rfl)) (fun _ _ _ h => h) (Or.inl ⟨by rfl, ?_⟩) hHeld ?_ ?_
            rotate_left; (· rintro w' ⟨s0, s1, s2, s3⟩; go_simp; with_reducible rfl); rotate_left; (· simp only [Act.put, sA_, sB_, sC_, i64_w, i32_w]; rfl)
            refine pure_ (i := 2) (N := some 45) (v := ?_) (a' := ?_) b42_ rfl rfl (any_of HT_.out (by kernel_rfl)) (fun _ _ _ h => h) (Or.inl ⟨by rfl, ?_⟩) ?_ ?_
            rotate_left; (· intro w'; go_simp; with_reducible rfl); rotate_left; (· simp only [Act.put, sA_, sB_, sC_, i64_w, i32_w]; rfl)
            refine take_ (i := 3) (N := some 46) (v := ?_) (a' := ?_) b43_ rfl rfl (take_ofW HT_.out HW_.out (by kernel_rfl)) (fun _ _ _ h => h) (Or.inl ⟨by rfl, ?_⟩) hHeld ?_ ?_
            rotate_left; (· rintro w' ⟨s0, s1, s2, s3⟩; go_simp; with_reducible rfl); rotate_left; (· simp only [Act.put, sA_, sB_, sC_, i64_w, i32_w]; rfl)
            refine take_ (i := 5) (N := some 48) (v := ?_) (a' := ?_) b44_ rfl rfl (take_ofW HT_.out HW_.out (by kernel_rfl)) (fun _ _ _ h => h) (Or.inl ⟨by rfl, ?_⟩) hHeld ?_ ?_
            rotate_left; (· rintro w' ⟨s0, s1, s2, s3⟩; go_simp; with_reducible rfl); rotate_left; (· simp only [Act.put, sA_, sB_, sC_, i64_w, i32_w]; rfl)
            refine pure_ (i := 6) (N := some 49) (v := ?_) (a' := ?_) b45_ rfl rfl (any_of HT_.out (by kernel_rfl)) (fun _ _ _ h => h) (Or.inl ⟨by rfl, ?_⟩) ?_ ?_
            rotate_left; (· intro w'; go_simp; with_reducible rfl); rotate_left; (· simp only [Act.put, sA_, sB_, sC_, i64_w, i32_w]; rfl)
            refine take_ (i := 7) (N := some 50) (v := ?_) (a' := ?_) b46_ rfl rfl (take_ofW HT_.out HW_.out (by kernel_rfl)) (fun _ _ _ h => h) (Or.inl ⟨by rfl, ?_⟩) hHeld ?_ ?_
            rotate_left; (· rintro w' ⟨s0, s1, s2, s3⟩; go_simp; with_reducible rfl); rotate_left; (· simp only [Act.put, sA_, sB_, sC_, i64_w, i32_w]; rfl)
            refine pure_ (i := 8) (N := some 51) (v := ?_) (a' := ?_) b47_ rfl rfl (any_of HT_.out (by kernel_rfl)) (fun _ _ _ h => h) (Or.inl ⟨by rfl, ?_⟩) ?_ ?_
            rotate_left; (· intro w'; go_simp; with_reducible rfl); rotate_left; (· simp only [Act.put, sA_, sB_, sC_, i64_w, i32_w]; rfl)
            refine pure_ (i := 9) (N := some 52) (v := ?_) (a' := ?_) b48_ rfl rfl (any_of HT_.out (by kernel_rfl)) (fun _ _ _ h => h) (Or.inl ⟨by rfl, ?_⟩) ?_ ?_
            rotate_left; (· intro w'; go_simp; with_reducible rfl); rotate_left; (· simp only [Act.put, sA_, sB_, sC_, i64_w, i32_w]; rfl)
            refine pure_ (i := 10) (N := some 53) (v := undef) (a' := ?_) b49_ rfl rfl (any_of HT_.out (by kernel_rfl)) (fun _ _ _ h => h) (Or.inr ⟨by rfl, rfl⟩) ?_ ?_
            rotate_left; (· simp only [Act.put, sA_, sB_, sC_, i64_w, i32_w]; rfl)
            refine pure_ (i := 11) (N := some 54) (v := undef) (a' := ?_) b50_ rfl rfl (any_of HT_.out (by kernel_rfl)) (fun _ _ _ h => h) (Or.inr ⟨by rfl, rfl⟩) ?_ ?_
            rotate_left; (· simp only [Act.put, sA_, sB_, sC_, i64_w, i32_w]; rfl)
            refine pure_ (i := 12) (N := some 55) (v := ?_) (a' := ?_) b51_ rfl rfl (any_of HT_.out (by kernel_rfl)) (fun _ _ _ h => h) (Or.inl ⟨by rfl, ?_⟩) ?_ ?_
            rotate_left; (· intro w'; go_simp; with_reducible rfl); rotate_left; (· simp only [Act.put, sA_, sB_, sC_, i64_w, i32_w]; rfl)
            refine done_ (done_of HT_.out (by kernel_rfl)) ?_
            try go_wp2
            go_meet
            case rel => exact ⟨_, (false), (by first | rfl | (simp; done) | (simp [*]; done)), H', ⟨by have := HJ2.out; first | omega | exact Nat.le_refl _⟩, ⟨by (with_reducible repeat (first | refine blk_drewN ?_ _ | refine blk_drew ?_ | refine blk_alloc ?_ _)); exact BK274.out⟩, ⟨by (with_reducible repeat (first | refine blk_drewN ?_ _ | refine blk_drew ?_ | refine blk_alloc ?_ _)); exact BK275.out⟩, ⟨by repeat (first | (with_reducible first | exact HB.out | apply below_alloc | apply pw_below_drewN | apply below_drew1 | refine below_set ?_ GE274.out | refine below_set ?_ GE275.out) | exact HB.out)⟩⟩
        · rw [if_neg c34] at H
          exact absurd H (by simp)
      · rw [if_neg c33] at H
        exact absurd H (by simp)
     case rest =>
      clear HC32
      try clear c1
      try clear p2
      try clear q2
      try clear hx2
      try clear qi2
      try clear c3
      try clear c7
      try clear c9
      try clear c11
      try clear p28
      try clear q28
      try clear hx28
      try clear qi28
      try clear c31
      try clear c33
      try clear c33b0
      try clear c33b1
      try clear c34
      try clear c34b0
      try clear c34b1
      try clear c35
      try clear c35b0
      try clear c35b1
      try clear hx282_0
      try clear hx283_0
      try clear p2
      try clear p282
      try clear p283
      try clear q282
      try clear q283
      obtain ⟨kq, x55_31, rfl, HA, HJ31, BK274, BK275, HB⟩ := hcut
      cases kq with
      | zero => exact absurd HA.out (by simp [spec_RecordOk.j1])
      | succ kj31 =>
       have H := HA.out
       clear HA
       simp only [spec_RecordOk.j1] at H
       by_cases c38 : x55_31 = true
       · subst c38
         have H1 : (some false) = some r := by rw [if_pos rfl] at H; exact H
         clear H
         have H := H1
         clear H1
         obtain rfl := Option.some.inj H
         go_wp2
         go_ret
         exact ⟨by first | rfl | (simp [errW_none, errW_some] <;> rfl) | (simp [*, errW_none, errW_some] <;> rfl), by repeat (first | (with_reducible first | exact HB.out | apply below_alloc | apply pw_below_drewN | apply below_drew1 | refine below_set ?_ GE274.out | refine below_set ?_ GE275.out) | exact HB.out)⟩
       · replace c38 := Bool.eq_false_iff.mpr c38
         subst c38
         have H1 : (spec_RecordOk.l0 kj31 (l1_0.length : Int) 1 a0_0 l0_1 l1_0 l1_1) = some r := by rw [if_neg (show ¬ (false = true) by decide)] at H; exact H
         clear H
         have H := H1
         clear H1
         have H' := Aside0.mk H
         clear H
         go_wp2
         go_loopg [6] kj31 (fun kq v6 w' => ∃ (x6_3 : Int), v6 = .int .i64 x6_3 ∧ Aside0 (spec_RecordOk.l0 kq (l1_0.length : Int) x6_3 a0_0 l0_1 l1_0 l1_1 = some r) ∧ Aside0 (kq ≤ kj31) ∧ Aside0 (w'.heap[gb274]? = some (.cells #[.int .i64 a0_0, (.slice A0_1 l0_1.length c0_1)] 27 (0, 0))) ∧ Aside0 (w'.heap[gb275]? = some (.cells #[(.slice A1_0 l1_0.length c1_0), (.slice A1_1 l1_1.length c1_1)] 42 (0, 0))) ∧ Aside0 (Below w.heap.size w w'))
         case atStart => exact ⟨(1), (by first | rfl | (simp; done) | (simp [*]; done)), H', ⟨Nat.le_refl _⟩, ⟨by (with_reducible repeat (first | refine blk_drewN ?_ _ | refine blk_drew ?_ | refine blk_alloc ?_ _)); exact BK274.out⟩, ⟨by (with_reducible repeat (first | refine blk_drewN ?_ _ | refine blk_drew ?_ | refine blk_alloc ?_ _)); exact BK275.out⟩, ⟨by repeat (first | (with_reducible first | exact HB.out | apply below_alloc | apply pw_below_drewN | apply below_drew1 | refine below_set ?_ GE274.out | refine below_set ?_ GE275.out) | exact HB.out)⟩⟩
         case round =>
          clear H'
          try clear c1
          try clear p2
          try clear q2
          try clear hx2
          try clear qi2
          try clear c3
          try clear c7
          try clear c9
          try clear c11
          try clear p28
          try clear q28
          try clear hx28
          try clear qi28
          try clear c31
          try clear c33
          try clear c33b0
          try clear c33b1
          try clear c34
          try clear c34b0
          try clear c34b1
          try clear c35
          try clear c35b0
          try clear c35b1
          try clear c38
          try clear hx282_0
          try clear hx283_0
          try clear p2
          try clear p28
          try clear p282
          try clear p283
          try clear q2
          try clear q28
          try clear q282
          try clear q283
          obtain ⟨x6_3, rfl, HA, HK3, BK274, BK275, HB⟩ := hrel
          cases gk with
          | zero => exact absurd HA.out (by simp [spec_RecordOk.l0])
          | succ k3 =>
           have H := HA.out
           clear HA
           simp only [spec_RecordOk.l0] at H
           by_cases c39 : x6_3 < (l1_0.length : Int)
           · rw [if_pos c39] at H
             have c39b0 : decide (x6_3 < (l1_0.length : Int)) = true := decide_eq_true c39
             clear c39
             have HC40 := Aside0.mk H
             clear H
             go_upto_region 9 with (fail)
             go_cut [90] (fun v90 wc => ∃ (kq : Nat) (x90_39 : Bool), v90 = .bool x90_39 ∧ Aside0 (spec_RecordOk.j3 kq (l1_0.length : Int) x6_3 x90_39 a0_0 l0_1 l1_0 l1_1 = some r) ∧ Aside0 (kq ≤ k3) ∧ Aside0 (wc.heap[gb274]? = some (.cells #[.int .i64 a0_0, (.slice A0_1 l0_1.length c0_1)] 27 (0, 0))) ∧ Aside0 (wc.heap[gb275]? = some (.cells #[(.slice A1_0 l1_0.length c1_0), (.slice A1_1 l1_1.length c1_1)] 42 (0, 0))) ∧ Aside0 (Below w.heap.size w wc))
             case first =>
              have H := HC40.out
              clear HC40
              obtain ⟨ji41, hji41⟩ : ∃ j_ : Int, (wrap64 (x6_3 - 1)) = j_ := ⟨_, rfl⟩
              replace H : (if 0 ≤ (ji41) then (if (ji41) < (l1_0.length : Int) then (if 0 ≤ x6_3 then (if x6_3 < (l1_0.length : Int) then ((spec_l07Step.f a0_0 l0_1 (rd l1_0 (ji41)) (rd l1_0 x6_3)).bind fun t286 => (if t286 = true then (if (ji41) < (l1_1.length : Int) then (if x6_3 < (l1_1.length : Int) then ((spec_l07Step.f a0_0 l0_1 (rd l1_1 (ji41)) (rd l1_1 x6_3)).bind fun t289 => (spec_RecordOk.j3 k3 (l1_0.length : Int) x6_3 (!t289) a0_0 l0_1 l1_0 l1_1)) else (none)) else (none)) else (spec_RecordOk.j3 k3 (l1_0.length : Int) x6_3 true a0_0 l0_1 l1_0 l1_1))) else (none)) else (none)) else (none)) else (none)) = some r := by first | (rw [hji41] at H; exact H) | (simp only [hji41] at H ⊢; exact H)
              have hji41w : (IntKind.i64.wrap (x6_3 - 1)) = ji41 := (i64_w _).trans hji41
              by_cases c42 : 0 ≤ (ji41)
              · rw [if_pos c42] at H
                have c42b0 : decide (0 ≤ (ji41)) = true := decide_eq_true c42
                clear c42
                (first | rw [c42b0] | (simp only [i64_w, i32_w]; rw [c42b0]) | skip)
                by_cases c43 : (ji41) < (l1_0.length : Int)
                · rw [if_pos c43] at H
                  have c43b0 : decide ((ji41) < (l1_0.length : Int)) = true := decide_eq_true c43
                  clear c43
                  by_cases c44 : 0 ≤ x6_3
                  · rw [if_pos c44] at H
                    have c44b0 : decide (0 ≤ x6_3) = true := decide_eq_true c44
                    clear c44
                    by_cases c45 : x6_3 < (l1_0.length : Int)
                    · rw [if_pos c45] at H
                      have c45b0 : decide (x6_3 < (l1_0.length : Int)) = true := decide_eq_true c45
                      clear c45
                      replace H := Option.bind_eq_some_iff.mp H
                      obtain ⟨t286, A460, H⟩ := H
                      replace H : (if t286 = true then (if (ji41) < (l1_1.length : Int) then (if x6_3 < (l1_1.length : Int) then ((spec_l07Step.f a0_0 l0_1 (rd l1_1 (ji41)) (rd l1_1 x6_3)).bind fun t289 => (spec_RecordOk.j3 k3 (l1_0.length : Int) x6_3 (!t289) a0_0 l0_1 l1_0 l1_1)) else (none)) else (none)) else (spec_RecordOk.j3 k3 (l1_0.length : Int) x6_3 true a0_0 l0_1 l1_0 l1_1)) = some r := H
                      have A46 := Aside0.mk A460
                      clear A460
                      by_cases c47 : t286 = true
                      · subst c47
                        have H1 : (if (ji41) < (l1_1.length : Int) then (if x6_3 < (l1_1.length : Int) then ((spec_l07Step.f a0_0 l0_1 (rd l1_1 (ji41)) (rd l1_1 x6_3)).bind fun t289 => (spec_RecordOk.j3 k3 (l1_0.length : Int) x6_3 (!t289) a0_0 l0_1 l1_0 l1_1)) else (none)) else (none)) = some r := by rw [if_pos rfl] at H; exact H
                        clear H
                        have H := H1
                        clear H1
                        by_cases c48 : (ji41) < (l1_1.length : Int)
                        · rw [if_pos c48] at H
                          have c48b0 : decide ((ji41) < (l1_1.length : Int)) = true := decide_eq_true c48
                          clear c48
                          by_cases c49 : x6_3 < (l1_1.length : Int)
                          · rw [if_pos c49] at H
                            have c49b0 : decide (x6_3 < (l1_1.length : Int)) = true := decide_eq_true c49
                            clear c49
                            replace H := Option.bind_eq_some_iff.mp H
                            obtain ⟨t289, A500, H⟩ := H
                            replace H : (spec_RecordOk.j3 k3 (l1_0.length : Int) x6_3 (!t289) a0_0 l0_1 l1_0 l1_1) = some r := H
                            have A50 := Aside0.mk A500
                            clear A500
                            have H' := Aside0.mk H
                            clear H
                            try go_wp2
                            have n0_ := Aside0.mk (blk_drew BK274.out)
                            have n1_ := Aside0.mk (blk_drew BK275.out)
                            have n2_ := Aside0.mk (below_drew1 HB.out)
                            clear BK274
                            clear BK275
                            clear HB
                            have BK274 := n0_
                            have BK275 := n1_
                            have HB := n2_
                            clear n0_ n1_ n2_
                            have p284 : 0 ≤ ((ji41) : Int) := of_decide_eq_true (by first | (with_reducible assumption) | assumption)
                            have q284 : (ji41) < (l1_0.length : Int) := of_decide_eq_true (by first | (with_reducible assumption) | assumption)
                            obtain ⟨ad284, e284, hx284_0⟩ := Kd.at_int HR1_0.out (ji41) p284 q284
                            have hw284_0 := hx284_0
                            cases e284
                            replace hx284_0 := (HB.out.cell (World.block_lt_of_cell? w _ hx284_0)).trans hx284_0
                            replace p284 := eq_true p284
                            replace q284 := eq_true q284
                            have p285 : 0 ≤ (x6_3 : Int) := of_decide_eq_true (by first | (with_reducible assumption) | assumption)
                            have q285 : x6_3 < (l1_0.length : Int) := of_decide_eq_true (by first | (with_reducible assumption) | assumption)
                            obtain ⟨ad285, e285, hx285_0⟩ := Kd.at_int HR1_0.out x6_3 p285 q285
                            have hw285_0 := hx285_0
                            obtain rfl : ad284 = ad285 := (by injection e285)
                            replace hx285_0 := (HB.out.cell (World.block_lt_of_cell? w _ hx285_0)).trans hx285_0
                            replace p285 := eq_true p285
                            replace q285 := eq_true q285
                            have p287 : 0 ≤ ((ji41) : Int) := of_decide_eq_true (by first | (with_reducible assumption) | assumption)
                            have q287 : (ji41) < (l1_1.length : Int) := of_decide_eq_true (by first | (with_reducible assumption) | assumption)
                            obtain ⟨ad287, e287, hx287_0⟩ := Kd.at_int HR1_1.out (ji41) p287 q287
                            have hw287_0 := hx287_0
                            cases e287
                            replace hx287_0 := (HB.out.cell (World.block_lt_of_cell? w _ hx287_0)).trans hx287_0
                            replace p287 := eq_true p287
                            replace q287 := eq_true q287
                            have p288 : 0 ≤ (x6_3 : Int) := of_decide_eq_true (by first | (with_reducible assumption) | assumption)
                            have q288 : x6_3 < (l1_1.length : Int) := of_decide_eq_true (by first | (with_reducible assumption) | assumption)
                            obtain ⟨ad288, e288, hx288_0⟩ := Kd.at_int HR1_1.out x6_3 p288 q288
                            have hw288_0 := hx288_0
                            obtain rfl : ad287 = ad288 := (by injection e288)
                            replace hx288_0 := (HB.out.cell (World.block_lt_of_cell? w _ hx288_0)).trans hx288_0
                            replace p288 := eq_true p288
                            replace q288 := eq_true q288
                            refine start_ (n := 30) (S := fun w' => w'.cell? ⟨gb274, 0, none⟩ = some (.int .i64 a0_0) ∧ w'.cell? ⟨gb274, 1, none⟩ = some (.slice A0_1 l0_1.length c0_1) ∧ w'.cell? ⟨gb275, 0, none⟩ = some (.slice (some ad284) l1_0.length c1_0) ∧ w'.cell? ⟨gb275, 1, none⟩ = some (.slice (some ad287) l1_1.length c1_1) ∧ w'.cell? (ad284.add ((ji41)).toNat) = some (.int .i64 (rd l1_0 (ji41))) ∧ w'.cell? (ad284.add (x6_3).toNat) = some (.int .i64 (rd l1_0 x6_3)) ∧ w'.cell? (ad287.add ((ji41)).toNat) = some (.int .i64 (rd l1_1 (ji41))) ∧ w'.cell? (ad287.add (x6_3).toNat) = some (.int .i64 (rd l1_1 x6_3))) (ds := []) b52_ (by kernel_rfl) rfl rfl ⟨(blk_cell BK274.out 0).trans rfl, (blk_cell BK274.out 1).trans rfl, (blk_cell BK275.out 0).trans rfl, (blk_cell BK275.out 1).trans rfl, ((HB.out.cell (World.block_lt_of_cell? w _ hw284_0)).trans hw284_0), ((HB.out.cell (World.block_lt_of_cell? w _ hw285_0)).trans hw285_0), ((HB.out.cell (World.block_lt_of_cell? w _ hw287_0)).trans hw287_0), ((HB.out.cell (World.block_lt_of_cell? w _ hw288_0)).trans hw288_0)⟩ (fun hHeld => ?_); refine with_tabW spec_RecordOk.tab9 spec_RecordOk.bits9 (fun HT_ HW_ => ?_)
                            generalize wr.drew = w51 at BK274 BK275 HB hx284_0 hx285_0 hx287_0 hx288_0 hHeld ⊢
                            refine pure_ (i := 1) (N := some 62) (v := ?_) (a' := ?_) b53_ rfl rfl (any_of HT_.out (by kernel_rfl)) (fun _ _ _ h => h) (Or.inl ⟨by rfl, ?_⟩) ?_ ?_
                            rotate_left; (· intro w'; go_simp; with_reducible rfl); rotate_left; (· simp only [Act.put, sA_, sB_, sC_, i64_w, i32_w]; rfl)
                            refine pure_ (i := 3) (N := some 64) (v := ?_) (a' := ?_) b54_ rfl rfl (any_of HT_.out (by kernel_rfl)) (fun _ _ _ h => h) (Or.inl ⟨by rfl, ?_⟩) ?_ ?_
                            rotate_left; (· intro w'; go_simp; with_reducible rfl); rotate_left; (· simp only [Act.put, sA_, sB_, sC_, i64_w, i32_w]; rfl)
                            refine pure_ (i := 4) (N := some 65) (v := ?_) (a' := ?_) b55_ rfl rfl (any_of HT_.out (by kernel_rfl)) (fun _ _ _ h => h) (Or.inl ⟨by rfl, ?_⟩) ?_ ?_
                            rotate_left; (· intro w'; go_simp; with_reducible rfl); rotate_left; (· simp only [Act.put, sA_, sB_, sC_, i64_w, i32_w]; rfl)
                            refine pure_ (i := 7) (N := some 68) (v := ?_) (a' := ?_) b56_ rfl rfl (any_of HT_.out (by kernel_rfl)) (fun _ _ _ h => h) (Or.inl ⟨by rfl, ?_⟩) ?_ ?_
                            rotate_left; (· intro w'; go_simp; with_reducible rfl); rotate_left; (· simp only [Act.put, sA_, sB_, sC_, i64_w, i32_w]; rfl)
                            refine pure_ (i := 9) (N := some 70) (v := ?_) (a' := ?_) b57_ rfl rfl (any_of HT_.out (by kernel_rfl)) (fun _ _ _ h => h) (Or.inl ⟨by rfl, ?_⟩) ?_ ?_
                            rotate_left; (· intro w'; go_simp; with_reducible rfl); rotate_left; (· simp only [Act.put, sA_, sB_, sC_, i64_w, i32_w]; rfl)
                            refine take_ (i := 0) (N := some 61) (v := ?_) (a' := ?_) b58_ rfl rfl (take_ofW HT_.out HW_.out (by kernel_rfl)) (fun _ _ _ h => h) (Or.inl ⟨by rfl, ?_⟩) hHeld ?_ ?_
                            rotate_left; (· rintro w' ⟨s0, s1, s2, s3, s4, s5, s6, s7⟩; go_simp; with_reducible rfl); rotate_left; (· simp only [Act.put, sA_, sB_, sC_, i64_w, i32_w]; rfl)
                            refine take_ (i := 2) (N := some 63) (v := ?_) (a' := ?_) b59_ rfl rfl (take_ofW HT_.out HW_.out (by kernel_rfl)) (fun _ _ _ h => h) (Or.inl ⟨by rfl, ?_⟩) hHeld ?_ ?_
                            rotate_left; (· rintro w' ⟨s0, s1, s2, s3, s4, s5, s6, s7⟩; go_simp; with_reducible rfl); rotate_left; (· simp only [Act.put, sA_, sB_, sC_, i64_w, i32_w]; rfl)
                            refine pure_ (i := 5) (N := some 66) (v := ?_) (a' := ?_) b60_ rfl rfl (any_of HT_.out (by kernel_rfl)) (fun _ _ _ h => h) (Or.inl ⟨by rfl, ?_⟩) ?_ ?_
                            rotate_left; (· intro w'; go_simp; with_reducible rfl); rotate_left; (· simp only [Act.put, sA_, sB_, sC_, i64_w, i32_w]; rfl)
                            refine take_ (i := 6) (N := some 67) (v := ?_) (a' := ?_) b61_ rfl rfl (take_ofW HT_.out HW_.out (by kernel_rfl)) (fun _ _ _ h => h) (Or.inl ⟨by rfl, ?_⟩) hHeld ?_ ?_
                            rotate_left; (· rintro w' ⟨s0, s1, s2, s3, s4, s5, s6, s7⟩; go_simp; with_reducible rfl); rotate_left; (· simp only [Act.put, sA_, sB_, sC_, i64_w, i32_w]; rfl)
                            refine take_ (i := 8) (N := some 69) (v := ?_) (a' := ?_) b62_ rfl rfl (take_ofW HT_.out HW_.out (by kernel_rfl)) (fun _ _ _ h => h) (Or.inl ⟨by rfl, ?_⟩) hHeld ?_ ?_
                            rotate_left; (· rintro w' ⟨s0, s1, s2, s3, s4, s5, s6, s7⟩; go_simp; with_reducible rfl); rotate_left; (· simp only [Act.put, sA_, sB_, sC_, i64_w, i32_w]; rfl)
                            refine pure_ (i := 10) (N := some 71) (v := ?_) (a' := ?_) b63_ rfl rfl (any_of HT_.out (by kernel_rfl)) (fun _ _ _ h => h) (Or.inl ⟨by rfl, ?_⟩) ?_ ?_
                            rotate_left; (· intro w'; go_simp; with_reducible rfl); rotate_left; (· simp only [Act.put, sA_, sB_, sC_, i64_w, i32_w]; rfl)
                            refine take_ (i := 11) (N := some 72) (v := ?_) (a' := ?_) b64_ rfl rfl (take_ofW HT_.out HW_.out (by kernel_rfl)) (fun _ _ _ h => h) (Or.inl ⟨by rfl, ?_⟩) hHeld ?_ ?_
                            rotate_left; (· rintro w' ⟨s0, s1, s2, s3, s4, s5, s6, s7⟩; go_simp; with_reducible rfl); rotate_left; (· simp only [Act.put, sA_, sB_, sC_, i64_w, i32_w]; rfl)
                            refine one_ (i := 12) (N := some 73) b65_ rfl rfl (one_of HT_.out (by kernel_rfl)) (by decide) (fun K hK => ?_)
                            refine goes_ Try.func75 (by kernel_rfl) rfl #[.agg #[.int .i64 a0_0, .slice A0_1 l0_1.length c0_1], .int .i64 (rd l1_0 (ji41)), .int .i64 (rd l1_0 x6_3)] (by rfl) rfl rfl (by (try simp only [List.map_toArray, List.map_cons, List.map_nil]); first | done | (simp only [hji41]; rfl) | rfl | (simp only [List.length_drop, List.length_take]; rfl)) ?_
                            with_reducible refine (spec_l07Step.calls a0_0 _ _ l0_1 (rd l1_0 (ji41)) (rd l1_0 x6_3) true _ ?side1 ?side2 A46.out).mono ?_
                            (case side1 => repeat (first | exact (Kd.C_below HR0_1.out HB.out) | (with_reducible refine Kd.C_alloc ?_ _) | (with_reducible refine Kd.C_drewN ?_ _) | (with_reducible refine Kd.C_drew ?_)))
                            (case side2 => exact HC0_1.out)
                            rintro e w52 ⟨rfl, hb⟩
                            refine ⟨_, rfl, ?_⟩
                            have n0_ := Aside0.mk (blk_below (g := gb274) (o := .cells #[.int .i64 a0_0, .slice A0_1 l0_1.length c0_1] 27 (0, 0)) (by (with_reducible repeat (first | refine blk_drewN ?_ _ | refine blk_drew ?_ | refine blk_alloc ?_ _)); exact BK274.out) hb)
                            have n1_ := Aside0.mk (blk_below (g := gb275) (o := .cells #[.slice (some ad284) l1_0.length c1_0, .slice (some ad287) l1_1.length c1_1] 42 (0, 0)) (by (with_reducible repeat (first | refine blk_drewN ?_ _ | refine blk_drew ?_ | refine blk_alloc ?_ _)); exact BK275.out) hb)
                            have n2_ := Aside0.mk (below_step (by repeat (first | (with_reducible first | exact HB.out | apply below_alloc | apply pw_below_drewN | apply below_drew1 | refine below_set ?_ GE274.out | refine below_set ?_ GE275.out) | exact HB.out)) hb)
                            clear BK274
                            clear BK275
                            clear HB
                            have BK274 := n0_
                            have BK275 := n1_
                            have HB := n2_
                            clear n0_ n1_ n2_
                            (try clear hb)
                            (try clear hb2)
                            (try clear hk)
                            (try clear hi)
                            refine hK.out _ _ ⟨(blk_cell BK274.out 0).trans rfl, (blk_cell BK274.out 1).trans rfl, (blk_cell BK275.out 0).trans rfl, (blk_cell BK275.out 1).trans rfl, ((HB.out.cell (World.block_lt_of_cell? w _ hw284_0)).trans hw284_0), ((HB.out.cell (World.block_lt_of_cell? w _ hw285_0)).trans hw285_0), ((HB.out.cell (World.block_lt_of_cell? w _ hw287_0)).trans hw287_0), ((HB.out.cell (World.block_lt_of_cell? w _ hw288_0)).trans hw288_0)⟩ (fun hHeld => ?_)
                            clear hK K
                            refine norm_ (a' := ?_) ?_ ?_
                            rotate_left
                            · show Act.put _ (some 73) _ = _
                              simp only [Act.put, sA_, sB_, sC_, i64_w, i32_w]
                              rfl
                            refine pure_ (i := 13) (N := some 74) (v := ?_) (a' := ?_) b66_ rfl rfl (any_of HT_.out (by kernel_rfl)) (fun _ _ _ h => h) (Or.inl ⟨by rfl, ?_⟩) ?_ ?_
                            rotate_left; (· intro w'; go_simp; with_reducible rfl); rotate_left; (· simp only [Act.put, sA_, sB_, sC_, i64_w, i32_w]; rfl)
                            refine pure_ (i := 14) (N := some 75) (v := ?_) (a' := ?_) b67_ rfl rfl (any_of HT_.out (by kernel_rfl)) (fun _ _ _ h => h) (Or.inl ⟨by rfl, ?_⟩) ?_ ?_
                            rotate_left; (· intro w'; go_simp; with_reducible rfl); rotate_left; (· simp only [Act.put, sA_, sB_, sC_, i64_w, i32_w]; rfl)
                            refine pure_ (i := 16) (N := some 77) (v := ?_) (a' := ?_) b68_ rfl rfl (any_of HT_.out (by kernel_rfl)) (fun _ _ _ h => h) (Or.inl ⟨by rfl, ?_⟩) ?_ ?_
                            rotate_left; (· intro w'; go_simp; with_reducible rfl); rotate_left; (· simp only [Act.put, sA_, sB_, sC_, i64_w, i32_w]; rfl)
                            refine pure_ (i := 18) (N := some 79) (v := ?_) (a' := ?_) b69_ rfl rfl (any_of HT_.out (by kernel_rfl)) (fun _ _ _ h => h) (Or.inl ⟨by rfl, ?_⟩) ?_ ?_
                            rotate_left; (· intro w'; go_simp; with_reducible rfl); rotate_left; (· simp only [Act.put, sA_, sB_, sC_, i64_w, i32_w]; rfl)
                            refine pure_ (i := 19) (N := some 80) (v := ?_) (a' := ?_) b70_ rfl rfl (any_of HT_.out (by kernel_rfl)) (fun _ _ _ h => h) (Or.inl ⟨by rfl, ?_⟩) ?_ ?_
                            rotate_left; (· intro w'; go_simp; with_reducible rfl); rotate_left; (· simp only [Act.put, sA_, sB_, sC_, i64_w, i32_w]; rfl)
                            refine pure_ (i := 22) (N := some 83) (v := ?_) (a' := ?_) b71_ rfl rfl (any_of HT_.out (by kernel_rfl)) (fun _ _ _ h => h) (Or.inl ⟨by rfl, ?_⟩) ?_ ?_
                            rotate_left; (· intro w'; go_simp; with_reducible rfl); rotate_left; (· simp only [Act.put, sA_, sB_, sC_, i64_w, i32_w]; rfl)
                            refine pure_ (i := 24) (N := some 85) (v := ?_) (a' := ?_) b72_ rfl rfl (any_of HT_.out (by kernel_rfl)) (fun _ _ _ h => h) (Or.inl ⟨by rfl, ?_⟩) ?_ ?_
                            rotate_left; (· intro w'; go_simp; with_reducible rfl); rotate_left; (· simp only [Act.put, sA_, sB_, sC_, i64_w, i32_w]; rfl)
                            refine take_ (i := 15) (N := some 76) (v := ?_) (a' := ?_) b73_ rfl rfl (take_ofW HT_.out HW_.out (by kernel_rfl)) (fun _ _ _ h => h) (Or.inl ⟨by rfl, ?_⟩) hHeld ?_ ?_
                            rotate_left; (· rintro w' ⟨s0, s1, s2, s3, s4, s5, s6, s7⟩; go_simp; with_reducible rfl); rotate_left; (· simp only [Act.put, sA_, sB_, sC_, i64_w, i32_w]; rfl)
                            refine take_ (i := 17) (N := some 78) (v := ?_) (a' := ?_) b74_ rfl rfl (take_ofW HT_.out HW_.out (by kernel_rfl)) (fun _ _ _ h => h) (Or.inl ⟨by rfl, ?_⟩) hHeld ?_ ?_
                            rotate_left; (· rintro w' ⟨s0, s1, s2, s3, s4, s5, s6, s7⟩; go_simp; with_reducible rfl); rotate_left; (· simp only [Act.put, sA_, sB_, sC_, i64_w, i32_w]; rfl)
                            refine pure_ (i := 20) (N := some 81) (v := ?_) (a' := ?_) b75_ rfl rfl (any_of HT_.out (by kernel_rfl)) (fun _ _ _ h => h) (Or.inl ⟨by rfl, ?_⟩) ?_ ?_
                            rotate_left; (· intro w'; go_simp; with_reducible rfl); rotate_left; (· simp only [Act.put, sA_, sB_, sC_, i64_w, i32_w]; rfl)
                            refine take_ (i := 21) (N := some 82) (v := ?_) (a' := ?_) b76_ rfl rfl (take_ofW HT_.out HW_.out (by kernel_rfl)) (fun _ _ _ h => h) (Or.inl ⟨by rfl, ?_⟩) hHeld ?_ ?_
                            rotate_left; (· rintro w' ⟨s0, s1, s2, s3, s4, s5, s6, s7⟩; go_simp; with_reducible rfl); rotate_left; (· simp only [Act.put, sA_, sB_, sC_, i64_w, i32_w]; rfl)
                            refine take_ (i := 23) (N := some 84) (v := ?_) (a' := ?_) b77_ rfl rfl (take_ofW HT_.out HW_.out (by kernel_rfl)) (fun _ _ _ h => h) (Or.inl ⟨by rfl, ?_⟩) hHeld ?_ ?_
                            rotate_left; (· rintro w' ⟨s0, s1, s2, s3, s4, s5, s6, s7⟩; go_simp; with_reducible rfl); rotate_left; (· simp only [Act.put, sA_, sB_, sC_, i64_w, i32_w]; rfl)
                            refine pure_ (i := 25) (N := some 86) (v := ?_) (a' := ?_) b78_ rfl rfl (any_of HT_.out (by kernel_rfl)) (fun _ _ _ h => h) (Or.inl ⟨by rfl, ?_⟩) ?_ ?_
                            rotate_left; (· intro w'; go_simp; with_reducible rfl); rotate_left; (· simp only [Act.put, sA_, sB_, sC_, i64_w, i32_w]; rfl)
                            refine take_ (i := 26) (N := some 87) (v := ?_) (a' := ?_) b79_ rfl rfl (take_ofW HT_.out HW_.out (by kernel_rfl)) (fun _ _ _ h => h) (Or.inl ⟨by rfl, ?_⟩) hHeld ?_ ?_
                            rotate_left; (· rintro w' ⟨s0, s1, s2, s3, s4, s5, s6, s7⟩; go_simp; with_reducible rfl); rotate_left; (· simp only [Act.put, sA_, sB_, sC_, i64_w, i32_w]; rfl)
                            refine one_ (i := 27) (N := some 88) b80_ rfl rfl (one_of HT_.out (by kernel_rfl)) (by decide) (fun K hK => ?_)
                            refine goes_ Try.func75 (by kernel_rfl) rfl #[.agg #[.int .i64 a0_0, .slice A0_1 l0_1.length c0_1], .int .i64 (rd l1_1 (ji41)), .int .i64 (rd l1_1 x6_3)] (by rfl) rfl rfl (by (try simp only [List.map_toArray, List.map_cons, List.map_nil]); first | done | (simp only [hji41]; rfl) | rfl | (simp only [List.length_drop, List.length_take]; rfl)) ?_
                            with_reducible refine (spec_l07Step.calls a0_0 _ _ l0_1 (rd l1_1 (ji41)) (rd l1_1 x6_3) t289 _ ?side1 ?side2 A50.out).mono ?_
                            (case side1 => repeat (first | exact (Kd.C_below HR0_1.out HB.out) | (with_reducible refine Kd.C_alloc ?_ _) | (with_reducible refine Kd.C_drewN ?_ _) | (with_reducible refine Kd.C_drew ?_)))
                            (case side2 => exact HC0_1.out)
                            rintro e w53 ⟨rfl, hb⟩
                            refine ⟨_, rfl, ?_⟩
                            have n0_ := Aside0.mk (blk_below (g := gb274) (o := .cells #[.int .i64 a0_0, .slice A0_1 l0_1.length c0_1] 27 (0, 0)) (by (with_reducible repeat (first | refine blk_drewN ?_ _ | refine blk_drew ?_ | refine blk_alloc ?_ _)); exact BK274.out) hb)
                            have n1_ := Aside0.mk (blk_below (g := gb275) (o := .cells #[.slice (some ad284) l1_0.length c1_0, .slice (some ad287) l1_1.length c1_1] 42 (0, 0)) (by (with_reducible repeat (first | refine blk_drewN ?_ _ | refine blk_drew ?_ | refine blk_alloc ?_ _)); exact BK275.out) hb)
                            have n2_ := Aside0.mk (below_step (by repeat (first | (with_reducible first | exact HB.out | apply below_alloc | apply pw_below_drewN | apply below_drew1 | refine below_set ?_ GE274.out | refine below_set ?_ GE275.out) | exact HB.out)) hb)
                            clear BK274
                            clear BK275
                            clear HB
                            have BK274 := n0_
                            have BK275 := n1_
                            have HB := n2_
                            clear n0_ n1_ n2_
                            (try clear hb)
                            (try clear hb2)
                            (try clear hk)
                            (try clear hi)
                            refine hK.out _ _ ⟨(blk_cell BK274.out 0).trans rfl, (blk_cell BK274.out 1).trans rfl, (blk_cell BK275.out 0).trans rfl, (blk_cell BK275.out 1).trans rfl, ((HB.out.cell (World.block_lt_of_cell? w _ hw284_0)).trans hw284_0), ((HB.out.cell (World.block_lt_of_cell? w _ hw285_0)).trans hw285_0), ((HB.out.cell (World.block_lt_of_cell? w _ hw287_0)).trans hw287_0), ((HB.out.cell (World.block_lt_of_cell? w _ hw288_0)).trans hw288_0)⟩ (fun hHeld => ?_)
                            clear hK K
                            refine norm_ (a' := ?_) ?_ ?_
                            rotate_left
                            · show Act.put _ (some 88) _ = _
                              simp only [Act.put, sA_, sB_, sC_, i64_w, i32_w]
                              rfl
                            refine pure_ (i := 28) (N := some 89) (v := ?_) (a' := ?_) b81_ rfl rfl (any_of HT_.out (by kernel_rfl)) (fun _ _ _ h => h) (Or.inl ⟨by rfl, ?_⟩) ?_ ?_
                            rotate_left; (· intro w'; go_simp; with_reducible rfl); rotate_left; (· simp only [Act.put, sA_, sB_, sC_, i64_w, i32_w]; rfl)
                            refine pure_ (i := 29) (N := some 90) (v := ?_) (a' := ?_) b82_ rfl rfl (any_of HT_.out (by kernel_rfl)) (fun _ _ _ h => h) (Or.inl ⟨by rfl, ?_⟩) ?_ ?_
                            rotate_left; (· intro w'; go_simp; with_reducible rfl); rotate_left; (· simp only [Act.put, sA_, sB_, sC_, i64_w, i32_w]; rfl)
                            refine done_ (done_of HT_.out (by kernel_rfl)) ?_
                            try go_wp2
                            go_meet
                            case rel => exact ⟨_, (!t289), (by first | rfl | (simp; done) | (simp [*]; done)), H', ⟨by have := HJ2.out; have := HJ31.out; have := HK3.out; first | omega | exact Nat.le_refl _⟩, ⟨by (with_reducible repeat (first | refine blk_drewN ?_ _ | refine blk_drew ?_ | refine blk_alloc ?_ _)); exact BK274.out⟩, ⟨by (with_reducible repeat (first | refine blk_drewN ?_ _ | refine blk_drew ?_ | refine blk_alloc ?_ _)); exact BK275.out⟩, ⟨by repeat (first | (with_reducible first | exact HB.out | apply below_alloc | apply pw_below_drewN | apply below_drew1 | refine below_set ?_ GE274.out | refine below_set ?_ GE275.out) | exact HB.out)⟩⟩
                          · rw [if_neg c49] at H
                            exact absurd H (by simp)
                        · rw [if_neg c48] at H
                          exact absurd H (by simp)
                      · replace c47 := Bool.eq_false_iff.mpr c47
                        subst c47
                        have H1 : (spec_RecordOk.j3 k3 (l1_0.length : Int) x6_3 true a0_0 l0_1 l1_0 l1_1) = some r := by rw [if_neg (show ¬ (false = true) by decide)] at H; exact H
                        clear H
                        have H := H1
                        clear H1
                        have H' := Aside0.mk H
                        clear H
                        try go_wp2
                        have n0_ := Aside0.mk (blk_drew BK274.out)
                        have n1_ := Aside0.mk (blk_drew BK275.out)
                        have n2_ := Aside0.mk (below_drew1 HB.out)
                        clear BK274
                        clear BK275
                        clear HB
                        have BK274 := n0_
                        have BK275 := n1_
                        have HB := n2_
                        clear n0_ n1_ n2_
                        have p284 : 0 ≤ ((ji41) : Int) := of_decide_eq_true (by first | (with_reducible assumption) | assumption)
                        have q284 : (ji41) < (l1_0.length : Int) := of_decide_eq_true (by first | (with_reducible assumption) | assumption)
                        obtain ⟨ad284, e284, hx284_0⟩ := Kd.at_int HR1_0.out (ji41) p284 q284
                        have hw284_0 := hx284_0
                        cases e284
                        replace hx284_0 := (HB.out.cell (World.block_lt_of_cell? w _ hx284_0)).trans hx284_0
                        replace p284 := eq_true p284
                        replace q284 := eq_true q284
                        have p285 : 0 ≤ (x6_3 : Int) := of_decide_eq_true (by first | (with_reducible assumption) | assumption)
                        have q285 : x6_3 < (l1_0.length : Int) := of_decide_eq_true (by first | (with_reducible assumption) | assumption)
                        obtain ⟨ad285, e285, hx285_0⟩ := Kd.at_int HR1_0.out x6_3 p285 q285
                        have hw285_0 := hx285_0
                        obtain rfl : ad284 = ad285 := (by injection e285)
                        replace hx285_0 := (HB.out.cell (World.block_lt_of_cell? w _ hx285_0)).trans hx285_0
                        replace p285 := eq_true p285
                        replace q285 := eq_true q285
                        refine start_ (n := 30) (S := fun w' => w'.cell? ⟨gb274, 0, none⟩ = some (.int .i64 a0_0) ∧ w'.cell? ⟨gb274, 1, none⟩ = some (.slice A0_1 l0_1.length c0_1) ∧ w'.cell? ⟨gb275, 0, none⟩ = some (.slice (some ad284) l1_0.length c1_0) ∧ w'.cell? ⟨gb275, 1, none⟩ = some (.slice A1_1 l1_1.length c1_1) ∧ w'.cell? (ad284.add ((ji41)).toNat) = some (.int .i64 (rd l1_0 (ji41))) ∧ w'.cell? (ad284.add (x6_3).toNat) = some (.int .i64 (rd l1_0 x6_3))) (ds := []) b52_ (by kernel_rfl) rfl rfl ⟨(blk_cell BK274.out 0).trans rfl, (blk_cell BK274.out 1).trans rfl, (blk_cell BK275.out 0).trans rfl, (blk_cell BK275.out 1).trans rfl, ((HB.out.cell (World.block_lt_of_cell? w _ hw284_0)).trans hw284_0), ((HB.out.cell (World.block_lt_of_cell? w _ hw285_0)).trans hw285_0)⟩ (fun hHeld => ?_); refine with_tabW spec_RecordOk.tab9 spec_RecordOk.bits9 (fun HT_ HW_ => ?_)
                        generalize wr.drew = w54 at BK274 BK275 HB hx284_0 hx285_0 hHeld ⊢
                        refine pure_ (i := 1) (N := some 62) (v := ?_) (a' := ?_) b53_ rfl rfl (any_of HT_.out (by kernel_rfl)) (fun _ _ _ h => h) (Or.inl ⟨by rfl, ?_⟩) ?_ ?_
                        rotate_left; (· intro w'; go_simp; with_reducible rfl); rotate_left; (· simp only [Act.put, sA_, sB_, sC_, i64_w, i32_w]; rfl)
                        refine pure_ (i := 3) (N := some 64) (v := ?_) (a' := ?_) b54_ rfl rfl (any_of HT_.out (by kernel_rfl)) (fun _ _ _ h => h) (Or.inl ⟨by rfl, ?_⟩) ?_ ?_
                        rotate_left; (· intro w'; go_simp; with_reducible rfl); rotate_left; (· simp only [Act.put, sA_, sB_, sC_, i64_w, i32_w]; rfl)
                        refine pure_ (i := 4) (N := some 65) (v := ?_) (a' := ?_) b55_ rfl rfl (any_of HT_.out (by kernel_rfl)) (fun _ _ _ h => h) (Or.inl ⟨by rfl, ?_⟩) ?_ ?_
                        rotate_left; (· intro w'; go_simp; with_reducible rfl); rotate_left; (· simp only [Act.put, sA_, sB_, sC_, i64_w, i32_w]; rfl)
                        refine pure_ (i := 7) (N := some 68) (v := ?_) (a' := ?_) b56_ rfl rfl (any_of HT_.out (by kernel_rfl)) (fun _ _ _ h => h) (Or.inl ⟨by rfl, ?_⟩) ?_ ?_
                        rotate_left; (· intro w'; go_simp; with_reducible rfl); rotate_left; (· simp only [Act.put, sA_, sB_, sC_, i64_w, i32_w]; rfl)
                        refine pure_ (i := 9) (N := some 70) (v := ?_) (a' := ?_) b57_ rfl rfl (any_of HT_.out (by kernel_rfl)) (fun _ _ _ h => h) (Or.inl ⟨by rfl, ?_⟩) ?_ ?_
                        rotate_left; (· intro w'; go_simp; with_reducible rfl); rotate_left; (· simp only [Act.put, sA_, sB_, sC_, i64_w, i32_w]; rfl)
                        refine take_ (i := 0) (N := some 61) (v := ?_) (a' := ?_) b58_ rfl rfl (take_ofW HT_.out HW_.out (by kernel_rfl)) (fun _ _ _ h => h) (Or.inl ⟨by rfl, ?_⟩) hHeld ?_ ?_
                        rotate_left; (· rintro w' ⟨s0, s1, s2, s3, s4, s5⟩; go_simp; with_reducible rfl); rotate_left; (· simp only [Act.put, sA_, sB_, sC_, i64_w, i32_w]; rfl)
                        refine take_ (i := 2) (N := some 63) (v := ?_) (a' := ?_) b59_ rfl rfl (take_ofW HT_.out HW_.out (by kernel_rfl)) (fun _ _ _ h => h) (Or.inl ⟨by rfl, ?_⟩) hHeld ?_ ?_
                        rotate_left; (· rintro w' ⟨s0, s1, s2, s3, s4, s5⟩; go_simp; with_reducible rfl); rotate_left; (· simp only [Act.put, sA_, sB_, sC_, i64_w, i32_w]; rfl)
                        refine pure_ (i := 5) (N := some 66) (v := ?_) (a' := ?_) b60_ rfl rfl (any_of HT_.out (by kernel_rfl)) (fun _ _ _ h => h) (Or.inl ⟨by rfl, ?_⟩) ?_ ?_
                        rotate_left; (· intro w'; go_simp; with_reducible rfl); rotate_left; (· simp only [Act.put, sA_, sB_, sC_, i64_w, i32_w]; rfl)
                        refine take_ (i := 6) (N := some 67) (v := ?_) (a' := ?_) b61_ rfl rfl (take_ofW HT_.out HW_.out (by kernel_rfl)) (fun _ _ _ h => h) (Or.inl ⟨by rfl, ?_⟩) hHeld ?_ ?_
                        rotate_left; (· rintro w' ⟨s0, s1, s2, s3, s4, s5⟩; go_simp; with_reducible rfl); rotate_left; (· simp only [Act.put, sA_, sB_, sC_, i64_w, i32_w]; rfl)
                        refine take_ (i := 8) (N := some 69) (v := ?_) (a' := ?_) b62_ rfl rfl (take_ofW HT_.out HW_.out (by kernel_rfl)) (fun _ _ _ h => h) (Or.inl ⟨by rfl, ?_⟩) hHeld ?_ ?_
                        rotate_left; (· rintro w' ⟨s0, s1, s2, s3, s4, s5⟩; go_simp; with_reducible rfl); rotate_left; (· simp only [Act.put, sA_, sB_, sC_, i64_w, i32_w]; rfl)
                        refine pure_ (i := 10) (N := some 71) (v := ?_) (a' := ?_) b63_ rfl rfl (any_of HT_.out (by kernel_rfl)) (fun _ _ _ h => h) (Or.inl ⟨by rfl, ?_⟩) ?_ ?_
                        rotate_left; (· intro w'; go_simp; with_reducible rfl); rotate_left; (· simp only [Act.put, sA_, sB_, sC_, i64_w, i32_w]; rfl)
                        refine take_ (i := 11) (N := some 72) (v := ?_) (a' := ?_) b64_ rfl rfl (take_ofW HT_.out HW_.out (by kernel_rfl)) (fun _ _ _ h => h) (Or.inl ⟨by rfl, ?_⟩) hHeld ?_ ?_
                        rotate_left; (· rintro w' ⟨s0, s1, s2, s3, s4, s5⟩; go_simp; with_reducible rfl); rotate_left; (· simp only [Act.put, sA_, sB_, sC_, i64_w, i32_w]; rfl)
                        refine one_ (i := 12) (N := some 73) b65_ rfl rfl (one_of HT_.out (by kernel_rfl)) (by decide) (fun K hK => ?_)
                        refine goes_ Try.func75 (by kernel_rfl) rfl #[.agg #[.int .i64 a0_0, .slice A0_1 l0_1.length c0_1], .int .i64 (rd l1_0 (ji41)), .int .i64 (rd l1_0 x6_3)] (by rfl) rfl rfl (by (try simp only [List.map_toArray, List.map_cons, List.map_nil]); first | done | (simp only [hji41]; rfl) | rfl | (simp only [List.length_drop, List.length_take]; rfl)) ?_
                        with_reducible refine (spec_l07Step.calls a0_0 _ _ l0_1 (rd l1_0 (ji41)) (rd l1_0 x6_3) false _ ?side1 ?side2 A46.out).mono ?_
                        (case side1 => repeat (first | exact (Kd.C_below HR0_1.out HB.out) | (with_reducible refine Kd.C_alloc ?_ _) | (with_reducible refine Kd.C_drewN ?_ _) | (with_reducible refine Kd.C_drew ?_)))
                        (case side2 => exact HC0_1.out)
                        rintro e w55 ⟨rfl, hb⟩
                        refine ⟨_, rfl, ?_⟩
                        have n0_ := Aside0.mk (blk_below (g := gb274) (o := .cells #[.int .i64 a0_0, .slice A0_1 l0_1.length c0_1] 27 (0, 0)) (by (with_reducible repeat (first | refine blk_drewN ?_ _ | refine blk_drew ?_ | refine blk_alloc ?_ _)); exact BK274.out) hb)
                        have n1_ := Aside0.mk (blk_below (g := gb275) (o := .cells #[.slice (some ad284) l1_0.length c1_0, .slice A1_1 l1_1.length c1_1] 42 (0, 0)) (by (with_reducible repeat (first | refine blk_drewN ?_ _ | refine blk_drew ?_ | refine blk_alloc ?_ _)); exact BK275.out) hb)
                        have n2_ := Aside0.mk (below_step (by repeat (first | (with_reducible first | exact HB.out | apply below_alloc | apply pw_below_drewN | apply below_drew1 | refine below_set ?_ GE274.out | refine below_set ?_ GE275.out) | exact HB.out)) hb)
                        clear BK274
                        clear BK275
                        clear HB
                        have BK274 := n0_
                        have BK275 := n1_
                        have HB := n2_
                        clear n0_ n1_ n2_
                        (try clear hb)
                        (try clear hb2)
                        (try clear hk)
                        (try clear hi)
                        refine hK.out _ _ ⟨(blk_cell BK274.out 0).trans rfl, (blk_cell BK274.out 1).trans rfl, (blk_cell BK275.out 0).trans rfl, (blk_cell BK275.out 1).trans rfl, ((HB.out.cell (World.block_lt_of_cell? w _ hw284_0)).trans hw284_0), ((HB.out.cell (World.block_lt_of_cell? w _ hw285_0)).trans hw285_0)⟩ (fun hHeld => ?_)
                        clear hK K
                        refine norm_ (a' := ?_) ?_ ?_
                        rotate_left
                        · show Act.put _ (some 73) _ = _
                          simp only [Act.put, sA_, sB_, sC_, i64_w, i32_w]
                          rfl
                        refine pure_ (i := 13) (N := some 74) (v := ?_) (a' := ?_) b66_ rfl rfl (any_of HT_.out (by kernel_rfl)) (fun _ _ _ h => h) (Or.inl ⟨by rfl, ?_⟩) ?_ ?_
                        rotate_left; (· intro w'; go_simp; with_reducible rfl); rotate_left; (· simp only [Act.put, sA_, sB_, sC_, i64_w, i32_w]; rfl)
                        refine pure_ (i := 14) (N := some 75) (v := ?_) (a' := ?_) b67_ rfl rfl (any_of HT_.out (by kernel_rfl)) (fun _ _ _ h => h) (Or.inl ⟨by rfl, ?_⟩) ?_ ?_
                        rotate_left; (· intro w'; go_simp; with_reducible rfl); rotate_left; (· simp only [Act.put, sA_, sB_, sC_, i64_w, i32_w]; rfl)
                        refine pure_ (i := 15) (N := some 76) (v := undef) (a' := ?_) b83_ rfl rfl (any_of HT_.out (by kernel_rfl)) (fun _ _ _ h => h) (Or.inr ⟨by rfl, rfl⟩) ?_ ?_
                        rotate_left; (· simp only [Act.put, sA_, sB_, sC_, i64_w, i32_w]; rfl)
                        refine pure_ (i := 16) (N := some 77) (v := undef) (a' := ?_) b84_ rfl rfl (any_of HT_.out (by kernel_rfl)) (fun _ _ _ h => h) (Or.inr ⟨by rfl, rfl⟩) ?_ ?_
                        rotate_left; (· simp only [Act.put, sA_, sB_, sC_, i64_w, i32_w]; rfl)
                        refine pure_ (i := 17) (N := some 78) (v := undef) (a' := ?_) b85_ rfl rfl (any_of HT_.out (by kernel_rfl)) (fun _ _ _ h => h) (Or.inr ⟨by rfl, rfl⟩) ?_ ?_
                        rotate_left; (· simp only [Act.put, sA_, sB_, sC_, i64_w, i32_w]; rfl)
                        refine pure_ (i := 18) (N := some 79) (v := undef) (a' := ?_) b86_ rfl rfl (any_of HT_.out (by kernel_rfl)) (fun _ _ _ h => h) (Or.inr ⟨by rfl, rfl⟩) ?_ ?_
                        rotate_left; (· simp only [Act.put, sA_, sB_, sC_, i64_w, i32_w]; rfl)
                        refine pure_ (i := 19) (N := some 80) (v := undef) (a' := ?_) b87_ rfl rfl (any_of HT_.out (by kernel_rfl)) (fun _ _ _ h => h) (Or.inr ⟨by rfl, rfl⟩) ?_ ?_
                        rotate_left; (· simp only [Act.put, sA_, sB_, sC_, i64_w, i32_w]; rfl)
                        refine pure_ (i := 20) (N := some 81) (v := undef) (a' := ?_) b88_ rfl rfl (any_of HT_.out (by kernel_rfl)) (fun _ _ _ h => h) (Or.inr ⟨by rfl, rfl⟩) ?_ ?_
                        rotate_left; (· simp only [Act.put, sA_, sB_, sC_, i64_w, i32_w]; rfl)
                        refine pure_ (i := 21) (N := some 82) (v := undef) (a' := ?_) b89_ rfl rfl (any_of HT_.out (by kernel_rfl)) (fun _ _ _ h => h) (Or.inr ⟨by rfl, rfl⟩) ?_ ?_
                        rotate_left; (· simp only [Act.put, sA_, sB_, sC_, i64_w, i32_w]; rfl)
                        refine pure_ (i := 22) (N := some 83) (v := undef) (a' := ?_) b90_ rfl rfl (any_of HT_.out (by kernel_rfl)) (fun _ _ _ h => h) (Or.inr ⟨by rfl, rfl⟩) ?_ ?_
                        rotate_left; (· simp only [Act.put, sA_, sB_, sC_, i64_w, i32_w]; rfl)
                        refine pure_ (i := 23) (N := some 84) (v := undef) (a' := ?_) b91_ rfl rfl (any_of HT_.out (by kernel_rfl)) (fun _ _ _ h => h) (Or.inr ⟨by rfl, rfl⟩) ?_ ?_
                        rotate_left; (· simp only [Act.put, sA_, sB_, sC_, i64_w, i32_w]; rfl)
                        refine pure_ (i := 24) (N := some 85) (v := undef) (a' := ?_) b77_ rfl rfl (any_of HT_.out (by kernel_rfl)) (fun _ _ _ h => h) (Or.inr ⟨by rfl, rfl⟩) ?_ ?_
                        rotate_left; (· simp only [Act.put, sA_, sB_, sC_, i64_w, i32_w]; rfl)
                        refine pure_ (i := 25) (N := some 86) (v := undef) (a' := ?_) b78_ rfl rfl (any_of HT_.out (by kernel_rfl)) (fun _ _ _ h => h) (Or.inr ⟨by rfl, rfl⟩) ?_ ?_
                        rotate_left; (· simp only [Act.put, sA_, sB_, sC_, i64_w, i32_w]; rfl)
                        refine pure_ (i := 26) (N := some 87) (v := undef) (a' := ?_) b79_ rfl rfl (any_of HT_.out (by kernel_rfl)) (fun _ _ _ h => h) (Or.inr ⟨by rfl, rfl⟩) ?_ ?_
                        rotate_left; (· simp only [Act.put, sA_, sB_, sC_, i64_w, i32_w]; rfl)
                        refine pure_ (i := 27) (N := some 88) (v := undef) (a' := ?_) b80_ rfl rfl (any_of HT_.out (by kernel_rfl)) (fun _ _ _ h => h) (Or.inr ⟨by rfl, rfl⟩) ?_ ?_
                        rotate_left; (· simp only [Act.put, sA_, sB_, sC_, i64_w, i32_w]; rfl)
                        refine pure_ (i := 28) (N := some 89) (v := undef) (a' := ?_) b81_ rfl rfl (any_of HT_.out (by kernel_rfl)) (fun _ _ _ h => h) (Or.inr ⟨by rfl, rfl⟩) ?_ ?_
                        rotate_left; (· simp only [Act.put, sA_, sB_, sC_, i64_w, i32_w]; rfl)
                        refine pure_ (i := 29) (N := some 90) (v := ?_) (a' := ?_) b82_ rfl rfl (any_of HT_.out (by kernel_rfl)) (fun _ _ _ h => h) (Or.inl ⟨by rfl, ?_⟩) ?_ ?_
                        rotate_left; (· intro w'; go_simp; with_reducible rfl); rotate_left; (· simp only [Act.put, sA_, sB_, sC_, i64_w, i32_w]; rfl)
                        refine done_ (done_of HT_.out (by kernel_rfl)) ?_
                        try go_wp2
                        go_meet
                        case rel => exact ⟨_, (true), (by first | rfl | (simp; done) | (simp [*]; done)), H', ⟨by have := HJ2.out; have := HJ31.out; have := HK3.out; first | omega | exact Nat.le_refl _⟩, ⟨by (with_reducible repeat (first | refine blk_drewN ?_ _ | refine blk_drew ?_ | refine blk_alloc ?_ _)); exact BK274.out⟩, ⟨by (with_reducible repeat (first | refine blk_drewN ?_ _ | refine blk_drew ?_ | refine blk_alloc ?_ _)); exact BK275.out⟩, ⟨by repeat (first | (with_reducible first | exact HB.out | apply below_alloc | apply pw_below_drewN | apply below_drew1 | refine below_set ?_ GE274.out | refine below_set ?_ GE275.out) | exact HB.out)⟩⟩
                    · rw [if_neg c45] at H
                      exact absurd H (by simp)
                  · rw [if_neg c44] at H
                    exact absurd H (by simp)
                · rw [if_neg c43] at H
                  exact absurd H (by simp)
              · rw [if_neg c42] at H
                exact absurd H (by simp)
             case rest =>
              clear HC40
              try clear c1
              try clear p2
              try clear q2
              try clear hx2
              try clear c4
              try clear c7
              try clear p28
              try clear q28
              try clear hx28
              try clear c42
              try clear c43
              try clear c44
              try clear c45
              try clear c47
              try clear c48
              try clear c49
              try clear c49b0
              try clear hx284_0
              try clear hx285_0
              try clear hx287_0
              try clear hx288_0
              try clear p284
              try clear p285
              try clear p287
              try clear p288
              try clear q284
              try clear q285
              try clear q287
              try clear q288
              obtain ⟨kq, x90_39, rfl, HA, HJ39, BK274, BK275, HB⟩ := hcut
              cases kq with
              | zero => exact absurd HA.out (by simp [spec_RecordOk.j3])
              | succ kj39 =>
               have H := HA.out
               clear HA
               simp only [spec_RecordOk.j3] at H
               by_cases c56 : x90_39 = true
               · subst c56
                 have H1 : (some false) = some r := by rw [if_pos rfl] at H; exact H
                 clear H
                 have H := H1
                 clear H1
                 obtain rfl := Option.some.inj H
                 go_wp2
                 go_ret
                 exact ⟨by first | rfl | (simp [errW_none, errW_some] <;> rfl) | (simp [*, errW_none, errW_some] <;> rfl), by repeat (first | (with_reducible first | exact HB.out | apply below_alloc | apply pw_below_drewN | apply below_drew1 | refine below_set ?_ GE274.out | refine below_set ?_ GE275.out) | exact HB.out)⟩
               · replace c56 := Bool.eq_false_iff.mpr c56
                 subst c56
                 have H1 : (if 0 ≤ x6_3 then (if x6_3 < (l1_0.length : Int) then (if 0 ≤ (wrap64 (x6_3 - 1)) then (if (wrap64 (x6_3 - 1)) < (l1_1.length : Int) then (if (rd l1_0 x6_3) = (rd l1_1 (wrap64 (x6_3 - 1))) then (if x6_3 < (l1_1.length : Int) then (if (rd l1_1 x6_3) = (rd l1_1 (wrap64 (x6_3 - 1))) then (spec_RecordOk.j4 kj39 (l1_0.length : Int) x6_3 (decide (x6_3 < (wrap64 ((l1_0.length : Int) - 1)))) a0_0 l0_1 l1_0 l1_1) else (spec_RecordOk.j4 kj39 (l1_0.length : Int) x6_3 true a0_0 l0_1 l1_0 l1_1)) else (none)) else (spec_RecordOk.j4 kj39 (l1_0.length : Int) x6_3 false a0_0 l0_1 l1_0 l1_1)) else (none)) else (none)) else (none)) else (none)) = some r := by rw [if_neg (show ¬ (false = true) by decide)] at H; exact H
                 clear H
                 have H := H1
                 clear H1
                 have HC57 := Aside0.mk H
                 clear H
                 go_upto_region 11 with (fail)
                 go_cut [122] (fun v122 wc => ∃ (kq : Nat) (x122_56 : Bool), v122 = .bool x122_56 ∧ Aside0 (spec_RecordOk.j4 kq (l1_0.length : Int) x6_3 x122_56 a0_0 l0_1 l1_0 l1_1 = some r) ∧ Aside0 (kq ≤ kj39) ∧ Aside0 (wc.heap[gb274]? = some (.cells #[.int .i64 a0_0, (.slice A0_1 l0_1.length c0_1)] 27 (0, 0))) ∧ Aside0 (wc.heap[gb275]? = some (.cells #[(.slice A1_0 l1_0.length c1_0), (.slice A1_1 l1_1.length c1_1)] 42 (0, 0))) ∧ Aside0 (Below w.heap.size w wc))
                 case first =>
                  have H := HC57.out
                  clear HC57
                  by_cases c58 : 0 ≤ x6_3
                  · rw [if_pos c58] at H
                    have c58b0 : decide (0 ≤ x6_3) = true := decide_eq_true c58
                    clear c58
                    (first | rw [c58b0] | (simp only [i64_w, i32_w]; rw [c58b0]) | skip)
                    by_cases c59 : x6_3 < (l1_0.length : Int)
                    · rw [if_pos c59] at H
                      have c59b0 : decide (x6_3 < (l1_0.length : Int)) = true := decide_eq_true c59
                      clear c59
                      obtain ⟨ji60, hji60⟩ : ∃ j_ : Int, (wrap64 (x6_3 - 1)) = j_ := ⟨_, rfl⟩
                      replace H : (if 0 ≤ (ji60) then (if (ji60) < (l1_1.length : Int) then (if (rd l1_0 x6_3) = (rd l1_1 (ji60)) then (if x6_3 < (l1_1.length : Int) then (if (rd l1_1 x6_3) = (rd l1_1 (ji60)) then (spec_RecordOk.j4 kj39 (l1_0.length : Int) x6_3 (decide (x6_3 < (wrap64 ((l1_0.length : Int) - 1)))) a0_0 l0_1 l1_0 l1_1) else (spec_RecordOk.j4 kj39 (l1_0.length : Int) x6_3 true a0_0 l0_1 l1_0 l1_1)) else (none)) else (spec_RecordOk.j4 kj39 (l1_0.length : Int) x6_3 false a0_0 l0_1 l1_0 l1_1)) else (none)) else (none)) = some r := by first | (rw [hji60] at H; exact H) | (simp only [hji60] at H ⊢; exact H)
                      have hji60w : (IntKind.i64.wrap (x6_3 - 1)) = ji60 := (i64_w _).trans hji60
                      by_cases c61 : 0 ≤ (ji60)
                      · rw [if_pos c61] at H
                        have c61b0 : decide (0 ≤ (ji60)) = true := decide_eq_true c61
                        clear c61
                        by_cases c62 : (ji60) < (l1_1.length : Int)
                        · rw [if_pos c62] at H
                          have c62b0 : decide ((ji60) < (l1_1.length : Int)) = true := decide_eq_true c62
                          clear c62
                          by_cases c63 : (rd l1_0 x6_3) = (rd l1_1 (ji60))
                          · rw [if_pos c63] at H
                            have c63b0 : ((rd l1_0 x6_3) == (rd l1_1 (ji60))) = true := beq_iff_eq.mpr c63
                            have c63b1 : ((rd l1_0 x6_3) != (rd l1_1 (ji60))) = false := bne_eq_false_iff_eq.mpr c63
                            clear c63
                            by_cases c64 : x6_3 < (l1_1.length : Int)
                            · rw [if_pos c64] at H
                              have c64b0 : decide (x6_3 < (l1_1.length : Int)) = true := decide_eq_true c64
                              clear c64
                              by_cases c65 : (rd l1_1 x6_3) = (rd l1_1 (ji60))
                              · rw [if_pos c65] at H
                                have c65b0 : ((rd l1_1 x6_3) == (rd l1_1 (ji60))) = true := beq_iff_eq.mpr c65
                                have c65b1 : ((rd l1_1 x6_3) != (rd l1_1 (ji60))) = false := bne_eq_false_iff_eq.mpr c65
                                clear c65
                                have H' := Aside0.mk H
                                clear H
                                try go_wp2
                                have n0_ := Aside0.mk (blk_drew BK274.out)
                                have n1_ := Aside0.mk (blk_drew BK275.out)
                                have n2_ := Aside0.mk (below_drew1 HB.out)
                                clear BK274
                                clear BK275
                                clear HB
                                have BK274 := n0_
                                have BK275 := n1_
                                have HB := n2_
                                clear n0_ n1_ n2_
                                have p290 : 0 ≤ (x6_3 : Int) := of_decide_eq_true (by first | (with_reducible assumption) | assumption)
                                have q290 : x6_3 < (l1_0.length : Int) := of_decide_eq_true (by first | (with_reducible assumption) | assumption)
                                obtain ⟨ad290, e290, hx290_0⟩ := Kd.at_int HR1_0.out x6_3 p290 q290
                                have hw290_0 := hx290_0
                                cases e290
                                replace hx290_0 := (HB.out.cell (World.block_lt_of_cell? w _ hx290_0)).trans hx290_0
                                replace p290 := eq_true p290
                                replace q290 := eq_true q290
                                have p291 : 0 ≤ ((ji60) : Int) := of_decide_eq_true (by first | (with_reducible assumption) | assumption)
                                have q291 : (ji60) < (l1_1.length : Int) := of_decide_eq_true (by first | (with_reducible assumption) | assumption)
                                obtain ⟨ad291, e291, hx291_0⟩ := Kd.at_int HR1_1.out (ji60) p291 q291
                                have hw291_0 := hx291_0
                                cases e291
                                replace hx291_0 := (HB.out.cell (World.block_lt_of_cell? w _ hx291_0)).trans hx291_0
                                replace p291 := eq_true p291
                                replace q291 := eq_true q291
                                have p292 : 0 ≤ (x6_3 : Int) := of_decide_eq_true (by first | (with_reducible assumption) | assumption)
                                have q292 : x6_3 < (l1_1.length : Int) := of_decide_eq_true (by first | (with_reducible assumption) | assumption)
                                obtain ⟨ad292, e292, hx292_0⟩ := Kd.at_int HR1_1.out x6_3 p292 q292
                                have hw292_0 := hx292_0
                                obtain rfl : ad291 = ad292 := (by injection e292)
                                replace hx292_0 := (HB.out.cell (World.block_lt_of_cell? w _ hx292_0)).trans hx292_0
                                replace p292 := eq_true p292
                                replace q292 := eq_true q292
                                have p293 : 0 ≤ ((ji60) : Int) := of_decide_eq_true (by first | (with_reducible assumption) | assumption)
                                have q293 : (ji60) < (l1_1.length : Int) := of_decide_eq_true (by first | (with_reducible assumption) | assumption)
                                obtain ⟨ad293, e293, hx293_0⟩ := Kd.at_int HR1_1.out (ji60) p293 q293
                                have hw293_0 := hx293_0
                                obtain rfl : ad291 = ad293 := (by injection e293)
                                replace hx293_0 := (HB.out.cell (World.block_lt_of_cell? w _ hx293_0)).trans hx293_0
                                replace p293 := eq_true p293
                                replace q293 := eq_true q293
                                refine start_ (n := 32) (S := fun w' => w'.cell? ⟨gb275, 0, none⟩ = some (.slice (some ad290) l1_0.length c1_0) ∧ w'.cell? ⟨gb275, 1, none⟩ = some (.slice (some ad291) l1_1.length c1_1) ∧ w'.cell? (ad290.add (x6_3).toNat) = some (.int .i64 (rd l1_0 x6_3)) ∧ w'.cell? (ad291.add ((ji60)).toNat) = some (.int .i64 (rd l1_1 (ji60))) ∧ w'.cell? (ad291.add (x6_3).toNat) = some (.int .i64 (rd l1_1 x6_3)) ∧ w'.cell? (ad291.add ((ji60)).toNat) = some (.int .i64 (rd l1_1 (ji60)))) (ds := []) b92_ (by kernel_rfl) rfl rfl ⟨(blk_cell BK275.out 0).trans rfl, (blk_cell BK275.out 1).trans rfl, ((HB.out.cell (World.block_lt_of_cell? w _ hw290_0)).trans hw290_0), ((HB.out.cell (World.block_lt_of_cell? w _ hw291_0)).trans hw291_0), ((HB.out.cell (World.block_lt_of_cell? w _ hw292_0)).trans hw292_0), ((HB.out.cell (World.block_lt_of_cell? w _ hw293_0)).trans hw293_0)⟩ (fun hHeld => ?_); refine with_tabW spec_RecordOk.tab11 spec_RecordOk.bits11 (fun HT_ HW_ => ?_)
                                generalize wc.drew = w66 at BK274 BK275 HB hx290_0 hx291_0 hx292_0 hx293_0 hHeld ⊢
                                refine pure_ (i := 0) (N := some 91) (v := ?_) (a' := ?_) b93_ rfl rfl (any_of HT_.out (by kernel_rfl)) (fun _ _ _ h => h) (Or.inl ⟨by rfl, ?_⟩) ?_ ?_
                                rotate_left; (· intro w'; go_simp; with_reducible rfl); rotate_left; (· simp only [Act.put, sA_, sB_, sC_, i64_w, i32_w]; rfl)
                                refine pure_ (i := 2) (N := some 93) (v := ?_) (a' := ?_) b94_ rfl rfl (any_of HT_.out (by kernel_rfl)) (fun _ _ _ h => h) (Or.inl ⟨by rfl, ?_⟩) ?_ ?_
                                rotate_left; (· intro w'; go_simp; with_reducible rfl); rotate_left; (· simp only [Act.put, sA_, sB_, sC_, i64_w, i32_w]; rfl)
                                refine pure_ (i := 5) (N := some 96) (v := ?_) (a' := ?_) b95_ rfl rfl (any_of HT_.out (by kernel_rfl)) (fun _ _ _ h => h) (Or.inl ⟨by rfl, ?_⟩) ?_ ?_
                                rotate_left; (· intro w'; go_simp; with_reducible rfl); rotate_left; (· simp only [Act.put, sA_, sB_, sC_, i64_w, i32_w]; rfl)
                                refine pure_ (i := 7) (N := some 98) (v := ?_) (a' := ?_) b96_ rfl rfl (any_of HT_.out (by kernel_rfl)) (fun _ _ _ h => h) (Or.inl ⟨by rfl, ?_⟩) ?_ ?_
                                rotate_left; (· intro w'; go_simp; with_reducible rfl); rotate_left; (· simp only [Act.put, sA_, sB_, sC_, i64_w, i32_w]; rfl)
                                refine pure_ (i := 8) (N := some 99) (v := ?_) (a' := ?_) b97_ rfl rfl (any_of HT_.out (by kernel_rfl)) (fun _ _ _ h => h) (Or.inl ⟨by rfl, ?_⟩) ?_ ?_
                                rotate_left; (· intro w'; go_simp; with_reducible rfl); rotate_left; (· simp only [Act.put, sA_, sB_, sC_, i64_w, i32_w]; rfl)
                                refine take_ (i := 1) (N := some 92) (v := ?_) (a' := ?_) b98_ rfl rfl (take_ofW HT_.out HW_.out (by kernel_rfl)) (fun _ _ _ h => h) (Or.inl ⟨by rfl, ?_⟩) hHeld ?_ ?_
                                rotate_left; (· rintro w' ⟨s0, s1, s2, s3, s4, s5⟩; go_simp; with_reducible rfl); rotate_left; (· simp only [Act.put, sA_, sB_, sC_, i64_w, i32_w]; rfl)
                                refine pure_ (i := 3) (N := some 94) (v := ?_) (a' := ?_) b99_ rfl rfl (any_of HT_.out (by kernel_rfl)) (fun _ _ _ h => h) (Or.inl ⟨by rfl, ?_⟩) ?_ ?_
                                rotate_left; (· intro w'; go_simp; with_reducible rfl); rotate_left; (· simp only [Act.put, sA_, sB_, sC_, i64_w, i32_w]; rfl)
                                refine take_ (i := 4) (N := some 95) (v := ?_) (a' := ?_) b100_ rfl rfl (take_ofW HT_.out HW_.out (by kernel_rfl)) (fun _ _ _ h => h) (Or.inl ⟨by rfl, ?_⟩) hHeld ?_ ?_
                                rotate_left; (· rintro w' ⟨s0, s1, s2, s3, s4, s5⟩; go_simp; with_reducible rfl); rotate_left; (· simp only [Act.put, sA_, sB_, sC_, i64_w, i32_w]; rfl)
                                refine take_ (i := 6) (N := some 97) (v := ?_) (a' := ?_) b101_ rfl rfl (take_ofW HT_.out HW_.out (by kernel_rfl)) (fun _ _ _ h => h) (Or.inl ⟨by rfl, ?_⟩) hHeld ?_ ?_
                                rotate_left; (· rintro w' ⟨s0, s1, s2, s3, s4, s5⟩; go_simp; with_reducible rfl); rotate_left; (· simp only [Act.put, sA_, sB_, sC_, i64_w, i32_w]; rfl)
                                refine pure_ (i := 9) (N := some 100) (v := ?_) (a' := ?_) b102_ rfl rfl (any_of HT_.out (by kernel_rfl)) (fun _ _ _ h => h) (Or.inl ⟨by rfl, ?_⟩) ?_ ?_
                                rotate_left; (· intro w'; go_simp; with_reducible rfl); rotate_left; (· simp only [Act.put, sA_, sB_, sC_, i64_w, i32_w]; rfl)
                                refine take_ (i := 10) (N := some 101) (v := ?_) (a' := ?_) b103_ rfl rfl (take_ofW HT_.out HW_.out (by kernel_rfl)) (fun _ _ _ h => h) (Or.inl ⟨by rfl, ?_⟩) hHeld ?_ ?_
                                rotate_left; (· rintro w' ⟨s0, s1, s2, s3, s4, s5⟩; go_simp; with_reducible rfl); rotate_left; (· simp only [Act.put, sA_, sB_, sC_, i64_w, i32_w]; rfl)
                                refine pure_ (i := 11) (N := some 102) (v := ?_) (a' := ?_) b104_ rfl rfl (any_of HT_.out (by kernel_rfl)) (fun _ _ _ h => h) (Or.inl ⟨by rfl, ?_⟩) ?_ ?_
                                rotate_left; (· intro w'; go_simp; with_reducible rfl); rotate_left; (· simp only [Act.put, sA_, sB_, sC_, i64_w, i32_w]; rfl)
                                refine pure_ (i := 12) (N := some 103) (v := ?_) (a' := ?_) b105_ rfl rfl (any_of HT_.out (by kernel_rfl)) (fun _ _ _ h => h) (Or.inl ⟨by rfl, ?_⟩) ?_ ?_
                                rotate_left; (· intro w'; go_simp; with_reducible rfl); rotate_left; (· simp only [Act.put, sA_, sB_, sC_, i64_w, i32_w]; rfl)
                                refine pure_ (i := 13) (N := some 104) (v := ?_) (a' := ?_) b106_ rfl rfl (any_of HT_.out (by kernel_rfl)) (fun _ _ _ h => h) (Or.inl ⟨by rfl, ?_⟩) ?_ ?_
                                rotate_left; (· intro w'; go_simp; with_reducible rfl); rotate_left; (· simp only [Act.put, sA_, sB_, sC_, i64_w, i32_w]; rfl)
                                refine pure_ (i := 15) (N := some 106) (v := ?_) (a' := ?_) b107_ rfl rfl (any_of HT_.out (by kernel_rfl)) (fun _ _ _ h => h) (Or.inl ⟨by rfl, ?_⟩) ?_ ?_
                                rotate_left; (· intro w'; go_simp; with_reducible rfl); rotate_left; (· simp only [Act.put, sA_, sB_, sC_, i64_w, i32_w]; rfl)
                                refine pure_ (i := 18) (N := some 109) (v := ?_) (a' := ?_) b108_ rfl rfl (any_of HT_.out (by kernel_rfl)) (fun _ _ _ h => h) (Or.inl ⟨by rfl, ?_⟩) ?_ ?_
                                rotate_left; (· intro w'; go_simp; with_reducible rfl); rotate_left; (· simp only [Act.put, sA_, sB_, sC_, i64_w, i32_w]; rfl)
                                refine pure_ (i := 20) (N := some 111) (v := ?_) (a' := ?_) b109_ rfl rfl (any_of HT_.out (by kernel_rfl)) (fun _ _ _ h => h) (Or.inl ⟨by rfl, ?_⟩) ?_ ?_
                                rotate_left; (· intro w'; go_simp; with_reducible rfl); rotate_left; (· simp only [Act.put, sA_, sB_, sC_, i64_w, i32_w]; rfl)
                                refine pure_ (i := 21) (N := some 112) (v := ?_) (a' := ?_) b110_ rfl rfl (any_of HT_.out (by kernel_rfl)) (fun _ _ _ h => h) (Or.inl ⟨by rfl, ?_⟩) ?_ ?_
                                rotate_left; (· intro w'; go_simp; with_reducible rfl); rotate_left; (· simp only [Act.put, sA_, sB_, sC_, i64_w, i32_w]; rfl)
                                refine take_ (i := 14) (N := some 105) (v := ?_) (a' := ?_) b111_ rfl rfl (take_ofW HT_.out HW_.out (by kernel_rfl)) (fun _ _ _ h => h) (Or.inl ⟨by rfl, ?_⟩) hHeld ?_ ?_
                                rotate_left; (· rintro w' ⟨s0, s1, s2, s3, s4, s5⟩; go_simp; with_reducible rfl); rotate_left; (· simp only [Act.put, sA_, sB_, sC_, i64_w, i32_w]; rfl)
                                refine pure_ (i := 16) (N := some 107) (v := ?_) (a' := ?_) b112_ rfl rfl (any_of HT_.out (by kernel_rfl)) (fun _ _ _ h => h) (Or.inl ⟨by rfl, ?_⟩) ?_ ?_
                                rotate_left; (· intro w'; go_simp; with_reducible rfl); rotate_left; (· simp only [Act.put, sA_, sB_, sC_, i64_w, i32_w]; rfl)
                                refine take_ (i := 17) (N := some 108) (v := ?_) (a' := ?_) b113_ rfl rfl (take_ofW HT_.out HW_.out (by kernel_rfl)) (fun _ _ _ h => h) (Or.inl ⟨by rfl, ?_⟩) hHeld ?_ ?_
                                rotate_left; (· rintro w' ⟨s0, s1, s2, s3, s4, s5⟩; go_simp; with_reducible rfl); rotate_left; (· simp only [Act.put, sA_, sB_, sC_, i64_w, i32_w]; rfl)
                                refine take_ (i := 19) (N := some 110) (v := ?_) (a' := ?_) b114_ rfl rfl (take_ofW HT_.out HW_.out (by kernel_rfl)) (fun _ _ _ h => h) (Or.inl ⟨by rfl, ?_⟩) hHeld ?_ ?_
                                rotate_left; (· rintro w' ⟨s0, s1, s2, s3, s4, s5⟩; go_simp; with_reducible rfl); rotate_left; (· simp only [Act.put, sA_, sB_, sC_, i64_w, i32_w]; rfl)
                                refine pure_ (i := 22) (N := some 113) (v := ?_) (a' := ?_) b115_ rfl rfl (any_of HT_.out (by kernel_rfl)) (fun _ _ _ h => h) (Or.inl ⟨by rfl, ?_⟩) ?_ ?_
                                rotate_left; (· intro w'; go_simp; with_reducible rfl); rotate_left; (· simp only [Act.put, sA_, sB_, sC_, i64_w, i32_w]; rfl)
                                refine take_ (i := 23) (N := some 114) (v := ?_) (a' := ?_) b116_ rfl rfl (take_ofW HT_.out HW_.out (by kernel_rfl)) (fun _ _ _ h => h) (Or.inl ⟨by rfl, ?_⟩) hHeld ?_ ?_
                                rotate_left; (· rintro w' ⟨s0, s1, s2, s3, s4, s5⟩; go_simp; with_reducible rfl); rotate_left; (· simp only [Act.put, sA_, sB_, sC_, i64_w, i32_w]; rfl)
                                refine pure_ (i := 24) (N := some 115) (v := ?_) (a' := ?_) b117_ rfl rfl (any_of HT_.out (by kernel_rfl)) (fun _ _ _ h => h) (Or.inl ⟨by rfl, ?_⟩) ?_ ?_
                                rotate_left; (· intro w'; go_simp; with_reducible rfl); rotate_left; (· simp only [Act.put, sA_, sB_, sC_, i64_w, i32_w]; rfl)
                                refine pure_ (i := 25) (N := some 116) (v := ?_) (a' := ?_) b118_ rfl rfl (any_of HT_.out (by kernel_rfl)) (fun _ _ _ h => h) (Or.inl ⟨by rfl, ?_⟩) ?_ ?_
                                rotate_left; (· intro w'; go_simp; with_reducible rfl); rotate_left; (· simp only [Act.put, sA_, sB_, sC_, i64_w, i32_w]; rfl)
                                refine pure_ (i := 26) (N := some 117) (v := ?_) (a' := ?_) b119_ rfl rfl (any_of HT_.out (by kernel_rfl)) (fun _ _ _ h => h) (Or.inl ⟨by rfl, ?_⟩) ?_ ?_
                                rotate_left; (· intro w'; go_simp; with_reducible rfl); rotate_left; (· simp only [Act.put, sA_, sB_, sC_, i64_w, i32_w]; rfl)
                                refine pure_ (i := 27) (N := some 118) (v := ?_) (a' := ?_) b120_ rfl rfl (any_of HT_.out (by kernel_rfl)) (fun _ _ _ h => h) (Or.inl ⟨by rfl, ?_⟩) ?_ ?_
                                rotate_left; (· intro w'; go_simp; with_reducible rfl); rotate_left; (· simp only [Act.put, sA_, sB_, sC_, i64_w, i32_w]; rfl)
                                refine pure_ (i := 28) (N := some 119) (v := ?_) (a' := ?_) b121_ rfl rfl (any_of HT_.out (by kernel_rfl)) (fun _ _ _ h => h) (Or.inl ⟨by rfl, ?_⟩) ?_ ?_
                                rotate_left; (· intro w'; go_simp; with_reducible rfl); rotate_left; (· simp only [Act.put, sA_, sB_, sC_, i64_w, i32_w]; rfl)
                                refine pure_ (i := 29) (N := some 120) (v := ?_) (a' := ?_) b122_ rfl rfl (any_of HT_.out (by kernel_rfl)) (fun _ _ _ h => h) (Or.inl ⟨by rfl, ?_⟩) ?_ ?_
                                rotate_left; (· intro w'; go_simp; with_reducible rfl); rotate_left; (· simp only [Act.put, sA_, sB_, sC_, i64_w, i32_w]; rfl)
                                refine pure_ (i := 30) (N := some 121) (v := ?_) (a' := ?_) b123_ rfl rfl (any_of HT_.out (by kernel_rfl)) (fun _ _ _ h => h) (Or.inl ⟨by rfl, ?_⟩) ?_ ?_
                                rotate_left; (· intro w'; go_simp; with_reducible rfl); rotate_left; (· simp only [Act.put, sA_, sB_, sC_, i64_w, i32_w]; rfl)
                                refine pure_ (i := 31) (N := some 122) (v := ?_) (a' := ?_) b124_ rfl rfl (any_of HT_.out (by kernel_rfl)) (fun _ _ _ h => h) (Or.inl ⟨by rfl, ?_⟩) ?_ ?_
                                rotate_left; (· intro w'; go_simp; with_reducible rfl); rotate_left; (· simp only [Act.put, sA_, sB_, sC_, i64_w, i32_w]; rfl)
                                refine done_ (done_of HT_.out (by kernel_rfl)) ?_
                                try go_wp2
                                go_meet
                                case rel => exact ⟨_, (decide (x6_3 < (wrap64 ((l1_0.length : Int) - 1)))), (by first | rfl | (simp; done) | (simp [*]; done)), H', ⟨by have := HJ2.out; have := HJ31.out; have := HK3.out; have := HJ39.out; first | omega | exact Nat.le_refl _⟩, ⟨by (with_reducible repeat (first | refine blk_drewN ?_ _ | refine blk_drew ?_ | refine blk_alloc ?_ _)); exact BK274.out⟩, ⟨by (with_reducible repeat (first | refine blk_drewN ?_ _ | refine blk_drew ?_ | refine blk_alloc ?_ _)); exact BK275.out⟩, ⟨by repeat (first | (with_reducible first | exact HB.out | apply below_alloc | apply pw_below_drewN | apply below_drew1 | refine below_set ?_ GE274.out | refine below_set ?_ GE275.out) | exact HB.out)⟩⟩
                              · rw [if_neg c65] at H
                                have c65b0 : ((rd l1_1 x6_3) == (rd l1_1 (ji60))) = false := beq_eq_false_iff_ne.mpr c65
                                have c65b1 : ((rd l1_1 x6_3) != (rd l1_1 (ji60))) = true := bne_iff_ne.mpr c65
                                have H' := Aside0.mk H
                                clear H
                                try go_wp2
                                have n0_ := Aside0.mk (blk_drew BK274.out)
                                have n1_ := Aside0.mk (blk_drew BK275.out)
                                have n2_ := Aside0.mk (below_drew1 HB.out)
                                clear BK274
                                clear BK275
                                clear HB
                                have BK274 := n0_
                                have BK275 := n1_
                                have HB := n2_
                                clear n0_ n1_ n2_
                                have p290 : 0 ≤ (x6_3 : Int) := of_decide_eq_true (by first | (with_reducible assumption) | assumption)
                                have q290 : x6_3 < (l1_0.length : Int) := of_decide_eq_true (by first | (with_reducible assumption) | assumption)
                                obtain ⟨ad290, e290, hx290_0⟩ := Kd.at_int HR1_0.out x6_3 p290 q290
                                have hw290_0 := hx290_0
                                cases e290
                                replace hx290_0 := (HB.out.cell (World.block_lt_of_cell? w _ hx290_0)).trans hx290_0
                                replace p290 := eq_true p290
                                replace q290 := eq_true q290
                                have p291 : 0 ≤ ((ji60) : Int) := of_decide_eq_true (by first | (with_reducible assumption) | assumption)
                                have q291 : (ji60) < (l1_1.length : Int) := of_decide_eq_true (by first | (with_reducible assumption) | assumption)
                                obtain ⟨ad291, e291, hx291_0⟩ := Kd.at_int HR1_1.out (ji60) p291 q291
                                have hw291_0 := hx291_0
                                cases e291
                                replace hx291_0 := (HB.out.cell (World.block_lt_of_cell? w _ hx291_0)).trans hx291_0
                                replace p291 := eq_true p291
                                replace q291 := eq_true q291
                                have p292 : 0 ≤ (x6_3 : Int) := of_decide_eq_true (by first | (with_reducible assumption) | assumption)
                                have q292 : x6_3 < (l1_1.length : Int) := of_decide_eq_true (by first | (with_reducible assumption) | assumption)
                                obtain ⟨ad292, e292, hx292_0⟩ := Kd.at_int HR1_1.out x6_3 p292 q292
                                have hw292_0 := hx292_0
                                obtain rfl : ad291 = ad292 := (by injection e292)
                                replace hx292_0 := (HB.out.cell (World.block_lt_of_cell? w _ hx292_0)).trans hx292_0
                                replace p292 := eq_true p292
                                replace q292 := eq_true q292
                                have p293 : 0 ≤ ((ji60) : Int) := of_decide_eq_true (by first | (with_reducible assumption) | assumption)
                                have q293 : (ji60) < (l1_1.length : Int) := of_decide_eq_true (by first | (with_reducible assumption) | assumption)
                                obtain ⟨ad293, e293, hx293_0⟩ := Kd.at_int HR1_1.out (ji60) p293 q293
                                have hw293_0 := hx293_0
                                obtain rfl : ad291 = ad293 := (by injection e293)
                                replace hx293_0 := (HB.out.cell (World.block_lt_of_cell? w _ hx293_0)).trans hx293_0
                                replace p293 := eq_true p293
                                replace q293 := eq_true q293
                                refine start_ (n := 32) (S := fun w' => w'.cell? ⟨gb275, 0, none⟩ = some (.slice (some ad290) l1_0.length c1_0) ∧ w'.cell? ⟨gb275, 1, none⟩ = some (.slice (some ad291) l1_1.length c1_1) ∧ w'.cell? (ad290.add (x6_3).toNat) = some (.int .i64 (rd l1_0 x6_3)) ∧ w'.cell? (ad291.add ((ji60)).toNat) = some (.int .i64 (rd l1_1 (ji60))) ∧ w'.cell? (ad291.add (x6_3).toNat) = some (.int .i64 (rd l1_1 x6_3)) ∧ w'.cell? (ad291.add ((ji60)).toNat) = some (.int .i64 (rd l1_1 (ji60)))) (ds := []) b92_ (by kernel_rfl) rfl rfl ⟨(blk_cell BK275.out 0).trans rfl, (blk_cell BK275.out 1).trans rfl, ((HB.out.cell (World.block_lt_of_cell? w _ hw290_0)).trans hw290_0), ((HB.out.cell (World.block_lt_of_cell? w _ hw291_0)).trans hw291_0), ((HB.out.cell (World.block_lt_of_cell? w _ hw292_0)).trans hw292_0), ((HB.out.cell (World.block_lt_of_cell? w _ hw293_0)).trans hw293_0)⟩ (fun hHeld => ?_); refine with_tabW spec_RecordOk.tab11 spec_RecordOk.bits11 (fun HT_ HW_ => ?_)
                                generalize wc.drew = w67 at BK274 BK275 HB hx290_0 hx291_0 hx292_0 hx293_0 hHeld ⊢
                                refine pure_ (i := 0) (N := some 91) (v := ?_) (a' := ?_) b93_ rfl rfl (any_of HT_.out (by kernel_rfl)) (fun _ _ _ h => h) (Or.inl ⟨by rfl, ?_⟩) ?_ ?_
                                rotate_left; (· intro w'; go_simp; with_reducible rfl); rotate_left; (· simp only [Act.put, sA_, sB_, sC_, i64_w, i32_w]; rfl)
                                refine pure_ (i := 2) (N := some 93) (v := ?_) (a' := ?_) b94_ rfl rfl (any_of HT_.out (by kernel_rfl)) (fun _ _ _ h => h) (Or.inl ⟨by rfl, ?_⟩) ?_ ?_
                                rotate_left; (· intro w'; go_simp; with_reducible rfl); rotate_left; (· simp only [Act.put, sA_, sB_, sC_, i64_w, i32_w]; rfl)
                                refine pure_ (i := 5) (N := some 96) (v := ?_) (a' := ?_) b95_ rfl rfl (any_of HT_.out (by kernel_rfl)) (fun _ _ _ h => h) (Or.inl ⟨by rfl, ?_⟩) ?_ ?_
                                rotate_left; (· intro w'; go_simp; with_reducible rfl); rotate_left; (· simp only [Act.put, sA_, sB_, sC_, i64_w, i32_w]; rfl)
                                refine pure_ (i := 7) (N := some 98) (v := ?_) (a' := ?_) b96_ rfl rfl (any_of HT_.out (by kernel_rfl)) (fun _ _ _ h => h) (Or.inl ⟨by rfl, ?_⟩) ?_ ?_
                                rotate_left; (· intro w'; go_simp; with_reducible rfl); rotate_left; (· simp only [Act.put, sA_, sB_, sC_, i64_w, i32_w]; rfl)
                                refine pure_ (i := 8) (N := some 99) (v := ?_) (a' := ?_) b97_ rfl rfl (any_of HT_.out (by kernel_rfl)) (fun _ _ _ h => h) (Or.inl ⟨by rfl, ?_⟩) ?_ ?_
                                rotate_left; (· intro w'; go_simp; with_reducible rfl); rotate_left; (· simp only [Act.put, sA_, sB_, sC_, i64_w, i32_w]; rfl)
                                refine take_ (i := 1) (N := some 92) (v := ?_) (a' := ?_) b98_ rfl rfl (take_ofW HT_.out HW_.out (by kernel_rfl)) (fun _ _ _ h => h) (Or.inl ⟨by rfl, ?_⟩) hHeld ?_ ?_
                                rotate_left; (· rintro w' ⟨s0, s1, s2, s3, s4, s5⟩; go_simp; with_reducible rfl); rotate_left; (· simp only [Act.put, sA_, sB_, sC_, i64_w, i32_w]; rfl)
                                refine pure_ (i := 3) (N := some 94) (v := ?_) (a' := ?_) b99_ rfl rfl (any_of HT_.out (by kernel_rfl)) (fun _ _ _ h => h) (Or.inl ⟨by rfl, ?_⟩) ?_ ?_
                                rotate_left; (· intro w'; go_simp; with_reducible rfl); rotate_left; (· simp only [Act.put, sA_, sB_, sC_, i64_w, i32_w]; rfl)
                                refine take_ (i := 4) (N := some 95) (v := ?_) (a' := ?_) b100_ rfl rfl (take_ofW HT_.out HW_.out (by kernel_rfl)) (fun _ _ _ h => h) (Or.inl ⟨by rfl, ?_⟩) hHeld ?_ ?_
                                rotate_left; (· rintro w' ⟨s0, s1, s2, s3, s4, s5⟩; go_simp; with_reducible rfl); rotate_left; (· simp only [Act.put, sA_, sB_, sC_, i64_w, i32_w]; rfl)
                                refine take_ (i := 6) (N := some 97) (v := ?_) (a' := ?_) b101_ rfl rfl (take_ofW HT_.out HW_.out (by kernel_rfl)) (fun _ _ _ h => h) (Or.inl ⟨by rfl, ?_⟩) hHeld ?_ ?_
                                rotate_left; (· rintro w' ⟨s0, s1, s2, s3, s4, s5⟩; go_simp; with_reducible rfl); rotate_left; (· simp only [Act.put, sA_, sB_, sC_, i64_w, i32_w]; rfl)
                                refine pure_ (i := 9) (N := some 100) (v := ?_) (a' := ?_) b102_ rfl rfl (any_of HT_.out (by kernel_rfl)) (fun _ _ _ h => h) (Or.inl ⟨by rfl, ?_⟩) ?_ ?_
                                rotate_left; (· intro w'; go_simp; with_reducible rfl); rotate_left; (· simp only [Act.put, sA_, sB_, sC_, i64_w, i32_w]; rfl)
                                refine take_ (i := 10) (N := some 101) (v := ?_) (a' := ?_) b103_ rfl rfl (take_ofW HT_.out HW_.out (by kernel_rfl)) (fun _ _ _ h => h) (Or.inl ⟨by rfl, ?_⟩) hHeld ?_ ?_
                                rotate_left; (· rintro w' ⟨s0, s1, s2, s3, s4, s5⟩; go_simp; with_reducible rfl); rotate_left; (· simp only [Act.put, sA_, sB_, sC_, i64_w, i32_w]; rfl)
                                refine pure_ (i := 11) (N := some 102) (v := ?_) (a' := ?_) b104_ rfl rfl (any_of HT_.out (by kernel_rfl)) (fun _ _ _ h => h) (Or.inl ⟨by rfl, ?_⟩) ?_ ?_
                                rotate_left; (· intro w'; go_simp; with_reducible rfl); rotate_left; (· simp only [Act.put, sA_, sB_, sC_, i64_w, i32_w]; rfl)
                                refine pure_ (i := 12) (N := some 103) (v := ?_) (a' := ?_) b105_ rfl rfl (any_of HT_.out (by kernel_rfl)) (fun _ _ _ h => h) (Or.inl ⟨by rfl, ?_⟩) ?_ ?_
                                rotate_left; (· intro w'; go_simp; with_reducible rfl); rotate_left; (· simp only [Act.put, sA_, sB_, sC_, i64_w, i32_w]; rfl)
                                refine pure_ (i := 13) (N := some 104) (v := ?_) (a' := ?_) b106_ rfl rfl (any_of HT_.out (by kernel_rfl)) (fun _ _ _ h => h) (Or.inl ⟨by rfl, ?_⟩) ?_ ?_
                                rotate_left; (· intro w'; go_simp; with_reducible rfl); rotate_left; (· simp only [Act.put, sA_, sB_, sC_, i64_w, i32_w]; rfl)
                                refine pure_ (i := 15) (N := some 106) (v := ?_) (a' := ?_) b107_ rfl rfl (any_of HT_.out (by kernel_rfl)) (fun _ _ _ h => h) (Or.inl ⟨by rfl, ?_⟩) ?_ ?_
                                rotate_left; (· intro w'; go_simp; with_reducible rfl); rotate_left; (· simp only [Act.put, sA_, sB_, sC_, i64_w, i32_w]; rfl)
                                refine pure_ (i := 18) (N := some 109) (v := ?_) (a' := ?_) b108_ rfl rfl (any_of HT_.out (by kernel_rfl)) (fun _ _ _ h => h) (Or.inl ⟨by rfl, ?_⟩) ?_ ?_
                                rotate_left; (· intro w'; go_simp; with_reducible rfl); rotate_left; (· simp only [Act.put, sA_, sB_, sC_, i64_w, i32_w]; rfl)
                                refine pure_ (i := 20) (N := some 111) (v := ?_) (a' := ?_) b109_ rfl rfl (any_of HT_.out (by kernel_rfl)) (fun _ _ _ h => h) (Or.inl ⟨by rfl, ?_⟩) ?_ ?_
                                rotate_left; (· intro w'; go_simp; with_reducible rfl); rotate_left; (· simp only [Act.put, sA_, sB_, sC_, i64_w, i32_w]; rfl)
                                refine pure_ (i := 21) (N := some 112) (v := ?_) (a' := ?_) b110_ rfl rfl (any_of HT_.out (by kernel_rfl)) (fun _ _ _ h => h) (Or.inl ⟨by rfl, ?_⟩) ?_ ?_
                                rotate_left; (· intro w'; go_simp; with_reducible rfl); rotate_left; (· simp only [Act.put, sA_, sB_, sC_, i64_w, i32_w]; rfl)
                                refine take_ (i := 14) (N := some 105) (v := ?_) (a' := ?_) b111_ rfl rfl (take_ofW HT_.out HW_.out (by kernel_rfl)) (fun _ _ _ h => h) (Or.inl ⟨by rfl, ?_⟩) hHeld ?_ ?_
                                rotate_left; (· rintro w' ⟨s0, s1, s2, s3, s4, s5⟩; go_simp; with_reducible rfl); rotate_left; (· simp only [Act.put, sA_, sB_, sC_, i64_w, i32_w]; rfl)
                                refine pure_ (i := 16) (N := some 107) (v := ?_) (a' := ?_) b112_ rfl rfl (any_of HT_.out (by kernel_rfl)) (fun _ _ _ h => h) (Or.inl ⟨by rfl, ?_⟩) ?_ ?_
                                rotate_left; (· intro w'; go_simp; with_reducible rfl); rotate_left; (· simp only [Act.put, sA_, sB_, sC_, i64_w, i32_w]; rfl)
                                refine take_ (i := 17) (N := some 108) (v := ?_) (a' := ?_) b113_ rfl rfl (take_ofW HT_.out HW_.out (by kernel_rfl)) (fun _ _ _ h => h) (Or.inl ⟨by rfl, ?_⟩) hHeld ?_ ?_
                                rotate_left; (· rintro w' ⟨s0, s1, s2, s3, s4, s5⟩; go_simp; with_reducible rfl); rotate_left; (· simp only [Act.put, sA_, sB_, sC_, i64_w, i32_w]; rfl)
                                refine take_ (i := 19) (N := some 110) (v := ?_) (a' := ?_) b114_ rfl rfl (take_ofW HT_.out HW_.out (by kernel_rfl)) (fun _ _ _ h => h) (Or.inl ⟨by rfl, ?_⟩) hHeld ?_ ?_
                                rotate_left; (· rintro w' ⟨s0, s1, s2, s3, s4, s5⟩; go_simp; with_reducible rfl); rotate_left; (· simp only [Act.put, sA_, sB_, sC_, i64_w, i32_w]; rfl)
                                refine pure_ (i := 22) (N := some 113) (v := ?_) (a' := ?_) b115_ rfl rfl (any_of HT_.out (by kernel_rfl)) (fun _ _ _ h => h) (Or.inl ⟨by rfl, ?_⟩) ?_ ?_
                                rotate_left; (· intro w'; go_simp; with_reducible rfl); rotate_left; (· simp only [Act.put, sA_, sB_, sC_, i64_w, i32_w]; rfl)
                                refine take_ (i := 23) (N := some 114) (v := ?_) (a' := ?_) b116_ rfl rfl (take_ofW HT_.out HW_.out (by kernel_rfl)) (fun _ _ _ h => h) (Or.inl ⟨by rfl, ?_⟩) hHeld ?_ ?_
                                rotate_left; (· rintro w' ⟨s0, s1, s2, s3, s4, s5⟩; go_simp; with_reducible rfl); rotate_left; (· simp only [Act.put, sA_, sB_, sC_, i64_w, i32_w]; rfl)
                                refine pure_ (i := 24) (N := some 115) (v := ?_) (a' := ?_) b117_ rfl rfl (any_of HT_.out (by kernel_rfl)) (fun _ _ _ h => h) (Or.inl ⟨by rfl, ?_⟩) ?_ ?_
                                rotate_left; (· intro w'; go_simp; with_reducible rfl); rotate_left; (· simp only [Act.put, sA_, sB_, sC_, i64_w, i32_w]; rfl)
                                refine pure_ (i := 25) (N := some 116) (v := ?_) (a' := ?_) b118_ rfl rfl (any_of HT_.out (by kernel_rfl)) (fun _ _ _ h => h) (Or.inl ⟨by rfl, ?_⟩) ?_ ?_
                                rotate_left; (· intro w'; go_simp; with_reducible rfl); rotate_left; (· simp only [Act.put, sA_, sB_, sC_, i64_w, i32_w]; rfl)
                                refine pure_ (i := 26) (N := some 117) (v := undef) (a' := ?_) b119_ rfl rfl (any_of HT_.out (by kernel_rfl)) (fun _ _ _ h => h) (Or.inr ⟨by rfl, rfl⟩) ?_ ?_
                                rotate_left; (· simp only [Act.put, sA_, sB_, sC_, i64_w, i32_w]; rfl)
                                refine pure_ (i := 27) (N := some 118) (v := undef) (a' := ?_) b120_ rfl rfl (any_of HT_.out (by kernel_rfl)) (fun _ _ _ h => h) (Or.inr ⟨by rfl, rfl⟩) ?_ ?_
                                rotate_left; (· simp only [Act.put, sA_, sB_, sC_, i64_w, i32_w]; rfl)
                                refine pure_ (i := 28) (N := some 119) (v := undef) (a' := ?_) b121_ rfl rfl (any_of HT_.out (by kernel_rfl)) (fun _ _ _ h => h) (Or.inr ⟨by rfl, rfl⟩) ?_ ?_
                                rotate_left; (· simp only [Act.put, sA_, sB_, sC_, i64_w, i32_w]; rfl)
                                refine pure_ (i := 29) (N := some 120) (v := undef) (a' := ?_) b122_ rfl rfl (any_of HT_.out (by kernel_rfl)) (fun _ _ _ h => h) (Or.inr ⟨by rfl, rfl⟩) ?_ ?_
                                rotate_left; (· simp only [Act.put, sA_, sB_, sC_, i64_w, i32_w]; rfl)
                                refine pure_ (i := 30) (N := some 121) (v := ?_) (a' := ?_) b123_ rfl rfl (any_of HT_.out (by kernel_rfl)) (fun _ _ _ h => h) (Or.inl ⟨by rfl, ?_⟩) ?_ ?_
                                rotate_left; (· intro w'; go_simp; with_reducible rfl); rotate_left; (· simp only [Act.put, sA_, sB_, sC_, i64_w, i32_w]; rfl)
                                refine pure_ (i := 31) (N := some 122) (v := ?_) (a' := ?_) b124_ rfl rfl (any_of HT_.out (by kernel_rfl)) (fun _ _ _ h => h) (Or.inl ⟨by rfl, ?_⟩) ?_ ?_
                                rotate_left; (· intro w'; go_simp; with_reducible rfl); rotate_left; (· simp only [Act.put, sA_, sB_, sC_, i64_w, i32_w]; rfl)
                                refine done_ (done_of HT_.out (by kernel_rfl)) ?_
                                try go_wp2
                                go_meet
                                case rel => exact ⟨_, (true), (by first | rfl | (simp; done) | (simp [*]; done)), H', ⟨by have := HJ2.out; have := HJ31.out; have := HK3.out; have := HJ39.out; first | omega | exact Nat.le_refl _⟩, ⟨by (with_reducible repeat (first | refine blk_drewN ?_ _ | refine blk_drew ?_ | refine blk_alloc ?_ _)); exact BK274.out⟩, ⟨by (with_reducible repeat (first | refine blk_drewN ?_ _ | refine blk_drew ?_ | refine blk_alloc ?_ _)); exact BK275.out⟩, ⟨by repeat (first | (with_reducible first | exact HB.out | apply below_alloc | apply pw_below_drewN | apply below_drew1 | refine below_set ?_ GE274.out | refine below_set ?_ GE275.out) | exact HB.out)⟩⟩
                            · rw [if_neg c64] at H
                              exact absurd H (by simp)
                          · rw [if_neg c63] at H
                            have c63b0 : ((rd l1_0 x6_3) == (rd l1_1 (ji60))) = false := beq_eq_false_iff_ne.mpr c63
                            have c63b1 : ((rd l1_0 x6_3) != (rd l1_1 (ji60))) = true := bne_iff_ne.mpr c63
                            have H' := Aside0.mk H
                            clear H
                            try go_wp2
                            have n0_ := Aside0.mk (blk_drew BK274.out)
                            have n1_ := Aside0.mk (blk_drew BK275.out)
                            have n2_ := Aside0.mk (below_drew1 HB.out)
                            clear BK274
                            clear BK275
                            clear HB
                            have BK274 := n0_
                            have BK275 := n1_
                            have HB := n2_
                            clear n0_ n1_ n2_
                            have p290 : 0 ≤ (x6_3 : Int) := of_decide_eq_true (by first | (with_reducible assumption) | assumption)
                            have q290 : x6_3 < (l1_0.length : Int) := of_decide_eq_true (by first | (with_reducible assumption) | assumption)
                            obtain ⟨ad290, e290, hx290_0⟩ := Kd.at_int HR1_0.out x6_3 p290 q290
                            have hw290_0 := hx290_0
                            cases e290
                            replace hx290_0 := (HB.out.cell (World.block_lt_of_cell? w _ hx290_0)).trans hx290_0
                            replace p290 := eq_true p290
                            replace q290 := eq_true q290
                            have p291 : 0 ≤ ((ji60) : Int) := of_decide_eq_true (by first | (with_reducible assumption) | assumption)
                            have q291 : (ji60) < (l1_1.length : Int) := of_decide_eq_true (by first | (with_reducible assumption) | assumption)
                            obtain ⟨ad291, e291, hx291_0⟩ := Kd.at_int HR1_1.out (ji60) p291 q291
                            have hw291_0 := hx291_0
                            cases e291
                            replace hx291_0 := (HB.out.cell (World.block_lt_of_cell? w _ hx291_0)).trans hx291_0
                            replace p291 := eq_true p291
                            replace q291 := eq_true q291
                            refine start_ (n := 32) (S := fun w' => w'.cell? ⟨gb275, 0, none⟩ = some (.slice (some ad290) l1_0.length c1_0) ∧ w'.cell? ⟨gb275, 1, none⟩ = some (.slice (some ad291) l1_1.length c1_1) ∧ w'.cell? (ad290.add (x6_3).toNat) = some (.int .i64 (rd l1_0 x6_3)) ∧ w'.cell? (ad291.add ((ji60)).toNat) = some (.int .i64 (rd l1_1 (ji60)))) (ds := []) b92_ (by kernel_rfl) rfl rfl ⟨(blk_cell BK275.out 0).trans rfl, (blk_cell BK275.out 1).trans rfl, ((HB.out.cell (World.block_lt_of_cell? w _ hw290_0)).trans hw290_0), ((HB.out.cell (World.block_lt_of_cell? w _ hw291_0)).trans hw291_0)⟩ (fun hHeld => ?_); refine with_tabW spec_RecordOk.tab11 spec_RecordOk.bits11 (fun HT_ HW_ => ?_)
                            generalize wc.drew = w68 at BK274 BK275 HB hx290_0 hx291_0 hHeld ⊢
                            refine pure_ (i := 0) (N := some 91) (v := ?_) (a' := ?_) b93_ rfl rfl (any_of HT_.out (by kernel_rfl)) (fun _ _ _ h => h) (Or.inl ⟨by rfl, ?_⟩) ?_ ?_
                            rotate_left; (· intro w'; go_simp; with_reducible rfl); rotate_left; (· simp only [Act.put, sA_, sB_, sC_, i64_w, i32_w]; rfl)
                            refine pure_ (i := 2) (N := some 93) (v := ?_) (a' := ?_) b94_ rfl rfl (any_of HT_.out (by kernel_rfl)) (fun _ _ _ h => h) (Or.inl ⟨by rfl, ?_⟩) ?_ ?_
                            rotate_left; (· intro w'; go_simp; with_reducible rfl); rotate_left; (· simp only [Act.put, sA_, sB_, sC_, i64_w, i32_w]; rfl)
                            refine pure_ (i := 5) (N := some 96) (v := ?_) (a' := ?_) b95_ rfl rfl (any_of HT_.out (by kernel_rfl)) (fun _ _ _ h => h) (Or.inl ⟨by rfl, ?_⟩) ?_ ?_
                            rotate_left; (· intro w'; go_simp; with_reducible rfl); rotate_left; (· simp only [Act.put, sA_, sB_, sC_, i64_w, i32_w]; rfl)
                            refine pure_ (i := 7) (N := some 98) (v := ?_) (a' := ?_) b96_ rfl rfl (any_of HT_.out (by kernel_rfl)) (fun _ _ _ h => h) (Or.inl ⟨by rfl, ?_⟩) ?_ ?_
                            rotate_left; (· intro w'; go_simp; with_reducible rfl); rotate_left; (· simp only [Act.put, sA_, sB_, sC_, i64_w, i32_w]; rfl)
                            refine pure_ (i := 8) (N := some 99) (v := ?_) (a' := ?_) b97_ rfl rfl (any_of HT_.out (by kernel_rfl)) (fun _ _ _ h => h) (Or.inl ⟨by rfl, ?_⟩) ?_ ?_
                            rotate_left; (· intro w'; go_simp; with_reducible rfl); rotate_left; (· simp only [Act.put, sA_, sB_, sC_, i64_w, i32_w]; rfl)
                            refine take_ (i := 1) (N := some 92) (v := ?_) (a' := ?_) b98_ rfl rfl (take_ofW HT_.out HW_.out (by kernel_rfl)) (fun _ _ _ h => h) (Or.inl ⟨by rfl, ?_⟩) hHeld ?_ ?_
                            rotate_left; (· rintro w' ⟨s0, s1, s2, s3⟩; go_simp; with_reducible rfl); rotate_left; (· simp only [Act.put, sA_, sB_, sC_, i64_w, i32_w]; rfl)
                            refine pure_ (i := 3) (N := some 94) (v := ?_) (a' := ?_) b99_ rfl rfl (any_of HT_.out (by kernel_rfl)) (fun _ _ _ h => h) (Or.inl ⟨by rfl, ?_⟩) ?_ ?_
                            rotate_left; (· intro w'; go_simp; with_reducible rfl); rotate_left; (· simp only [Act.put, sA_, sB_, sC_, i64_w, i32_w]; rfl)
                            refine take_ (i := 4) (N := some 95) (v := ?_) (a' := ?_) b100_ rfl rfl (take_ofW HT_.out HW_.out (by kernel_rfl)) (fun _ _ _ h => h) (Or.inl ⟨by rfl, ?_⟩) hHeld ?_ ?_
                            rotate_left; (· rintro w' ⟨s0, s1, s2, s3⟩; go_simp; with_reducible rfl); rotate_left; (· simp only [Act.put, sA_, sB_, sC_, i64_w, i32_w]; rfl)
                            refine take_ (i := 6) (N := some 97) (v := ?_) (a' := ?_) b101_ rfl rfl (take_ofW HT_.out HW_.out (by kernel_rfl)) (fun _ _ _ h => h) (Or.inl ⟨by rfl, ?_⟩) hHeld ?_ ?_
                            rotate_left; (· rintro w' ⟨s0, s1, s2, s3⟩; go_simp; with_reducible rfl); rotate_left; (· simp only [Act.put, sA_, sB_, sC_, i64_w, i32_w]; rfl)
                            refine pure_ (i := 9) (N := some 100) (v := ?_) (a' := ?_) b102_ rfl rfl (any_of HT_.out (by kernel_rfl)) (fun _ _ _ h => h) (Or.inl ⟨by rfl, ?_⟩) ?_ ?_
                            rotate_left; (· intro w'; go_simp; with_reducible rfl); rotate_left; (· simp only [Act.put, sA_, sB_, sC_, i64_w, i32_w]; rfl)
                            refine take_ (i := 10) (N := some 101) (v := ?_) (a' := ?_) b103_ rfl rfl (take_ofW HT_.out HW_.out (by kernel_rfl)) (fun _ _ _ h => h) (Or.inl ⟨by rfl, ?_⟩) hHeld ?_ ?_
                            rotate_left; (· rintro w' ⟨s0, s1, s2, s3⟩; go_simp; with_reducible rfl); rotate_left; (· simp only [Act.put, sA_, sB_, sC_, i64_w, i32_w]; rfl)
                            refine pure_ (i := 11) (N := some 102) (v := ?_) (a' := ?_) b104_ rfl rfl (any_of HT_.out (by kernel_rfl)) (fun _ _ _ h => h) (Or.inl ⟨by rfl, ?_⟩) ?_ ?_
                            rotate_left; (· intro w'; go_simp; with_reducible rfl); rotate_left; (· simp only [Act.put, sA_, sB_, sC_, i64_w, i32_w]; rfl)
                            refine pure_ (i := 12) (N := some 103) (v := ?_) (a' := ?_) b105_ rfl rfl (any_of HT_.out (by kernel_rfl)) (fun _ _ _ h => h) (Or.inl ⟨by rfl, ?_⟩) ?_ ?_
                            rotate_left; (· intro w'; go_simp; with_reducible rfl); rotate_left; (· simp only [Act.put, sA_, sB_, sC_, i64_w, i32_w]; rfl)
                            refine pure_ (i := 13) (N := some 104) (v := undef) (a' := ?_) b106_ rfl rfl (any_of HT_.out (by kernel_rfl)) (fun _ _ _ h => h) (Or.inr ⟨by rfl, rfl⟩) ?_ ?_
                            rotate_left; (· simp only [Act.put, sA_, sB_, sC_, i64_w, i32_w]; rfl)
                            refine pure_ (i := 14) (N := some 105) (v := undef) (a' := ?_) b125_ rfl rfl (any_of HT_.out (by kernel_rfl)) (fun _ _ _ h => h) (Or.inr ⟨by rfl, rfl⟩) ?_ ?_
                            rotate_left; (· simp only [Act.put, sA_, sB_, sC_, i64_w, i32_w]; rfl)
                            refine pure_ (i := 15) (N := some 106) (v := undef) (a' := ?_) b126_ rfl rfl (any_of HT_.out (by kernel_rfl)) (fun _ _ _ h => h) (Or.inr ⟨by rfl, rfl⟩) ?_ ?_
                            rotate_left; (· simp only [Act.put, sA_, sB_, sC_, i64_w, i32_w]; rfl)
                            refine pure_ (i := 16) (N := some 107) (v := undef) (a' := ?_) b127_ rfl rfl (any_of HT_.out (by kernel_rfl)) (fun _ _ _ h => h) (Or.inr ⟨by rfl, rfl⟩) ?_ ?_
                            rotate_left; (· simp only [Act.put, sA_, sB_, sC_, i64_w, i32_w]; rfl)
                            refine pure_ (i := 17) (N := some 108) (v := undef) (a' := ?_) b128_ rfl rfl (any_of HT_.out (by kernel_rfl)) (fun _ _ _ h => h) (Or.inr ⟨by rfl, rfl⟩) ?_ ?_
                            rotate_left; (· simp only [Act.put, sA_, sB_, sC_, i64_w, i32_w]; rfl)
                            refine pure_ (i := 18) (N := some 109) (v := undef) (a' := ?_) b129_ rfl rfl (any_of HT_.out (by kernel_rfl)) (fun _ _ _ h => h) (Or.inr ⟨by rfl, rfl⟩) ?_ ?_
                            rotate_left; (· simp only [Act.put, sA_, sB_, sC_, i64_w, i32_w]; rfl)
                            refine pure_ (i := 19) (N := some 110) (v := undef) (a' := ?_) b130_ rfl rfl (any_of HT_.out (by kernel_rfl)) (fun _ _ _ h => h) (Or.inr ⟨by rfl, rfl⟩) ?_ ?_
                            rotate_left; (· simp only [Act.put, sA_, sB_, sC_, i64_w, i32_w]; rfl)
                            refine pure_ (i := 20) (N := some 111) (v := undef) (a' := ?_) b131_ rfl rfl (any_of HT_.out (by kernel_rfl)) (fun _ _ _ h => h) (Or.inr ⟨by rfl, rfl⟩) ?_ ?_
                            rotate_left; (· simp only [Act.put, sA_, sB_, sC_, i64_w, i32_w]; rfl)
                            refine pure_ (i := 21) (N := some 112) (v := undef) (a' := ?_) b114_ rfl rfl (any_of HT_.out (by kernel_rfl)) (fun _ _ _ h => h) (Or.inr ⟨by rfl, rfl⟩) ?_ ?_
                            rotate_left; (· simp only [Act.put, sA_, sB_, sC_, i64_w, i32_w]; rfl)
                            refine pure_ (i := 22) (N := some 113) (v := undef) (a' := ?_) b115_ rfl rfl (any_of HT_.out (by kernel_rfl)) (fun _ _ _ h => h) (Or.inr ⟨by rfl, rfl⟩) ?_ ?_
                            rotate_left; (· simp only [Act.put, sA_, sB_, sC_, i64_w, i32_w]; rfl)
                            refine pure_ (i := 23) (N := some 114) (v := undef) (a' := ?_) b116_ rfl rfl (any_of HT_.out (by kernel_rfl)) (fun _ _ _ h => h) (Or.inr ⟨by rfl, rfl⟩) ?_ ?_
                            rotate_left; (· simp only [Act.put, sA_, sB_, sC_, i64_w, i32_w]; rfl)
                            refine pure_ (i := 24) (N := some 115) (v := undef) (a' := ?_) b117_ rfl rfl (any_of HT_.out (by kernel_rfl)) (fun _ _ _ h => h) (Or.inr ⟨by rfl, rfl⟩) ?_ ?_
                            rotate_left; (· simp only [Act.put, sA_, sB_, sC_, i64_w, i32_w]; rfl)
                            refine pure_ (i := 25) (N := some 116) (v := undef) (a' := ?_) b118_ rfl rfl (any_of HT_.out (by kernel_rfl)) (fun _ _ _ h => h) (Or.inr ⟨by rfl, rfl⟩) ?_ ?_
                            rotate_left; (· simp only [Act.put, sA_, sB_, sC_, i64_w, i32_w]; rfl)
                            refine pure_ (i := 26) (N := some 117) (v := undef) (a' := ?_) b119_ rfl rfl (any_of HT_.out (by kernel_rfl)) (fun _ _ _ h => h) (Or.inr ⟨by rfl, rfl⟩) ?_ ?_
                            rotate_left; (· simp only [Act.put, sA_, sB_, sC_, i64_w, i32_w]; rfl)
                            refine pure_ (i := 27) (N := some 118) (v := undef) (a' := ?_) b120_ rfl rfl (any_of HT_.out (by kernel_rfl)) (fun _ _ _ h => h) (Or.inr ⟨by rfl, rfl⟩) ?_ ?_
                            rotate_left; (· simp only [Act.put, sA_, sB_, sC_, i64_w, i32_w]; rfl)
                            refine pure_ (i := 28) (N := some 119) (v := undef) (a' := ?_) b121_ rfl rfl (any_of HT_.out (by kernel_rfl)) (fun _ _ _ h => h) (Or.inr ⟨by rfl, rfl⟩) ?_ ?_
                            rotate_left; (· simp only [Act.put, sA_, sB_, sC_, i64_w, i32_w]; rfl)
                            refine pure_ (i := 29) (N := some 120) (v := undef) (a' := ?_) b122_ rfl rfl (any_of HT_.out (by kernel_rfl)) (fun _ _ _ h => h) (Or.inr ⟨by rfl, rfl⟩) ?_ ?_
                            rotate_left; (· simp only [Act.put, sA_, sB_, sC_, i64_w, i32_w]; rfl)
                            refine pure_ (i := 30) (N := some 121) (v := undef) (a' := ?_) b123_ rfl rfl (any_of HT_.out (by kernel_rfl)) (fun _ _ _ h => h) (Or.inr ⟨by rfl, rfl⟩) ?_ ?_
                            rotate_left; (· simp only [Act.put, sA_, sB_, sC_, i64_w, i32_w]; rfl)
                            refine pure_ (i := 31) (N := some 122) (v := ?_) (a' := ?_) b124_ rfl rfl (any_of HT_.out (by kernel_rfl)) (fun _ _ _ h => h) (Or.inl ⟨by rfl, ?_⟩) ?_ ?_
                            rotate_left; (· intro w'; go_simp; with_reducible rfl); rotate_left; (· simp only [Act.put, sA_, sB_, sC_, i64_w, i32_w]; rfl)
                            refine done_ (done_of HT_.out (by kernel_rfl)) ?_
                            try go_wp2
                            go_meet
                            case rel => exact ⟨_, (false), (by first | rfl | (simp; done) | (simp [*]; done)), H', ⟨by have := HJ2.out; have := HJ31.out; have := HK3.out; have := HJ39.out; first | omega | exact Nat.le_refl _⟩, ⟨by (with_reducible repeat (first | refine blk_drewN ?_ _ | refine blk_drew ?_ | refine blk_alloc ?_ _)); exact BK274.out⟩, ⟨by (with_reducible repeat (first | refine blk_drewN ?_ _ | refine blk_drew ?_ | refine blk_alloc ?_ _)); exact BK275.out⟩, ⟨by repeat (first | (with_reducible first | exact HB.out | apply below_alloc | apply pw_below_drewN | apply below_drew1 | refine below_set ?_ GE274.out | refine below_set ?_ GE275.out) | exact HB.out)⟩⟩
                        · rw [if_neg c62] at H
                          exact absurd H (by simp)
                      · rw [if_neg c61] at H
                        exact absurd H (by simp)
                    · rw [if_neg c59] at H
                      exact absurd H (by simp)
                  · rw [if_neg c58] at H
                    exact absurd H (by simp)
                 case rest =>
                  clear HC57
                  try clear c1
                  try clear p2
                  try clear q2
                  try clear hx2
                  try clear c5
                  try clear c6
                  try clear p6
                  try clear p29
                  try clear q29
                  try clear hx29
                  try clear c58
                  try clear c59
                  try clear c61
                  try clear c62
                  try clear c63
                  try clear c63b0
                  try clear c63b1
                  try clear c64
                  try clear p64
                  try clear c65
                  try clear c65b0
                  try clear c65b1
                  try clear hx290_0
                  try clear hx291_0
                  try clear hx292_0
                  try clear hx293_0
                  try clear p290
                  try clear p291
                  try clear p292
                  try clear p293
                  try clear q290
                  try clear q291
                  try clear q292
                  try clear q293
                  obtain ⟨kq, x122_56, rfl, HA, HJ56, BK274, BK275, HB⟩ := hcut
                  cases kq with
                  | zero => exact absurd HA.out (by simp [spec_RecordOk.j4])
                  | succ kj56 =>
                   have H := HA.out
                   clear HA
                   simp only [spec_RecordOk.j4] at H
                   by_cases c69 : x122_56 = true
                   · subst c69
                     have H1 : (some false) = some r := by rw [if_pos rfl] at H; exact H
                     clear H
                     have H := H1
                     clear H1
                     obtain rfl := Option.some.inj H
                     go_wp2
                     go_ret
                     exact ⟨by first | rfl | (simp [errW_none, errW_some] <;> rfl) | (simp [*, errW_none, errW_some] <;> rfl), by repeat (first | (with_reducible first | exact HB.out | apply below_alloc | apply pw_below_drewN | apply below_drew1 | refine below_set ?_ GE274.out | refine below_set ?_ GE275.out) | exact HB.out)⟩
                   · replace c69 := Bool.eq_false_iff.mpr c69
                     subst c69
                     have H1 : (if 0 ≤ x6_3 then (if x6_3 < (l1_0.length : Int) then (if x6_3 < (l1_1.length : Int) then (if (rd l1_0 x6_3) = (rd l1_1 x6_3) then (if x6_3 < (wrap64 ((l1_0.length : Int) - 1)) then (some false) else (spec_RecordOk.l0 kj56 (l1_0.length : Int) (wrap64 (x6_3 + 1)) a0_0 l0_1 l1_0 l1_1)) else (spec_RecordOk.l0 kj56 (l1_0.length : Int) (wrap64 (x6_3 + 1)) a0_0 l0_1 l1_0 l1_1)) else (none)) else (none)) else (none)) = some r := by rw [if_neg (show ¬ (false = true) by decide)] at H; exact H
                     clear H
                     have H := H1
                     clear H1
                     by_cases c70 : 0 ≤ x6_3
                     · rw [if_pos c70] at H
                       have c70b0 : decide (0 ≤ x6_3) = true := decide_eq_true c70
                       clear c70
                       by_cases c71 : x6_3 < (l1_0.length : Int)
                       · rw [if_pos c71] at H
                         have c71b0 : decide (x6_3 < (l1_0.length : Int)) = true := decide_eq_true c71
                         clear c71
                         by_cases c72 : x6_3 < (l1_1.length : Int)
                         · rw [if_pos c72] at H
                           have c72b0 : decide (x6_3 < (l1_1.length : Int)) = true := decide_eq_true c72
                           clear c72
                           by_cases c73 : (rd l1_0 x6_3) = (rd l1_1 x6_3)
                           · rw [if_pos c73] at H
                             have c73b0 : ((rd l1_0 x6_3) == (rd l1_1 x6_3)) = true := beq_iff_eq.mpr c73
                             have c73b1 : ((rd l1_0 x6_3) != (rd l1_1 x6_3)) = false := bne_eq_false_iff_eq.mpr c73
                             clear c73
                             by_cases c74 : x6_3 < (wrap64 ((l1_0.length : Int) - 1))
                             · rw [if_pos c74] at H
                               have c74b0 : decide (x6_3 < (wrap64 ((l1_0.length : Int) - 1))) = true := decide_eq_true c74
                               clear c74
                               obtain rfl := Option.some.inj H
                               try go_wp2
                               have n0_ := Aside0.mk (blk_drew BK274.out)
                               have n1_ := Aside0.mk (blk_drew BK275.out)
                               have n2_ := Aside0.mk (below_drew1 HB.out)
                               clear BK274
                               clear BK275
                               clear HB
                               have BK274 := n0_
                               have BK275 := n1_
                               have HB := n2_
                               clear n0_ n1_ n2_
                               have p294 : 0 ≤ (x6_3 : Int) := of_decide_eq_true (by first | (with_reducible assumption) | assumption)
                               have q294 : x6_3 < (l1_0.length : Int) := of_decide_eq_true (by first | (with_reducible assumption) | assumption)
                               obtain ⟨ad294, e294, hx294_0⟩ := Kd.at_int HR1_0.out x6_3 p294 q294
                               have hw294_0 := hx294_0
                               cases e294
                               replace hx294_0 := (HB.out.cell (World.block_lt_of_cell? w _ hx294_0)).trans hx294_0
                               replace p294 := eq_true p294
                               replace q294 := eq_true q294
                               have p295 : 0 ≤ (x6_3 : Int) := of_decide_eq_true (by first | (with_reducible assumption) | assumption)
                               have q295 : x6_3 < (l1_1.length : Int) := of_decide_eq_true (by first | (with_reducible assumption) | assumption)
                               obtain ⟨ad295, e295, hx295_0⟩ := Kd.at_int HR1_1.out x6_3 p295 q295
                               have hw295_0 := hx295_0
                               cases e295
                               replace hx295_0 := (HB.out.cell (World.block_lt_of_cell? w _ hx295_0)).trans hx295_0
                               replace p295 := eq_true p295
                               replace q295 := eq_true q295
                               refine start_ (n := 17) (S := fun w' => w'.cell? ⟨gb275, 0, none⟩ = some (.slice (some ad294) l1_0.length c1_0) ∧ w'.cell? ⟨gb275, 1, none⟩ = some (.slice (some ad295) l1_1.length c1_1) ∧ w'.cell? (ad294.add (x6_3).toNat) = some (.int .i64 (rd l1_0 x6_3)) ∧ w'.cell? (ad295.add (x6_3).toNat) = some (.int .i64 (rd l1_1 x6_3))) (ds := []) b132_ (by kernel_rfl) rfl rfl ⟨(blk_cell BK275.out 0).trans rfl, (blk_cell BK275.out 1).trans rfl, ((HB.out.cell (World.block_lt_of_cell? w _ hw294_0)).trans hw294_0), ((HB.out.cell (World.block_lt_of_cell? w _ hw295_0)).trans hw295_0)⟩ (fun hHeld => ?_); refine with_tabW spec_RecordOk.tab13 spec_RecordOk.bits13 (fun HT_ HW_ => ?_)
                               generalize wc.drew = w75 at BK274 BK275 HB hx294_0 hx295_0 hHeld ⊢
                               refine pure_ (i := 0) (N := some 123) (v := ?_) (a' := ?_) b133_ rfl rfl (any_of HT_.out (by kernel_rfl)) (fun _ _ _ h => h) (Or.inl ⟨by rfl, ?_⟩) ?_ ?_
                               rotate_left; (· intro w'; go_simp; with_reducible rfl); rotate_left; (· simp only [Act.put, sA_, sB_, sC_, i64_w, i32_w]; rfl)
                               refine pure_ (i := 2) (N := some 125) (v := ?_) (a' := ?_) b134_ rfl rfl (any_of HT_.out (by kernel_rfl)) (fun _ _ _ h => h) (Or.inl ⟨by rfl, ?_⟩) ?_ ?_
                               rotate_left; (· intro w'; go_simp; with_reducible rfl); rotate_left; (· simp only [Act.put, sA_, sB_, sC_, i64_w, i32_w]; rfl)
                               refine pure_ (i := 5) (N := some 128) (v := ?_) (a' := ?_) b135_ rfl rfl (any_of HT_.out (by kernel_rfl)) (fun _ _ _ h => h) (Or.inl ⟨by rfl, ?_⟩) ?_ ?_
                               rotate_left; (· intro w'; go_simp; with_reducible rfl); rotate_left; (· simp only [Act.put, sA_, sB_, sC_, i64_w, i32_w]; rfl)
                               refine pure_ (i := 7) (N := some 130) (v := ?_) (a' := ?_) b136_ rfl rfl (any_of HT_.out (by kernel_rfl)) (fun _ _ _ h => h) (Or.inl ⟨by rfl, ?_⟩) ?_ ?_
                               rotate_left; (· intro w'; go_simp; with_reducible rfl); rotate_left; (· simp only [Act.put, sA_, sB_, sC_, i64_w, i32_w]; rfl)
                               refine take_ (i := 1) (N := some 124) (v := ?_) (a' := ?_) b137_ rfl rfl (take_ofW HT_.out HW_.out (by kernel_rfl)) (fun _ _ _ h => h) (Or.inl ⟨by rfl, ?_⟩) hHeld ?_ ?_
                               rotate_left; (· rintro w' ⟨s0, s1, s2, s3⟩; go_simp; with_reducible rfl); rotate_left; (· simp only [Act.put, sA_, sB_, sC_, i64_w, i32_w]; rfl)
                               refine pure_ (i := 3) (N := some 126) (v := ?_) (a' := ?_) b138_ rfl rfl (any_of HT_.out (by kernel_rfl)) (fun _ _ _ h => h) (Or.inl ⟨by rfl, ?_⟩) ?_ ?_
                               rotate_left; (· intro w'; go_simp; with_reducible rfl); rotate_left; (· simp only [Act.put, sA_, sB_, sC_, i64_w, i32_w]; rfl)
                               refine take_ (i := 4) (N := some 127) (v := ?_) (a' := ?_) b139_ rfl rfl (take_ofW HT_.out HW_.out (by kernel_rfl)) (fun _ _ _ h => h) (Or.inl ⟨by rfl, ?_⟩) hHeld ?_ ?_
                               rotate_left; (· rintro w' ⟨s0, s1, s2, s3⟩; go_simp; with_reducible rfl); rotate_left; (· simp only [Act.put, sA_, sB_, sC_, i64_w, i32_w]; rfl)
                               refine take_ (i := 6) (N := some 129) (v := ?_) (a' := ?_) b140_ rfl rfl (take_ofW HT_.out HW_.out (by kernel_rfl)) (fun _ _ _ h => h) (Or.inl ⟨by rfl, ?_⟩) hHeld ?_ ?_
                               rotate_left; (· rintro w' ⟨s0, s1, s2, s3⟩; go_simp; with_reducible rfl); rotate_left; (· simp only [Act.put, sA_, sB_, sC_, i64_w, i32_w]; rfl)
                               refine pure_ (i := 8) (N := some 131) (v := ?_) (a' := ?_) b141_ rfl rfl (any_of HT_.out (by kernel_rfl)) (fun _ _ _ h => h) (Or.inl ⟨by rfl, ?_⟩) ?_ ?_
                               rotate_left; (· intro w'; go_simp; with_reducible rfl); rotate_left; (· simp only [Act.put, sA_, sB_, sC_, i64_w, i32_w]; rfl)
                               refine take_ (i := 9) (N := some 132) (v := ?_) (a' := ?_) b142_ rfl rfl (take_ofW HT_.out HW_.out (by kernel_rfl)) (fun _ _ _ h => h) (Or.inl ⟨by rfl, ?_⟩) hHeld ?_ ?_
                               rotate_left; (· rintro w' ⟨s0, s1, s2, s3⟩; go_simp; with_reducible rfl); rotate_left; (· simp only [Act.put, sA_, sB_, sC_, i64_w, i32_w]; rfl)
                               refine pure_ (i := 10) (N := some 133) (v := ?_) (a' := ?_) b143_ rfl rfl (any_of HT_.out (by kernel_rfl)) (fun _ _ _ h => h) (Or.inl ⟨by rfl, ?_⟩) ?_ ?_
                               rotate_left; (· intro w'; go_simp; with_reducible rfl); rotate_left; (· simp only [Act.put, sA_, sB_, sC_, i64_w, i32_w]; rfl)
                               refine pure_ (i := 11) (N := some 134) (v := ?_) (a' := ?_) b144_ rfl rfl (any_of HT_.out (by kernel_rfl)) (fun _ _ _ h => h) (Or.inl ⟨by rfl, ?_⟩) ?_ ?_
                               rotate_left; (· intro w'; go_simp; with_reducible rfl); rotate_left; (· simp only [Act.put, sA_, sB_, sC_, i64_w, i32_w]; rfl)
                               refine pure_ (i := 12) (N := some 135) (v := ?_) (a' := ?_) b145_ rfl rfl (any_of HT_.out (by kernel_rfl)) (fun _ _ _ h => h) (Or.inl ⟨by rfl, ?_⟩) ?_ ?_
                               rotate_left; (· intro w'; go_simp; with_reducible rfl); rotate_left; (· simp only [Act.put, sA_, sB_, sC_, i64_w, i32_w]; rfl)
                               refine pure_ (i := 13) (N := some 136) (v := ?_) (a' := ?_) b146_ rfl rfl (any_of HT_.out (by kernel_rfl)) (fun _ _ _ h => h) (Or.inl ⟨by rfl, ?_⟩) ?_ ?_
                               rotate_left; (· intro w'; go_simp; with_reducible rfl); rotate_left; (· simp only [Act.put, sA_, sB_, sC_, i64_w, i32_w]; rfl)
                               refine pure_ (i := 14) (N := some 137) (v := ?_) (a' := ?_) b147_ rfl rfl (any_of HT_.out (by kernel_rfl)) (fun _ _ _ h => h) (Or.inl ⟨by rfl, ?_⟩) ?_ ?_
                               rotate_left; (· intro w'; go_simp; with_reducible rfl); rotate_left; (· simp only [Act.put, sA_, sB_, sC_, i64_w, i32_w]; rfl)
                               refine pure_ (i := 15) (N := some 138) (v := ?_) (a' := ?_) b148_ rfl rfl (any_of HT_.out (by kernel_rfl)) (fun _ _ _ h => h) (Or.inl ⟨by rfl, ?_⟩) ?_ ?_
                               rotate_left; (· intro w'; go_simp; with_reducible rfl); rotate_left; (· simp only [Act.put, sA_, sB_, sC_, i64_w, i32_w]; rfl)
                               refine pure_ (i := 16) (N := some 139) (v := ?_) (a' := ?_) b149_ rfl rfl (any_of HT_.out (by kernel_rfl)) (fun _ _ _ h => h) (Or.inl ⟨by rfl, ?_⟩) ?_ ?_
                               rotate_left; (· intro w'; go_simp; with_reducible rfl); rotate_left; (· simp only [Act.put, sA_, sB_, sC_, i64_w, i32_w]; rfl)
                               refine done_ (done_of HT_.out (by kernel_rfl)) ?_
                               try go_wp2
                               go_ret
                               exact ⟨by first | rfl | (simp [errW_none, errW_some] <;> rfl) | (simp [*, errW_none, errW_some] <;> rfl), by repeat (first | (with_reducible first | exact HB.out | apply below_alloc | apply pw_below_drewN | apply below_drew1 | refine below_set ?_ GE274.out | refine below_set ?_ GE275.out) | exact HB.out)⟩
                             · rw [if_neg c74] at H
                               have c74b0 : decide (x6_3 < (wrap64 ((l1_0.length : Int) - 1))) = false := decide_eq_false c74
                               clear c74
                               have H' := Aside0.mk H
                               clear H
                               try go_wp2
                               have n0_ := Aside0.mk (blk_drew BK274.out)
                               have n1_ := Aside0.mk (blk_drew BK275.out)
                               have n2_ := Aside0.mk (below_drew1 HB.out)
                               clear BK274
                               clear BK275
                               clear HB
                               have BK274 := n0_
                               have BK275 := n1_
                               have HB := n2_
                               clear n0_ n1_ n2_
                               have p294 : 0 ≤ (x6_3 : Int) := of_decide_eq_true (by first | (with_reducible assumption) | assumption)
                               have q294 : x6_3 < (l1_0.length : Int) := of_decide_eq_true (by first | (with_reducible assumption) | assumption)
                               obtain ⟨ad294, e294, hx294_0⟩ := Kd.at_int HR1_0.out x6_3 p294 q294
                               have hw294_0 := hx294_0
                               cases e294
                               replace hx294_0 := (HB.out.cell (World.block_lt_of_cell? w _ hx294_0)).trans hx294_0
                               replace p294 := eq_true p294
                               replace q294 := eq_true q294
                               have p295 : 0 ≤ (x6_3 : Int) := of_decide_eq_true (by first | (with_reducible assumption) | assumption)
                               have q295 : x6_3 < (l1_1.length : Int) := of_decide_eq_true (by first | (with_reducible assumption) | assumption)
                               obtain ⟨ad295, e295, hx295_0⟩ := Kd.at_int HR1_1.out x6_3 p295 q295
                               have hw295_0 := hx295_0
                               cases e295
                               replace hx295_0 := (HB.out.cell (World.block_lt_of_cell? w _ hx295_0)).trans hx295_0
                               replace p295 := eq_true p295
                               replace q295 := eq_true q295
                               refine start_ (n := 17) (S := fun w' => w'.cell? ⟨gb275, 0, none⟩ = some (.slice (some ad294) l1_0.length c1_0) ∧ w'.cell? ⟨gb275, 1, none⟩ = some (.slice (some ad295) l1_1.length c1_1) ∧ w'.cell? (ad294.add (x6_3).toNat) = some (.int .i64 (rd l1_0 x6_3)) ∧ w'.cell? (ad295.add (x6_3).toNat) = some (.int .i64 (rd l1_1 x6_3))) (ds := []) b132_ (by kernel_rfl) rfl rfl ⟨(blk_cell BK275.out 0).trans rfl, (blk_cell BK275.out 1).trans rfl, ((HB.out.cell (World.block_lt_of_cell? w _ hw294_0)).trans hw294_0), ((HB.out.cell (World.block_lt_of_cell? w _ hw295_0)).trans hw295_0)⟩ (fun hHeld => ?_); refine with_tabW spec_RecordOk.tab13 spec_RecordOk.bits13 (fun HT_ HW_ => ?_)
                               generalize wc.drew = w76 at BK274 BK275 HB hx294_0 hx295_0 hHeld ⊢
                               refine pure_ (i := 0) (N := some 123) (v := ?_) (a' := ?_) b133_ rfl rfl (any_of HT_.out (by kernel_rfl)) (fun _ _ _ h => h) (Or.inl ⟨by rfl, ?_⟩) ?_ ?_
                               rotate_left; (· intro w'; go_simp; with_reducible rfl); rotate_left; (· simp only [Act.put, sA_, sB_, sC_, i64_w, i32_w]; rfl)
                               refine pure_ (i := 2) (N := some 125) (v := ?_) (a' := ?_) b134_ rfl rfl (any_of HT_.out (by kernel_rfl)) (fun _ _ _ h => h) (Or.inl ⟨by rfl, ?_⟩) ?_ ?_
                               rotate_left; (· intro w'; go_simp; with_reducible rfl); rotate_left; (· simp only [Act.put, sA_, sB_, sC_, i64_w, i32_w]; rfl)
                               refine pure_ (i := 5) (N := some 128) (v := ?_) (a' := ?_) b135_ rfl rfl (any_of HT_.out (by kernel_rfl)) (fun _ _ _ h => h) (Or.inl ⟨by rfl, ?_⟩) ?_ ?_
                               rotate_left; (· intro w'; go_simp; with_reducible rfl); rotate_left; (· simp only [Act.put, sA_, sB_, sC_, i64_w, i32_w]; rfl)
                               refine pure_ (i := 7) (N := some 130) (v := ?_) (a' := ?_) b136_ rfl rfl (any_of HT_.out (by kernel_rfl)) (fun _ _ _ h => h) (Or.inl ⟨by rfl, ?_⟩) ?_ ?_
                               rotate_left; (· intro w'; go_simp; with_reducible rfl); rotate_left; (· simp only [Act.put, sA_, sB_, sC_, i64_w, i32_w]; rfl)
                               refine take_ (i := 1) (N := some 124) (v := ?_) (a' := ?_) b137_ rfl rfl (take_ofW HT_.out HW_.out (by kernel_rfl)) (fun _ _ _ h => h) (Or.inl ⟨by rfl, ?_⟩) hHeld ?_ ?_
                               rotate_left; (· rintro w' ⟨s0, s1, s2, s3⟩; go_simp; with_reducible rfl); rotate_left; (· simp only [Act.put, sA_, sB_, sC_, i64_w, i32_w]; rfl)
                               refine pure_ (i := 3) (N := some 126) (v := ?_) (a' := ?_) b138_ rfl rfl (any_of HT_.out (by kernel_rfl)) (fun _ _ _ h => h) (Or.inl ⟨by rfl, ?_⟩) ?_ ?_
                               rotate_left; (· intro w'; go_simp; with_reducible rfl); rotate_left; (· simp only [Act.put, sA_, sB_, sC_, i64_w, i32_w]; rfl)
                               refine take_ (i := 4) (N := some 127) (v := ?_) (a' := ?_) b139_ rfl rfl (take_ofW HT_.out HW_.out (by kernel_rfl)) (fun _ _ _ h => h) (Or.inl ⟨by rfl, ?_⟩) hHeld ?_ ?_
                               rotate_left; (· rintro w' ⟨s0, s1, s2, s3⟩; go_simp; with_reducible rfl); rotate_left; (· simp only [Act.put, sA_, sB_, sC_, i64_w, i32_w]; rfl)
                               refine take_ (i := 6) (N := some 129) (v := ?_) (a' := ?_) b140_ rfl rfl (take_ofW HT_.out HW_.out (by kernel_rfl)) (fun _ _ _ h => h) (Or.inl ⟨by rfl, ?_⟩) hHeld ?_ ?_
                               rotate_left; (· rintro w' ⟨s0, s1, s2, s3⟩; go_simp; with_reducible rfl); rotate_left; (· simp only [Act.put, sA_, sB_, sC_, i64_w, i32_w]; rfl)
                               refine pure_ (i := 8) (N := some 131) (v := ?_) (a' := ?_) b141_ rfl rfl (any_of HT_.out (by kernel_rfl)) (fun _ _ _ h => h) (Or.inl ⟨by rfl, ?_⟩) ?_ ?_
                               rotate_left; (· intro w'; go_simp; with_reducible rfl); rotate_left; (· simp only [Act.put, sA_, sB_, sC_, i64_w, i32_w]; rfl)
                               refine take_ (i := 9) (N := some 132) (v := ?_) (a' := ?_) b142_ rfl rfl (take_ofW HT_.out HW_.out (by kernel_rfl)) (fun _ _ _ h => h) (Or.inl ⟨by rfl, ?_⟩) hHeld ?_ ?_
                               rotate_left; (· rintro w' ⟨s0, s1, s2, s3⟩; go_simp; with_reducible rfl); rotate_left; (· simp only [Act.put, sA_, sB_, sC_, i64_w, i32_w]; rfl)
                               refine pure_ (i := 10) (N := some 133) (v := ?_) (a' := ?_) b143_ rfl rfl (any_of HT_.out (by kernel_rfl)) (fun _ _ _ h => h) (Or.inl ⟨by rfl, ?_⟩) ?_ ?_
                               rotate_left; (· intro w'; go_simp; with_reducible rfl); rotate_left; (· simp only [Act.put, sA_, sB_, sC_, i64_w, i32_w]; rfl)
                               refine pure_ (i := 11) (N := some 134) (v := ?_) (a' := ?_) b144_ rfl rfl (any_of HT_.out (by kernel_rfl)) (fun _ _ _ h => h) (Or.inl ⟨by rfl, ?_⟩) ?_ ?_
                               rotate_left; (· intro w'; go_simp; with_reducible rfl); rotate_left; (· simp only [Act.put, sA_, sB_, sC_, i64_w, i32_w]; rfl)
                               refine pure_ (i := 12) (N := some 135) (v := ?_) (a' := ?_) b145_ rfl rfl (any_of HT_.out (by kernel_rfl)) (fun _ _ _ h => h) (Or.inl ⟨by rfl, ?_⟩) ?_ ?_
                               rotate_left; (· intro w'; go_simp; with_reducible rfl); rotate_left; (· simp only [Act.put, sA_, sB_, sC_, i64_w, i32_w]; rfl)
                               refine pure_ (i := 13) (N := some 136) (v := ?_) (a' := ?_) b146_ rfl rfl (any_of HT_.out (by kernel_rfl)) (fun _ _ _ h => h) (Or.inl ⟨by rfl, ?_⟩) ?_ ?_
                               rotate_left; (· intro w'; go_simp; with_reducible rfl); rotate_left; (· simp only [Act.put, sA_, sB_, sC_, i64_w, i32_w]; rfl)
                               refine pure_ (i := 14) (N := some 137) (v := ?_) (a' := ?_) b147_ rfl rfl (any_of HT_.out (by kernel_rfl)) (fun _ _ _ h => h) (Or.inl ⟨by rfl, ?_⟩) ?_ ?_
                               rotate_left; (· intro w'; go_simp; with_reducible rfl); rotate_left; (· simp only [Act.put, sA_, sB_, sC_, i64_w, i32_w]; rfl)
                               refine pure_ (i := 15) (N := some 138) (v := ?_) (a' := ?_) b148_ rfl rfl (any_of HT_.out (by kernel_rfl)) (fun _ _ _ h => h) (Or.inl ⟨by rfl, ?_⟩) ?_ ?_
                               rotate_left; (· intro w'; go_simp; with_reducible rfl); rotate_left; (· simp only [Act.put, sA_, sB_, sC_, i64_w, i32_w]; rfl)
                               refine pure_ (i := 16) (N := some 139) (v := ?_) (a' := ?_) b149_ rfl rfl (any_of HT_.out (by kernel_rfl)) (fun _ _ _ h => h) (Or.inl ⟨by rfl, ?_⟩) ?_ ?_
                               rotate_left; (· intro w'; go_simp; with_reducible rfl); rotate_left; (· simp only [Act.put, sA_, sB_, sC_, i64_w, i32_w]; rfl)
                               refine done_ (done_of HT_.out (by kernel_rfl)) ?_
                               try go_wp2
                               go_roundg kj56
                               case measure => have := HJ2.out; have := HJ31.out; have := HK3.out; have := HJ39.out; have := HJ56.out; omega
                               case rel => exact ⟨(wrap64 (x6_3 + 1)), (by first | rfl | (simp; done) | (simp [*]; done)), H', ⟨by have := HJ2.out; have := HJ31.out; have := HK3.out; have := HJ39.out; have := HJ56.out; omega⟩, ⟨by (with_reducible repeat (first | refine blk_drewN ?_ _ | refine blk_drew ?_ | refine blk_alloc ?_ _)); exact BK274.out⟩, ⟨by (with_reducible repeat (first | refine blk_drewN ?_ _ | refine blk_drew ?_ | refine blk_alloc ?_ _)); exact BK275.out⟩, ⟨by repeat (first | (with_reducible first | exact HB.out | apply below_alloc | apply pw_below_drewN | apply below_drew1 | refine below_set ?_ GE274.out | refine below_set ?_ GE275.out) | exact HB.out)⟩⟩
                           · rw [if_neg c73] at H
                             have c73b0 : ((rd l1_0 x6_3) == (rd l1_1 x6_3)) = false := beq_eq_false_iff_ne.mpr c73
                             have c73b1 : ((rd l1_0 x6_3) != (rd l1_1 x6_3)) = true := bne_iff_ne.mpr c73
                             have H' := Aside0.mk H
                             clear H
                             try go_wp2
                             have n0_ := Aside0.mk (blk_drew BK274.out)
                             have n1_ := Aside0.mk (blk_drew BK275.out)
                             have n2_ := Aside0.mk (below_drew1 HB.out)
                             clear BK274
                             clear BK275
                             clear HB
                             have BK274 := n0_
                             have BK275 := n1_
                             have HB := n2_
                             clear n0_ n1_ n2_
                             have p294 : 0 ≤ (x6_3 : Int) := of_decide_eq_true (by first | (with_reducible assumption) | assumption)
                             have q294 : x6_3 < (l1_0.length : Int) := of_decide_eq_true (by first | (with_reducible assumption) | assumption)
                             obtain ⟨ad294, e294, hx294_0⟩ := Kd.at_int HR1_0.out x6_3 p294 q294
                             have hw294_0 := hx294_0
                             cases e294
                             replace hx294_0 := (HB.out.cell (World.block_lt_of_cell? w _ hx294_0)).trans hx294_0
                             replace p294 := eq_true p294
                             replace q294 := eq_true q294
                             have p295 : 0 ≤ (x6_3 : Int) := of_decide_eq_true (by first | (with_reducible assumption) | assumption)
                             have q295 : x6_3 < (l1_1.length : Int) := of_decide_eq_true (by first | (with_reducible assumption) | assumption)
                             obtain ⟨ad295, e295, hx295_0⟩ := Kd.at_int HR1_1.out x6_3 p295 q295
                             have hw295_0 := hx295_0
                             cases e295
                             replace hx295_0 := (HB.out.cell (World.block_lt_of_cell? w _ hx295_0)).trans hx295_0
                             replace p295 := eq_true p295
                             replace q295 := eq_true q295
                             refine start_ (n := 17) (S := fun w' => w'.cell? ⟨gb275, 0, none⟩ = some (.slice (some ad294) l1_0.length c1_0) ∧ w'.cell? ⟨gb275, 1, none⟩ = some (.slice (some ad295) l1_1.length c1_1) ∧ w'.cell? (ad294.add (x6_3).toNat) = some (.int .i64 (rd l1_0 x6_3)) ∧ w'.cell? (ad295.add (x6_3).toNat) = some (.int .i64 (rd l1_1 x6_3))) (ds := []) b132_ (by kernel_rfl) rfl rfl ⟨(blk_cell BK275.out 0).trans rfl, (blk_cell BK275.out 1).trans rfl, ((HB.out.cell (World.block_lt_of_cell? w _ hw294_0)).trans hw294_0), ((HB.out.cell (World.block_lt_of_cell? w _ hw295_0)).trans hw295_0)⟩ (fun hHeld => ?_); refine with_tabW spec_RecordOk.tab13 spec_RecordOk.bits13 (fun HT_ HW_ => ?_)
                             generalize wc.drew = w77 at BK274 BK275 HB hx294_0 hx295_0 hHeld ⊢
                             refine pure_ (i := 0) (N := some 123) (v := ?_) (a' := ?_) b133_ rfl rfl (any_of HT_.out (by kernel_rfl)) (fun _ _ _ h => h) (Or.inl ⟨by rfl, ?_⟩) ?_ ?_
                             rotate_left; (· intro w'; go_simp; with_reducible rfl); rotate_left; (· simp only [Act.put, sA_, sB_, sC_, i64_w, i32_w]; rfl)
                             refine pure_ (i := 2) (N := some 125) (v := ?_) (a' := ?_) b134_ rfl rfl (any_of HT_.out (by kernel_rfl)) (fun _ _ _ h => h) (Or.inl ⟨by rfl, ?_⟩) ?_ ?_
                             rotate_left; (· intro w'; go_simp; with_reducible rfl); rotate_left; (· simp only [Act.put, sA_, sB_, sC_, i64_w, i32_w]; rfl)
                             refine pure_ (i := 5) (N := some 128) (v := ?_) (a' := ?_) b135_ rfl rfl (any_of HT_.out (by kernel_rfl)) (fun _ _ _ h => h) (Or.inl ⟨by rfl, ?_⟩) ?_ ?_
                             rotate_left; (· intro w'; go_simp; with_reducible rfl); rotate_left; (· simp only [Act.put, sA_, sB_, sC_, i64_w, i32_w]; rfl)
                             refine pure_ (i := 7) (N := some 130) (v := ?_) (a' := ?_) b136_ rfl rfl (any_of HT_.out (by kernel_rfl)) (fun _ _ _ h => h) (Or.inl ⟨by rfl, ?_⟩) ?_ ?_
                             rotate_left; (· intro w'; go_simp; with_reducible rfl); rotate_left; (· simp only [Act.put, sA_, sB_, sC_, i64_w, i32_w]; rfl)
                             refine take_ (i := 1) (N := some 124) (v := ?_) (a' := ?_) b137_ rfl rfl (take_ofW HT_.out HW_.out (by kernel_rfl)) (fun _ _ _ h => h) (Or.inl ⟨by rfl, ?_⟩) hHeld ?_ ?_
                             rotate_left; (· rintro w' ⟨s0, s1, s2, s3⟩; go_simp; with_reducible rfl); rotate_left; (· simp only [Act.put, sA_, sB_, sC_, i64_w, i32_w]; rfl)
                             refine pure_ (i := 3) (N := some 126) (v := ?_) (a' := ?_) b138_ rfl rfl (any_of HT_.out (by kernel_rfl)) (fun _ _ _ h => h) (Or.inl ⟨by rfl, ?_⟩) ?_ ?_
                             rotate_left; (· intro w'; go_simp; with_reducible rfl); rotate_left; (· simp only [Act.put, sA_, sB_, sC_, i64_w, i32_w]; rfl)
                             refine take_ (i := 4) (N := some 127) (v := ?_) (a' := ?_) b139_ rfl rfl (take_ofW HT_.out HW_.out (by kernel_rfl)) (fun _ _ _ h => h) (Or.inl ⟨by rfl, ?_⟩) hHeld ?_ ?_
                             rotate_left; (· rintro w' ⟨s0, s1, s2, s3⟩; go_simp; with_reducible rfl); rotate_left; (· simp only [Act.put, sA_, sB_, sC_, i64_w, i32_w]; rfl)
                             refine take_ (i := 6) (N := some 129) (v := ?_) (a' := ?_) b140_ rfl rfl (take_ofW HT_.out HW_.out (by kernel_rfl)) (fun _ _ _ h => h) (Or.inl ⟨by rfl, ?_⟩) hHeld ?_ ?_
                             rotate_left; (· rintro w' ⟨s0, s1, s2, s3⟩; go_simp; with_reducible rfl); rotate_left; (· simp only [Act.put, sA_, sB_, sC_, i64_w, i32_w]; rfl)
                             refine pure_ (i := 8) (N := some 131) (v := ?_) (a' := ?_) b141_ rfl rfl (any_of HT_.out (by kernel_rfl)) (fun _ _ _ h => h) (Or.inl ⟨by rfl, ?_⟩) ?_ ?_
                             rotate_left; (· intro w'; go_simp; with_reducible rfl); rotate_left; (· simp only [Act.put, sA_, sB_, sC_, i64_w, i32_w]; rfl)
                             refine take_ (i := 9) (N := some 132) (v := ?_) (a' := ?_) b142_ rfl rfl (take_ofW HT_.out HW_.out (by kernel_rfl)) (fun _ _ _ h => h) (Or.inl ⟨by rfl, ?_⟩) hHeld ?_ ?_
                             rotate_left; (· rintro w' ⟨s0, s1, s2, s3⟩; go_simp; with_reducible rfl); rotate_left; (· simp only [Act.put, sA_, sB_, sC_, i64_w, i32_w]; rfl)
                             refine pure_ (i := 10) (N := some 133) (v := ?_) (a' := ?_) b143_ rfl rfl (any_of HT_.out (by kernel_rfl)) (fun _ _ _ h => h) (Or.inl ⟨by rfl, ?_⟩) ?_ ?_
                             rotate_left; (· intro w'; go_simp; with_reducible rfl); rotate_left; (· simp only [Act.put, sA_, sB_, sC_, i64_w, i32_w]; rfl)
                             refine pure_ (i := 11) (N := some 134) (v := ?_) (a' := ?_) b144_ rfl rfl (any_of HT_.out (by kernel_rfl)) (fun _ _ _ h => h) (Or.inl ⟨by rfl, ?_⟩) ?_ ?_
                             rotate_left; (· intro w'; go_simp; with_reducible rfl); rotate_left; (· simp only [Act.put, sA_, sB_, sC_, i64_w, i32_w]; rfl)
                             refine pure_ (i := 12) (N := some 135) (v := undef) (a' := ?_) b145_ rfl rfl (any_of HT_.out (by kernel_rfl)) (fun _ _ _ h => h) (Or.inr ⟨by rfl, rfl⟩) ?_ ?_
                             rotate_left; (· simp only [Act.put, sA_, sB_, sC_, i64_w, i32_w]; rfl)
                             refine pure_ (i := 13) (N := some 136) (v := undef) (a' := ?_) b146_ rfl rfl (any_of HT_.out (by kernel_rfl)) (fun _ _ _ h => h) (Or.inr ⟨by rfl, rfl⟩) ?_ ?_
                             rotate_left; (· simp only [Act.put, sA_, sB_, sC_, i64_w, i32_w]; rfl)
                             refine pure_ (i := 14) (N := some 137) (v := undef) (a' := ?_) b147_ rfl rfl (any_of HT_.out (by kernel_rfl)) (fun _ _ _ h => h) (Or.inr ⟨by rfl, rfl⟩) ?_ ?_
                             rotate_left; (· simp only [Act.put, sA_, sB_, sC_, i64_w, i32_w]; rfl)
                             refine pure_ (i := 15) (N := some 138) (v := undef) (a' := ?_) b148_ rfl rfl (any_of HT_.out (by kernel_rfl)) (fun _ _ _ h => h) (Or.inr ⟨by rfl, rfl⟩) ?_ ?_
                             rotate_left; (· simp only [Act.put, sA_, sB_, sC_, i64_w, i32_w]; rfl)
                             refine pure_ (i := 16) (N := some 139) (v := ?_) (a' := ?_) b149_ rfl rfl (any_of HT_.out (by kernel_rfl)) (fun _ _ _ h => h) (Or.inl ⟨by rfl, ?_⟩) ?_ ?_
                             rotate_left; (· intro w'; go_simp; with_reducible rfl); rotate_left; (· simp only [Act.put, sA_, sB_, sC_, i64_w, i32_w]; rfl)
                             refine done_ (done_of HT_.out (by kernel_rfl)) ?_
                             try go_wp2
                             go_roundg kj56
                             case measure => have := HJ2.out; have := HJ31.out; have := HK3.out; have := HJ39.out; have := HJ56.out; omega
                             case rel => exact ⟨(wrap64 (x6_3 + 1)), (by first | rfl | (simp; done) | (simp [*]; done)), H', ⟨by have := HJ2.out; have := HJ31.out; have := HK3.out; have := HJ39.out; have := HJ56.out; omega⟩, ⟨by (with_reducible repeat (first | refine blk_drewN ?_ _ | refine blk_drew ?_ | refine blk_alloc ?_ _)); exact BK274.out⟩, ⟨by (with_reducible repeat (first | refine blk_drewN ?_ _ | refine blk_drew ?_ | refine blk_alloc ?_ _)); exact BK275.out⟩, ⟨by repeat (first | (with_reducible first | exact HB.out | apply below_alloc | apply pw_below_drewN | apply below_drew1 | refine below_set ?_ GE274.out | refine below_set ?_ GE275.out) | exact HB.out)⟩⟩
                         · rw [if_neg c72] at H
                           exact absurd H (by simp)
                       · rw [if_neg c71] at H
                         exact absurd H (by simp)
                     · rw [if_neg c70] at H
                       exact absurd H (by simp)
           · rw [if_neg c39] at H
             have c39b0 : decide (x6_3 < (l1_0.length : Int)) = false := decide_eq_false c39
             clear c39
             obtain rfl := Option.some.inj H
             go_wp2
             go_ret
             exact ⟨by first | rfl | (simp [errW_none, errW_some] <;> rfl) | (simp [*, errW_none, errW_some] <;> rfl), by repeat (first | (with_reducible first | exact HB.out | apply below_alloc | apply pw_below_drewN | apply below_drew1 | refine below_set ?_ GE274.out | refine below_set ?_ GE275.out) | exact HB.out)⟩

end Go.Proofs.Ytilanbgciofkjaa.PA
