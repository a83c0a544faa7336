-- Printed for this claim by this session's program pp.py, which drives the kit's print with additions. Not trusted: Lean checks it.
import Derived.Test.YtakpnhlkalbcoaaPFnExactCountAssignmentsx0
import Derived.Test.YtakpnhlkalbcoaaPFnExactCountAssignmentsx3
import Derived.Test.YtakpnhlkalbcoaaPFnExactCountAssignmentsx4
import Derived.Test.YtakpnhlkalbcoaaPFnExactCountAssignmentsx5
namespace Go.Proofs.Ytakpnhlkalbcoaa.PFnExactCountAssignments
open Go.RowKit Go.Proofs.YtakpnhlkalbcoaaW.PrintWords Go.Proofs.YtakpnhlkalbcoaaW.PrintLast Go.Proofs.YtakpnhlkalbcoaaW.PrintMore
attribute [local go_sem] max2_int min2_int max_two min_two max_three min_three max_four min_four   -- for this text's walks alone
set_option linter.unusedVariables false
set_option linter.unusedSimpArgs false

/-! ### impl_crimp: function 48 -/
mutual
def impl_crimp.j0 : Nat → List Int → List Int → Int → Int → Int → List Int → List Int → Option (List Int × List Int × Int)
  | 0, _, _, _, _, _, _, _ => none
  | k + 1, x0, x1, x9, x10, x11, x12, x13 => if x9 = 0 then (none) else (impl_crimp.l0 k x0 x1 x9 x10 x12 x13 (Int.tmod (wrap64 (x11 + 1)) x9))
def impl_crimp.l0 : Nat → List Int → List Int → Int → Int → List Int → List Int → Int → Option (List Int × List Int × Int)
  | 0, _, _, _, _, _, _, _ => none
  | k + 1, x0, x1, x9, x10, x12, x13, x16 => if x16 = x10 then (some (x12, x13, 0)) else (if 0 ≤ x16 then (if x16 < (x0.length : Int) then (if x12.length < 17592186044416 then (if x16 < (x1.length : Int) then (if x13.length < 17592186044416 then (if x9 = 0 then (none) else (impl_crimp.l0 k x0 x1 x9 x10 (x12 ++ [rd x0 x16]) (x13 ++ [rd x1 x16]) (Int.tmod (wrap64 (x16 + 1)) x9))) else (none)) else (none)) else (none)) else (none)) else (none))
end
def impl_crimp.f (k : Nat) (l0 : List Int) (l1 : List Int) : Option (List Int × List Int × Int) := (impl_littleRuns.f k l0).bind fun t208 => (if (t208.length : Int) = 0 then (some (([] : List Int), ([] : List Int), 6)) else (if 0 < (t208.length : Int) then ((impl_length_int64.f l0).bind fun t212 => ((impl_isBalanced.f k ((rd_T86 t208 0).f0) ((rd_T86 t208 0).f1) ((rd_T86 t208 0).f2) l1).bind fun t214 => (if t214 = true then (if t212 = 0 then (none) else (if (Int.tmod ((rd_T86 t208 0).f1) 2) = 1 then (if 0 ≤ (Int.tmod (wrap64 ((wrap64 (((rd_T86 t208 0).f0) + t212)) - 1)) t212) then (if (Int.tmod (wrap64 ((wrap64 (((rd_T86 t208 0).f0) + t212)) - 1)) t212) < (l0.length : Int) then (if 0 ≤ (Int.tmod (wrap64 (((rd_T86 t208 0).f0) + ((rd_T86 t208 0).f1))) t212) then (if (Int.tmod (wrap64 (((rd_T86 t208 0).f0) + ((rd_T86 t208 0).f1))) t212) < (l0.length : Int) then (if (Int.tmod (wrap64 ((wrap64 (((rd_T86 t208 0).f0) + t212)) - 1)) t212) < (l1.length : Int) then (impl_crimp.j0 k l0 l1 t212 (Int.tmod (wrap64 ((wrap64 (((rd_T86 t208 0).f0) + t212)) - 1)) t212) (Int.tmod (wrap64 (((rd_T86 t208 0).f0) + ((rd_T86 t208 0).f1))) t212) (([wrap64 ((wrap64 ((rd l0 (Int.tmod (wrap64 ((wrap64 (((rd_T86 t208 0).f0) + t212)) - 1)) t212)) - ((rd_T86 t208 0).f2))) + (rd l0 (Int.tmod (wrap64 (((rd_T86 t208 0).f0) + ((rd_T86 t208 0).f1))) t212)))] : List Int)) (([rd l1 (Int.tmod (wrap64 ((wrap64 (((rd_T86 t208 0).f0) + t212)) - 1)) t212)] : List Int))) else (none)) else (none)) else (none)) else (none)) else (none)) else ((impl_innerCreases.f k ((rd_T86 t208 0).f0) ((rd_T86 t208 0).f1) ((rd_T86 t208 0).f2) t212).bind fun t224 => ((impl_chosen.f k l1 t224).bind fun t227 => ((impl_countKind.f k t227 3).bind fun t230 => ((impl_countKind.f k t227 2).bind fun t231 => (if t230 > t231 then (if 0 ≤ (Int.tmod (wrap64 ((wrap64 (((rd_T86 t208 0).f0) + t212)) - 1)) t212) then (if (Int.tmod (wrap64 ((wrap64 (((rd_T86 t208 0).f0) + t212)) - 1)) t212) < (l0.length : Int) then (if 0 ≤ (Int.tmod (wrap64 (((rd_T86 t208 0).f0) + ((rd_T86 t208 0).f1))) t212) then (if (Int.tmod (wrap64 (((rd_T86 t208 0).f0) + ((rd_T86 t208 0).f1))) t212) < (l0.length : Int) then (if (Int.tmod (wrap64 ((wrap64 (((rd_T86 t208 0).f0) + t212)) - 1)) t212) < (l1.length : Int) then (impl_crimp.j0 k l0 l1 t212 (Int.tmod (wrap64 ((wrap64 (((rd_T86 t208 0).f0) + t212)) - 1)) t212) (Int.tmod (wrap64 (((rd_T86 t208 0).f0) + ((rd_T86 t208 0).f1))) t212) (([rd l0 (Int.tmod (wrap64 ((wrap64 (((rd_T86 t208 0).f0) + t212)) - 1)) t212), rd l0 (Int.tmod (wrap64 (((rd_T86 t208 0).f0) + ((rd_T86 t208 0).f1))) t212)] : List Int)) (([rd l1 (Int.tmod (wrap64 ((wrap64 (((rd_T86 t208 0).f0) + t212)) - 1)) t212), 3] : List Int))) else (none)) else (none)) else (none)) else (none)) else (none)) else (if 0 ≤ (Int.tmod (wrap64 ((wrap64 (((rd_T86 t208 0).f0) + t212)) - 1)) t212) then (if (Int.tmod (wrap64 ((wrap64 (((rd_T86 t208 0).f0) + t212)) - 1)) t212) < (l0.length : Int) then (if 0 ≤ (Int.tmod (wrap64 (((rd_T86 t208 0).f0) + ((rd_T86 t208 0).f1))) t212) then (if (Int.tmod (wrap64 (((rd_T86 t208 0).f0) + ((rd_T86 t208 0).f1))) t212) < (l0.length : Int) then (if (Int.tmod (wrap64 ((wrap64 (((rd_T86 t208 0).f0) + t212)) - 1)) t212) < (l1.length : Int) then (impl_crimp.j0 k l0 l1 t212 (Int.tmod (wrap64 ((wrap64 (((rd_T86 t208 0).f0) + t212)) - 1)) t212) (Int.tmod (wrap64 (((rd_T86 t208 0).f0) + ((rd_T86 t208 0).f1))) t212) (([rd l0 (Int.tmod (wrap64 ((wrap64 (((rd_T86 t208 0).f0) + t212)) - 1)) t212), rd l0 (Int.tmod (wrap64 (((rd_T86 t208 0).f0) + ((rd_T86 t208 0).f1))) t212)] : List Int)) (([rd l1 (Int.tmod (wrap64 ((wrap64 (((rd_T86 t208 0).f0) + t212)) - 1)) t212), 2] : List Int))) else (none)) else (none)) else (none)) else (none)) else (none))))))))) else (some (([] : List Int), ([] : List Int), 8))))) else (none)))
theorem impl_crimp.mono_l : ∀ k, (∀ y0 y1 y2 y3 y4 y5 y6, LeO (impl_crimp.j0 k y0 y1 y2 y3 y4 y5 y6) (impl_crimp.j0 (k + 1) y0 y1 y2 y3 y4 y5 y6)) ∧ (∀ y0 y1 y2 y3 y4 y5 y6, LeO (impl_crimp.l0 k y0 y1 y2 y3 y4 y5 y6) (impl_crimp.l0 (k + 1) y0 y1 y2 y3 y4 y5 y6))
  | 0 => ⟨fun _ _ _ _ _ _ _ r h => by simp [impl_crimp.j0] at h, fun _ _ _ _ _ _ _ r h => by simp [impl_crimp.l0] at h⟩
  | k + 1 => by
    obtain ⟨ih0, ih1⟩ := impl_crimp.mono_l k
    refine ⟨?_, ?_⟩
    · intro y0 y1 y2 y3 y4 y5 y6
      unfold impl_crimp.j0
      repeat' first
      | (with_reducible exact ih0 _ _ _ _ _ _ _)
      | (with_reducible exact ih1 _ _ _ _ _ _ _)
      | (with_reducible exact impl_chosen.mono _ _ _)
      | (with_reducible exact impl_countKind.mono _ _ _)
      | (with_reducible exact impl_innerCreases.mono _ _ _ _ _)
      | (with_reducible exact impl_isBalanced.mono _ _ _ _ _)
      | (with_reducible exact impl_littleRuns.mono _ _)
      | (with_reducible exact LeO.refl _)
      | (with_reducible exact LeO.none _)
      | (with_reducible refine LeO.ite ?_ ?_)
      | (with_reducible refine LeO.bind ?_ (fun _ => ?_))
      | exact ih0 _ _ _ _ _ _ _
      | exact ih1 _ _ _ _ _ _ _
      | exact impl_chosen.mono _ _ _
      | exact impl_countKind.mono _ _ _
      | exact impl_innerCreases.mono _ _ _ _ _
      | exact impl_isBalanced.mono _ _ _ _ _
      | exact impl_littleRuns.mono _ _
      | exact LeO.none _
      | refine LeO.ite ?_ ?_
      | refine LeO.bind ?_ (fun _ => ?_)
    · intro y0 y1 y2 y3 y4 y5 y6
      unfold impl_crimp.l0
      repeat' first
      | (with_reducible exact ih0 _ _ _ _ _ _ _)
      | (with_reducible exact ih1 _ _ _ _ _ _ _)
      | (with_reducible exact impl_chosen.mono _ _ _)
      | (with_reducible exact impl_countKind.mono _ _ _)
      | (with_reducible exact impl_innerCreases.mono _ _ _ _ _)
      | (with_reducible exact impl_isBalanced.mono _ _ _ _ _)
      | (with_reducible exact impl_littleRuns.mono _ _)
      | (with_reducible exact LeO.refl _)
      | (with_reducible exact LeO.none _)
      | (with_reducible refine LeO.ite ?_ ?_)
      | (with_reducible refine LeO.bind ?_ (fun _ => ?_))
      | exact ih0 _ _ _ _ _ _ _
      | exact ih1 _ _ _ _ _ _ _
      | exact impl_chosen.mono _ _ _
      | exact impl_countKind.mono _ _ _
      | exact impl_innerCreases.mono _ _ _ _ _
      | exact impl_isBalanced.mono _ _ _ _ _
      | exact impl_littleRuns.mono _ _
      | exact LeO.none _
      | refine LeO.ite ?_ ?_
      | refine LeO.bind ?_ (fun _ => ?_)
theorem impl_crimp.mono : ∀ a0 a1 k, LeO (impl_crimp.f k a0 a1) (impl_crimp.f (k + 1) a0 a1) := by
  intro a0 a1 k
  obtain ⟨ih0, ih1⟩ := impl_crimp.mono_l k
  unfold impl_crimp.f
  repeat' first
      | (with_reducible exact ih0 _ _ _ _ _ _ _)
      | (with_reducible exact ih1 _ _ _ _ _ _ _)
      | (with_reducible exact impl_chosen.mono _ _ _)
      | (with_reducible exact impl_countKind.mono _ _ _)
      | (with_reducible exact impl_innerCreases.mono _ _ _ _ _)
      | (with_reducible exact impl_isBalanced.mono _ _ _ _ _)
      | (with_reducible exact impl_littleRuns.mono _ _)
      | (with_reducible exact LeO.refl _)
      | (with_reducible exact LeO.none _)
      | (with_reducible refine LeO.ite ?_ ?_)
      | (with_reducible refine LeO.bind ?_ (fun _ => ?_))
      | exact ih0 _ _ _ _ _ _ _
      | exact ih1 _ _ _ _ _ _ _
      | exact impl_chosen.mono _ _ _
      | exact impl_countKind.mono _ _ _
      | exact impl_innerCreases.mono _ _ _ _ _
      | exact impl_isBalanced.mono _ _ _ _ _
      | exact impl_littleRuns.mono _ _
      | exact LeO.none _
      | refine LeO.ite ?_ ?_
      | refine LeO.bind ?_ (fun _ => ?_)
def impl_crimp.T4 : Bool × List (List Nat × List Nat) := (true, [([], []), ([0], [0]), ([1], [1]), ([], []), ([3], [3]), ([], []), ([5, 2, 4, 0, 1, 2, 5], [2, 5]), ([4, 6, 0, 1, 2, 3, 4, 5, 6], [4])])
def impl_crimp.B4 : List Nat := [0, 1, 3, 0, 8, 0, 63, 127]
theorem impl_crimp.tab4 : rtab .any (opsOf Try.f48 4) = impl_crimp.T4 := by kernel_rfl
theorem impl_crimp.bits4 : waitsOk impl_crimp.T4.2 impl_crimp.B4 = true := by kernel_rfl
def impl_crimp.T7 : Bool × List (List Nat × List Nat) := (true, [([], []), ([0], [0]), ([], []), ([1, 2], [1, 2]), ([3], [3]), ([], []), ([4, 5], [4, 5]), ([], []), ([7], [7]), ([], []), ([9], [9]), ([8, 10], [8, 10]), ([], []), ([11, 12], [11, 12]), ([6, 0, 1, 2, 3, 4, 5, 6], [6]), ([13, 14, 0, 1, 2, 3, 4, 5, 6, 7, 8, 9, 10, 11, 12, 13, 14], [13])])
def impl_crimp.B7 : List Nat := [0, 1, 0, 7, 15, 0, 63, 0, 128, 0, 512, 1920, 0, 8064, 127, 32767]
theorem impl_crimp.tab7 : rtab .any (opsOf Try.f48 7) = impl_crimp.T7 := by kernel_rfl
theorem impl_crimp.bits7 : waitsOk impl_crimp.T7.2 impl_crimp.B7 = true := by kernel_rfl
def impl_crimp.T10 : Bool × List (List Nat × List Nat) := (true, [([], []), ([], []), ([0, 1], [0, 1]), ([2], [2]), ([], []), ([4], [4]), ([3, 5], [3, 5]), ([], []), ([], []), ([7, 8], [7, 8]), ([9], [9]), ([6, 10], [6, 10]), ([11], [11]), ([], []), ([], []), ([13, 14], [13, 14]), ([15], [15]), ([16], [16]), ([12, 0, 1, 2, 3, 4, 5, 6, 7, 8, 9, 10, 11, 12], [12]), ([17, 18, 0, 1, 2, 3, 4, 5, 6, 7, 8, 9, 10, 11, 12, 13, 14, 15, 16, 17, 18], [17])])
def impl_crimp.B10 : List Nat := [0, 0, 3, 7, 0, 16, 63, 0, 0, 384, 896, 2047, 4095, 0, 0, 24576, 57344, 122880, 8191, 524287]
theorem impl_crimp.tab10 : rtab .any (opsOf Try.f48 10) = impl_crimp.T10 := by kernel_rfl
theorem impl_crimp.bits10 : waitsOk impl_crimp.T10.2 impl_crimp.B10 = true := by kernel_rfl
def impl_crimp.T15 : Bool × List (List Nat × List Nat) := (true, [([], []), ([], []), ([0, 1], [0, 1]), ([2], [2]), ([], []), ([], []), ([4, 5], [4, 5]), ([6], [6]), ([3, 7], [3, 7]), ([], []), ([], []), ([9, 10], [9, 10]), ([11], [11]), ([], []), ([12, 13], [12, 13]), ([8, 0, 1, 2, 3, 4, 5, 6, 7, 8], [8]), ([14, 15, 0, 1, 2, 3, 4, 5, 6, 7, 8, 9, 10, 11, 12, 13, 14, 15], [14])])
def impl_crimp.B15 : List Nat := [0, 0, 3, 7, 0, 0, 48, 112, 255, 0, 0, 1536, 3584, 0, 15872, 511, 65535]
theorem impl_crimp.tab15 : rtab .any (opsOf Try.f48 15) = impl_crimp.T15 := by kernel_rfl
theorem impl_crimp.bits15 : waitsOk impl_crimp.T15.2 impl_crimp.B15 = true := by kernel_rfl
set_option maxHeartbeats 8000000 in
set_option maxRecDepth 100000 in
theorem impl_crimp.calls (k : Nat) (A0 : Option Addr) (c0 : Nat) (l0 : List Int) (A1 : Option Addr) (c1 : Nat) (l1 : List Int) (r1 : List Int) (r2 : List Int) (r3 : Int) (w : World) (hr0 : Kd.C (Kd.int .i64) w A0 l0.length l0) (hc0 : l0.length ≤ c0) (hr1 : Kd.C (Kd.int .i64) w A1 l1.length l1) (hc1 : l1.length ≤ c1) (h : impl_crimp.f k l0 l1 = some (r1, r2, r3)) :
    Calls Try.prog 48 #[.slice A0 l0.length c0, .slice A1 l1.length c1] w fun e w' => ∃ v0_ v1_ : Value, e = .returned (.tuple #[v0_, v1_, .int .i64 r3]) ∧ Kd.R (Kd.int .i64) 2 w' w.heap.size (fun k_ => some k_ ≠ (v1_ : Value).ownBlock) v0_ r1 ∧ Kd.R (Kd.int .i64) 2 w' w.heap.size (fun k_ => some k_ ≠ (v0_ : Value).ownBlock) v1_ r2 ∧ Below w.heap.size w w' := by
  have hu86 := Try.underlying86
  have HR0 := Aside0.mk hr0
  have HC0 := Aside0.mk hc0
  clear hr0 hc0
  have HR1 := Aside0.mk hr1
  have HC1 := Aside0.mk hc1
  clear hr1 hc1
  have HB := Aside0.mk (Below.refl w.heap.size w)
  have H : ((impl_littleRuns.f k l0).bind fun t208 => (if (t208.length : Int) = 0 then (some (([] : List Int), ([] : List Int), 6)) else (if 0 < (t208.length : Int) then ((impl_length_int64.f l0).bind fun t212 => ((impl_isBalanced.f k ((rd_T86 t208 0).f0) ((rd_T86 t208 0).f1) ((rd_T86 t208 0).f2) l1).bind fun t214 => (if t214 = true then (if t212 = 0 then (none) else (if (Int.tmod ((rd_T86 t208 0).f1) 2) = 1 then (if 0 ≤ (Int.tmod (wrap64 ((wrap64 (((rd_T86 t208 0).f0) + t212)) - 1)) t212) then (if (Int.tmod (wrap64 ((wrap64 (((rd_T86 t208 0).f0) + t212)) - 1)) t212) < (l0.length : Int) then (if 0 ≤ (Int.tmod (wrap64 (((rd_T86 t208 0).f0) + ((rd_T86 t208 0).f1))) t212) then (if (Int.tmod (wrap64 (((rd_T86 t208 0).f0) + ((rd_T86 t208 0).f1))) t212) < (l0.length : Int) then (if (Int.tmod (wrap64 ((wrap64 (((rd_T86 t208 0).f0) + t212)) - 1)) t212) < (l1.length : Int) then (impl_crimp.j0 k l0 l1 t212 (Int.tmod (wrap64 ((wrap64 (((rd_T86 t208 0).f0) + t212)) - 1)) t212) (Int.tmod (wrap64 (((rd_T86 t208 0).f0) + ((rd_T86 t208 0).f1))) t212) (([wrap64 ((wrap64 ((rd l0 (Int.tmod (wrap64 ((wrap64 (((rd_T86 t208 0).f0) + t212)) - 1)) t212)) - ((rd_T86 t208 0).f2))) + (rd l0 (Int.tmod (wrap64 (((rd_T86 t208 0).f0) + ((rd_T86 t208 0).f1))) t212)))] : List Int)) (([rd l1 (Int.tmod (wrap64 ((wrap64 (((rd_T86 t208 0).f0) + t212)) - 1)) t212)] : List Int))) else (none)) else (none)) else (none)) else (none)) else (none)) else ((impl_innerCreases.f k ((rd_T86 t208 0).f0) ((rd_T86 t208 0).f1) ((rd_T86 t208 0).f2) t212).bind fun t224 => ((impl_chosen.f k l1 t224).bind fun t227 => ((impl_countKind.f k t227 3).bind fun t230 => ((impl_countKind.f k t227 2).bind fun t231 => (if t230 > t231 then (if 0 ≤ (Int.tmod (wrap64 ((wrap64 (((rd_T86 t208 0).f0) + t212)) - 1)) t212) then (if (Int.tmod (wrap64 ((wrap64 (((rd_T86 t208 0).f0) + t212)) - 1)) t212) < (l0.length : Int) then (if 0 ≤ (Int.tmod (wrap64 (((rd_T86 t208 0).f0) + ((rd_T86 t208 0).f1))) t212) then (if (Int.tmod (wrap64 (((rd_T86 t208 0).f0) + ((rd_T86 t208 0).f1))) t212) < (l0.length : Int) then (if (Int.tmod (wrap64 ((wrap64 (((rd_T86 t208 0).f0) + t212)) - 1)) t212) < (l1.length : Int) then (impl_crimp.j0 k l0 l1 t212 (Int.tmod (wrap64 ((wrap64 (((rd_T86 t208 0).f0) + t212)) - 1)) t212) (Int.tmod (wrap64 (((rd_T86 t208 0).f0) + ((rd_T86 t208 0).f1))) t212) (([rd l0 (Int.tmod (wrap64 ((wrap64 (((rd_T86 t208 0).f0) + t212)) - 1)) t212), rd l0 (Int.tmod (wrap64 (((rd_T86 t208 0).f0) + ((rd_T86 t208 0).f1))) t212)] : List Int)) (([rd l1 (Int.tmod (wrap64 ((wrap64 (((rd_T86 t208 0).f0) + t212)) - 1)) t212), 3] : List Int))) else (none)) else (none)) else (none)) else (none)) else (none)) else (if 0 ≤ (Int.tmod (wrap64 ((wrap64 (((rd_T86 t208 0).f0) + t212)) - 1)) t212) then (if (Int.tmod (wrap64 ((wrap64 (((rd_T86 t208 0).f0) + t212)) - 1)) t212) < (l0.length : Int) then (if 0 ≤ (Int.tmod (wrap64 (((rd_T86 t208 0).f0) + ((rd_T86 t208 0).f1))) t212) then (if (Int.tmod (wrap64 (((rd_T86 t208 0).f0) + ((rd_T86 t208 0).f1))) t212) < (l0.length : Int) then (if (Int.tmod (wrap64 ((wrap64 (((rd_T86 t208 0).f0) + t212)) - 1)) t212) < (l1.length : Int) then (impl_crimp.j0 k l0 l1 t212 (Int.tmod (wrap64 ((wrap64 (((rd_T86 t208 0).f0) + t212)) - 1)) t212) (Int.tmod (wrap64 (((rd_T86 t208 0).f0) + ((rd_T86 t208 0).f1))) t212) (([rd l0 (Int.tmod (wrap64 ((wrap64 (((rd_T86 t208 0).f0) + t212)) - 1)) t212), rd l0 (Int.tmod (wrap64 (((rd_T86 t208 0).f0) + ((rd_T86 t208 0).f1))) t212)] : List Int)) (([rd l1 (Int.tmod (wrap64 ((wrap64 (((rd_T86 t208 0).f0) + t212)) - 1)) t212), 2] : List Int))) else (none)) else (none)) else (none)) else (none)) else (none))))))))) else (some (([] : List Int), ([] : List Int), 8))))) else (none)))) = some (r1, r2, r3) := h
  clear h
  replace H := Option.bind_eq_some_iff.mp H
  obtain ⟨t208, A30, H⟩ := H
  replace H : (if (t208.length : Int) = 0 then (some (([] : List Int), ([] : List Int), 6)) else (if 0 < (t208.length : Int) then ((impl_length_int64.f l0).bind fun t212 => ((impl_isBalanced.f k ((rd_T86 t208 0).f0) ((rd_T86 t208 0).f1) ((rd_T86 t208 0).f2) l1).bind fun t214 => (if t214 = true then (if t212 = 0 then (none) else (if (Int.tmod ((rd_T86 t208 0).f1) 2) = 1 then (if 0 ≤ (Int.tmod (wrap64 ((wrap64 (((rd_T86 t208 0).f0) + t212)) - 1)) t212) then (if (Int.tmod (wrap64 ((wrap64 (((rd_T86 t208 0).f0) + t212)) - 1)) t212) < (l0.length : Int) then (if 0 ≤ (Int.tmod (wrap64 (((rd_T86 t208 0).f0) + ((rd_T86 t208 0).f1))) t212) then (if (Int.tmod (wrap64 (((rd_T86 t208 0).f0) + ((rd_T86 t208 0).f1))) t212) < (l0.length : Int) then (if (Int.tmod (wrap64 ((wrap64 (((rd_T86 t208 0).f0) + t212)) - 1)) t212) < (l1.length : Int) then (impl_crimp.j0 k l0 l1 t212 (Int.tmod (wrap64 ((wrap64 (((rd_T86 t208 0).f0) + t212)) - 1)) t212) (Int.tmod (wrap64 (((rd_T86 t208 0).f0) + ((rd_T86 t208 0).f1))) t212) (([wrap64 ((wrap64 ((rd l0 (Int.tmod (wrap64 ((wrap64 (((rd_T86 t208 0).f0) + t212)) - 1)) t212)) - ((rd_T86 t208 0).f2))) + (rd l0 (Int.tmod (wrap64 (((rd_T86 t208 0).f0) + ((rd_T86 t208 0).f1))) t212)))] : List Int)) (([rd l1 (Int.tmod (wrap64 ((wrap64 (((rd_T86 t208 0).f0) + t212)) - 1)) t212)] : List Int))) else (none)) else (none)) else (none)) else (none)) else (none)) else ((impl_innerCreases.f k ((rd_T86 t208 0).f0) ((rd_T86 t208 0).f1) ((rd_T86 t208 0).f2) t212).bind fun t224 => ((impl_chosen.f k l1 t224).bind fun t227 => ((impl_countKind.f k t227 3).bind fun t230 => ((impl_countKind.f k t227 2).bind fun t231 => (if t230 > t231 then (if 0 ≤ (Int.tmod (wrap64 ((wrap64 (((rd_T86 t208 0).f0) + t212)) - 1)) t212) then (if (Int.tmod (wrap64 ((wrap64 (((rd_T86 t208 0).f0) + t212)) - 1)) t212) < (l0.length : Int) then (if 0 ≤ (Int.tmod (wrap64 (((rd_T86 t208 0).f0) + ((rd_T86 t208 0).f1))) t212) then (if (Int.tmod (wrap64 (((rd_T86 t208 0).f0) + ((rd_T86 t208 0).f1))) t212) < (l0.length : Int) then (if (Int.tmod (wrap64 ((wrap64 (((rd_T86 t208 0).f0) + t212)) - 1)) t212) < (l1.length : Int) then (impl_crimp.j0 k l0 l1 t212 (Int.tmod (wrap64 ((wrap64 (((rd_T86 t208 0).f0) + t212)) - 1)) t212) (Int.tmod (wrap64 (((rd_T86 t208 0).f0) + ((rd_T86 t208 0).f1))) t212) (([rd l0 (Int.tmod (wrap64 ((wrap64 (((rd_T86 t208 0).f0) + t212)) - 1)) t212), rd l0 (Int.tmod (wrap64 (((rd_T86 t208 0).f0) + ((rd_T86 t208 0).f1))) t212)] : List Int)) (([rd l1 (Int.tmod (wrap64 ((wrap64 (((rd_T86 t208 0).f0) + t212)) - 1)) t212), 3] : List Int))) else (none)) else (none)) else (none)) else (none)) else (none)) else (if 0 ≤ (Int.tmod (wrap64 ((wrap64 (((rd_T86 t208 0).f0) + t212)) - 1)) t212) then (if (Int.tmod (wrap64 ((wrap64 (((rd_T86 t208 0).f0) + t212)) - 1)) t212) < (l0.length : Int) then (if 0 ≤ (Int.tmod (wrap64 (((rd_T86 t208 0).f0) + ((rd_T86 t208 0).f1))) t212) then (if (Int.tmod (wrap64 (((rd_T86 t208 0).f0) + ((rd_T86 t208 0).f1))) t212) < (l0.length : Int) then (if (Int.tmod (wrap64 ((wrap64 (((rd_T86 t208 0).f0) + t212)) - 1)) t212) < (l1.length : Int) then (impl_crimp.j0 k l0 l1 t212 (Int.tmod (wrap64 ((wrap64 (((rd_T86 t208 0).f0) + t212)) - 1)) t212) (Int.tmod (wrap64 (((rd_T86 t208 0).f0) + ((rd_T86 t208 0).f1))) t212) (([rd l0 (Int.tmod (wrap64 ((wrap64 (((rd_T86 t208 0).f0) + t212)) - 1)) t212), rd l0 (Int.tmod (wrap64 (((rd_T86 t208 0).f0) + ((rd_T86 t208 0).f1))) t212)] : List Int)) (([rd l1 (Int.tmod (wrap64 ((wrap64 (((rd_T86 t208 0).f0) + t212)) - 1)) t212), 2] : List Int))) else (none)) else (none)) else (none)) else (none)) else (none))))))))) else (some (([] : List Int), ([] : List Int), 8))))) else (none))) = some (r1, r2, r3) := H
  have A3 := Aside0.mk A30
  clear A30
  by_cases c4 : (t208.length : Int) = 0
  · rw [if_pos c4] at H
    have c4b0 : ((t208.length : Int) == 0) = true := beq_iff_eq.mpr c4
    have c4b1 : ((t208.length : Int) != 0) = false := bne_eq_false_iff_eq.mpr c4
    clear c4
    simp only [Option.some.injEq, Prod.mk.injEq] at H
    obtain ⟨rfl, rfl, rfl⟩ := H
    go_enter Try.func48, Try.ntmps48
    go_wp2_with (first | ((with_reducible refine gate_callee (f := 66) rfl ?_); refine goesL_ (some 18) rfl rfl Try.func66 (by kernel_rfl) rfl #[.slice A0 l0.length c0] rfl (by (try simp only [List.map_toArray, List.map_cons, List.map_nil]); first | done | rfl | (simp only [List.length_drop, List.length_take]; rfl)) ?_; (with_reducible refine (impl_littleRuns.calls k _ _ l0 t208 _ ?side1 ?side2 A3.out).mono ?_); (case side1 => repeat (first | exact HR0.out | (with_reducible refine Kd.C_alloc ?_ _) | (with_reducible refine Kd.C_drewN ?_ _) | (with_reducible refine Kd.C_drew ?_))); (case side2 => exact HC0.out); rintro e w5 ⟨v209, rfl, ho0, hb⟩; refine ⟨_, rfl, ?_⟩; have n0_ := Aside0.mk (Kd.R_lower ho0 (below_size (by repeat (first | (with_reducible first | exact HB.out | apply below_alloc | apply pw_below_drewN | apply below_drew1) | exact HB.out)))); have n1_ := Aside0.mk (below_step (by repeat (first | (with_reducible first | exact HB.out | apply below_alloc | apply pw_below_drewN | apply below_drew1) | exact HB.out)) hb); clear HB; have HO210 := n0_; have HB := n1_; clear n0_ n1_; (try clear hb); (try clear hb2); (try clear hk); (try clear hi); (try clear ho0); obtain ⟨Ao6, co6, eo6⟩ := Kd.R_slice HO210.out; subst eo6))
    go_ret3
    exact ⟨_, _, by first | rfl | (simp [errW_none, errW_some] <;> rfl) | (simp [*, errW_none, errW_some] <;> rfl), by first | exact Kd.R_nil _ _ _ _ _ | exact Kd.N_nil _ _ _ _ _ | exact Kd.V_nil _ _ _ _ _ | exact Kd.Q_nil _ _ _ _ _ | exact Kd.S_nil _ _ _ _ _, by first | exact Kd.R_nil _ _ _ _ _ | exact Kd.N_nil _ _ _ _ _ | exact Kd.V_nil _ _ _ _ _ | exact Kd.Q_nil _ _ _ _ _ | exact Kd.S_nil _ _ _ _ _, by repeat (first | (with_reducible first | exact HB.out | apply below_alloc | apply pw_below_drewN | apply below_drew1) | exact HB.out)⟩
  · rw [if_neg c4] at H
    have c4b0 : ((t208.length : Int) == 0) = false := beq_eq_false_iff_ne.mpr c4
    have c4b1 : ((t208.length : Int) != 0) = true := bne_iff_ne.mpr c4
    have c4b2 : ¬ (t208 = []) := fun h_ => c4 (by rw [h_]; rfl)
    by_cases c7 : 0 < (t208.length : Int)
    · rw [if_pos c7] at H
      have c7b0 : decide (0 < (t208.length : Int)) = true := decide_eq_true c7
      have c7b1 : decide (0 < t208.length) = true := decide_eq_true (by omega)
      clear c7
      replace H := Option.bind_eq_some_iff.mp H
      obtain ⟨t212, A80, H⟩ := H
      replace H : ((impl_isBalanced.f k ((rd_T86 t208 0).f0) ((rd_T86 t208 0).f1) ((rd_T86 t208 0).f2) l1).bind fun t214 => (if t214 = true then (if t212 = 0 then (none) else (if (Int.tmod ((rd_T86 t208 0).f1) 2) = 1 then (if 0 ≤ (Int.tmod (wrap64 ((wrap64 (((rd_T86 t208 0).f0) + t212)) - 1)) t212) then (if (Int.tmod (wrap64 ((wrap64 (((rd_T86 t208 0).f0) + t212)) - 1)) t212) < (l0.length : Int) then (if 0 ≤ (Int.tmod (wrap64 (((rd_T86 t208 0).f0) + ((rd_T86 t208 0).f1))) t212) then (if (Int.tmod (wrap64 (((rd_T86 t208 0).f0) + ((rd_T86 t208 0).f1))) t212) < (l0.length : Int) then (if (Int.tmod (wrap64 ((wrap64 (((rd_T86 t208 0).f0) + t212)) - 1)) t212) < (l1.length : Int) then (impl_crimp.j0 k l0 l1 t212 (Int.tmod (wrap64 ((wrap64 (((rd_T86 t208 0).f0) + t212)) - 1)) t212) (Int.tmod (wrap64 (((rd_T86 t208 0).f0) + ((rd_T86 t208 0).f1))) t212) (([wrap64 ((wrap64 ((rd l0 (Int.tmod (wrap64 ((wrap64 (((rd_T86 t208 0).f0) + t212)) - 1)) t212)) - ((rd_T86 t208 0).f2))) + (rd l0 (Int.tmod (wrap64 (((rd_T86 t208 0).f0) + ((rd_T86 t208 0).f1))) t212)))] : List Int)) (([rd l1 (Int.tmod (wrap64 ((wrap64 (((rd_T86 t208 0).f0) + t212)) - 1)) t212)] : List Int))) else (none)) else (none)) else (none)) else (none)) else (none)) else ((impl_innerCreases.f k ((rd_T86 t208 0).f0) ((rd_T86 t208 0).f1) ((rd_T86 t208 0).f2) t212).bind fun t224 => ((impl_chosen.f k l1 t224).bind fun t227 => ((impl_countKind.f k t227 3).bind fun t230 => ((impl_countKind.f k t227 2).bind fun t231 => (if t230 > t231 then (if 0 ≤ (Int.tmod (wrap64 ((wrap64 (((rd_T86 t208 0).f0) + t212)) - 1)) t212) then (if (Int.tmod (wrap64 ((wrap64 (((rd_T86 t208 0).f0) + t212)) - 1)) t212) < (l0.length : Int) then (if 0 ≤ (Int.tmod (wrap64 (((rd_T86 t208 0).f0) + ((rd_T86 t208 0).f1))) t212) then (if (Int.tmod (wrap64 (((rd_T86 t208 0).f0) + ((rd_T86 t208 0).f1))) t212) < (l0.length : Int) then (if (Int.tmod (wrap64 ((wrap64 (((rd_T86 t208 0).f0) + t212)) - 1)) t212) < (l1.length : Int) then (impl_crimp.j0 k l0 l1 t212 (Int.tmod (wrap64 ((wrap64 (((rd_T86 t208 0).f0) + t212)) - 1)) t212) (Int.tmod (wrap64 (((rd_T86 t208 0).f0) + ((rd_T86 t208 0).f1))) t212) (([rd l0 (Int.tmod (wrap64 ((wrap64 (((rd_T86 t208 0).f0) + t212)) - 1)) t212), rd l0 (Int.tmod (wrap64 (((rd_T86 t208 0).f0) + ((rd_T86 t208 0).f1))) t212)] : List Int)) (([rd l1 (Int.tmod (wrap64 ((wrap64 (((rd_T86 t208 0).f0) + t212)) - 1)) t212), 3] : List Int))) else (none)) else (none)) else (none)) else (none)) else (none)) else (if 0 ≤ (Int.tmod (wrap64 ((wrap64 (((rd_T86 t208 0).f0) + t212)) - 1)) t212) then (if (Int.tmod (wrap64 ((wrap64 (((rd_T86 t208 0).f0) + t212)) - 1)) t212) < (l0.length : Int) then (if 0 ≤ (Int.tmod (wrap64 (((rd_T86 t208 0).f0) + ((rd_T86 t208 0).f1))) t212) then (if (Int.tmod (wrap64 (((rd_T86 t208 0).f0) + ((rd_T86 t208 0).f1))) t212) < (l0.length : Int) then (if (Int.tmod (wrap64 ((wrap64 (((rd_T86 t208 0).f0) + t212)) - 1)) t212) < (l1.length : Int) then (impl_crimp.j0 k l0 l1 t212 (Int.tmod (wrap64 ((wrap64 (((rd_T86 t208 0).f0) + t212)) - 1)) t212) (Int.tmod (wrap64 (((rd_T86 t208 0).f0) + ((rd_T86 t208 0).f1))) t212) (([rd l0 (Int.tmod (wrap64 ((wrap64 (((rd_T86 t208 0).f0) + t212)) - 1)) t212), rd l0 (Int.tmod (wrap64 (((rd_T86 t208 0).f0) + ((rd_T86 t208 0).f1))) t212)] : List Int)) (([rd l1 (Int.tmod (wrap64 ((wrap64 (((rd_T86 t208 0).f0) + t212)) - 1)) t212), 2] : List Int))) else (none)) else (none)) else (none)) else (none)) else (none))))))))) else (some (([] : List Int), ([] : List Int), 8)))) = some (r1, r2, r3) := H
      have A8 := Aside0.mk A80
      clear A80
      replace H := Option.bind_eq_some_iff.mp H
      obtain ⟨t214, A90, H⟩ := H
      replace H : (if t214 = true then (if t212 = 0 then (none) else (if (Int.tmod ((rd_T86 t208 0).f1) 2) = 1 then (if 0 ≤ (Int.tmod (wrap64 ((wrap64 (((rd_T86 t208 0).f0) + t212)) - 1)) t212) then (if (Int.tmod (wrap64 ((wrap64 (((rd_T86 t208 0).f0) + t212)) - 1)) t212) < (l0.length : Int) then (if 0 ≤ (Int.tmod (wrap64 (((rd_T86 t208 0).f0) + ((rd_T86 t208 0).f1))) t212) then (if (Int.tmod (wrap64 (((rd_T86 t208 0).f0) + ((rd_T86 t208 0).f1))) t212) < (l0.length : Int) then (if (Int.tmod (wrap64 ((wrap64 (((rd_T86 t208 0).f0) + t212)) - 1)) t212) < (l1.length : Int) then (impl_crimp.j0 k l0 l1 t212 (Int.tmod (wrap64 ((wrap64 (((rd_T86 t208 0).f0) + t212)) - 1)) t212) (Int.tmod (wrap64 (((rd_T86 t208 0).f0) + ((rd_T86 t208 0).f1))) t212) (([wrap64 ((wrap64 ((rd l0 (Int.tmod (wrap64 ((wrap64 (((rd_T86 t208 0).f0) + t212)) - 1)) t212)) - ((rd_T86 t208 0).f2))) + (rd l0 (Int.tmod (wrap64 (((rd_T86 t208 0).f0) + ((rd_T86 t208 0).f1))) t212)))] : List Int)) (([rd l1 (Int.tmod (wrap64 ((wrap64 (((rd_T86 t208 0).f0) + t212)) - 1)) t212)] : List Int))) else (none)) else (none)) else (none)) else (none)) else (none)) else ((impl_innerCreases.f k ((rd_T86 t208 0).f0) ((rd_T86 t208 0).f1) ((rd_T86 t208 0).f2) t212).bind fun t224 => ((impl_chosen.f k l1 t224).bind fun t227 => ((impl_countKind.f k t227 3).bind fun t230 => ((impl_countKind.f k t227 2).bind fun t231 => (if t230 > t231 then (if 0 ≤ (Int.tmod (wrap64 ((wrap64 (((rd_T86 t208 0).f0) + t212)) - 1)) t212) then (if (Int.tmod (wrap64 ((wrap64 (((rd_T86 t208 0).f0) + t212)) - 1)) t212) < (l0.length : Int) then (if 0 ≤ (Int.tmod (wrap64 (((rd_T86 t208 0).f0) + ((rd_T86 t208 0).f1))) t212) then (if (Int.tmod (wrap64 (((rd_T86 t208 0).f0) + ((rd_T86 t208 0).f1))) t212) < (l0.length : Int) then (if (Int.tmod (wrap64 ((wrap64 (((rd_T86 t208 0).f0) + t212)) - 1)) t212) < (l1.length : Int) then (impl_crimp.j0 k l0 l1 t212 (Int.tmod (wrap64 ((wrap64 (((rd_T86 t208 0).f0) + t212)) - 1)) t212) (Int.tmod (wrap64 (((rd_T86 t208 0).f0) + ((rd_T86 t208 0).f1))) t212) (([rd l0 (Int.tmod (wrap64 ((wrap64 (((rd_T86 t208 0).f0) + t212)) - 1)) t212), rd l0 (Int.tmod (wrap64 (((rd_T86 t208 0).f0) + ((rd_T86 t208 0).f1))) t212)] : List Int)) (([rd l1 (Int.tmod (wrap64 ((wrap64 (((rd_T86 t208 0).f0) + t212)) - 1)) t212), 3] : List Int))) else (none)) else (none)) else (none)) else (none)) else (none)) else (if 0 ≤ (Int.tmod (wrap64 ((wrap64 (((rd_T86 t208 0).f0) + t212)) - 1)) t212) then (if (Int.tmod (wrap64 ((wrap64 (((rd_T86 t208 0).f0) + t212)) - 1)) t212) < (l0.length : Int) then (if 0 ≤ (Int.tmod (wrap64 (((rd_T86 t208 0).f0) + ((rd_T86 t208 0).f1))) t212) then (if (Int.tmod (wrap64 (((rd_T86 t208 0).f0) + ((rd_T86 t208 0).f1))) t212) < (l0.length : Int) then (if (Int.tmod (wrap64 ((wrap64 (((rd_T86 t208 0).f0) + t212)) - 1)) t212) < (l1.length : Int) then (impl_crimp.j0 k l0 l1 t212 (Int.tmod (wrap64 ((wrap64 (((rd_T86 t208 0).f0) + t212)) - 1)) t212) (Int.tmod (wrap64 (((rd_T86 t208 0).f0) + ((rd_T86 t208 0).f1))) t212) (([rd l0 (Int.tmod (wrap64 ((wrap64 (((rd_T86 t208 0).f0) + t212)) - 1)) t212), rd l0 (Int.tmod (wrap64 (((rd_T86 t208 0).f0) + ((rd_T86 t208 0).f1))) t212)] : List Int)) (([rd l1 (Int.tmod (wrap64 ((wrap64 (((rd_T86 t208 0).f0) + t212)) - 1)) t212), 2] : List Int))) else (none)) else (none)) else (none)) else (none)) else (none))))))))) else (some (([] : List Int), ([] : List Int), 8))) = some (r1, r2, r3) := H
      have A9 := Aside0.mk A90
      clear A90
      by_cases c10 : t214 = true
      · subst c10
        have H1 : (if t212 = 0 then (none) else (if (Int.tmod ((rd_T86 t208 0).f1) 2) = 1 then (if 0 ≤ (Int.tmod (wrap64 ((wrap64 (((rd_T86 t208 0).f0) + t212)) - 1)) t212) then (if (Int.tmod (wrap64 ((wrap64 (((rd_T86 t208 0).f0) + t212)) - 1)) t212) < (l0.length : Int) then (if 0 ≤ (Int.tmod (wrap64 (((rd_T86 t208 0).f0) + ((rd_T86 t208 0).f1))) t212) then (if (Int.tmod (wrap64 (((rd_T86 t208 0).f0) + ((rd_T86 t208 0).f1))) t212) < (l0.length : Int) then (if (Int.tmod (wrap64 ((wrap64 (((rd_T86 t208 0).f0) + t212)) - 1)) t212) < (l1.length : Int) then (impl_crimp.j0 k l0 l1 t212 (Int.tmod (wrap64 ((wrap64 (((rd_T86 t208 0).f0) + t212)) - 1)) t212) (Int.tmod (wrap64 (((rd_T86 t208 0).f0) + ((rd_T86 t208 0).f1))) t212) (([wrap64 ((wrap64 ((rd l0 (Int.tmod (wrap64 ((wrap64 (((rd_T86 t208 0).f0) + t212)) - 1)) t212)) - ((rd_T86 t208 0).f2))) + (rd l0 (Int.tmod (wrap64 (((rd_T86 t208 0).f0) + ((rd_T86 t208 0).f1))) t212)))] : List Int)) (([rd l1 (Int.tmod (wrap64 ((wrap64 (((rd_T86 t208 0).f0) + t212)) - 1)) t212)] : List Int))) else (none)) else (none)) else (none)) else (none)) else (none)) else ((impl_innerCreases.f k ((rd_T86 t208 0).f0) ((rd_T86 t208 0).f1) ((rd_T86 t208 0).f2) t212).bind fun t224 => ((impl_chosen.f k l1 t224).bind fun t227 => ((impl_countKind.f k t227 3).bind fun t230 => ((impl_countKind.f k t227 2).bind fun t231 => (if t230 > t231 then (if 0 ≤ (Int.tmod (wrap64 ((wrap64 (((rd_T86 t208 0).f0) + t212)) - 1)) t212) then (if (Int.tmod (wrap64 ((wrap64 (((rd_T86 t208 0).f0) + t212)) - 1)) t212) < (l0.length : Int) then (if 0 ≤ (Int.tmod (wrap64 (((rd_T86 t208 0).f0) + ((rd_T86 t208 0).f1))) t212) then (if (Int.tmod (wrap64 (((rd_T86 t208 0).f0) + ((rd_T86 t208 0).f1))) t212) < (l0.length : Int) then (if (Int.tmod (wrap64 ((wrap64 (((rd_T86 t208 0).f0) + t212)) - 1)) t212) < (l1.length : Int) then (impl_crimp.j0 k l0 l1 t212 (Int.tmod (wrap64 ((wrap64 (((rd_T86 t208 0).f0) + t212)) - 1)) t212) (Int.tmod (wrap64 (((rd_T86 t208 0).f0) + ((rd_T86 t208 0).f1))) t212) (([rd l0 (Int.tmod (wrap64 ((wrap64 (((rd_T86 t208 0).f0) + t212)) - 1)) t212), rd l0 (Int.tmod (wrap64 (((rd_T86 t208 0).f0) + ((rd_T86 t208 0).f1))) t212)] : List Int)) (([rd l1 (Int.tmod (wrap64 ((wrap64 (((rd_T86 t208 0).f0) + t212)) - 1)) t212), 3] : List Int))) else (none)) else (none)) else (none)) else (none)) else (none)) else (if 0 ≤ (Int.tmod (wrap64 ((wrap64 (((rd_T86 t208 0).f0) + t212)) - 1)) t212) then (if (Int.tmod (wrap64 ((wrap64 (((rd_T86 t208 0).f0) + t212)) - 1)) t212) < (l0.length : Int) then (if 0 ≤ (Int.tmod (wrap64 (((rd_T86 t208 0).f0) + ((rd_T86 t208 0).f1))) t212) then (if (Int.tmod (wrap64 (((rd_T86 t208 0).f0) + ((rd_T86 t208 0).f1))) t212) < (l0.length : Int) then (if (Int.tmod (wrap64 ((wrap64 (((rd_T86 t208 0).f0) + t212)) - 1)) t212) < (l1.length : Int) then (impl_crimp.j0 k l0 l1 t212 (Int.tmod (wrap64 ((wrap64 (((rd_T86 t208 0).f0) + t212)) - 1)) t212) (Int.tmod (wrap64 (((rd_T86 t208 0).f0) + ((rd_T86 t208 0).f1))) t212) (([rd l0 (Int.tmod (wrap64 ((wrap64 (((rd_T86 t208 0).f0) + t212)) - 1)) t212), rd l0 (Int.tmod (wrap64 (((rd_T86 t208 0).f0) + ((rd_T86 t208 0).f1))) t212)] : List Int)) (([rd l1 (Int.tmod (wrap64 ((wrap64 (((rd_T86 t208 0).f0) + t212)) - 1)) t212), 2] : List Int))) else (none)) else (none)) else (none)) else (none)) else (none))))))))) = some (r1, r2, r3) := by rw [if_pos rfl] at H; exact H
        clear H
        have H := H1
        clear H1
        by_cases c11 : t212 = 0
        · rw [if_pos c11] at H
          exact absurd H (by simp)
        · rw [if_neg c11] at H
          have c11b0 : (t212 == 0) = false := beq_eq_false_iff_ne.mpr c11
          have c11b1 : (t212 != 0) = true := bne_iff_ne.mpr c11
          have HC12 := Aside0.mk H
          clear H
          go_enter Try.func48, Try.ntmps48
          try go_wp2_with (first | ((with_reducible refine gate_callee (f := 66) rfl ?_); refine goesL_ (some 18) rfl rfl Try.func66 (by kernel_rfl) rfl #[.slice A0 l0.length c0] rfl (by (try simp only [List.map_toArray, List.map_cons, List.map_nil]); first | done | rfl | (simp only [List.length_drop, List.length_take]; rfl)) ?_; (with_reducible refine (impl_littleRuns.calls k _ _ l0 t208 _ ?side1 ?side2 A3.out).mono ?_); (case side1 => repeat (first | exact HR0.out | (with_reducible refine Kd.C_alloc ?_ _) | (with_reducible refine Kd.C_drewN ?_ _) | (with_reducible refine Kd.C_drew ?_))); (case side2 => exact HC0.out); rintro e w13 ⟨v209, rfl, ho0, hb⟩; refine ⟨_, rfl, ?_⟩; have n0_ := Aside0.mk (Kd.R_lower ho0 (below_size (by repeat (first | (with_reducible first | exact HB.out | apply below_alloc | apply pw_below_drewN | apply below_drew1) | exact HB.out)))); have n1_ := Aside0.mk (below_step (by repeat (first | (with_reducible first | exact HB.out | apply below_alloc | apply pw_below_drewN | apply below_drew1) | exact HB.out)) hb); clear HB; have HO210 := n0_; have HB := n1_; clear n0_ n1_; (try clear hb); (try clear hb2); (try clear hk); (try clear hi); (try clear ho0); obtain ⟨Ao14, co14, eo14⟩ := Kd.R_slice HO210.out; subst eo14))
          have n0_ := Aside0.mk (Kd.R_drew HO210.out)
          have n1_ := Aside0.mk (below_drew1 HB.out)
          clear HO210
          clear HB
          have HO210 := n0_
          have HB := n1_
          clear n0_ n1_
          have p211 : 0 ≤ (0 : Int) := (by omega)
          have q211 : 0 < (t208.length : Int) := of_decide_eq_true (by first | (with_reducible assumption) | assumption)
          obtain ⟨ad211, e211, hx211_0, hx211_1, hx211_2⟩ := at_T86 (Kd.R_reads' HO210.out).2.2 0 p211 q211
          cases e211
          have qi211 : (0 < t208.length) = True := eq_true (by omega)
          (try rw [show ((0 : Int)).toNat = 0 from rfl] at hx211_0)
          (try rw [show 0 * 3 = 0 from rfl] at hx211_0)
          (try rw [Addr.add_zero'] at hx211_0)
          (try rw [show ((0 : Int)).toNat = 0 from rfl] at hx211_1)
          (try rw [show 0 * 3 = 0 from rfl] at hx211_1)
          (try rw [Addr.add_zero'] at hx211_1)
          (try rw [show ((0 : Int)).toNat = 0 from rfl] at hx211_2)
          (try rw [show 0 * 3 = 0 from rfl] at hx211_2)
          (try rw [Addr.add_zero'] at hx211_2)
          replace p211 := eq_true p211
          replace q211 := eq_true q211
          refine start_ (n := 8) (S := fun w' => w'.cell? ad211 = some (.int .i64 ((rd_T86 t208 0).f0)) ∧ w'.cell? ⟨ad211.block, ad211.off + 1, none⟩ = some (.int .i64 ((rd_T86 t208 0).f1)) ∧ w'.cell? ⟨ad211.block, ad211.off + 2, none⟩ = some (.int .i64 ((rd_T86 t208 0).f2))) (ds := []) #[false, false, false, false, false, false, false, false] (by kernel_rfl) rfl rfl ⟨hx211_0, hx211_1, hx211_2⟩ (fun hHeld => ?_); refine with_tabW impl_crimp.tab4 impl_crimp.bits4 (fun HT_ HW_ => ?_)
          generalize w13.drew = w15 at HO210 HB hx211_0 hx211_1 hx211_2 hHeld ⊢
          refine pure_ (i := 0) (N := some 22) (v := ?_) (a' := ?_) #[true, false, false, false, false, false, false, false] rfl rfl (any_of HT_.out (by kernel_rfl)) (fun _ _ _ h => h) (Or.inl ⟨by rfl, ?_⟩) ?_ ?_
          rotate_left
          · intro w'
            go_simp
            with_reducible rfl
          rotate_left
          · simp only [Act.put, List.setIfInBounds_toArray, List.set_cons_zero, List.set_cons_succ, i64_w, i32_w]
            rfl
          refine pure_ (i := 1) (N := some 23) (v := ?_) (a' := ?_) #[true, true, false, false, false, false, false, false] rfl rfl (any_of HT_.out (by kernel_rfl)) (fun _ _ _ h => h) (Or.inl ⟨by rfl, ?_⟩) ?_ ?_
          rotate_left
          · intro w'
            go_simp
            with_reducible rfl
          rotate_left
          · simp only [Act.put, List.setIfInBounds_toArray, List.set_cons_zero, List.set_cons_succ, i64_w, i32_w]
            rfl
          refine pure_ (i := 3) (N := some 25) (v := ?_) (a' := ?_) #[true, true, false, true, false, false, false, false] rfl rfl (any_of HT_.out (by kernel_rfl)) (fun _ _ _ h => h) (Or.inl ⟨by rfl, ?_⟩) ?_ ?_
          rotate_left
          · intro w'
            go_simp
            with_reducible rfl
          rotate_left
          · simp only [Act.put, List.setIfInBounds_toArray, List.set_cons_zero, List.set_cons_succ, i64_w, i32_w]
            rfl
          refine take_ (i := 2) (N := some 24) (v := ?_) (a' := ?_) #[true, true, true, true, false, false, false, false] rfl rfl (take_ofW HT_.out HW_.out (by kernel_rfl)) (fun _ _ _ h => h) (Or.inl ⟨by rfl, ?_⟩) hHeld ?_ ?_
          rotate_left
          · rintro w' ⟨s0, s1, s2⟩
            go_simp
            with_reducible rfl
          rotate_left
          · simp only [Act.put, List.setIfInBounds_toArray, List.set_cons_zero, List.set_cons_succ, i64_w, i32_w]
            rfl
          refine join_ (σ := Nat) 2 #[true, true, true, true, true, true, false, false] (fun s_ => [(26, .int .i64 t212), (8, .pointer (some ⟨s_, 0, none⟩))]) (fun s_ w' => (w'.cell? ad211 = some (.int .i64 ((rd_T86 t208 0).f0)) ∧ w'.cell? ⟨ad211.block, ad211.off + 1, none⟩ = some (.int .i64 ((rd_T86 t208 0).f1)) ∧ w'.cell? ⟨ad211.block, ad211.off + 2, none⟩ = some (.int .i64 ((rd_T86 t208 0).f2))) ∧ (Kd.R k86 86 w' w.heap.size (fun k_ => k_ ≠ s_) (.slice (some ad211) t208.length co14) t208) ∧ (w'.heap[s_]? = some (.cells #[.int .i64 0, .int .i64 0, .int .i64 0] 86 (0, 0))) ∧ (w.heap.size ≤ s_) ∧ (w.heap.size ≤ s_) ∧ (Below w.heap.size w w')) ?_ ?_
          rotate_left
          · intro hCont
            refine two_ (i := 4) (j := 5) (Ni := some 26) (Nj := some 8) #[true, true, true, true, true, false, false, false] #[true, true, true, true, false, true, false, false] rfl rfl rfl rfl (two_of HT_.out (by kernel_rfl)) (by decide) (by decide) (fun K hK => ?_) (fun K hK => ?_)
            · skip
              refine goes_ Try.func29 (by kernel_rfl) rfl #[.slice A0 l0.length c0] (by rfl) rfl rfl (by (try simp only [List.map_toArray, List.map_cons, List.map_nil]); first | done | rfl | (simp only [List.length_drop, List.length_take]; rfl)) ?_
              with_reducible refine (impl_length_int64.calls _ _ l0 t212 _ ?side1 ?side2 A8.out).mono ?_
              (case side1 => repeat (first | exact (Kd.C_below HR0.out HB.out) | (with_reducible refine Kd.C_alloc ?_ _) | (with_reducible refine Kd.C_drewN ?_ _) | (with_reducible refine Kd.C_drew ?_)))
              (case side2 => exact HC0.out)
              rintro e w' ⟨rfl, ⟨nd, rfl⟩⟩
              refine ⟨_, rfl, ?_⟩
              refine hK.out _ _ ⟨hHeld.1, hHeld.2.1, hHeld.2.2⟩ (fun hHeld => ?_)
              clear hK K
              refine norm_ (a' := ?_) ?_ ?_
              rotate_left
              · show Act.put _ (some 26) _ = _
                simp only [Act.put, List.setIfInBounds_toArray, List.set_cons_zero, List.set_cons_succ, i64_w, i32_w]
                rfl
              refine one_ (i := 5) (N := some 8) #[true, true, true, true, true, true, false, false] rfl rfl (one_of HT_.out (by kernel_rfl)) (by decide) (fun K hK => ?_)
              refine box_step ?hg (N := 8) ?hd (cs := #[.int .i64 0, .int .i64 0, .int .i64 0]) (t := 86) ?hr ?_; (case hd => rfl); (case hg => rfl); (case hr => first | (go_simp; done) | (go_simp; rfl))
              intro gb213 hg w16 hbox hb
              have HS0_ := (hb.cell (World.block_lt_of_cell? _ _ (hHeld.1))).trans (hHeld.1)
              have HS1_ := (hb.cell (World.block_lt_of_cell? _ _ (hHeld.2.1))).trans (hHeld.2.1)
              have HS2_ := (hb.cell (World.block_lt_of_cell? _ _ (hHeld.2.2))).trans (hHeld.2.2)
              have n0_ := Aside0.mk (Kd.R_below (Kd.R_elderB (by (with_reducible repeat (first | apply Kd.R_alloc | apply Kd.R_drewN | apply Kd.R_drew)); exact HO210.out) gb213 (Nat.le_of_eq hg.symm)) hb)
              have n1_ := Aside0.mk (below_step (by repeat (first | (with_reducible first | exact HB.out | apply below_alloc | apply pw_below_drewN | apply below_drew1) | exact HB.out)) hb)
              have n2_ := Aside0.mk (hbox)
              have n3_ := Aside0.mk ((by rw [hg]; exact (below_size (by repeat (first | (with_reducible first | exact HB.out | apply below_alloc | apply pw_below_drewN | apply below_drew1) | exact HB.out))) : w.heap.size ≤ gb213))
              have n4_ := Aside0.mk ((by rw [hg]; exact (below_size (by repeat (first | (with_reducible first | exact HB.out | apply below_alloc | apply pw_below_drewN | apply below_drew1) | exact HB.out))) : w.heap.size ≤ gb213))
              clear HO210
              clear HB
              have HO210 := n0_
              have HB := n1_
              have BK213 := n2_
              have GW213 := n3_
              have GE213 := n4_
              clear n0_ n1_ n2_ n3_ n4_
              clear hb hbox hg
              refine hK.out _ _ ⟨HS0_, HS1_, HS2_⟩ (fun hHeld => ?_)
              clear hK K
              refine norm_ (a' := ?_) ?_ ?_
              rotate_left
              · show Act.put _ (some 8) _ = _
                simp only [Act.put, List.setIfInBounds_toArray, List.set_cons_zero, List.set_cons_succ, i64_w, i32_w]
                rfl
              exact norm_ (by simp only [putAll, Act.put, List.setIfInBounds_toArray, List.set_cons_zero, List.set_cons_succ]) (hCont (gb213) _ ⟨hHeld, (by (with_reducible repeat (first | apply Kd.R_alloc | apply Kd.R_drewN | apply Kd.R_drew)); exact Kd.R_mono HO210.out (fun _ hk => hk.2)), (by (with_reducible repeat (first | refine blk_drewN ?_ _ | refine blk_drew ?_ | refine blk_alloc ?_ _)); exact BK213.out), GW213.out, GE213.out, (by repeat (first | (with_reducible first | exact HB.out | apply below_alloc | apply pw_below_drewN | apply below_drew1 | refine below_set ?_ GE213.out) | exact HB.out))⟩)
            · skip
              refine box_step ?hg (N := 8) ?hd (cs := #[.int .i64 0, .int .i64 0, .int .i64 0]) (t := 86) ?hr ?_; (case hd => rfl); (case hg => rfl); (case hr => first | (go_simp; done) | (go_simp; rfl))
              intro gb213 hg w16 hbox hb
              have HS0_ := (hb.cell (World.block_lt_of_cell? _ _ (hHeld.1))).trans (hHeld.1)
              have HS1_ := (hb.cell (World.block_lt_of_cell? _ _ (hHeld.2.1))).trans (hHeld.2.1)
              have HS2_ := (hb.cell (World.block_lt_of_cell? _ _ (hHeld.2.2))).trans (hHeld.2.2)
              have n0_ := Aside0.mk (Kd.R_below (Kd.R_elderB (by (with_reducible repeat (first | apply Kd.R_alloc | apply Kd.R_drewN | apply Kd.R_drew)); exact HO210.out) gb213 (Nat.le_of_eq hg.symm)) hb)
              have n1_ := Aside0.mk (below_step (by repeat (first | (with_reducible first | exact HB.out | apply below_alloc | apply pw_below_drewN | apply below_drew1) | exact HB.out)) hb)
              have n2_ := Aside0.mk (hbox)
              have n3_ := Aside0.mk ((by rw [hg]; exact (below_size (by repeat (first | (with_reducible first | exact HB.out | apply below_alloc | apply pw_below_drewN | apply below_drew1) | exact HB.out))) : w.heap.size ≤ gb213))
              have n4_ := Aside0.mk ((by rw [hg]; exact (below_size (by repeat (first | (with_reducible first | exact HB.out | apply below_alloc | apply pw_below_drewN | apply below_drew1) | exact HB.out))) : w.heap.size ≤ gb213))
              clear HO210
              clear HB
              have HO210 := n0_
              have HB := n1_
              have BK213 := n2_
              have GW213 := n3_
              have GE213 := n4_
              clear n0_ n1_ n2_ n3_ n4_
              clear hb hbox hg
              refine hK.out _ _ ⟨HS0_, HS1_, HS2_⟩ (fun hHeld => ?_)
              clear hK K
              refine norm_ (a' := ?_) ?_ ?_
              rotate_left
              · show Act.put _ (some 8) _ = _
                simp only [Act.put, List.setIfInBounds_toArray, List.set_cons_zero, List.set_cons_succ, i64_w, i32_w]
                rfl
              refine one_ (i := 4) (N := some 26) #[true, true, true, true, true, true, false, false] rfl rfl (one_of HT_.out (by kernel_rfl)) (by decide) (fun K hK => ?_)
              refine goes_ Try.func29 (by kernel_rfl) rfl #[.slice A0 l0.length c0] (by rfl) rfl rfl (by (try simp only [List.map_toArray, List.map_cons, List.map_nil]); first | done | rfl | (simp only [List.length_drop, List.length_take]; rfl)) ?_
              with_reducible refine (impl_length_int64.calls _ _ l0 t212 _ ?side1 ?side2 A8.out).mono ?_
              (case side1 => repeat (first | exact (Kd.C_below HR0.out HB.out) | (with_reducible refine Kd.C_alloc ?_ _) | (with_reducible refine Kd.C_drewN ?_ _) | (with_reducible refine Kd.C_drew ?_)))
              (case side2 => exact HC0.out)
              rintro e w' ⟨rfl, ⟨nd, rfl⟩⟩
              refine ⟨_, rfl, ?_⟩
              refine hK.out _ _ ⟨hHeld.1, hHeld.2.1, hHeld.2.2⟩ (fun hHeld => ?_)
              clear hK K
              refine norm_ (a' := ?_) ?_ ?_
              rotate_left
              · show Act.put _ (some 26) _ = _
                simp only [Act.put, List.setIfInBounds_toArray, List.set_cons_zero, List.set_cons_succ, i64_w, i32_w]
                rfl
              exact norm_ (by simp only [putAll, Act.put, List.setIfInBounds_toArray, List.set_cons_zero, List.set_cons_succ]) (hCont (gb213) _ ⟨hHeld, (by (with_reducible repeat (first | apply Kd.R_alloc | apply Kd.R_drewN | apply Kd.R_drew)); exact Kd.R_mono HO210.out (fun _ hk => hk.2)), (by (with_reducible repeat (first | refine blk_drewN ?_ _ | refine blk_drew ?_ | refine blk_alloc ?_ _)); exact BK213.out), GW213.out, GE213.out, (by repeat (first | (with_reducible first | exact HB.out | apply below_alloc | apply pw_below_drewN | apply below_drew1 | refine below_set ?_ GE213.out) | exact HB.out))⟩)
          rintro gb213 w17 ⟨hS_, h0_, h1_, h2_, h3_, h4_⟩
          have n0_ : Aside0 (Kd.R k86 86 w17 w.heap.size (fun k_ => k_ ≠ gb213) (.slice (some ad211) t208.length co14) t208) := ⟨h0_⟩
          have n1_ : Aside0 (w17.heap[gb213]? = some (.cells #[.int .i64 0, .int .i64 0, .int .i64 0] 86 (0, 0))) := ⟨h1_⟩
          have n2_ : Aside0 (w.heap.size ≤ gb213) := ⟨h2_⟩
          have n3_ : Aside0 (w.heap.size ≤ gb213) := ⟨h3_⟩
          have n4_ : Aside0 (Below w.heap.size w w17) := ⟨h4_⟩
          clear HO210
          clear HB
          clear h0_ h1_ h2_ h3_ h4_
          have HO210 := n0_
          have BK213 := n1_
          have GW213 := n2_
          have GE213 := n3_
          have HB := n4_
          clear n0_ n1_ n2_ n3_ n4_
          have hHeld : w17.cell? ad211 = some (.int .i64 ((rd_T86 t208 0).f0)) ∧ w17.cell? ⟨ad211.block, ad211.off + 1, none⟩ = some (.int .i64 ((rd_T86 t208 0).f1)) ∧ w17.cell? ⟨ad211.block, ad211.off + 2, none⟩ = some (.int .i64 ((rd_T86 t208 0).f2)) := hS_
          refine norm_ (a' := ?_) ?_ ?_
          rotate_left
          · simp only [putAll, Act.put, List.setIfInBounds_toArray, List.set_cons_zero, List.set_cons_succ]
            rfl
          refine one_ (i := 6) (N := none) #[true, true, true, true, true, true, true, false] rfl rfl (one_of HT_.out (by kernel_rfl)) (by decide) (fun K hK => ?_)
          have hs18 : w17.cell? ⟨gb213, 0, none⟩ = some (.int .i64 0) := (blk_cell BK213.out 0).trans rfl
          have hfs18 := blk_frozen BK213.out 0
          have hs19 : w17.cell? ⟨gb213, 1, none⟩ = some (.int .i64 0) := (blk_cell BK213.out 1).trans rfl
          have hfs19 := blk_frozen BK213.out 1
          have hs20 : w17.cell? ⟨gb213, 2, none⟩ = some (.int .i64 0) := (blk_cell BK213.out 2).trans rfl
          have hfs20 := blk_frozen BK213.out 2
          refine skip_ (w1 := ?_) (by rfl) rfl ?_ ?_
          rotate_left
          · go_simp
            rfl
          refine hK.out _ _ ⟨((cell_far (p := ⟨gb213, _, none⟩) (by first | exact Kd.own_blk (Kd.R_away HO210.out (fun _ hk => hk)) | (rw [add_block]; exact Kd.own_blk (Kd.R_away HO210.out (fun _ hk => hk))) | (show (Addr.add _ _).block ≠ _; rw [add_block]; exact Kd.own_blk (Kd.R_away HO210.out (fun _ hk => hk))) | (dsimp only; exact Kd.own_blk (Kd.R_away HO210.out (fun _ hk => hk)))) _).trans (((cell_far (p := ⟨gb213, _, none⟩) (by first | exact Kd.own_blk (Kd.R_away HO210.out (fun _ hk => hk)) | (rw [add_block]; exact Kd.own_blk (Kd.R_away HO210.out (fun _ hk => hk))) | (show (Addr.add _ _).block ≠ _; rw [add_block]; exact Kd.own_blk (Kd.R_away HO210.out (fun _ hk => hk))) | (dsimp only; exact Kd.own_blk (Kd.R_away HO210.out (fun _ hk => hk)))) _).trans (((cell_far (p := ⟨gb213, _, none⟩) (by first | exact Kd.own_blk (Kd.R_away HO210.out (fun _ hk => hk)) | (rw [add_block]; exact Kd.own_blk (Kd.R_away HO210.out (fun _ hk => hk))) | (show (Addr.add _ _).block ≠ _; rw [add_block]; exact Kd.own_blk (Kd.R_away HO210.out (fun _ hk => hk))) | (dsimp only; exact Kd.own_blk (Kd.R_away HO210.out (fun _ hk => hk)))) _).trans (hHeld.1)))))), ((cell_far (p := ⟨gb213, _, none⟩) (by first | exact Kd.own_blk (Kd.R_away HO210.out (fun _ hk => hk)) | (rw [add_block]; exact Kd.own_blk (Kd.R_away HO210.out (fun _ hk => hk))) | (show (Addr.add _ _).block ≠ _; rw [add_block]; exact Kd.own_blk (Kd.R_away HO210.out (fun _ hk => hk))) | (dsimp only; exact Kd.own_blk (Kd.R_away HO210.out (fun _ hk => hk)))) _).trans (((cell_far (p := ⟨gb213, _, none⟩) (by first | exact Kd.own_blk (Kd.R_away HO210.out (fun _ hk => hk)) | (rw [add_block]; exact Kd.own_blk (Kd.R_away HO210.out (fun _ hk => hk))) | (show (Addr.add _ _).block ≠ _; rw [add_block]; exact Kd.own_blk (Kd.R_away HO210.out (fun _ hk => hk))) | (dsimp only; exact Kd.own_blk (Kd.R_away HO210.out (fun _ hk => hk)))) _).trans (((cell_far (p := ⟨gb213, _, none⟩) (by first | exact Kd.own_blk (Kd.R_away HO210.out (fun _ hk => hk)) | (rw [add_block]; exact Kd.own_blk (Kd.R_away HO210.out (fun _ hk => hk))) | (show (Addr.add _ _).block ≠ _; rw [add_block]; exact Kd.own_blk (Kd.R_away HO210.out (fun _ hk => hk))) | (dsimp only; exact Kd.own_blk (Kd.R_away HO210.out (fun _ hk => hk)))) _).trans (hHeld.2.1)))))), ((cell_far (p := ⟨gb213, _, none⟩) (by first | exact Kd.own_blk (Kd.R_away HO210.out (fun _ hk => hk)) | (rw [add_block]; exact Kd.own_blk (Kd.R_away HO210.out (fun _ hk => hk))) | (show (Addr.add _ _).block ≠ _; rw [add_block]; exact Kd.own_blk (Kd.R_away HO210.out (fun _ hk => hk))) | (dsimp only; exact Kd.own_blk (Kd.R_away HO210.out (fun _ hk => hk)))) _).trans (((cell_far (p := ⟨gb213, _, none⟩) (by first | exact Kd.own_blk (Kd.R_away HO210.out (fun _ hk => hk)) | (rw [add_block]; exact Kd.own_blk (Kd.R_away HO210.out (fun _ hk => hk))) | (show (Addr.add _ _).block ≠ _; rw [add_block]; exact Kd.own_blk (Kd.R_away HO210.out (fun _ hk => hk))) | (dsimp only; exact Kd.own_blk (Kd.R_away HO210.out (fun _ hk => hk)))) _).trans (((cell_far (p := ⟨gb213, _, none⟩) (by first | exact Kd.own_blk (Kd.R_away HO210.out (fun _ hk => hk)) | (rw [add_block]; exact Kd.own_blk (Kd.R_away HO210.out (fun _ hk => hk))) | (show (Addr.add _ _).block ≠ _; rw [add_block]; exact Kd.own_blk (Kd.R_away HO210.out (fun _ hk => hk))) | (dsimp only; exact Kd.own_blk (Kd.R_away HO210.out (fun _ hk => hk)))) _).trans (hHeld.2.2))))))⟩ (fun hHeld => ?_)
          clear hK K
          refine pure_ (i := 7) (N := some 9) (v := ?_) (a' := ?_) #[true, true, true, true, true, true, true, true] rfl rfl (any_of HT_.out (by kernel_rfl)) (fun _ _ _ h => h) (Or.inl ⟨by rfl, ?_⟩) ?_ ?_
          rotate_left
          · intro w'
            go_simp
            with_reducible rfl
          rotate_left
          · simp only [Act.put, List.setIfInBounds_toArray, List.set_cons_zero, List.set_cons_succ, i64_w, i32_w]
            rfl
          refine done_ (done_of HT_.out (by kernel_rfl)) ?_
          have hcz21_0 : w17.cell? ⟨gb213, 0, none⟩ = some (.int .i64 0) := (blk_cell BK213.out 0).trans rfl
          have hcz21_1 : w17.cell? ⟨gb213, 1, none⟩ = some (.int .i64 0) := (blk_cell BK213.out 1).trans rfl
          have hcz21_2 : w17.cell? ⟨gb213, 2, none⟩ = some (.int .i64 0) := (blk_cell BK213.out 2).trans rfl
          have hfz21_0 := blk_frozen BK213.out 0
          have hfz21_1 := blk_frozen BK213.out 1
          have hfz21_2 := blk_frozen BK213.out 2
          try go_wp2_with (first | ((with_reducible refine gate_callee (f := 67) rfl ?_); refine goesL_ (some 29) rfl rfl Try.func67 (by kernel_rfl) rfl #[.agg #[.int .i64 ((rd_T86 t208 0).f0), .int .i64 ((rd_T86 t208 0).f1), .int .i64 ((rd_T86 t208 0).f2)], .slice A1 l1.length c1] rfl (by (try simp only [List.map_toArray, List.map_cons, List.map_nil]); first | done | rfl | (simp only [List.length_drop, List.length_take]; rfl)) ?_; (with_reducible refine (impl_isBalanced.calls k ((rd_T86 t208 0).f0) ((rd_T86 t208 0).f1) ((rd_T86 t208 0).f2) _ _ l1 true _ ?side1 ?side2 A9.out).mono ?_); (case side1 => exact Kd.C_below HR1.out (by repeat (first | (with_reducible first | exact HB.out | apply below_alloc | apply pw_below_drewN | apply below_drew1 | refine below_set ?_ GE213.out) | exact HB.out))); (case side2 => exact HC1.out); rintro e w22 ⟨rfl, hb⟩; refine ⟨_, rfl, ?_⟩; have n0_ := Aside0.mk (Kd.R_below (by (with_reducible repeat (first | apply Kd.R_alloc | apply Kd.R_drewN | apply Kd.R_drew)); exact (Kd.R_mono (Kd.R_far (p := ⟨gb213, 2, none⟩) (Kd.R_far (p := ⟨gb213, 1, none⟩) (Kd.R_far (p := ⟨gb213, 0, none⟩) (Kd.R_mono HO210.out (fun k_ hk => (⟨hk, hk⟩ : _ ∧ k_ ≠ gb213))) (fun _ hk => hk.2) (.int .i64 ((rd_T86 t208 0).f0))) (fun _ hk => hk.2) (.int .i64 ((rd_T86 t208 0).f1))) (fun _ hk => hk.2) (.int .i64 ((rd_T86 t208 0).f2))) (fun _ h_ => h_.1))) hb); have n1_ := Aside0.mk (blk_below (g := gb213) (o := .cells #[.int .i64 ((rd_T86 t208 0).f0), .int .i64 ((rd_T86 t208 0).f1), .int .i64 ((rd_T86 t208 0).f2)] 86 (0, 0)) (by (with_reducible repeat (first | refine blk_drewN ?_ _ | refine blk_drew ?_ | refine blk_alloc ?_ _)); refine blk_put (cs := #[.int .i64 ((rd_T86 t208 0).f0), .int .i64 ((rd_T86 t208 0).f1), .int .i64 0]) ?_ 2 _ rfl; (with_reducible repeat (first | refine blk_drewN ?_ _ | refine blk_drew ?_ | refine blk_alloc ?_ _)); refine blk_put (cs := #[.int .i64 ((rd_T86 t208 0).f0), .int .i64 0, .int .i64 0]) ?_ 1 _ rfl; (with_reducible repeat (first | refine blk_drewN ?_ _ | refine blk_drew ?_ | refine blk_alloc ?_ _)); refine blk_put (cs := #[.int .i64 0, .int .i64 0, .int .i64 0]) ?_ 0 _ rfl; (with_reducible repeat (first | refine blk_drewN ?_ _ | refine blk_drew ?_ | refine blk_alloc ?_ _)); exact BK213.out) hb); have n2_ := Aside0.mk (below_step (by repeat (first | (with_reducible first | exact HB.out | apply below_alloc | apply pw_below_drewN | apply below_drew1 | refine below_set ?_ GE213.out) | exact HB.out)) hb); clear HO210; clear BK213; clear HB; have HO210 := n0_; have BK213 := n1_; have HB := n2_; clear n0_ n1_ n2_; (try clear hb); (try clear hb2); (try clear hk); (try clear hi)))
          have n0_ := Aside0.mk (Kd.R_drew HO210.out)
          have n1_ := Aside0.mk (blk_drew BK213.out)
          have n2_ := Aside0.mk (below_drew1 HB.out)
          clear HO210
          clear BK213
          clear HB
          have HO210 := n0_
          have BK213 := n1_
          have HB := n2_
          clear n0_ n1_ n2_
          refine start_ (n := 16) (S := fun w' => w'.cell? ⟨gb213, 0, none⟩ = some (.int .i64 ((rd_T86 t208 0).f0)) ∧ w'.cell? ⟨gb213, 1, none⟩ = some (.int .i64 ((rd_T86 t208 0).f1)) ∧ w'.cell? ⟨gb213, 2, none⟩ = some (.int .i64 ((rd_T86 t208 0).f2))) (ds := []) #[false, false, false, false, false, false, false, false, false, false, false, false, false, false, false, false] (by kernel_rfl) rfl rfl ⟨(blk_cell BK213.out 0).trans rfl, (blk_cell BK213.out 1).trans rfl, (blk_cell BK213.out 2).trans rfl⟩ (fun hHeld => ?_); refine with_tabW impl_crimp.tab7 impl_crimp.bits7 (fun HT_ HW_ => ?_)
          generalize w22.drew = w23 at HO210 BK213 HB hHeld ⊢
          refine pure_ (i := 0) (N := some 31) (v := ?_) (a' := ?_) #[true, false, false, false, false, false, false, false, false, false, false, false, false, false, false, false] rfl rfl (any_of HT_.out (by kernel_rfl)) (fun _ _ _ h => h) (Or.inl ⟨by rfl, ?_⟩) ?_ ?_
          rotate_left
          · intro w'
            go_simp
            with_reducible rfl
          rotate_left
          · simp only [Act.put, List.setIfInBounds_toArray, List.set_cons_zero, List.set_cons_succ, i64_w, i32_w]
            rfl
          refine pure_ (i := 2) (N := some 33) (v := ?_) (a' := ?_) #[true, false, true, false, false, false, false, false, false, false, false, false, false, false, false, false] rfl rfl (any_of HT_.out (by kernel_rfl)) (fun _ _ _ h => h) (Or.inl ⟨by rfl, ?_⟩) ?_ ?_
          rotate_left
          · intro w'
            go_simp
            with_reducible rfl
          rotate_left
          · simp only [Act.put, List.setIfInBounds_toArray, List.set_cons_zero, List.set_cons_succ, i64_w, i32_w]
            rfl
          refine pure_ (i := 5) (N := some 36) (v := ?_) (a' := ?_) #[true, false, true, false, false, true, false, false, false, false, false, false, false, false, false, false] rfl rfl (any_of HT_.out (by kernel_rfl)) (fun _ _ _ h => h) (Or.inl ⟨by rfl, ?_⟩) ?_ ?_
          rotate_left
          · intro w'
            go_simp
            with_reducible rfl
          rotate_left
          · simp only [Act.put, List.setIfInBounds_toArray, List.set_cons_zero, List.set_cons_succ, i64_w, i32_w]
            rfl
          refine pure_ (i := 7) (N := some 38) (v := ?_) (a' := ?_) #[true, false, true, false, false, true, false, true, false, false, false, false, false, false, false, false] rfl rfl (any_of HT_.out (by kernel_rfl)) (fun _ _ _ h => h) (Or.inl ⟨by rfl, ?_⟩) ?_ ?_
          rotate_left
          · intro w'
            go_simp
            with_reducible rfl
          rotate_left
          · simp only [Act.put, List.setIfInBounds_toArray, List.set_cons_zero, List.set_cons_succ, i64_w, i32_w]
            rfl
          refine pure_ (i := 9) (N := some 40) (v := ?_) (a' := ?_) #[true, false, true, false, false, true, false, true, false, true, false, false, false, false, false, false] rfl rfl (any_of HT_.out (by kernel_rfl)) (fun _ _ _ h => h) (Or.inl ⟨by rfl, ?_⟩) ?_ ?_
          rotate_left
          · intro w'
            go_simp
            with_reducible rfl
          rotate_left
          · simp only [Act.put, List.setIfInBounds_toArray, List.set_cons_zero, List.set_cons_succ, i64_w, i32_w]
            rfl
          refine pure_ (i := 12) (N := some 43) (v := ?_) (a' := ?_) #[true, false, true, false, false, true, false, true, false, true, false, false, true, false, false, false] rfl rfl (any_of HT_.out (by kernel_rfl)) (fun _ _ _ h => h) (Or.inl ⟨by rfl, ?_⟩) ?_ ?_
          rotate_left
          · intro w'
            go_simp
            with_reducible rfl
          rotate_left
          · simp only [Act.put, List.setIfInBounds_toArray, List.set_cons_zero, List.set_cons_succ, i64_w, i32_w]
            rfl
          refine take_ (i := 1) (N := some 32) (v := ?_) (a' := ?_) #[true, true, true, false, false, true, false, true, false, true, false, false, true, false, false, false] rfl rfl (take_ofW HT_.out HW_.out (by kernel_rfl)) (fun _ _ _ h => h) (Or.inl ⟨by rfl, ?_⟩) hHeld ?_ ?_
          rotate_left
          · rintro w' ⟨s0, s1, s2⟩
            go_simp
            with_reducible rfl
          rotate_left
          · simp only [Act.put, List.setIfInBounds_toArray, List.set_cons_zero, List.set_cons_succ, i64_w, i32_w]
            rfl
          refine pure_ (i := 3) (N := some 34) (v := ?_) (a' := ?_) #[true, true, true, true, false, true, false, true, false, true, false, false, true, false, false, false] rfl rfl (any_of HT_.out (by kernel_rfl)) (fun _ _ _ h => h) (Or.inl ⟨by rfl, ?_⟩) ?_ ?_
          rotate_left
          · intro w'
            go_simp
            with_reducible rfl
          rotate_left
          · simp only [Act.put, List.setIfInBounds_toArray, List.set_cons_zero, List.set_cons_succ, i64_w, i32_w]
            rfl
          refine pure_ (i := 4) (N := some 35) (v := ?_) (a' := ?_) #[true, true, true, true, true, true, false, true, false, true, false, false, true, false, false, false] rfl rfl (any_of HT_.out (by kernel_rfl)) (fun _ _ _ h => h) (Or.inl ⟨by rfl, ?_⟩) ?_ ?_
          rotate_left
          · intro w'
            go_simp
            with_reducible rfl
          rotate_left
          · simp only [Act.put, List.setIfInBounds_toArray, List.set_cons_zero, List.set_cons_succ, i64_w, i32_w]
            rfl
          refine pure_ (i := 6) (N := some 37) (v := ?_) (a' := ?_) #[true, true, true, true, true, true, true, true, false, true, false, false, true, false, false, false] rfl rfl (any_of HT_.out (by kernel_rfl)) (fun _ _ _ h => h) (Or.inl ⟨by rfl, ?_⟩) ?_ ?_
          rotate_left
          · intro w'
            go_simp
            with_reducible rfl
          rotate_left
          · simp only [Act.put, List.setIfInBounds_toArray, List.set_cons_zero, List.set_cons_succ, i64_w, i32_w]
            rfl
          refine pure_ (i := 14) (N := some 10) (v := ?_) (a' := ?_) #[true, true, true, true, true, true, true, true, false, true, false, false, true, false, true, false] rfl rfl (any_of HT_.out (by kernel_rfl)) (fun _ _ _ h => h) (Or.inl ⟨by rfl, ?_⟩) ?_ ?_
          rotate_left
          · intro w'
            go_simp
            with_reducible rfl
          rotate_left
          · simp only [Act.put, List.setIfInBounds_toArray, List.set_cons_zero, List.set_cons_succ, i64_w, i32_w]
            rfl
          refine take_ (i := 8) (N := some 39) (v := ?_) (a' := ?_) #[true, true, true, true, true, true, true, true, true, true, false, false, true, false, true, false] rfl rfl (take_ofW HT_.out HW_.out (by kernel_rfl)) (fun _ _ _ h => h) (Or.inl ⟨by rfl, ?_⟩) hHeld ?_ ?_
          rotate_left
          · rintro w' ⟨s0, s1, s2⟩
            go_simp
            with_reducible rfl
          rotate_left
          · simp only [Act.put, List.setIfInBounds_toArray, List.set_cons_zero, List.set_cons_succ, i64_w, i32_w]
            rfl
          refine take_ (i := 10) (N := some 41) (v := ?_) (a' := ?_) #[true, true, true, true, true, true, true, true, true, true, true, false, true, false, true, false] rfl rfl (take_ofW HT_.out HW_.out (by kernel_rfl)) (fun _ _ _ h => h) (Or.inl ⟨by rfl, ?_⟩) hHeld ?_ ?_
          rotate_left
          · rintro w' ⟨s0, s1, s2⟩
            go_simp
            with_reducible rfl
          rotate_left
          · simp only [Act.put, List.setIfInBounds_toArray, List.set_cons_zero, List.set_cons_succ, i64_w, i32_w]
            rfl
          refine pure_ (i := 11) (N := some 42) (v := ?_) (a' := ?_) #[true, true, true, true, true, true, true, true, true, true, true, true, true, false, true, false] rfl rfl (any_of HT_.out (by kernel_rfl)) (fun _ _ _ h => h) (Or.inl ⟨by rfl, ?_⟩) ?_ ?_
          rotate_left
          · intro w'
            go_simp
            with_reducible rfl
          rotate_left
          · simp only [Act.put, List.setIfInBounds_toArray, List.set_cons_zero, List.set_cons_succ, i64_w, i32_w]
            rfl
          refine pure_ (i := 13) (N := some 44) (v := ?_) (a' := ?_) #[true, true, true, true, true, true, true, true, true, true, true, true, true, true, true, false] rfl rfl (any_of HT_.out (by kernel_rfl)) (fun _ _ _ h => h) (Or.inl ⟨by rfl, ?_⟩) ?_ ?_
          rotate_left
          · intro w'
            go_simp
            with_reducible rfl
          rotate_left
          · simp only [Act.put, List.setIfInBounds_toArray, List.set_cons_zero, List.set_cons_succ, i64_w, i32_w]
            rfl
          refine pure_ (i := 15) (N := some 11) (v := ?_) (a' := ?_) #[true, true, true, true, true, true, true, true, true, true, true, true, true, true, true, true] rfl rfl (any_of HT_.out (by kernel_rfl)) (fun _ _ _ h => h) (Or.inl ⟨by rfl, ?_⟩) ?_ ?_
          rotate_left
          · intro w'
            go_simp
            with_reducible rfl
          rotate_left
          · simp only [Act.put, List.setIfInBounds_toArray, List.set_cons_zero, List.set_cons_succ, i64_w, i32_w]
            rfl
          refine done_ (done_of HT_.out (by kernel_rfl)) ?_
          have hcz24_0 : w23.cell? ⟨gb213, 0, none⟩ = some (.int .i64 ((rd_T86 t208 0).f0)) := (blk_cell BK213.out 0).trans rfl
          have hcz24_1 : w23.cell? ⟨gb213, 1, none⟩ = some (.int .i64 ((rd_T86 t208 0).f1)) := (blk_cell BK213.out 1).trans rfl
          have hcz24_2 : w23.cell? ⟨gb213, 2, none⟩ = some (.int .i64 ((rd_T86 t208 0).f2)) := (blk_cell BK213.out 2).trans rfl
          have hfz24_0 := blk_frozen BK213.out 0
          have hfz24_1 := blk_frozen BK213.out 1
          have hfz24_2 := blk_frozen BK213.out 2
          go_upto_if 48 with (fail)
          go_cut [12, 13] (fun v12 v13 wc => ∃ (kq : Nat) (x12_11 : List Int) (x13_11 : List Int), Aside0 (impl_crimp.j0 kq l0 l1 t212 (Int.tmod (wrap64 ((wrap64 (((rd_T86 t208 0).f0) + t212)) - 1)) t212) (Int.tmod (wrap64 (((rd_T86 t208 0).f0) + ((rd_T86 t208 0).f1))) t212) x12_11 x13_11 = some (r1, r2, r3)) ∧ Aside0 (kq ≤ k) ∧ Aside0 (Kd.R (Kd.int .i64) 2 wc w.heap.size (fun k_ => some k_ ≠ (v13 : Value).ownBlock) v12 x12_11) ∧ Aside0 (Kd.R (Kd.int .i64) 2 wc w.heap.size (fun k_ => some k_ ≠ (v12 : Value).ownBlock) v13 x13_11) ∧ Aside0 (wc.heap[gb213]? = some (.cells #[.int .i64 ((rd_T86 t208 0).f0), .int .i64 ((rd_T86 t208 0).f1), .int .i64 ((rd_T86 t208 0).f2)] 86 (0, 0))) ∧ Aside0 (Below w.heap.size w wc))
          case first =>
            have H := HC12.out
            clear HC12
            by_cases c25 : (Int.tmod ((rd_T86 t208 0).f1) 2) = 1
            · rw [if_pos c25] at H
              have c25b0 : ((Int.tmod ((rd_T86 t208 0).f1) 2) == 1) = true := beq_iff_eq.mpr c25
              have c25b1 : ((Int.tmod ((rd_T86 t208 0).f1) 2) != 1) = false := bne_eq_false_iff_eq.mpr c25
              clear c25
              (first | rw [c25b0] | (simp only [i64_w, i32_w]; rw [c25b0]) | skip)
              obtain ⟨ji26, hji26⟩ : ∃ j_ : Int, (Int.tmod (wrap64 ((wrap64 (((rd_T86 t208 0).f0) + t212)) - 1)) t212) = j_ := ⟨_, rfl⟩
              replace H : (if 0 ≤ (ji26) then (if (ji26) < (l0.length : Int) then (if 0 ≤ (Int.tmod (wrap64 (((rd_T86 t208 0).f0) + ((rd_T86 t208 0).f1))) t212) then (if (Int.tmod (wrap64 (((rd_T86 t208 0).f0) + ((rd_T86 t208 0).f1))) t212) < (l0.length : Int) then (if (ji26) < (l1.length : Int) then (impl_crimp.j0 k l0 l1 t212 ji26 (Int.tmod (wrap64 (((rd_T86 t208 0).f0) + ((rd_T86 t208 0).f1))) t212) (([wrap64 ((wrap64 ((rd l0 (ji26)) - ((rd_T86 t208 0).f2))) + (rd l0 (Int.tmod (wrap64 (((rd_T86 t208 0).f0) + ((rd_T86 t208 0).f1))) t212)))] : List Int)) (([rd l1 (ji26)] : List Int))) else (none)) else (none)) else (none)) else (none)) else (none)) = some (r1, r2, r3) := by first | (rw [hji26] at H; exact H) | (simp only [hji26] at H ⊢; exact H)
              by_cases c27 : 0 ≤ (ji26)
              · rw [if_pos c27] at H
                have c27b0 : decide (0 ≤ (ji26)) = true := decide_eq_true c27
                clear c27
                by_cases c28 : (ji26) < (l0.length : Int)
                · rw [if_pos c28] at H
                  have c28b0 : decide ((ji26) < (l0.length : Int)) = true := decide_eq_true c28
                  clear c28
                  obtain ⟨ji29, hji29⟩ : ∃ j_ : Int, (Int.tmod (wrap64 (((rd_T86 t208 0).f0) + ((rd_T86 t208 0).f1))) t212) = j_ := ⟨_, rfl⟩
                  replace H : (if 0 ≤ (ji29) then (if (ji29) < (l0.length : Int) then (if (ji26) < (l1.length : Int) then (impl_crimp.j0 k l0 l1 t212 ji26 ji29 (([wrap64 ((wrap64 ((rd l0 (ji26)) - ((rd_T86 t208 0).f2))) + (rd l0 (ji29)))] : List Int)) (([rd l1 (ji26)] : List Int))) else (none)) else (none)) else (none)) = some (r1, r2, r3) := by first | (rw [hji29] at H; exact H) | (simp only [hji29] at H ⊢; exact H)
                  by_cases c30 : 0 ≤ (ji29)
                  · rw [if_pos c30] at H
                    have c30b0 : decide (0 ≤ (ji29)) = true := decide_eq_true c30
                    clear c30
                    by_cases c31 : (ji29) < (l0.length : Int)
                    · rw [if_pos c31] at H
                      have c31b0 : decide ((ji29) < (l0.length : Int)) = true := decide_eq_true c31
                      clear c31
                      obtain ⟨y217, hy217⟩ : ∃ y_ : List Int, y_ = (([wrap64 ((wrap64 ((rd l0 (ji26)) - ((rd_T86 t208 0).f2))) + (rd l0 (ji29)))] : List Int)) := ⟨_, rfl⟩
                      replace H : (if (ji26) < (l1.length : Int) then (impl_crimp.j0 k l0 l1 t212 ji26 ji29 y217 (([rd l1 (ji26)] : List Int))) else (none)) = some (r1, r2, r3) := by first | (rw [hy217]; with_reducible exact H) | (have H2_ := (Option.bind_some _ _).symm.trans H; rw [hy217]; with_reducible exact H2_) | (have H2_ := (Option.bind_some _ _).symm.trans H; with_reducible exact H2_) | with_reducible exact H | (rw [hy217]; exact H) | exact H
                      have Ny217 := Aside0.mk hy217
                      clear hy217
                      by_cases c32 : (ji26) < (l1.length : Int)
                      · rw [if_pos c32] at H
                        have c32b0 : decide ((ji26) < (l1.length : Int)) = true := decide_eq_true c32
                        clear c32
                        obtain ⟨y221, hy221⟩ : ∃ y_ : List Int, y_ = (([rd l1 (ji26)] : List Int)) := ⟨_, rfl⟩
                        replace H : (impl_crimp.j0 k l0 l1 t212 ji26 ji29 y217 y221) = some (r1, r2, r3) := by first | (rw [hy221]; with_reducible exact H) | (have H2_ := (Option.bind_some _ _).symm.trans H; rw [hy221]; with_reducible exact H2_) | (have H2_ := (Option.bind_some _ _).symm.trans H; with_reducible exact H2_) | with_reducible exact H | (rw [hy221]; exact H) | exact H
                        have Ny221 := Aside0.mk hy221
                        clear hy221
                        have H' := Aside0.mk H
                        clear H
                        try go_wp2
                        have n0_ := Aside0.mk (Kd.R_drew HO210.out)
                        have n1_ := Aside0.mk (blk_drew BK213.out)
                        have n2_ := Aside0.mk (below_drew1 HB.out)
                        clear HO210
                        clear BK213
                        clear HB
                        have HO210 := n0_
                        have BK213 := n1_
                        have HB := n2_
                        clear n0_ n1_ n2_
                        have p215 : 0 ≤ ((ji26) : Int) := of_decide_eq_true (by first | (with_reducible assumption) | assumption)
                        have q215 : (ji26) < (l0.length : Int) := of_decide_eq_true (by first | (with_reducible assumption) | assumption)
                        obtain ⟨ad215, e215, hx215_0⟩ := Kd.at_int HR0.out (ji26) p215 q215
                        have hw215_0 := hx215_0
                        cases e215
                        replace hx215_0 := (HB.out.cell (World.block_lt_of_cell? w _ hx215_0)).trans hx215_0
                        replace p215 := eq_true p215
                        replace q215 := eq_true q215
                        have p216 : 0 ≤ ((ji29) : Int) := of_decide_eq_true (by first | (with_reducible assumption) | assumption)
                        have q216 : (ji29) < (l0.length : Int) := of_decide_eq_true (by first | (with_reducible assumption) | assumption)
                        obtain ⟨ad216, e216, hx216_0⟩ := Kd.at_int HR0.out (ji29) p216 q216
                        have hw216_0 := hx216_0
                        obtain rfl : ad215 = ad216 := (by injection e216)
                        replace hx216_0 := (HB.out.cell (World.block_lt_of_cell? w _ hx216_0)).trans hx216_0
                        replace p216 := eq_true p216
                        replace q216 := eq_true q216
                        have p220 : 0 ≤ ((ji26) : Int) := of_decide_eq_true (by first | (with_reducible assumption) | assumption)
                        have q220 : (ji26) < (l1.length : Int) := of_decide_eq_true (by first | (with_reducible assumption) | assumption)
                        obtain ⟨ad220, e220, hx220_0⟩ := Kd.at_int HR1.out (ji26) p220 q220
                        have hw220_0 := hx220_0
                        cases e220
                        replace hx220_0 := (HB.out.cell (World.block_lt_of_cell? w _ hx220_0)).trans hx220_0
                        replace p220 := eq_true p220
                        replace q220 := eq_true q220
                        refine start_ (n := 20) (S := fun w' => True) (ds := []) #[false, false, false, false, false, false, false, false, false, false, false, false, false, false, false, false, false, false, false, false] (by kernel_rfl) rfl rfl trivial (fun hHeld => ?_); refine with_tabW impl_crimp.tab10 impl_crimp.bits10 (fun HT_ HW_ => ?_)
                        generalize w23.drew = w33 at HO210 BK213 HB hx215_0 hx216_0 hx220_0 hHeld ⊢
                        refine pure_ (i := 0) (N := some 49) (v := ?_) (a' := ?_) #[true, false, false, false, false, false, false, false, false, false, false, false, false, false, false, false, false, false, false, false] rfl rfl (any_of HT_.out (by kernel_rfl)) (fun _ _ _ h => h) (Or.inl ⟨by rfl, ?_⟩) ?_ ?_
                        rotate_left
                        · intro w'
                          go_simp
                          with_reducible rfl
                        rotate_left
                        · simp only [Act.put, List.setIfInBounds_toArray, List.set_cons_zero, List.set_cons_succ, i64_w, i32_w]
                          rfl
                        refine pure_ (i := 1) (N := some 50) (v := ?_) (a' := ?_) #[true, true, false, false, false, false, false, false, false, false, false, false, false, false, false, false, false, false, false, false] rfl rfl (any_of HT_.out (by kernel_rfl)) (fun _ _ _ h => h) (Or.inl ⟨by rfl, ?_⟩) ?_ ?_
                        rotate_left
                        · intro w'
                          go_simp
                          with_reducible rfl
                        rotate_left
                        · simp only [Act.put, List.setIfInBounds_toArray, List.set_cons_zero, List.set_cons_succ, i64_w, i32_w]
                          rfl
                        refine pure_ (i := 4) (N := some 53) (v := ?_) (a' := ?_) #[true, true, false, false, true, false, false, false, false, false, false, false, false, false, false, false, false, false, false, false] rfl rfl (any_of HT_.out (by kernel_rfl)) (fun _ _ _ h => h) (Or.inl ⟨by rfl, ?_⟩) ?_ ?_
                        rotate_left
                        · intro w'
                          go_simp
                          with_reducible rfl
                        rotate_left
                        · simp only [Act.put, List.setIfInBounds_toArray, List.set_cons_zero, List.set_cons_succ, i64_w, i32_w]
                          rfl
                        refine pure_ (i := 7) (N := some 56) (v := ?_) (a' := ?_) #[true, true, false, false, true, false, false, true, false, false, false, false, false, false, false, false, false, false, false, false] rfl rfl (any_of HT_.out (by kernel_rfl)) (fun _ _ _ h => h) (Or.inl ⟨by rfl, ?_⟩) ?_ ?_
                        rotate_left
                        · intro w'
                          go_simp
                          with_reducible rfl
                        rotate_left
                        · simp only [Act.put, List.setIfInBounds_toArray, List.set_cons_zero, List.set_cons_succ, i64_w, i32_w]
                          rfl
                        refine pure_ (i := 8) (N := some 57) (v := ?_) (a' := ?_) #[true, true, false, false, true, false, false, true, true, false, false, false, false, false, false, false, false, false, false, false] rfl rfl (any_of HT_.out (by kernel_rfl)) (fun _ _ _ h => h) (Or.inl ⟨by rfl, ?_⟩) ?_ ?_
                        rotate_left
                        · intro w'
                          go_simp
                          with_reducible rfl
                        rotate_left
                        · simp only [Act.put, List.setIfInBounds_toArray, List.set_cons_zero, List.set_cons_succ, i64_w, i32_w]
                          rfl
                        refine pure_ (i := 13) (N := some 62) (v := ?_) (a' := ?_) #[true, true, false, false, true, false, false, true, true, false, false, false, false, true, false, false, false, false, false, false] rfl rfl (any_of HT_.out (by kernel_rfl)) (fun _ _ _ h => h) (Or.inl ⟨by rfl, ?_⟩) ?_ ?_
                        rotate_left
                        · intro w'
                          go_simp
                          with_reducible rfl
                        rotate_left
                        · simp only [Act.put, List.setIfInBounds_toArray, List.set_cons_zero, List.set_cons_succ, i64_w, i32_w]
                          rfl
                        refine pure_ (i := 14) (N := some 63) (v := ?_) (a' := ?_) #[true, true, false, false, true, false, false, true, true, false, false, false, false, true, true, false, false, false, false, false] rfl rfl (any_of HT_.out (by kernel_rfl)) (fun _ _ _ h => h) (Or.inl ⟨by rfl, ?_⟩) ?_ ?_
                        rotate_left
                        · intro w'
                          go_simp
                          with_reducible rfl
                        rotate_left
                        · simp only [Act.put, List.setIfInBounds_toArray, List.set_cons_zero, List.set_cons_succ, i64_w, i32_w]
                          rfl
                        refine inv_at [2, 3, 5, 6, 9, 10, 11, 12, 15, 16, 17, 18, 19] (fun a0_ b a w' => ∃ (v218 : Value) (v222 : Value) (m18_ : Value) (m19_ : Value), a = putSel a0_ b [(2, 51, .pointer (some (ad215.add ((ji26)).toNat))), (3, 52, .int .i64 (rd l0 (ji26))), (5, 54, .int .i64 ((rd_T86 t208 0).f2)), (6, 55, .int .i64 (wrap64 ((rd l0 (ji26)) - ((rd_T86 t208 0).f2)))), (9, 58, .pointer (some (ad215.add ((ji29)).toNat))), (10, 59, .int .i64 (rd l0 (ji29))), (11, 60, .int .i64 (wrap64 ((wrap64 ((rd l0 (ji26)) - ((rd_T86 t208 0).f2))) + (rd l0 (ji29))))), (12, 61, v218), (15, 64, .pointer (some (ad220.add ((ji26)).toNat))), (16, 65, .int .i64 (rd l1 (ji26))), (17, 66, v222), (18, 12, m18_), (19, 13, m19_)] ∧ (Kd.R k86 86 w' w.heap.size (fun k_ => k_ ≠ gb213) (.slice (some ad211) t208.length co14) t208) ∧ (w'.heap[gb213]? = some (.cells #[.int .i64 ((rd_T86 t208 0).f0), .int .i64 ((rd_T86 t208 0).f1), .int .i64 ((rd_T86 t208 0).f2)] 86 (0, 0))) ∧ (Below w.heap.size w w') ∧ (b 12 = true → Kd.R (Kd.int .i64) 2 w' w.heap.size (fun k_ => b 17 = true → some k_ ≠ (v222 : Value).ownBlock) v218 y217) ∧ (b 17 = true → Kd.R (Kd.int .i64) 2 w' w.heap.size (fun k_ => b 12 = true → some k_ ≠ (v218 : Value).ownBlock) v222 y221) ∧ (b 18 = true → (m18_ : Value) = v218) ∧ (b 19 = true → (m19_ : Value) = v222)) HT_.out HW_.out (by kernel_rfl) (by kernel_rfl) ?_ ?_ ?_
                        · exact ⟨.bool false, .bool false, .bool false, .bool false, by simp only [putSel, Bool.false_eq_true, if_false], (Kd.R_mono HO210.out (fun _ hk => by first | exact hk.2 | exact hk)), BK213.out, HB.out, fun h_ => absurd h_ (by decide), fun h_ => absurd h_ (by decide), fun h_ => absurd h_ (by decide), fun h_ => absurd h_ (by decide)⟩
                        · skip
                          clear BK213 HB HO210
                          refine steps_cons ?_ ?_
                          · rintro b a w' ⟨v218, v222, m18_, m19_, ha, Q_HO210, Q_BK213, Q_HB, Q_HO219, Q_HO223, Q_X18_, Q_X19_⟩ hb_ hon hoff
                            refine ⟨_, rfl, fun K hK => ?_⟩
                            have e49 : a.tmps[49]? = some (.slice (some ad215) l0.length c0) := by rw [ha]; exact (putSel_off rfl).trans rfl
                            have e50 : a.tmps[50]? = some (.int .i64 ji26) := by rw [ha]; exact (putSel_off rfl).trans rfl
                            replace ha := Aside0.mk ha
                            have HO210 := Aside0.mk Q_HO210
                            have BK213 := Aside0.mk Q_BK213
                            have HB := Aside0.mk Q_HB
                            have hs0_ : w'.cell? (ad215.add ((ji26)).toNat) = some (.int .i64 (rd l0 (ji26))) := ((HB.out.cell (World.block_lt_of_cell? w _ hw215_0)).trans hw215_0)
                            refine value_ (w1 := w') (v := .pointer (some (ad215.add ((ji26)).toNat))) (by rfl) rfl ?_ ?_
                            · go_simp
                              (try simp only [i64_w])
                              try rfl
                            refine hK.out _ _ ⟨v218, v222, m18_, m19_, (by rw [ha.out]; exact putSel_upk 0 hb_ rfl rfl rfl), Q_HO210, Q_BK213, Q_HB, fun h0_ => absurd ((hoff 12 (by kernel_rfl)).symm.trans h0_) (by decide), Q_HO223, fun h0_ => absurd ((hoff 18 (by kernel_rfl)).symm.trans h0_) (by decide), fun h0_ => absurd ((hoff 19 (by kernel_rfl)).symm.trans h0_) (by decide)⟩
                          refine steps_cons ?_ ?_
                          · rintro b a w' ⟨v218, v222, m18_, m19_, ha, Q_HO210, Q_BK213, Q_HB, Q_HO219, Q_HO223, Q_X18_, Q_X19_⟩ hb_ hon hoff
                            refine ⟨_, rfl, fun K hK => ?_⟩
                            have e51 : a.tmps[51]? = some (.pointer (some (ad215.add ((ji26)).toNat))) := by rw [ha]; exact putSel_on (e := (2, 51, .pointer (some (ad215.add ((ji26)).toNat)))) 0 rfl rfl (hon 2 (by kernel_rfl)) rfl
                            replace ha := Aside0.mk ha
                            have HO210 := Aside0.mk Q_HO210
                            have BK213 := Aside0.mk Q_BK213
                            have HB := Aside0.mk Q_HB
                            have hs0_ : w'.cell? (ad215.add ((ji26)).toNat) = some (.int .i64 (rd l0 (ji26))) := ((HB.out.cell (World.block_lt_of_cell? w _ hw215_0)).trans hw215_0)
                            refine value_ (w1 := w') (v := .int .i64 (rd l0 (ji26))) (by rfl) rfl ?_ ?_
                            · go_simp
                              (try simp only [i64_w])
                              try rfl
                            refine hK.out _ _ ⟨v218, v222, m18_, m19_, (by rw [ha.out]; exact putSel_upk 1 hb_ rfl rfl rfl), Q_HO210, Q_BK213, Q_HB, fun h0_ => absurd ((hoff 12 (by kernel_rfl)).symm.trans h0_) (by decide), Q_HO223, fun h0_ => absurd ((hoff 18 (by kernel_rfl)).symm.trans h0_) (by decide), fun h0_ => absurd ((hoff 19 (by kernel_rfl)).symm.trans h0_) (by decide)⟩
                          refine steps_cons ?_ ?_
                          · rintro b a w' ⟨v218, v222, m18_, m19_, ha, Q_HO210, Q_BK213, Q_HB, Q_HO219, Q_HO223, Q_X18_, Q_X19_⟩ hb_ hon hoff
                            refine ⟨_, rfl, fun K hK => ?_⟩
                            have e53 : a.tmps[53]? = some (.pointer (some ⟨gb213, 2, none⟩)) := by rw [ha]; exact (putSel_off rfl).trans rfl
                            replace ha := Aside0.mk ha
                            have HO210 := Aside0.mk Q_HO210
                            have BK213 := Aside0.mk Q_BK213
                            have HB := Aside0.mk Q_HB
                            have hc0_ : w'.cell? ⟨gb213, 0, none⟩ = some (.int .i64 ((rd_T86 t208 0).f0)) := (blk_cell BK213.out 0).trans rfl
                            have hc1_ : w'.cell? ⟨gb213, 1, none⟩ = some (.int .i64 ((rd_T86 t208 0).f1)) := (blk_cell BK213.out 1).trans rfl
                            have hc2_ : w'.cell? ⟨gb213, 2, none⟩ = some (.int .i64 ((rd_T86 t208 0).f2)) := (blk_cell BK213.out 2).trans rfl
                            refine value_ (w1 := w') (v := .int .i64 ((rd_T86 t208 0).f2)) (by rfl) rfl ?_ ?_
                            · go_simp
                              (try simp only [i64_w])
                              try rfl
                            refine hK.out _ _ ⟨v218, v222, m18_, m19_, (by rw [ha.out]; exact putSel_upk 2 hb_ rfl rfl rfl), Q_HO210, Q_BK213, Q_HB, fun h0_ => absurd ((hoff 12 (by kernel_rfl)).symm.trans h0_) (by decide), Q_HO223, fun h0_ => absurd ((hoff 18 (by kernel_rfl)).symm.trans h0_) (by decide), fun h0_ => absurd ((hoff 19 (by kernel_rfl)).symm.trans h0_) (by decide)⟩
                          refine steps_cons ?_ ?_
                          · rintro b a w' ⟨v218, v222, m18_, m19_, ha, Q_HO210, Q_BK213, Q_HB, Q_HO219, Q_HO223, Q_X18_, Q_X19_⟩ hb_ hon hoff
                            refine ⟨_, rfl, fun K hK => ?_⟩
                            have e52 : a.tmps[52]? = some (.int .i64 (rd l0 (ji26))) := by rw [ha]; exact putSel_on (e := (3, 52, .int .i64 (rd l0 (ji26)))) 1 rfl rfl (hon 3 (by kernel_rfl)) rfl
                            have e54 : a.tmps[54]? = some (.int .i64 ((rd_T86 t208 0).f2)) := by rw [ha]; exact putSel_on (e := (5, 54, .int .i64 ((rd_T86 t208 0).f2))) 2 rfl rfl (hon 5 (by kernel_rfl)) rfl
                            replace ha := Aside0.mk ha
                            have HO210 := Aside0.mk Q_HO210
                            have BK213 := Aside0.mk Q_BK213
                            have HB := Aside0.mk Q_HB
                            refine value_ (w1 := w') (v := .int .i64 (wrap64 ((rd l0 (ji26)) - ((rd_T86 t208 0).f2)))) (by rfl) rfl ?_ ?_
                            · go_simp
                              (try simp only [i64_w])
                              try rfl
                            refine hK.out _ _ ⟨v218, v222, m18_, m19_, (by rw [ha.out]; exact putSel_upk 3 hb_ rfl rfl rfl), Q_HO210, Q_BK213, Q_HB, fun h0_ => absurd ((hoff 12 (by kernel_rfl)).symm.trans h0_) (by decide), Q_HO223, fun h0_ => absurd ((hoff 18 (by kernel_rfl)).symm.trans h0_) (by decide), fun h0_ => absurd ((hoff 19 (by kernel_rfl)).symm.trans h0_) (by decide)⟩
                          refine steps_cons ?_ ?_
                          · rintro b a w' ⟨v218, v222, m18_, m19_, ha, Q_HO210, Q_BK213, Q_HB, Q_HO219, Q_HO223, Q_X18_, Q_X19_⟩ hb_ hon hoff
                            refine ⟨_, rfl, fun K hK => ?_⟩
                            have e56 : a.tmps[56]? = some (.slice (some ad215) l0.length c0) := by rw [ha]; exact (putSel_off rfl).trans rfl
                            have e57 : a.tmps[57]? = some (.int .i64 ji29) := by rw [ha]; exact (putSel_off rfl).trans rfl
                            replace ha := Aside0.mk ha
                            have HO210 := Aside0.mk Q_HO210
                            have BK213 := Aside0.mk Q_BK213
                            have HB := Aside0.mk Q_HB
                            have hs1_ : w'.cell? (ad215.add ((ji29)).toNat) = some (.int .i64 (rd l0 (ji29))) := ((HB.out.cell (World.block_lt_of_cell? w _ hw216_0)).trans hw216_0)
                            refine value_ (w1 := w') (v := .pointer (some (ad215.add ((ji29)).toNat))) (by rfl) rfl ?_ ?_
                            · go_simp
                              (try simp only [i64_w])
                              try rfl
                            refine hK.out _ _ ⟨v218, v222, m18_, m19_, (by rw [ha.out]; exact putSel_upk 4 hb_ rfl rfl rfl), Q_HO210, Q_BK213, Q_HB, fun h0_ => absurd ((hoff 12 (by kernel_rfl)).symm.trans h0_) (by decide), Q_HO223, fun h0_ => absurd ((hoff 18 (by kernel_rfl)).symm.trans h0_) (by decide), fun h0_ => absurd ((hoff 19 (by kernel_rfl)).symm.trans h0_) (by decide)⟩
                          refine steps_cons ?_ ?_
                          · rintro b a w' ⟨v218, v222, m18_, m19_, ha, Q_HO210, Q_BK213, Q_HB, Q_HO219, Q_HO223, Q_X18_, Q_X19_⟩ hb_ hon hoff
                            refine ⟨_, rfl, fun K hK => ?_⟩
                            have e58 : a.tmps[58]? = some (.pointer (some (ad215.add ((ji29)).toNat))) := by rw [ha]; exact putSel_on (e := (9, 58, .pointer (some (ad215.add ((ji29)).toNat)))) 4 rfl rfl (hon 9 (by kernel_rfl)) rfl
                            replace ha := Aside0.mk ha
                            have HO210 := Aside0.mk Q_HO210
                            have BK213 := Aside0.mk Q_BK213
                            have HB := Aside0.mk Q_HB
                            have hs1_ : w'.cell? (ad215.add ((ji29)).toNat) = some (.int .i64 (rd l0 (ji29))) := ((HB.out.cell (World.block_lt_of_cell? w _ hw216_0)).trans hw216_0)
                            refine value_ (w1 := w') (v := .int .i64 (rd l0 (ji29))) (by rfl) rfl ?_ ?_
                            · go_simp
                              (try simp only [i64_w])
                              try rfl
                            refine hK.out _ _ ⟨v218, v222, m18_, m19_, (by rw [ha.out]; exact putSel_upk 5 hb_ rfl rfl rfl), Q_HO210, Q_BK213, Q_HB, fun h0_ => absurd ((hoff 12 (by kernel_rfl)).symm.trans h0_) (by decide), Q_HO223, fun h0_ => absurd ((hoff 18 (by kernel_rfl)).symm.trans h0_) (by decide), fun h0_ => absurd ((hoff 19 (by kernel_rfl)).symm.trans h0_) (by decide)⟩
                          refine steps_cons ?_ ?_
                          · rintro b a w' ⟨v218, v222, m18_, m19_, ha, Q_HO210, Q_BK213, Q_HB, Q_HO219, Q_HO223, Q_X18_, Q_X19_⟩ hb_ hon hoff
                            refine ⟨_, rfl, fun K hK => ?_⟩
                            have e55 : a.tmps[55]? = some (.int .i64 (wrap64 ((rd l0 (ji26)) - ((rd_T86 t208 0).f2)))) := by rw [ha]; exact putSel_on (e := (6, 55, .int .i64 (wrap64 ((rd l0 (ji26)) - ((rd_T86 t208 0).f2))))) 3 rfl rfl (hon 6 (by kernel_rfl)) rfl
                            have e59 : a.tmps[59]? = some (.int .i64 (rd l0 (ji29))) := by rw [ha]; exact putSel_on (e := (10, 59, .int .i64 (rd l0 (ji29)))) 5 rfl rfl (hon 10 (by kernel_rfl)) rfl
                            replace ha := Aside0.mk ha
                            have HO210 := Aside0.mk Q_HO210
                            have BK213 := Aside0.mk Q_BK213
                            have HB := Aside0.mk Q_HB
                            refine value_ (w1 := w') (v := .int .i64 (wrap64 ((wrap64 ((rd l0 (ji26)) - ((rd_T86 t208 0).f2))) + (rd l0 (ji29))))) (by rfl) rfl ?_ ?_
                            · go_simp
                              (try simp only [i64_w])
                              try rfl
                            refine hK.out _ _ ⟨v218, v222, m18_, m19_, (by rw [ha.out]; exact putSel_upk 6 hb_ rfl rfl rfl), Q_HO210, Q_BK213, Q_HB, fun h0_ => absurd ((hoff 12 (by kernel_rfl)).symm.trans h0_) (by decide), Q_HO223, fun h0_ => absurd ((hoff 18 (by kernel_rfl)).symm.trans h0_) (by decide), fun h0_ => absurd ((hoff 19 (by kernel_rfl)).symm.trans h0_) (by decide)⟩
                          refine steps_cons ?_ ?_
                          · rintro b a w' ⟨v218, v222, m18_, m19_, ha, Q_HO210, Q_BK213, Q_HB, Q_HO219, Q_HO223, Q_X18_, Q_X19_⟩ hb_ hon hoff
                            refine ⟨_, rfl, fun K hK => ?_⟩
                            have e60 : a.tmps[60]? = some (.int .i64 (wrap64 ((wrap64 ((rd l0 (ji26)) - ((rd_T86 t208 0).f2))) + (rd l0 (ji29))))) := by rw [ha]; exact putSel_on (e := (11, 60, .int .i64 (wrap64 ((wrap64 ((rd l0 (ji26)) - ((rd_T86 t208 0).f2))) + (rd l0 (ji29)))))) 6 rfl rfl (hon 11 (by kernel_rfl)) rfl
                            replace ha := Aside0.mk ha
                            have HO210 := Aside0.mk Q_HO210
                            have BK213 := Aside0.mk Q_BK213
                            have HB := Aside0.mk Q_HB
                            refine Kd.R_lit_step (Kd.int .i64) _ 2 ?hg (N := 61) ?hd (xs := ([wrap64 ((wrap64 ((rd l0 (ji26)) - ((rd_T86 t208 0).f2))) + (rd l0 (ji29)))] : List Int)) (inner := [.int .i64 (wrap64 ((wrap64 ((rd l0 (ji26)) - ((rd_T86 t208 0).f2))) + (rd l0 (ji29))))]) (ok := fun _ => True) (okp := fun _ => True) ?hr ?hp (fun _ hk => hk) trivial (Below.refl _ _) (Nat.le_refl _) (by simp) ?_; (case hd => rfl); (case hg => rfl); (case hr => first | (go_simp; done) | (go_simp; rfl)); (case hp => exact (Reps.one (show Kd.M (Kd.int .i64) _ _ _ (wrap64 ((wrap64 ((rd l0 (ji26)) - ((rd_T86 t208 0).f2))) + (rd l0 (ji29)))) [.int .i64 (wrap64 ((wrap64 ((rd l0 (ji26)) - ((rd_T86 t208 0).f2))) + (rd l0 (ji29))))] from rfl) (Reps.none _ _)))
                            intro v218 w34 ho35 hb hg_ hnew_
                            clear hg_ hnew_
                            (first | rw [← Ny217.out] at ho35 | (simp only [Int.reduceToNat] at ho35; rw [← Ny217.out] at ho35))
                            have n0_ := Aside0.mk (Kd.R_below (by (with_reducible repeat (first | apply Kd.R_alloc | apply Kd.R_drewN | apply Kd.R_drew)); exact HO210.out) hb)
                            have n1_ := Aside0.mk (show Kd.R (Kd.int .i64) 2 w34 w.heap.size (fun k_ => b 17 = true → some k_ ≠ (v222 : Value).ownBlock) v218 y217 from Kd.R_mono (Kd.R_lower (Kd.R_bound ho35) (below_size (by repeat (first | (with_reducible first | exact HB.out | apply below_alloc | apply pw_below_drewN | apply below_drew1 | refine below_set ?_ GE213.out) | exact HB.out)))) (fun k_ hk_ h0_ e_ => by obtain ⟨_, ho_⟩ := Kd.R_own (Q_HO223 h0_); have := own_lt ho_ k_ e_.symm; have := hk_.2.1; omega))
                            have n2_ := Aside0.mk (blk_below (g := gb213) (o := .cells #[.int .i64 ((rd_T86 t208 0).f0), .int .i64 ((rd_T86 t208 0).f1), .int .i64 ((rd_T86 t208 0).f2)] 86 (0, 0)) (by (with_reducible repeat (first | refine blk_drewN ?_ _ | refine blk_drew ?_ | refine blk_alloc ?_ _)); exact BK213.out) hb)
                            have n3_ := Aside0.mk (below_step (by repeat (first | (with_reducible first | exact HB.out | apply below_alloc | apply pw_below_drewN | apply below_drew1 | refine below_set ?_ GE213.out) | exact HB.out)) hb)
                            have z_HO223 := fun (h0_ : b 17 = true) => (Kd.R_elder' (by (with_reducible repeat (first | apply Kd.R_alloc | apply Kd.R_drewN | apply Kd.R_drew)); exact (Q_HO223 h0_)) (Kd.R_base ho35) hb)
                            clear HO210
                            clear BK213
                            clear HB
                            have HO210 := n0_
                            have HO219 := n1_
                            have BK213 := n2_
                            have HB := n3_
                            clear n0_ n1_ n2_ n3_
                            clear hb ho35
                            refine hK.out _ _ ⟨v218, v222, m18_, m19_, (by rw [ha.out]; exact putSel_upk 7 hb_ rfl rfl rfl), (by (with_reducible repeat (first | apply Kd.R_alloc | apply Kd.R_drewN | apply Kd.R_drew)); exact HO210.out), (by (with_reducible repeat (first | refine blk_drewN ?_ _ | refine blk_drew ?_ | refine blk_alloc ?_ _)); exact BK213.out), (by repeat (first | (with_reducible first | exact HB.out | apply below_alloc | apply pw_below_drewN | apply below_drew1 | refine below_set ?_ GE213.out) | exact HB.out)), fun _ => (by (with_reducible repeat (first | apply Kd.R_alloc | apply Kd.R_drewN | apply Kd.R_drew)); exact HO219.out), (fun h0_ => Kd.R_mono (z_HO223 h0_) (fun _ h_ _ => h_.2)), fun h0_ => absurd ((hoff 18 (by kernel_rfl)).symm.trans h0_) (by decide), fun h0_ => absurd ((hoff 19 (by kernel_rfl)).symm.trans h0_) (by decide)⟩
                          refine steps_cons ?_ ?_
                          · rintro b a w' ⟨v218, v222, m18_, m19_, ha, Q_HO210, Q_BK213, Q_HB, Q_HO219, Q_HO223, Q_X18_, Q_X19_⟩ hb_ hon hoff
                            refine ⟨_, rfl, fun K hK => ?_⟩
                            have e62 : a.tmps[62]? = some (.slice (some ad220) l1.length c1) := by rw [ha]; exact (putSel_off rfl).trans rfl
                            have e63 : a.tmps[63]? = some (.int .i64 ji26) := by rw [ha]; exact (putSel_off rfl).trans rfl
                            replace ha := Aside0.mk ha
                            have HO210 := Aside0.mk Q_HO210
                            have BK213 := Aside0.mk Q_BK213
                            have HB := Aside0.mk Q_HB
                            have hs2_ : w'.cell? (ad220.add ((ji26)).toNat) = some (.int .i64 (rd l1 (ji26))) := ((HB.out.cell (World.block_lt_of_cell? w _ hw220_0)).trans hw220_0)
                            refine value_ (w1 := w') (v := .pointer (some (ad220.add ((ji26)).toNat))) (by rfl) rfl ?_ ?_
                            · go_simp
                              (try simp only [i64_w])
                              try rfl
                            refine hK.out _ _ ⟨v218, v222, m18_, m19_, (by rw [ha.out]; exact putSel_upk 8 hb_ rfl rfl rfl), Q_HO210, Q_BK213, Q_HB, Q_HO219, fun h0_ => absurd ((hoff 17 (by kernel_rfl)).symm.trans h0_) (by decide), Q_X18_, fun h0_ => absurd ((hoff 19 (by kernel_rfl)).symm.trans h0_) (by decide)⟩
                          refine steps_cons ?_ ?_
                          · rintro b a w' ⟨v218, v222, m18_, m19_, ha, Q_HO210, Q_BK213, Q_HB, Q_HO219, Q_HO223, Q_X18_, Q_X19_⟩ hb_ hon hoff
                            refine ⟨_, rfl, fun K hK => ?_⟩
                            have e64 : a.tmps[64]? = some (.pointer (some (ad220.add ((ji26)).toNat))) := by rw [ha]; exact putSel_on (e := (15, 64, .pointer (some (ad220.add ((ji26)).toNat)))) 8 rfl rfl (hon 15 (by kernel_rfl)) rfl
                            replace ha := Aside0.mk ha
                            have HO210 := Aside0.mk Q_HO210
                            have BK213 := Aside0.mk Q_BK213
                            have HB := Aside0.mk Q_HB
                            have hs2_ : w'.cell? (ad220.add ((ji26)).toNat) = some (.int .i64 (rd l1 (ji26))) := ((HB.out.cell (World.block_lt_of_cell? w _ hw220_0)).trans hw220_0)
                            refine value_ (w1 := w') (v := .int .i64 (rd l1 (ji26))) (by rfl) rfl ?_ ?_
                            · go_simp
                              (try simp only [i64_w])
                              try rfl
                            refine hK.out _ _ ⟨v218, v222, m18_, m19_, (by rw [ha.out]; exact putSel_upk 9 hb_ rfl rfl rfl), Q_HO210, Q_BK213, Q_HB, Q_HO219, fun h0_ => absurd ((hoff 17 (by kernel_rfl)).symm.trans h0_) (by decide), Q_X18_, fun h0_ => absurd ((hoff 19 (by kernel_rfl)).symm.trans h0_) (by decide)⟩
                          refine steps_cons ?_ ?_
                          · rintro b a w' ⟨v218, v222, m18_, m19_, ha, Q_HO210, Q_BK213, Q_HB, Q_HO219, Q_HO223, Q_X18_, Q_X19_⟩ hb_ hon hoff
                            refine ⟨_, rfl, fun K hK => ?_⟩
                            have e65 : a.tmps[65]? = some (.int .i64 (rd l1 (ji26))) := by rw [ha]; exact putSel_on (e := (16, 65, .int .i64 (rd l1 (ji26)))) 9 rfl rfl (hon 16 (by kernel_rfl)) rfl
                            replace ha := Aside0.mk ha
                            have HO210 := Aside0.mk Q_HO210
                            have BK213 := Aside0.mk Q_BK213
                            have HB := Aside0.mk Q_HB
                            refine Kd.R_lit_step (Kd.int .i64) _ 2 ?hg (N := 66) ?hd (xs := ([rd l1 (ji26)] : List Int)) (inner := [.int .i64 (rd l1 (ji26))]) (ok := fun _ => True) (okp := fun _ => True) ?hr ?hp (fun _ hk => hk) trivial (Below.refl _ _) (Nat.le_refl _) (by simp) ?_; (case hd => rfl); (case hg => rfl); (case hr => first | (go_simp; done) | (go_simp; rfl)); (case hp => exact (Reps.one (show Kd.M (Kd.int .i64) _ _ _ (rd l1 (ji26)) [.int .i64 (rd l1 (ji26))] from rfl) (Reps.none _ _)))
                            intro v222 w34 ho35 hb hg_ hnew_
                            clear hg_ hnew_
                            (first | rw [← Ny221.out] at ho35 | (simp only [Int.reduceToNat] at ho35; rw [← Ny221.out] at ho35))
                            have n0_ := Aside0.mk (Kd.R_below (by (with_reducible repeat (first | apply Kd.R_alloc | apply Kd.R_drewN | apply Kd.R_drew)); exact HO210.out) hb)
                            have n1_ := Aside0.mk (show Kd.R (Kd.int .i64) 2 w34 w.heap.size (fun k_ => b 12 = true → some k_ ≠ (v218 : Value).ownBlock) v222 y221 from Kd.R_mono (Kd.R_lower (Kd.R_bound ho35) (below_size (by repeat (first | (with_reducible first | exact HB.out | apply below_alloc | apply pw_below_drewN | apply below_drew1 | refine below_set ?_ GE213.out) | exact HB.out)))) (fun k_ hk_ h0_ e_ => by obtain ⟨_, ho_⟩ := Kd.R_own (Q_HO219 h0_); have := own_lt ho_ k_ e_.symm; have := hk_.2.1; omega))
                            have n2_ := Aside0.mk (blk_below (g := gb213) (o := .cells #[.int .i64 ((rd_T86 t208 0).f0), .int .i64 ((rd_T86 t208 0).f1), .int .i64 ((rd_T86 t208 0).f2)] 86 (0, 0)) (by (with_reducible repeat (first | refine blk_drewN ?_ _ | refine blk_drew ?_ | refine blk_alloc ?_ _)); exact BK213.out) hb)
                            have n3_ := Aside0.mk (below_step (by repeat (first | (with_reducible first | exact HB.out | apply below_alloc | apply pw_below_drewN | apply below_drew1 | refine below_set ?_ GE213.out) | exact HB.out)) hb)
                            have z_HO219 := fun (h0_ : b 12 = true) => (Kd.R_elder' (by (with_reducible repeat (first | apply Kd.R_alloc | apply Kd.R_drewN | apply Kd.R_drew)); exact (Q_HO219 h0_)) (Kd.R_base ho35) hb)
                            clear HO210
                            clear BK213
                            clear HB
                            have HO210 := n0_
                            have HO223 := n1_
                            have BK213 := n2_
                            have HB := n3_
                            clear n0_ n1_ n2_ n3_
                            clear hb ho35
                            refine hK.out _ _ ⟨v218, v222, m18_, m19_, (by rw [ha.out]; exact putSel_upk 10 hb_ rfl rfl rfl), (by (with_reducible repeat (first | apply Kd.R_alloc | apply Kd.R_drewN | apply Kd.R_drew)); exact HO210.out), (by (with_reducible repeat (first | refine blk_drewN ?_ _ | refine blk_drew ?_ | refine blk_alloc ?_ _)); exact BK213.out), (by repeat (first | (with_reducible first | exact HB.out | apply below_alloc | apply pw_below_drewN | apply below_drew1 | refine below_set ?_ GE213.out) | exact HB.out)), (fun h0_ => Kd.R_mono (z_HO219 h0_) (fun _ h_ _ => h_.2)), fun _ => (by (with_reducible repeat (first | apply Kd.R_alloc | apply Kd.R_drewN | apply Kd.R_drew)); exact HO223.out), Q_X18_, fun h0_ => absurd ((hoff 19 (by kernel_rfl)).symm.trans h0_) (by decide)⟩
                          refine steps_cons ?_ ?_
                          · rintro b a w' ⟨v218, v222, m18_, m19_, ha, Q_HO210, Q_BK213, Q_HB, Q_HO219, Q_HO223, Q_X18_, Q_X19_⟩ hb_ hon hoff
                            refine ⟨_, rfl, fun K hK => ?_⟩
                            have e61 : a.tmps[61]? = some (v218) := by rw [ha]; exact putSel_on (e := (12, 61, v218)) 7 rfl rfl (hon 12 (by kernel_rfl)) rfl
                            replace ha := Aside0.mk ha
                            have HO210 := Aside0.mk Q_HO210
                            have BK213 := Aside0.mk Q_BK213
                            have HB := Aside0.mk Q_HB
                            have HO219 := Aside0.mk (Q_HO219 (hon 12 (by kernel_rfl)))
                            refine value_ (w1 := w') (v := v218) (by rfl) rfl ?_ ?_
                            · go_simp
                              (try simp only [i64_w])
                              try rfl
                            refine hK.out _ _ ⟨v218, v222, (v218), m19_, (by rw [ha.out]; exact putSel_upk 11 hb_ rfl rfl rfl), Q_HO210, Q_BK213, Q_HB, Q_HO219, Q_HO223, fun _ => rfl, fun h0_ => absurd ((hoff 19 (by kernel_rfl)).symm.trans h0_) (by decide)⟩
                          refine steps_cons ?_ ?_
                          · rintro b a w' ⟨v218, v222, m18_, m19_, ha, Q_HO210, Q_BK213, Q_HB, Q_HO219, Q_HO223, Q_X18_, Q_X19_⟩ hb_ hon hoff
                            refine ⟨_, rfl, fun K hK => ?_⟩
                            have e66 : a.tmps[66]? = some (v222) := by rw [ha]; exact putSel_on (e := (17, 66, v222)) 10 rfl rfl (hon 17 (by kernel_rfl)) rfl
                            replace ha := Aside0.mk ha
                            have HO210 := Aside0.mk Q_HO210
                            have BK213 := Aside0.mk Q_BK213
                            have HB := Aside0.mk Q_HB
                            have HO219 := Aside0.mk (Q_HO219 (hon 12 (by kernel_rfl)))
                            have HO223 := Aside0.mk (Q_HO223 (hon 17 (by kernel_rfl)))
                            refine value_ (w1 := w') (v := v222) (by rfl) rfl ?_ ?_
                            · go_simp
                              (try simp only [i64_w])
                              try rfl
                            refine hK.out _ _ ⟨v218, v222, m18_, (v222), (by rw [ha.out]; exact putSel_upk 12 hb_ rfl rfl rfl), Q_HO210, Q_BK213, Q_HB, Q_HO219, Q_HO223, Q_X18_, fun _ => rfl⟩
                          exact steps_nil
                        rintro b a w38 hall ⟨v218, v222, m18_, m19_, ha, Q_HO210, Q_BK213, Q_HB, Q_HO219, Q_HO223, Q_X18_, Q_X19_⟩
                        clear BK213 HB HO210
                        have hb2_ := hall 2 (by kernel_rfl)
                        have hb3_ := hall 3 (by kernel_rfl)
                        have hb5_ := hall 5 (by kernel_rfl)
                        have hb6_ := hall 6 (by kernel_rfl)
                        have hb9_ := hall 9 (by kernel_rfl)
                        have hb10_ := hall 10 (by kernel_rfl)
                        have hb11_ := hall 11 (by kernel_rfl)
                        have hb12_ := hall 12 (by kernel_rfl)
                        have hb15_ := hall 15 (by kernel_rfl)
                        have hb16_ := hall 16 (by kernel_rfl)
                        have hb17_ := hall 17 (by kernel_rfl)
                        have hb18_ := hall 18 (by kernel_rfl)
                        have hb19_ := hall 19 (by kernel_rfl)
                        subst ha
                        obtain rfl := Q_X18_ hb18_
                        obtain rfl := Q_X19_ hb19_
                        simp only [putSel, hb2_, hb3_, hb5_, hb6_, hb9_, hb10_, hb11_, hb12_, hb15_, hb16_, hb17_, hb18_, hb19_, if_true, Act.put, List.setIfInBounds_toArray, List.set_cons_zero, List.set_cons_succ]
                        have HO210 := Aside0.mk Q_HO210
                        clear Q_HO210
                        have BK213 := Aside0.mk Q_BK213
                        clear Q_BK213
                        have HB := Aside0.mk Q_HB
                        clear Q_HB
                        have HO219 := Aside0.mk (Kd.R_mono (Q_HO219 hb12_) (fun _ hk => hk hb17_))
                        clear Q_HO219
                        have HO223 := Aside0.mk (Kd.R_mono (Q_HO223 hb17_) (fun _ hk => hk hb12_))
                        clear Q_HO223
                        clear hall hb2_ hb3_ hb5_ hb6_ hb9_ hb10_ hb11_ hb12_ hb15_ hb16_ hb17_ hb18_ hb19_
                        try go_wp2
                        (try subst hji26); (try subst hji29); (try subst hji44); (try subst hji47); (try subst hji62); (try subst hji65); skip
                        go_meet
                        case rel => exact ⟨_, (y217), (y221), H', ⟨by first | omega | exact Nat.le_refl _⟩, ⟨by (with_reducible repeat (first | apply Kd.R_alloc | apply Kd.R_drewN | apply Kd.R_drew)); exact HO219.out⟩, ⟨by (with_reducible repeat (first | apply Kd.R_alloc | apply Kd.R_drewN | apply Kd.R_drew)); exact HO223.out⟩, ⟨by (with_reducible repeat (first | refine blk_drewN ?_ _ | refine blk_drew ?_ | refine blk_alloc ?_ _)); exact BK213.out⟩, ⟨by repeat (first | (with_reducible first | exact HB.out | apply below_alloc | apply pw_below_drewN | apply below_drew1 | refine below_set ?_ GE213.out) | exact HB.out)⟩⟩
                      · rw [if_neg c32] at H
                        exact absurd H (by simp)
                    · rw [if_neg c31] at H
                      exact absurd H (by simp)
                  · rw [if_neg c30] at H
                    exact absurd H (by simp)
                · rw [if_neg c28] at H
                  exact absurd H (by simp)
              · rw [if_neg c27] at H
                exact absurd H (by simp)
            · rw [if_neg c25] at H
              have c25b0 : ((Int.tmod ((rd_T86 t208 0).f1) 2) == 1) = false := beq_eq_false_iff_ne.mpr c25
              have c25b1 : ((Int.tmod ((rd_T86 t208 0).f1) 2) != 1) = true := bne_iff_ne.mpr c25
              (first | rw [c25b0] | (simp only [i64_w, i32_w]; rw [c25b0]) | skip)
              replace H := Option.bind_eq_some_iff.mp H
              obtain ⟨t224, A390, H⟩ := H
              replace H : ((impl_chosen.f k l1 t224).bind fun t227 => ((impl_countKind.f k t227 3).bind fun t230 => ((impl_countKind.f k t227 2).bind fun t231 => (if t230 > t231 then (if 0 ≤ (Int.tmod (wrap64 ((wrap64 (((rd_T86 t208 0).f0) + t212)) - 1)) t212) then (if (Int.tmod (wrap64 ((wrap64 (((rd_T86 t208 0).f0) + t212)) - 1)) t212) < (l0.length : Int) then (if 0 ≤ (Int.tmod (wrap64 (((rd_T86 t208 0).f0) + ((rd_T86 t208 0).f1))) t212) then (if (Int.tmod (wrap64 (((rd_T86 t208 0).f0) + ((rd_T86 t208 0).f1))) t212) < (l0.length : Int) then (if (Int.tmod (wrap64 ((wrap64 (((rd_T86 t208 0).f0) + t212)) - 1)) t212) < (l1.length : Int) then (impl_crimp.j0 k l0 l1 t212 (Int.tmod (wrap64 ((wrap64 (((rd_T86 t208 0).f0) + t212)) - 1)) t212) (Int.tmod (wrap64 (((rd_T86 t208 0).f0) + ((rd_T86 t208 0).f1))) t212) (([rd l0 (Int.tmod (wrap64 ((wrap64 (((rd_T86 t208 0).f0) + t212)) - 1)) t212), rd l0 (Int.tmod (wrap64 (((rd_T86 t208 0).f0) + ((rd_T86 t208 0).f1))) t212)] : List Int)) (([rd l1 (Int.tmod (wrap64 ((wrap64 (((rd_T86 t208 0).f0) + t212)) - 1)) t212), 3] : List Int))) else (none)) else (none)) else (none)) else (none)) else (none)) else (if 0 ≤ (Int.tmod (wrap64 ((wrap64 (((rd_T86 t208 0).f0) + t212)) - 1)) t212) then (if (Int.tmod (wrap64 ((wrap64 (((rd_T86 t208 0).f0) + t212)) - 1)) t212) < (l0.length : Int) then (if 0 ≤ (Int.tmod (wrap64 (((rd_T86 t208 0).f0) + ((rd_T86 t208 0).f1))) t212) then (if (Int.tmod (wrap64 (((rd_T86 t208 0).f0) + ((rd_T86 t208 0).f1))) t212) < (l0.length : Int) then (if (Int.tmod (wrap64 ((wrap64 (((rd_T86 t208 0).f0) + t212)) - 1)) t212) < (l1.length : Int) then (impl_crimp.j0 k l0 l1 t212 (Int.tmod (wrap64 ((wrap64 (((rd_T86 t208 0).f0) + t212)) - 1)) t212) (Int.tmod (wrap64 (((rd_T86 t208 0).f0) + ((rd_T86 t208 0).f1))) t212) (([rd l0 (Int.tmod (wrap64 ((wrap64 (((rd_T86 t208 0).f0) + t212)) - 1)) t212), rd l0 (Int.tmod (wrap64 (((rd_T86 t208 0).f0) + ((rd_T86 t208 0).f1))) t212)] : List Int)) (([rd l1 (Int.tmod (wrap64 ((wrap64 (((rd_T86 t208 0).f0) + t212)) - 1)) t212), 2] : List Int))) else (none)) else (none)) else (none)) else (none)) else (none)))))) = some (r1, r2, r3) := H
              have A39 := Aside0.mk A390
              clear A390
              replace H := Option.bind_eq_some_iff.mp H
              obtain ⟨t227, A400, H⟩ := H
              replace H : ((impl_countKind.f k t227 3).bind fun t230 => ((impl_countKind.f k t227 2).bind fun t231 => (if t230 > t231 then (if 0 ≤ (Int.tmod (wrap64 ((wrap64 (((rd_T86 t208 0).f0) + t212)) - 1)) t212) then (if (Int.tmod (wrap64 ((wrap64 (((rd_T86 t208 0).f0) + t212)) - 1)) t212) < (l0.length : Int) then (if 0 ≤ (Int.tmod (wrap64 (((rd_T86 t208 0).f0) + ((rd_T86 t208 0).f1))) t212) then (if (Int.tmod (wrap64 (((rd_T86 t208 0).f0) + ((rd_T86 t208 0).f1))) t212) < (l0.length : Int) then (if (Int.tmod (wrap64 ((wrap64 (((rd_T86 t208 0).f0) + t212)) - 1)) t212) < (l1.length : Int) then (impl_crimp.j0 k l0 l1 t212 (Int.tmod (wrap64 ((wrap64 (((rd_T86 t208 0).f0) + t212)) - 1)) t212) (Int.tmod (wrap64 (((rd_T86 t208 0).f0) + ((rd_T86 t208 0).f1))) t212) (([rd l0 (Int.tmod (wrap64 ((wrap64 (((rd_T86 t208 0).f0) + t212)) - 1)) t212), rd l0 (Int.tmod (wrap64 (((rd_T86 t208 0).f0) + ((rd_T86 t208 0).f1))) t212)] : List Int)) (([rd l1 (Int.tmod (wrap64 ((wrap64 (((rd_T86 t208 0).f0) + t212)) - 1)) t212), 3] : List Int))) else (none)) else (none)) else (none)) else (none)) else (none)) else (if 0 ≤ (Int.tmod (wrap64 ((wrap64 (((rd_T86 t208 0).f0) + t212)) - 1)) t212) then (if (Int.tmod (wrap64 ((wrap64 (((rd_T86 t208 0).f0) + t212)) - 1)) t212) < (l0.length : Int) then (if 0 ≤ (Int.tmod (wrap64 (((rd_T86 t208 0).f0) + ((rd_T86 t208 0).f1))) t212) then (if (Int.tmod (wrap64 (((rd_T86 t208 0).f0) + ((rd_T86 t208 0).f1))) t212) < (l0.length : Int) then (if (Int.tmod (wrap64 ((wrap64 (((rd_T86 t208 0).f0) + t212)) - 1)) t212) < (l1.length : Int) then (impl_crimp.j0 k l0 l1 t212 (Int.tmod (wrap64 ((wrap64 (((rd_T86 t208 0).f0) + t212)) - 1)) t212) (Int.tmod (wrap64 (((rd_T86 t208 0).f0) + ((rd_T86 t208 0).f1))) t212) (([rd l0 (Int.tmod (wrap64 ((wrap64 (((rd_T86 t208 0).f0) + t212)) - 1)) t212), rd l0 (Int.tmod (wrap64 (((rd_T86 t208 0).f0) + ((rd_T86 t208 0).f1))) t212)] : List Int)) (([rd l1 (Int.tmod (wrap64 ((wrap64 (((rd_T86 t208 0).f0) + t212)) - 1)) t212), 2] : List Int))) else (none)) else (none)) else (none)) else (none)) else (none))))) = some (r1, r2, r3) := H
              have A40 := Aside0.mk A400
              clear A400
              replace H := Option.bind_eq_some_iff.mp H
              obtain ⟨t230, A410, H⟩ := H
              replace H : ((impl_countKind.f k t227 2).bind fun t231 => (if t230 > t231 then (if 0 ≤ (Int.tmod (wrap64 ((wrap64 (((rd_T86 t208 0).f0) + t212)) - 1)) t212) then (if (Int.tmod (wrap64 ((wrap64 (((rd_T86 t208 0).f0) + t212)) - 1)) t212) < (l0.length : Int) then (if 0 ≤ (Int.tmod (wrap64 (((rd_T86 t208 0).f0) + ((rd_T86 t208 0).f1))) t212) then (if (Int.tmod (wrap64 (((rd_T86 t208 0).f0) + ((rd_T86 t208 0).f1))) t212) < (l0.length : Int) then (if (Int.tmod (wrap64 ((wrap64 (((rd_T86 t208 0).f0) + t212)) - 1)) t212) < (l1.length : Int) then (impl_crimp.j0 k l0 l1 t212 (Int.tmod (wrap64 ((wrap64 (((rd_T86 t208 0).f0) + t212)) - 1)) t212) (Int.tmod (wrap64 (((rd_T86 t208 0).f0) + ((rd_T86 t208 0).f1))) t212) (([rd l0 (Int.tmod (wrap64 ((wrap64 (((rd_T86 t208 0).f0) + t212)) - 1)) t212), rd l0 (Int.tmod (wrap64 (((rd_T86 t208 0).f0) + ((rd_T86 t208 0).f1))) t212)] : List Int)) (([rd l1 (Int.tmod (wrap64 ((wrap64 (((rd_T86 t208 0).f0) + t212)) - 1)) t212), 3] : List Int))) else (none)) else (none)) else (none)) else (none)) else (none)) else (if 0 ≤ (Int.tmod (wrap64 ((wrap64 (((rd_T86 t208 0).f0) + t212)) - 1)) t212) then (if (Int.tmod (wrap64 ((wrap64 (((rd_T86 t208 0).f0) + t212)) - 1)) t212) < (l0.length : Int) then (if 0 ≤ (Int.tmod (wrap64 (((rd_T86 t208 0).f0) + ((rd_T86 t208 0).f1))) t212) then (if (Int.tmod (wrap64 (((rd_T86 t208 0).f0) + ((rd_T86 t208 0).f1))) t212) < (l0.length : Int) then (if (Int.tmod (wrap64 ((wrap64 (((rd_T86 t208 0).f0) + t212)) - 1)) t212) < (l1.length : Int) then (impl_crimp.j0 k l0 l1 t212 (Int.tmod (wrap64 ((wrap64 (((rd_T86 t208 0).f0) + t212)) - 1)) t212) (Int.tmod (wrap64 (((rd_T86 t208 0).f0) + ((rd_T86 t208 0).f1))) t212) (([rd l0 (Int.tmod (wrap64 ((wrap64 (((rd_T86 t208 0).f0) + t212)) - 1)) t212), rd l0 (Int.tmod (wrap64 (((rd_T86 t208 0).f0) + ((rd_T86 t208 0).f1))) t212)] : List Int)) (([rd l1 (Int.tmod (wrap64 ((wrap64 (((rd_T86 t208 0).f0) + t212)) - 1)) t212), 2] : List Int))) else (none)) else (none)) else (none)) else (none)) else (none)))) = some (r1, r2, r3) := H
              have A41 := Aside0.mk A410
              clear A410
              replace H := Option.bind_eq_some_iff.mp H
              obtain ⟨t231, A420, H⟩ := H
              replace H : (if t230 > t231 then (if 0 ≤ (Int.tmod (wrap64 ((wrap64 (((rd_T86 t208 0).f0) + t212)) - 1)) t212) then (if (Int.tmod (wrap64 ((wrap64 (((rd_T86 t208 0).f0) + t212)) - 1)) t212) < (l0.length : Int) then (if 0 ≤ (Int.tmod (wrap64 (((rd_T86 t208 0).f0) + ((rd_T86 t208 0).f1))) t212) then (if (Int.tmod (wrap64 (((rd_T86 t208 0).f0) + ((rd_T86 t208 0).f1))) t212) < (l0.length : Int) then (if (Int.tmod (wrap64 ((wrap64 (((rd_T86 t208 0).f0) + t212)) - 1)) t212) < (l1.length : Int) then (impl_crimp.j0 k l0 l1 t212 (Int.tmod (wrap64 ((wrap64 (((rd_T86 t208 0).f0) + t212)) - 1)) t212) (Int.tmod (wrap64 (((rd_T86 t208 0).f0) + ((rd_T86 t208 0).f1))) t212) (([rd l0 (Int.tmod (wrap64 ((wrap64 (((rd_T86 t208 0).f0) + t212)) - 1)) t212), rd l0 (Int.tmod (wrap64 (((rd_T86 t208 0).f0) + ((rd_T86 t208 0).f1))) t212)] : List Int)) (([rd l1 (Int.tmod (wrap64 ((wrap64 (((rd_T86 t208 0).f0) + t212)) - 1)) t212), 3] : List Int))) else (none)) else (none)) else (none)) else (none)) else (none)) else (if 0 ≤ (Int.tmod (wrap64 ((wrap64 (((rd_T86 t208 0).f0) + t212)) - 1)) t212) then (if (Int.tmod (wrap64 ((wrap64 (((rd_T86 t208 0).f0) + t212)) - 1)) t212) < (l0.length : Int) then (if 0 ≤ (Int.tmod (wrap64 (((rd_T86 t208 0).f0) + ((rd_T86 t208 0).f1))) t212) then (if (Int.tmod (wrap64 (((rd_T86 t208 0).f0) + ((rd_T86 t208 0).f1))) t212) < (l0.length : Int) then (if (Int.tmod (wrap64 ((wrap64 (((rd_T86 t208 0).f0) + t212)) - 1)) t212) < (l1.length : Int) then (impl_crimp.j0 k l0 l1 t212 (Int.tmod (wrap64 ((wrap64 (((rd_T86 t208 0).f0) + t212)) - 1)) t212) (Int.tmod (wrap64 (((rd_T86 t208 0).f0) + ((rd_T86 t208 0).f1))) t212) (([rd l0 (Int.tmod (wrap64 ((wrap64 (((rd_T86 t208 0).f0) + t212)) - 1)) t212), rd l0 (Int.tmod (wrap64 (((rd_T86 t208 0).f0) + ((rd_T86 t208 0).f1))) t212)] : List Int)) (([rd l1 (Int.tmod (wrap64 ((wrap64 (((rd_T86 t208 0).f0) + t212)) - 1)) t212), 2] : List Int))) else (none)) else (none)) else (none)) else (none)) else (none))) = some (r1, r2, r3) := H
              have A42 := Aside0.mk A420
              clear A420
              by_cases c43 : t230 > t231
              · rw [if_pos c43] at H
                have c43b0 : decide (t231 < t230) = true := decide_eq_true c43
                clear c43
                obtain ⟨ji44, hji44⟩ : ∃ j_ : Int, (Int.tmod (wrap64 ((wrap64 (((rd_T86 t208 0).f0) + t212)) - 1)) t212) = j_ := ⟨_, rfl⟩
                replace H : (if 0 ≤ (ji44) then (if (ji44) < (l0.length : Int) then (if 0 ≤ (Int.tmod (wrap64 (((rd_T86 t208 0).f0) + ((rd_T86 t208 0).f1))) t212) then (if (Int.tmod (wrap64 (((rd_T86 t208 0).f0) + ((rd_T86 t208 0).f1))) t212) < (l0.length : Int) then (if (ji44) < (l1.length : Int) then (impl_crimp.j0 k l0 l1 t212 ji44 (Int.tmod (wrap64 (((rd_T86 t208 0).f0) + ((rd_T86 t208 0).f1))) t212) (([rd l0 (ji44), rd l0 (Int.tmod (wrap64 (((rd_T86 t208 0).f0) + ((rd_T86 t208 0).f1))) t212)] : List Int)) (([rd l1 (ji44), 3] : List Int))) else (none)) else (none)) else (none)) else (none)) else (none)) = some (r1, r2, r3) := by first | (rw [hji44] at H; exact H) | (simp only [hji44] at H ⊢; exact H)
                (try rw [hji44] at A39)
                (try rw [hji44] at A40)
                (try rw [hji44] at A41)
                (try rw [hji44] at A42)
                by_cases c45 : 0 ≤ (ji44)
                · rw [if_pos c45] at H
                  have c45b0 : decide (0 ≤ (ji44)) = true := decide_eq_true c45
                  clear c45
                  by_cases c46 : (ji44) < (l0.length : Int)
                  · rw [if_pos c46] at H
                    have c46b0 : decide ((ji44) < (l0.length : Int)) = true := decide_eq_true c46
                    clear c46
                    obtain ⟨ji47, hji47⟩ : ∃ j_ : Int, (Int.tmod (wrap64 (((rd_T86 t208 0).f0) + ((rd_T86 t208 0).f1))) t212) = j_ := ⟨_, rfl⟩
                    replace H : (if 0 ≤ (ji47) then (if (ji47) < (l0.length : Int) then (if (ji44) < (l1.length : Int) then (impl_crimp.j0 k l0 l1 t212 ji44 ji47 (([rd l0 (ji44), rd l0 (ji47)] : List Int)) (([rd l1 (ji44), 3] : List Int))) else (none)) else (none)) else (none)) = some (r1, r2, r3) := by first | (rw [hji47] at H; exact H) | (simp only [hji47] at H ⊢; exact H)
                    (try rw [hji47] at A39)
                    (try rw [hji47] at A40)
                    (try rw [hji47] at A41)
                    (try rw [hji47] at A42)
                    by_cases c48 : 0 ≤ (ji47)
                    · rw [if_pos c48] at H
                      have c48b0 : decide (0 ≤ (ji47)) = true := decide_eq_true c48
                      clear c48
                      by_cases c49 : (ji47) < (l0.length : Int)
                      · rw [if_pos c49] at H
                        have c49b0 : decide ((ji47) < (l0.length : Int)) = true := decide_eq_true c49
                        clear c49
                        obtain ⟨y234, hy234⟩ : ∃ y_ : List Int, y_ = (([rd l0 (ji44), rd l0 (ji47)] : List Int)) := ⟨_, rfl⟩
                        replace H : (if (ji44) < (l1.length : Int) then (impl_crimp.j0 k l0 l1 t212 ji44 ji47 y234 (([rd l1 (ji44), 3] : List Int))) else (none)) = some (r1, r2, r3) := by first | (rw [hy234]; with_reducible exact H) | (have H2_ := (Option.bind_some _ _).symm.trans H; rw [hy234]; with_reducible exact H2_) | (have H2_ := (Option.bind_some _ _).symm.trans H; with_reducible exact H2_) | with_reducible exact H | (rw [hy234]; exact H) | exact H
                        have Ny234 := Aside0.mk hy234
                        clear hy234
                        by_cases c50 : (ji44) < (l1.length : Int)
                        · rw [if_pos c50] at H
                          have c50b0 : decide ((ji44) < (l1.length : Int)) = true := decide_eq_true c50
                          clear c50
                          obtain ⟨y238, hy238⟩ : ∃ y_ : List Int, y_ = (([rd l1 (ji44), 3] : List Int)) := ⟨_, rfl⟩
                          replace H : (impl_crimp.j0 k l0 l1 t212 ji44 ji47 y234 y238) = some (r1, r2, r3) := by first | (rw [hy238]; with_reducible exact H) | (have H2_ := (Option.bind_some _ _).symm.trans H; rw [hy238]; with_reducible exact H2_) | (have H2_ := (Option.bind_some _ _).symm.trans H; with_reducible exact H2_) | with_reducible exact H | (rw [hy238]; exact H) | exact H
                          have Ny238 := Aside0.mk hy238
                          clear hy238
                          have H' := Aside0.mk H
                          clear H
                          have hcz51_0 : w23.cell? ⟨gb213, 0, none⟩ = some (.int .i64 ((rd_T86 t208 0).f0)) := (blk_cell BK213.out 0).trans rfl
                          have hcz51_1 : w23.cell? ⟨gb213, 1, none⟩ = some (.int .i64 ((rd_T86 t208 0).f1)) := (blk_cell BK213.out 1).trans rfl
                          have hcz51_2 : w23.cell? ⟨gb213, 2, none⟩ = some (.int .i64 ((rd_T86 t208 0).f2)) := (blk_cell BK213.out 2).trans rfl
                          have hfz51_0 := blk_frozen BK213.out 0
                          have hfz51_1 := blk_frozen BK213.out 1
                          have hfz51_2 := blk_frozen BK213.out 2
                          try go_wp2_with (first | ((with_reducible refine gate_callee (f := 69) rfl ?_); refine goesL_ (some 70) rfl rfl Try.func69 (by kernel_rfl) rfl #[.agg #[.int .i64 ((rd_T86 t208 0).f0), .int .i64 ((rd_T86 t208 0).f1), .int .i64 ((rd_T86 t208 0).f2)], .int .i64 t212] rfl (by (try simp only [List.map_toArray, List.map_cons, List.map_nil]); first | done | rfl | (simp only [List.length_drop, List.length_take]; rfl)) ?_; (with_reducible refine (impl_innerCreases.calls k ((rd_T86 t208 0).f0) ((rd_T86 t208 0).f1) ((rd_T86 t208 0).f2) t212 t224 _ A39.out).mono ?_); rintro e w52 ⟨v225, rfl, ho0, hb⟩; refine ⟨_, rfl, ?_⟩; have n0_ := Aside0.mk (Kd.R_below (by (with_reducible repeat (first | apply Kd.R_alloc | apply Kd.R_drewN | apply Kd.R_drew)); exact HO210.out) hb); have n1_ := Aside0.mk (Kd.R_lower ho0 (below_size (by repeat (first | (with_reducible first | exact HB.out | apply below_alloc | apply pw_below_drewN | apply below_drew1 | refine below_set ?_ GE213.out) | exact HB.out)))); have n2_ := Aside0.mk (blk_below (g := gb213) (o := .cells #[.int .i64 ((rd_T86 t208 0).f0), .int .i64 ((rd_T86 t208 0).f1), .int .i64 ((rd_T86 t208 0).f2)] 86 (0, 0)) (by (with_reducible repeat (first | refine blk_drewN ?_ _ | refine blk_drew ?_ | refine blk_alloc ?_ _)); exact BK213.out) hb); have n3_ := Aside0.mk (below_step (by repeat (first | (with_reducible first | exact HB.out | apply below_alloc | apply pw_below_drewN | apply below_drew1 | refine below_set ?_ GE213.out) | exact HB.out)) hb); clear HO210; clear BK213; clear HB; have HO210 := n0_; have HO226 := n1_; have BK213 := n2_; have HB := n3_; clear n0_ n1_ n2_ n3_; (try clear hb); (try clear hb2); (try clear hk); (try clear hi); (try clear ho0); obtain ⟨Ao53, co53, eo53⟩ := Kd.R_slice HO226.out; subst eo53) | ((with_reducible refine gate_callee (f := 68) rfl ?_); refine goesL_ (some 71) rfl rfl Try.func68 (by kernel_rfl) rfl #[.slice A1 l1.length c1, .slice Ao53 t224.length co53] rfl (by (try simp only [List.map_toArray, List.map_cons, List.map_nil]); first | done | rfl | (simp only [List.length_drop, List.length_take]; rfl)) ?_; (with_reducible refine (impl_chosen.calls k _ _ l1 _ _ t224 t227 _ ?side1 ?side2 ?side3 ?side4 A40.out).mono ?_); (case side1 => repeat (first | exact (Kd.C_below HR1.out HB.out) | (with_reducible refine Kd.C_alloc ?_ _) | (with_reducible refine Kd.C_drewN ?_ _) | (with_reducible refine Kd.C_drew ?_))); (case side2 => exact HC1.out); (case side3 => repeat (first | exact (Kd.R_reads' HO226.out).2.2 | (with_reducible refine Kd.C_alloc ?_ _) | (with_reducible refine Kd.C_drewN ?_ _) | (with_reducible refine Kd.C_drew ?_))); (case side4 => exact (Kd.R_reads' HO226.out).2.1); rintro e w54 ⟨v228, rfl, ho0, hb⟩; refine ⟨_, rfl, ?_⟩; have n0_ := Aside0.mk (Kd.R_below (by (with_reducible repeat (first | apply Kd.R_alloc | apply Kd.R_drewN | apply Kd.R_drew)); exact HO210.out) hb); have n1_ := Aside0.mk (Kd.R_elder' (by (with_reducible repeat (first | apply Kd.R_alloc | apply Kd.R_drewN | apply Kd.R_drew)); exact HO226.out) (Kd.R_base ho0) hb); have n2_ := Aside0.mk (Kd.R_lower (Kd.R_new' ho0 (Kd.R_lt (by (with_reducible repeat (first | apply Kd.R_alloc | apply Kd.R_drewN | apply Kd.R_drew)); exact HO226.out))) (below_size (by repeat (first | (with_reducible first | exact HB.out | apply below_alloc | apply pw_below_drewN | apply below_drew1 | refine below_set ?_ GE213.out) | exact HB.out)))); have n3_ := Aside0.mk (blk_below (g := gb213) (o := .cells #[.int .i64 ((rd_T86 t208 0).f0), .int .i64 ((rd_T86 t208 0).f1), .int .i64 ((rd_T86 t208 0).f2)] 86 (0, 0)) (by (with_reducible repeat (first | refine blk_drewN ?_ _ | refine blk_drew ?_ | refine blk_alloc ?_ _)); exact BK213.out) hb); have n4_ := Aside0.mk (below_step (by repeat (first | (with_reducible first | exact HB.out | apply below_alloc | apply pw_below_drewN | apply below_drew1 | refine below_set ?_ GE213.out) | exact HB.out)) hb); clear HO210; clear HO226; clear BK213; clear HB; have HO210 := n0_; have HO226 := n1_; have HO229 := n2_; have BK213 := n3_; have HB := n4_; clear n0_ n1_ n2_ n3_ n4_; (try clear hb); (try clear hb2); (try clear hk); (try clear hi); (try clear ho0); obtain ⟨Ao55, co55, eo55⟩ := Kd.R_slice HO229.out; subst eo55) | ((with_reducible refine gate_callee (f := 70) rfl ?_); refine goesL_ (some 73) rfl rfl Try.func70 (by kernel_rfl) rfl #[.slice Ao55 t227.length co55, .int .i64 3] rfl (by (try simp only [List.map_toArray, List.map_cons, List.map_nil]); first | done | rfl | (simp only [List.length_drop, List.length_take]; rfl)) ?_; (with_reducible refine (impl_countKind.calls k _ _ t227 3 t230 _ ?side1 ?side2 A41.out).mono ?_); (case side1 => repeat (first | exact (Kd.R_reads' HO229.out).2.2 | (with_reducible refine Kd.C_alloc ?_ _) | (with_reducible refine Kd.C_drewN ?_ _) | (with_reducible refine Kd.C_drew ?_))); (case side2 => exact (Kd.R_reads' HO229.out).2.1); rintro e w' ⟨rfl, ⟨nd, rfl⟩⟩; refine ⟨_, rfl, ?_⟩) | ((with_reducible refine gate_callee (f := 70) rfl ?_); refine goesL_ (some 75) rfl rfl Try.func70 (by kernel_rfl) rfl #[.slice Ao55 t227.length co55, .int .i64 2] rfl (by (try simp only [List.map_toArray, List.map_cons, List.map_nil]); first | done | rfl | (simp only [List.length_drop, List.length_take]; rfl)) ?_; (with_reducible refine (impl_countKind.calls k _ _ t227 2 t231 _ ?side1 ?side2 A42.out).mono ?_); (case side1 => repeat (first | exact (Kd.R_reads' HO229.out).2.2 | (with_reducible refine Kd.C_alloc ?_ _) | (with_reducible refine Kd.C_drewN ?_ _) | (with_reducible refine Kd.C_drew ?_))); (case side2 => exact (Kd.R_reads' HO229.out).2.1); rintro e w' ⟨rfl, ⟨nd, rfl⟩⟩; refine ⟨_, rfl, ?_⟩))
                          (try (rw [drewN_self w54]; generalize hq_ : World.drewN w54 _ = w54; have n0_ : Aside0 (Kd.R k86 86 w54 w.heap.size (fun k_ => k_ ≠ gb213) (.slice (some ad211) t208.length co14) t208) := ⟨by rw [← hq_]; exact (by (with_reducible repeat (first | apply Kd.R_alloc | apply Kd.R_drewN | apply Kd.R_drew)); exact HO210.out)⟩; have n1_ : Aside0 (Kd.R (Kd.int .i64) 2 w54 w.heap.size (fun k_ => (True ∧ some k_ ≠ (.slice Ao55 t227.length co55 : Value).ownBlock)) (.slice Ao53 t224.length co53) t224) := ⟨by rw [← hq_]; exact (by (with_reducible repeat (first | apply Kd.R_alloc | apply Kd.R_drewN | apply Kd.R_drew)); exact HO226.out)⟩; have n2_ : Aside0 (Kd.R (Kd.int .i64) 2 w54 w.heap.size (fun k_ => (True ∧ some k_ ≠ (.slice Ao53 t224.length co53 : Value).ownBlock)) (.slice Ao55 t227.length co55) t227) := ⟨by rw [← hq_]; exact (by (with_reducible repeat (first | apply Kd.R_alloc | apply Kd.R_drewN | apply Kd.R_drew)); exact HO229.out)⟩; have n3_ : Aside0 (w54.heap[gb213]? = some (.cells #[.int .i64 ((rd_T86 t208 0).f0), .int .i64 ((rd_T86 t208 0).f1), .int .i64 ((rd_T86 t208 0).f2)] 86 (0, 0))) := ⟨by rw [← hq_]; exact (by (with_reducible repeat (first | refine blk_drewN ?_ _ | refine blk_drew ?_ | refine blk_alloc ?_ _)); exact BK213.out)⟩; have n4_ : Aside0 (Below w.heap.size w w54) := ⟨by rw [← hq_]; exact (by repeat (first | (with_reducible first | exact HB.out | apply below_alloc | apply pw_below_drewN | apply below_drew1 | refine below_set ?_ GE213.out) | exact HB.out))⟩; clear HO210 HO226 HO229 BK213 HB hq_; have HO210 := n0_; have HO226 := n1_; have HO229 := n2_; have BK213 := n3_; have HB := n4_; clear n0_ n1_ n2_ n3_ n4_))
                          have n0_ := Aside0.mk (Kd.R_drew HO210.out)
                          have n1_ := Aside0.mk (Kd.R_drew HO226.out)
                          have n2_ := Aside0.mk (Kd.R_drew HO229.out)
                          have n3_ := Aside0.mk (blk_drew BK213.out)
                          have n4_ := Aside0.mk (below_drew1 HB.out)
                          clear HO210
                          clear HO226
                          clear HO229
                          clear BK213
                          clear HB
                          have HO210 := n0_
                          have HO226 := n1_
                          have HO229 := n2_
                          have BK213 := n3_
                          have HB := n4_
                          clear n0_ n1_ n2_ n3_ n4_
                          have p232 : 0 ≤ ((ji44) : Int) := of_decide_eq_true (by first | (with_reducible assumption) | assumption)
                          have q232 : (ji44) < (l0.length : Int) := of_decide_eq_true (by first | (with_reducible assumption) | assumption)
                          obtain ⟨ad232, e232, hx232_0⟩ := Kd.at_int HR0.out (ji44) p232 q232
                          have hw232_0 := hx232_0
                          cases e232
                          replace hx232_0 := (HB.out.cell (World.block_lt_of_cell? w _ hx232_0)).trans hx232_0
                          replace p232 := eq_true p232
                          replace q232 := eq_true q232
                          have p233 : 0 ≤ ((ji47) : Int) := of_decide_eq_true (by first | (with_reducible assumption) | assumption)
                          have q233 : (ji47) < (l0.length : Int) := of_decide_eq_true (by first | (with_reducible assumption) | assumption)
                          obtain ⟨ad233, e233, hx233_0⟩ := Kd.at_int HR0.out (ji47) p233 q233
                          have hw233_0 := hx233_0
                          obtain rfl : ad232 = ad233 := (by injection e233)
                          replace hx233_0 := (HB.out.cell (World.block_lt_of_cell? w _ hx233_0)).trans hx233_0
                          replace p233 := eq_true p233
                          replace q233 := eq_true q233
                          have p237 : 0 ≤ ((ji44) : Int) := of_decide_eq_true (by first | (with_reducible assumption) | assumption)
                          have q237 : (ji44) < (l1.length : Int) := of_decide_eq_true (by first | (with_reducible assumption) | assumption)
                          obtain ⟨ad237, e237, hx237_0⟩ := Kd.at_int HR1.out (ji44) p237 q237
                          have hw237_0 := hx237_0
                          cases e237
                          replace hx237_0 := (HB.out.cell (World.block_lt_of_cell? w _ hx237_0)).trans hx237_0
                          replace p237 := eq_true p237
                          replace q237 := eq_true q237
                          refine start_ (n := 17) (S := fun w' => True) (ds := []) #[false, false, false, false, false, false, false, false, false, false, false, false, false, false, false, false, false] (by kernel_rfl) rfl rfl trivial (fun hHeld => ?_); refine with_tabW impl_crimp.tab15 impl_crimp.bits15 (fun HT_ HW_ => ?_)
                          generalize w54.drew = w56 at HO210 HO226 HO229 BK213 HB hx232_0 hx233_0 hx237_0 hHeld ⊢
                          refine pure_ (i := 0) (N := some 77) (v := ?_) (a' := ?_) #[true, false, false, false, false, false, false, false, false, false, false, false, false, false, false, false, false] rfl rfl (any_of HT_.out (by kernel_rfl)) (fun _ _ _ h => h) (Or.inl ⟨by rfl, ?_⟩) ?_ ?_
                          rotate_left
                          · intro w'
                            go_simp
                            with_reducible rfl
                          rotate_left
                          · simp only [Act.put, List.setIfInBounds_toArray, List.set_cons_zero, List.set_cons_succ, i64_w, i32_w]
                            rfl
                          refine pure_ (i := 1) (N := some 78) (v := ?_) (a' := ?_) #[true, true, false, false, false, false, false, false, false, false, false, false, false, false, false, false, false] rfl rfl (any_of HT_.out (by kernel_rfl)) (fun _ _ _ h => h) (Or.inl ⟨by rfl, ?_⟩) ?_ ?_
                          rotate_left
                          · intro w'
                            go_simp
                            with_reducible rfl
                          rotate_left
                          · simp only [Act.put, List.setIfInBounds_toArray, List.set_cons_zero, List.set_cons_succ, i64_w, i32_w]
                            rfl
                          refine pure_ (i := 4) (N := some 81) (v := ?_) (a' := ?_) #[true, true, false, false, true, false, false, false, false, false, false, false, false, false, false, false, false] rfl rfl (any_of HT_.out (by kernel_rfl)) (fun _ _ _ h => h) (Or.inl ⟨by rfl, ?_⟩) ?_ ?_
                          rotate_left
                          · intro w'
                            go_simp
                            with_reducible rfl
                          rotate_left
                          · simp only [Act.put, List.setIfInBounds_toArray, List.set_cons_zero, List.set_cons_succ, i64_w, i32_w]
                            rfl
                          refine pure_ (i := 5) (N := some 82) (v := ?_) (a' := ?_) #[true, true, false, false, true, true, false, false, false, false, false, false, false, false, false, false, false] rfl rfl (any_of HT_.out (by kernel_rfl)) (fun _ _ _ h => h) (Or.inl ⟨by rfl, ?_⟩) ?_ ?_
                          rotate_left
                          · intro w'
                            go_simp
                            with_reducible rfl
                          rotate_left
                          · simp only [Act.put, List.setIfInBounds_toArray, List.set_cons_zero, List.set_cons_succ, i64_w, i32_w]
                            rfl
                          refine pure_ (i := 9) (N := some 86) (v := ?_) (a' := ?_) #[true, true, false, false, true, true, false, false, false, true, false, false, false, false, false, false, false] rfl rfl (any_of HT_.out (by kernel_rfl)) (fun _ _ _ h => h) (Or.inl ⟨by rfl, ?_⟩) ?_ ?_
                          rotate_left
                          · intro w'
                            go_simp
                            with_reducible rfl
                          rotate_left
                          · simp only [Act.put, List.setIfInBounds_toArray, List.set_cons_zero, List.set_cons_succ, i64_w, i32_w]
                            rfl
                          refine pure_ (i := 10) (N := some 87) (v := ?_) (a' := ?_) #[true, true, false, false, true, true, false, false, false, true, true, false, false, false, false, false, false] rfl rfl (any_of HT_.out (by kernel_rfl)) (fun _ _ _ h => h) (Or.inl ⟨by rfl, ?_⟩) ?_ ?_
                          rotate_left
                          · intro w'
                            go_simp
                            with_reducible rfl
                          rotate_left
                          · simp only [Act.put, List.setIfInBounds_toArray, List.set_cons_zero, List.set_cons_succ, i64_w, i32_w]
                            rfl
                          refine pure_ (i := 13) (N := some 90) (v := ?_) (a' := ?_) #[true, true, false, false, true, true, false, false, false, true, true, false, false, true, false, false, false] rfl rfl (any_of HT_.out (by kernel_rfl)) (fun _ _ _ h => h) (Or.inl ⟨by rfl, ?_⟩) ?_ ?_
                          rotate_left
                          · intro w'
                            go_simp
                            with_reducible rfl
                          rotate_left
                          · simp only [Act.put, List.setIfInBounds_toArray, List.set_cons_zero, List.set_cons_succ, i64_w, i32_w]
                            rfl
                          refine inv_at [2, 3, 6, 7, 8, 11, 12, 14, 15, 16] (fun a0_ b a w' => ∃ (v235 : Value) (v239 : Value) (m15_ : Value) (m16_ : Value), a = putSel a0_ b [(2, 79, .pointer (some (ad232.add ((ji44)).toNat))), (3, 80, .int .i64 (rd l0 (ji44))), (6, 83, .pointer (some (ad232.add ((ji47)).toNat))), (7, 84, .int .i64 (rd l0 (ji47))), (8, 85, v235), (11, 88, .pointer (some (ad237.add ((ji44)).toNat))), (12, 89, .int .i64 (rd l1 (ji44))), (14, 91, v239), (15, 12, m15_), (16, 13, m16_)] ∧ (Kd.R k86 86 w' w.heap.size (fun k_ => k_ ≠ gb213) (.slice (some ad211) t208.length co14) t208) ∧ (Kd.R (Kd.int .i64) 2 w' w.heap.size (fun k_ => some k_ ≠ (.slice Ao55 t227.length co55 : Value).ownBlock) (.slice Ao53 t224.length co53) t224) ∧ (Kd.R (Kd.int .i64) 2 w' w.heap.size (fun k_ => some k_ ≠ (.slice Ao53 t224.length co53 : Value).ownBlock) (.slice Ao55 t227.length co55) t227) ∧ (w'.heap[gb213]? = some (.cells #[.int .i64 ((rd_T86 t208 0).f0), .int .i64 ((rd_T86 t208 0).f1), .int .i64 ((rd_T86 t208 0).f2)] 86 (0, 0))) ∧ (Below w.heap.size w w') ∧ (b 8 = true → Kd.R (Kd.int .i64) 2 w' w.heap.size (fun k_ => b 14 = true → some k_ ≠ (v239 : Value).ownBlock) v235 y234) ∧ (b 14 = true → Kd.R (Kd.int .i64) 2 w' w.heap.size (fun k_ => b 8 = true → some k_ ≠ (v235 : Value).ownBlock) v239 y238) ∧ (b 15 = true → (m15_ : Value) = v235) ∧ (b 16 = true → (m16_ : Value) = v239)) HT_.out HW_.out (by kernel_rfl) (by kernel_rfl) ?_ ?_ ?_
                          · exact ⟨.bool false, .bool false, .bool false, .bool false, by simp only [putSel, Bool.false_eq_true, if_false], (Kd.R_mono HO210.out (fun _ hk => by first | exact hk.2 | exact hk)), (Kd.R_mono HO226.out (fun _ hk => by first | exact hk.2 | exact hk)), (Kd.R_mono HO229.out (fun _ hk => by first | exact hk.2 | exact hk)), BK213.out, HB.out, fun h_ => absurd h_ (by decide), fun h_ => absurd h_ (by decide), fun h_ => absurd h_ (by decide), fun h_ => absurd h_ (by decide)⟩
                          · skip
                            clear BK213 HB HO210 HO226 HO229
                            refine steps_cons ?_ ?_
                            · rintro b a w' ⟨v235, v239, m15_, m16_, ha, Q_HO210, Q_HO226, Q_HO229, Q_BK213, Q_HB, Q_HO236, Q_HO240, Q_X15_, Q_X16_⟩ hb_ hon hoff
                              refine ⟨_, rfl, fun K hK => ?_⟩
                              have e77 : a.tmps[77]? = some (.slice (some ad232) l0.length c0) := by rw [ha]; exact (putSel_off rfl).trans rfl
                              have e78 : a.tmps[78]? = some (.int .i64 ji44) := by rw [ha]; exact (putSel_off rfl).trans rfl
                              replace ha := Aside0.mk ha
                              have HO210 := Aside0.mk Q_HO210
                              have HO226 := Aside0.mk Q_HO226
                              have HO229 := Aside0.mk Q_HO229
                              have BK213 := Aside0.mk Q_BK213
                              have HB := Aside0.mk Q_HB
                              have hs0_ : w'.cell? (ad232.add ((ji44)).toNat) = some (.int .i64 (rd l0 (ji44))) := ((HB.out.cell (World.block_lt_of_cell? w _ hw232_0)).trans hw232_0)
                              refine value_ (w1 := w') (v := .pointer (some (ad232.add ((ji44)).toNat))) (by rfl) rfl ?_ ?_
                              · go_simp
                                (try simp only [i64_w])
                                try rfl
                              refine hK.out _ _ ⟨v235, v239, m15_, m16_, (by rw [ha.out]; exact putSel_upk 0 hb_ rfl rfl rfl), Q_HO210, Q_HO226, Q_HO229, Q_BK213, Q_HB, fun h0_ => absurd ((hoff 8 (by kernel_rfl)).symm.trans h0_) (by decide), Q_HO240, fun h0_ => absurd ((hoff 15 (by kernel_rfl)).symm.trans h0_) (by decide), fun h0_ => absurd ((hoff 16 (by kernel_rfl)).symm.trans h0_) (by decide)⟩
                            refine steps_cons ?_ ?_
                            · rintro b a w' ⟨v235, v239, m15_, m16_, ha, Q_HO210, Q_HO226, Q_HO229, Q_BK213, Q_HB, Q_HO236, Q_HO240, Q_X15_, Q_X16_⟩ hb_ hon hoff
                              refine ⟨_, rfl, fun K hK => ?_⟩
                              have e79 : a.tmps[79]? = some (.pointer (some (ad232.add ((ji44)).toNat))) := by rw [ha]; exact putSel_on (e := (2, 79, .pointer (some (ad232.add ((ji44)).toNat)))) 0 rfl rfl (hon 2 (by kernel_rfl)) rfl
                              replace ha := Aside0.mk ha
                              have HO210 := Aside0.mk Q_HO210
                              have HO226 := Aside0.mk Q_HO226
                              have HO229 := Aside0.mk Q_HO229
                              have BK213 := Aside0.mk Q_BK213
                              have HB := Aside0.mk Q_HB
                              have hs0_ : w'.cell? (ad232.add ((ji44)).toNat) = some (.int .i64 (rd l0 (ji44))) := ((HB.out.cell (World.block_lt_of_cell? w _ hw232_0)).trans hw232_0)
                              refine value_ (w1 := w') (v := .int .i64 (rd l0 (ji44))) (by rfl) rfl ?_ ?_
                              · go_simp
                                (try simp only [i64_w])
                                try rfl
                              refine hK.out _ _ ⟨v235, v239, m15_, m16_, (by rw [ha.out]; exact putSel_upk 1 hb_ rfl rfl rfl), Q_HO210, Q_HO226, Q_HO229, Q_BK213, Q_HB, fun h0_ => absurd ((hoff 8 (by kernel_rfl)).symm.trans h0_) (by decide), Q_HO240, fun h0_ => absurd ((hoff 15 (by kernel_rfl)).symm.trans h0_) (by decide), fun h0_ => absurd ((hoff 16 (by kernel_rfl)).symm.trans h0_) (by decide)⟩
                            refine steps_cons ?_ ?_
                            · rintro b a w' ⟨v235, v239, m15_, m16_, ha, Q_HO210, Q_HO226, Q_HO229, Q_BK213, Q_HB, Q_HO236, Q_HO240, Q_X15_, Q_X16_⟩ hb_ hon hoff
                              refine ⟨_, rfl, fun K hK => ?_⟩
                              have e81 : a.tmps[81]? = some (.slice (some ad232) l0.length c0) := by rw [ha]; exact (putSel_off rfl).trans rfl
                              have e82 : a.tmps[82]? = some (.int .i64 ji47) := by rw [ha]; exact (putSel_off rfl).trans rfl
                              replace ha := Aside0.mk ha
                              have HO210 := Aside0.mk Q_HO210
                              have HO226 := Aside0.mk Q_HO226
                              have HO229 := Aside0.mk Q_HO229
                              have BK213 := Aside0.mk Q_BK213
                              have HB := Aside0.mk Q_HB
                              have hs1_ : w'.cell? (ad232.add ((ji47)).toNat) = some (.int .i64 (rd l0 (ji47))) := ((HB.out.cell (World.block_lt_of_cell? w _ hw233_0)).trans hw233_0)
                              refine value_ (w1 := w') (v := .pointer (some (ad232.add ((ji47)).toNat))) (by rfl) rfl ?_ ?_
                              · go_simp
                                (try simp only [i64_w])
                                try rfl
                              refine hK.out _ _ ⟨v235, v239, m15_, m16_, (by rw [ha.out]; exact putSel_upk 2 hb_ rfl rfl rfl), Q_HO210, Q_HO226, Q_HO229, Q_BK213, Q_HB, fun h0_ => absurd ((hoff 8 (by kernel_rfl)).symm.trans h0_) (by decide), Q_HO240, fun h0_ => absurd ((hoff 15 (by kernel_rfl)).symm.trans h0_) (by decide), fun h0_ => absurd ((hoff 16 (by kernel_rfl)).symm.trans h0_) (by decide)⟩
                            refine steps_cons ?_ ?_
                            · rintro b a w' ⟨v235, v239, m15_, m16_, ha, Q_HO210, Q_HO226, Q_HO229, Q_BK213, Q_HB, Q_HO236, Q_HO240, Q_X15_, Q_X16_⟩ hb_ hon hoff
                              refine ⟨_, rfl, fun K hK => ?_⟩
                              have e83 : a.tmps[83]? = some (.pointer (some (ad232.add ((ji47)).toNat))) := by rw [ha]; exact putSel_on (e := (6, 83, .pointer (some (ad232.add ((ji47)).toNat)))) 2 rfl rfl (hon 6 (by kernel_rfl)) rfl
                              replace ha := Aside0.mk ha
                              have HO210 := Aside0.mk Q_HO210
                              have HO226 := Aside0.mk Q_HO226
                              have HO229 := Aside0.mk Q_HO229
                              have BK213 := Aside0.mk Q_BK213
                              have HB := Aside0.mk Q_HB
                              have hs1_ : w'.cell? (ad232.add ((ji47)).toNat) = some (.int .i64 (rd l0 (ji47))) := ((HB.out.cell (World.block_lt_of_cell? w _ hw233_0)).trans hw233_0)
                              refine value_ (w1 := w') (v := .int .i64 (rd l0 (ji47))) (by rfl) rfl ?_ ?_
                              · go_simp
                                (try simp only [i64_w])
                                try rfl
                              refine hK.out _ _ ⟨v235, v239, m15_, m16_, (by rw [ha.out]; exact putSel_upk 3 hb_ rfl rfl rfl), Q_HO210, Q_HO226, Q_HO229, Q_BK213, Q_HB, fun h0_ => absurd ((hoff 8 (by kernel_rfl)).symm.trans h0_) (by decide), Q_HO240, fun h0_ => absurd ((hoff 15 (by kernel_rfl)).symm.trans h0_) (by decide), fun h0_ => absurd ((hoff 16 (by kernel_rfl)).symm.trans h0_) (by decide)⟩
                            refine steps_cons ?_ ?_
                            · rintro b a w' ⟨v235, v239, m15_, m16_, ha, Q_HO210, Q_HO226, Q_HO229, Q_BK213, Q_HB, Q_HO236, Q_HO240, Q_X15_, Q_X16_⟩ hb_ hon hoff
                              refine ⟨_, rfl, fun K hK => ?_⟩
                              have e80 : a.tmps[80]? = some (.int .i64 (rd l0 (ji44))) := by rw [ha]; exact putSel_on (e := (3, 80, .int .i64 (rd l0 (ji44)))) 1 rfl rfl (hon 3 (by kernel_rfl)) rfl
                              have e84 : a.tmps[84]? = some (.int .i64 (rd l0 (ji47))) := by rw [ha]; exact putSel_on (e := (7, 84, .int .i64 (rd l0 (ji47)))) 3 rfl rfl (hon 7 (by kernel_rfl)) rfl
                              replace ha := Aside0.mk ha
                              have HO210 := Aside0.mk Q_HO210
                              have HO226 := Aside0.mk Q_HO226
                              have HO229 := Aside0.mk Q_HO229
                              have BK213 := Aside0.mk Q_BK213
                              have HB := Aside0.mk Q_HB
                              refine Kd.R_lit_step (Kd.int .i64) _ 2 ?hg (N := 85) ?hd (xs := ([rd l0 (ji44), rd l0 (ji47)] : List Int)) (inner := [.int .i64 (rd l0 (ji44)), .int .i64 (rd l0 (ji47))]) (ok := fun _ => True) (okp := fun _ => True) ?hr ?hp (fun _ hk => hk) trivial (Below.refl _ _) (Nat.le_refl _) (by simp) ?_; (case hd => rfl); (case hg => rfl); (case hr => first | (go_simp; done) | (go_simp; rfl)); (case hp => exact (Reps.one (show Kd.M (Kd.int .i64) _ _ _ (rd l0 (ji44)) [.int .i64 (rd l0 (ji44))] from rfl) (Reps.one (show Kd.M (Kd.int .i64) _ _ _ (rd l0 (ji47)) [.int .i64 (rd l0 (ji47))] from rfl) (Reps.none _ _))))
                              intro v235 w57 ho58 hb hg_ hnew_
                              clear hg_ hnew_
                              (first | rw [← Ny234.out] at ho58 | (simp only [Int.reduceToNat] at ho58; rw [← Ny234.out] at ho58))
                              have n0_ := Aside0.mk (Kd.R_below (by (with_reducible repeat (first | apply Kd.R_alloc | apply Kd.R_drewN | apply Kd.R_drew)); exact HO210.out) hb)
                              have n1_ := Aside0.mk (Kd.R_elder' (by (with_reducible repeat (first | apply Kd.R_alloc | apply Kd.R_drewN | apply Kd.R_drew)); exact HO226.out) (Kd.R_base ho58) hb)
                              have n2_ := Aside0.mk (Kd.R_elder' (by (with_reducible repeat (first | apply Kd.R_alloc | apply Kd.R_drewN | apply Kd.R_drew)); exact HO229.out) (Kd.R_base ho58) hb)
                              have n3_ := Aside0.mk (show Kd.R (Kd.int .i64) 2 w57 w.heap.size (fun k_ => b 14 = true → some k_ ≠ (v239 : Value).ownBlock) v235 y234 from Kd.R_mono (Kd.R_lower (Kd.R_bound (Kd.R_new' (Kd.R_new' ho58 (Kd.R_lt (by (with_reducible repeat (first | apply Kd.R_alloc | apply Kd.R_drewN | apply Kd.R_drew)); exact HO226.out))) (Kd.R_lt (by (with_reducible repeat (first | apply Kd.R_alloc | apply Kd.R_drewN | apply Kd.R_drew)); exact HO229.out)))) (below_size (by repeat (first | (with_reducible first | exact HB.out | apply below_alloc | apply pw_below_drewN | apply below_drew1 | refine below_set ?_ GE213.out) | exact HB.out)))) (fun k_ hk_ h0_ e_ => by obtain ⟨_, ho_⟩ := Kd.R_own (Q_HO240 h0_); have := own_lt ho_ k_ e_.symm; have := hk_.2.1; omega))
                              have n4_ := Aside0.mk (blk_below (g := gb213) (o := .cells #[.int .i64 ((rd_T86 t208 0).f0), .int .i64 ((rd_T86 t208 0).f1), .int .i64 ((rd_T86 t208 0).f2)] 86 (0, 0)) (by (with_reducible repeat (first | refine blk_drewN ?_ _ | refine blk_drew ?_ | refine blk_alloc ?_ _)); exact BK213.out) hb)
                              have n5_ := Aside0.mk (below_step (by repeat (first | (with_reducible first | exact HB.out | apply below_alloc | apply pw_below_drewN | apply below_drew1 | refine below_set ?_ GE213.out) | exact HB.out)) hb)
                              have z_HO240 := fun (h0_ : b 14 = true) => (Kd.R_elder' (by (with_reducible repeat (first | apply Kd.R_alloc | apply Kd.R_drewN | apply Kd.R_drew)); exact (Q_HO240 h0_)) (Kd.R_base ho58) hb)
                              clear HO210
                              clear HO226
                              clear HO229
                              clear BK213
                              clear HB
                              have HO210 := n0_
                              have HO226 := n1_
                              have HO229 := n2_
                              have HO236 := n3_
                              have BK213 := n4_
                              have HB := n5_
                              clear n0_ n1_ n2_ n3_ n4_ n5_
                              clear hb ho58
                              refine hK.out _ _ ⟨v235, v239, m15_, m16_, (by rw [ha.out]; exact putSel_upk 4 hb_ rfl rfl rfl), (by (with_reducible repeat (first | apply Kd.R_alloc | apply Kd.R_drewN | apply Kd.R_drew)); exact HO210.out), (by (with_reducible repeat (first | apply Kd.R_alloc | apply Kd.R_drewN | apply Kd.R_drew)); exact Kd.R_mono HO226.out (fun _ hk => by first | exact hk.2 | exact ⟨hk.1.2, hk.2⟩ | exact hk | exact hk.1)), (by (with_reducible repeat (first | apply Kd.R_alloc | apply Kd.R_drewN | apply Kd.R_drew)); exact Kd.R_mono HO229.out (fun _ hk => by first | exact hk.2 | exact ⟨hk.1.2, hk.2⟩ | exact hk | exact hk.1)), (by (with_reducible repeat (first | refine blk_drewN ?_ _ | refine blk_drew ?_ | refine blk_alloc ?_ _)); exact BK213.out), (by repeat (first | (with_reducible first | exact HB.out | apply below_alloc | apply pw_below_drewN | apply below_drew1 | refine below_set ?_ GE213.out) | exact HB.out)), fun _ => (by (with_reducible repeat (first | apply Kd.R_alloc | apply Kd.R_drewN | apply Kd.R_drew)); exact HO236.out), (fun h0_ => Kd.R_mono (z_HO240 h0_) (fun _ h_ _ => h_.2)), fun h0_ => absurd ((hoff 15 (by kernel_rfl)).symm.trans h0_) (by decide), fun h0_ => absurd ((hoff 16 (by kernel_rfl)).symm.trans h0_) (by decide)⟩
                            refine steps_cons ?_ ?_
                            · rintro b a w' ⟨v235, v239, m15_, m16_, ha, Q_HO210, Q_HO226, Q_HO229, Q_BK213, Q_HB, Q_HO236, Q_HO240, Q_X15_, Q_X16_⟩ hb_ hon hoff
                              refine ⟨_, rfl, fun K hK => ?_⟩
                              have e86 : a.tmps[86]? = some (.slice (some ad237) l1.length c1) := by rw [ha]; exact (putSel_off rfl).trans rfl
                              have e87 : a.tmps[87]? = some (.int .i64 ji44) := by rw [ha]; exact (putSel_off rfl).trans rfl
                              replace ha := Aside0.mk ha
                              have HO210 := Aside0.mk Q_HO210
                              have HO226 := Aside0.mk Q_HO226
                              have HO229 := Aside0.mk Q_HO229
                              have BK213 := Aside0.mk Q_BK213
                              have HB := Aside0.mk Q_HB
                              have hs2_ : w'.cell? (ad237.add ((ji44)).toNat) = some (.int .i64 (rd l1 (ji44))) := ((HB.out.cell (World.block_lt_of_cell? w _ hw237_0)).trans hw237_0)
                              refine value_ (w1 := w') (v := .pointer (some (ad237.add ((ji44)).toNat))) (by rfl) rfl ?_ ?_
                              · go_simp
                                (try simp only [i64_w])
                                try rfl
                              refine hK.out _ _ ⟨v235, v239, m15_, m16_, (by rw [ha.out]; exact putSel_upk 5 hb_ rfl rfl rfl), Q_HO210, Q_HO226, Q_HO229, Q_BK213, Q_HB, Q_HO236, fun h0_ => absurd ((hoff 14 (by kernel_rfl)).symm.trans h0_) (by decide), Q_X15_, fun h0_ => absurd ((hoff 16 (by kernel_rfl)).symm.trans h0_) (by decide)⟩
                            refine steps_cons ?_ ?_
                            · rintro b a w' ⟨v235, v239, m15_, m16_, ha, Q_HO210, Q_HO226, Q_HO229, Q_BK213, Q_HB, Q_HO236, Q_HO240, Q_X15_, Q_X16_⟩ hb_ hon hoff
                              refine ⟨_, rfl, fun K hK => ?_⟩
                              have e88 : a.tmps[88]? = some (.pointer (some (ad237.add ((ji44)).toNat))) := by rw [ha]; exact putSel_on (e := (11, 88, .pointer (some (ad237.add ((ji44)).toNat)))) 5 rfl rfl (hon 11 (by kernel_rfl)) rfl
                              replace ha := Aside0.mk ha
                              have HO210 := Aside0.mk Q_HO210
                              have HO226 := Aside0.mk Q_HO226
                              have HO229 := Aside0.mk Q_HO229
                              have BK213 := Aside0.mk Q_BK213
                              have HB := Aside0.mk Q_HB
                              have hs2_ : w'.cell? (ad237.add ((ji44)).toNat) = some (.int .i64 (rd l1 (ji44))) := ((HB.out.cell (World.block_lt_of_cell? w _ hw237_0)).trans hw237_0)
                              refine value_ (w1 := w') (v := .int .i64 (rd l1 (ji44))) (by rfl) rfl ?_ ?_
                              · go_simp
                                (try simp only [i64_w])
                                try rfl
                              refine hK.out _ _ ⟨v235, v239, m15_, m16_, (by rw [ha.out]; exact putSel_upk 6 hb_ rfl rfl rfl), Q_HO210, Q_HO226, Q_HO229, Q_BK213, Q_HB, Q_HO236, fun h0_ => absurd ((hoff 14 (by kernel_rfl)).symm.trans h0_) (by decide), Q_X15_, fun h0_ => absurd ((hoff 16 (by kernel_rfl)).symm.trans h0_) (by decide)⟩
                            refine steps_cons ?_ ?_
                            · rintro b a w' ⟨v235, v239, m15_, m16_, ha, Q_HO210, Q_HO226, Q_HO229, Q_BK213, Q_HB, Q_HO236, Q_HO240, Q_X15_, Q_X16_⟩ hb_ hon hoff
                              refine ⟨_, rfl, fun K hK => ?_⟩
                              have e89 : a.tmps[89]? = some (.int .i64 (rd l1 (ji44))) := by rw [ha]; exact putSel_on (e := (12, 89, .int .i64 (rd l1 (ji44)))) 6 rfl rfl (hon 12 (by kernel_rfl)) rfl
                              have e90 : a.tmps[90]? = some (.int .i64 3) := by rw [ha]; exact (putSel_off rfl).trans rfl
                              replace ha := Aside0.mk ha
                              have HO210 := Aside0.mk Q_HO210
                              have HO226 := Aside0.mk Q_HO226
                              have HO229 := Aside0.mk Q_HO229
                              have BK213 := Aside0.mk Q_BK213
                              have HB := Aside0.mk Q_HB
                              refine Kd.R_lit_step (Kd.int .i64) _ 2 ?hg (N := 91) ?hd (xs := ([rd l1 (ji44), 3] : List Int)) (inner := [.int .i64 (rd l1 (ji44)), .int .i64 3]) (ok := fun _ => True) (okp := fun _ => True) ?hr ?hp (fun _ hk => hk) trivial (Below.refl _ _) (Nat.le_refl _) (by simp) ?_; (case hd => rfl); (case hg => rfl); (case hr => first | (go_simp; done) | (go_simp; rfl)); (case hp => exact (Reps.one (show Kd.M (Kd.int .i64) _ _ _ (rd l1 (ji44)) [.int .i64 (rd l1 (ji44))] from rfl) (Reps.one (show Kd.M (Kd.int .i64) _ _ _ 3 [.int .i64 3] from rfl) (Reps.none _ _))))
                              intro v239 w57 ho58 hb hg_ hnew_
                              clear hg_ hnew_
                              (first | rw [← Ny238.out] at ho58 | (simp only [Int.reduceToNat] at ho58; rw [← Ny238.out] at ho58))
                              have n0_ := Aside0.mk (Kd.R_below (by (with_reducible repeat (first | apply Kd.R_alloc | apply Kd.R_drewN | apply Kd.R_drew)); exact HO210.out) hb)
                              have n1_ := Aside0.mk (Kd.R_elder' (by (with_reducible repeat (first | apply Kd.R_alloc | apply Kd.R_drewN | apply Kd.R_drew)); exact HO226.out) (Kd.R_base ho58) hb)
                              have n2_ := Aside0.mk (Kd.R_elder' (by (with_reducible repeat (first | apply Kd.R_alloc | apply Kd.R_drewN | apply Kd.R_drew)); exact HO229.out) (Kd.R_base ho58) hb)
                              have n3_ := Aside0.mk (show Kd.R (Kd.int .i64) 2 w57 w.heap.size (fun k_ => b 8 = true → some k_ ≠ (v235 : Value).ownBlock) v239 y238 from Kd.R_mono (Kd.R_lower (Kd.R_bound (Kd.R_new' (Kd.R_new' ho58 (Kd.R_lt (by (with_reducible repeat (first | apply Kd.R_alloc | apply Kd.R_drewN | apply Kd.R_drew)); exact HO226.out))) (Kd.R_lt (by (with_reducible repeat (first | apply Kd.R_alloc | apply Kd.R_drewN | apply Kd.R_drew)); exact HO229.out)))) (below_size (by repeat (first | (with_reducible first | exact HB.out | apply below_alloc | apply pw_below_drewN | apply below_drew1 | refine below_set ?_ GE213.out) | exact HB.out)))) (fun k_ hk_ h0_ e_ => by obtain ⟨_, ho_⟩ := Kd.R_own (Q_HO236 h0_); have := own_lt ho_ k_ e_.symm; have := hk_.2.1; omega))
                              have n4_ := Aside0.mk (blk_below (g := gb213) (o := .cells #[.int .i64 ((rd_T86 t208 0).f0), .int .i64 ((rd_T86 t208 0).f1), .int .i64 ((rd_T86 t208 0).f2)] 86 (0, 0)) (by (with_reducible repeat (first | refine blk_drewN ?_ _ | refine blk_drew ?_ | refine blk_alloc ?_ _)); exact BK213.out) hb)
                              have n5_ := Aside0.mk (below_step (by repeat (first | (with_reducible first | exact HB.out | apply below_alloc | apply pw_below_drewN | apply below_drew1 | refine below_set ?_ GE213.out) | exact HB.out)) hb)
                              have z_HO236 := fun (h0_ : b 8 = true) => (Kd.R_elder' (by (with_reducible repeat (first | apply Kd.R_alloc | apply Kd.R_drewN | apply Kd.R_drew)); exact (Q_HO236 h0_)) (Kd.R_base ho58) hb)
                              clear HO210
                              clear HO226
                              clear HO229
                              clear BK213
                              clear HB
                              have HO210 := n0_
                              have HO226 := n1_
                              have HO229 := n2_
                              have HO240 := n3_
                              have BK213 := n4_
                              have HB := n5_
                              clear n0_ n1_ n2_ n3_ n4_ n5_
                              clear hb ho58
                              refine hK.out _ _ ⟨v235, v239, m15_, m16_, (by rw [ha.out]; exact putSel_upk 7 hb_ rfl rfl rfl), (by (with_reducible repeat (first | apply Kd.R_alloc | apply Kd.R_drewN | apply Kd.R_drew)); exact HO210.out), (by (with_reducible repeat (first | apply Kd.R_alloc | apply Kd.R_drewN | apply Kd.R_drew)); exact Kd.R_mono HO226.out (fun _ hk => by first | exact hk.2 | exact ⟨hk.1.2, hk.2⟩ | exact hk | exact hk.1)), (by (with_reducible repeat (first | apply Kd.R_alloc | apply Kd.R_drewN | apply Kd.R_drew)); exact Kd.R_mono HO229.out (fun _ hk => by first | exact hk.2 | exact ⟨hk.1.2, hk.2⟩ | exact hk | exact hk.1)), (by (with_reducible repeat (first | refine blk_drewN ?_ _ | refine blk_drew ?_ | refine blk_alloc ?_ _)); exact BK213.out), (by repeat (first | (with_reducible first | exact HB.out | apply below_alloc | apply pw_below_drewN | apply below_drew1 | refine below_set ?_ GE213.out) | exact HB.out)), (fun h0_ => Kd.R_mono (z_HO236 h0_) (fun _ h_ _ => h_.2)), fun _ => (by (with_reducible repeat (first | apply Kd.R_alloc | apply Kd.R_drewN | apply Kd.R_drew)); exact HO240.out), Q_X15_, fun h0_ => absurd ((hoff 16 (by kernel_rfl)).symm.trans h0_) (by decide)⟩
                            refine steps_cons ?_ ?_
                            · rintro b a w' ⟨v235, v239, m15_, m16_, ha, Q_HO210, Q_HO226, Q_HO229, Q_BK213, Q_HB, Q_HO236, Q_HO240, Q_X15_, Q_X16_⟩ hb_ hon hoff
                              refine ⟨_, rfl, fun K hK => ?_⟩
                              have e85 : a.tmps[85]? = some (v235) := by rw [ha]; exact putSel_on (e := (8, 85, v235)) 4 rfl rfl (hon 8 (by kernel_rfl)) rfl
                              replace ha := Aside0.mk ha
                              have HO210 := Aside0.mk Q_HO210
                              have HO226 := Aside0.mk Q_HO226
                              have HO229 := Aside0.mk Q_HO229
                              have BK213 := Aside0.mk Q_BK213
                              have HB := Aside0.mk Q_HB
                              have HO236 := Aside0.mk (Q_HO236 (hon 8 (by kernel_rfl)))
                              refine value_ (w1 := w') (v := v235) (by rfl) rfl ?_ ?_
                              · go_simp
                                (try simp only [i64_w])
                                try rfl
                              refine hK.out _ _ ⟨v235, v239, (v235), m16_, (by rw [ha.out]; exact putSel_upk 8 hb_ rfl rfl rfl), Q_HO210, Q_HO226, Q_HO229, Q_BK213, Q_HB, Q_HO236, Q_HO240, fun _ => rfl, fun h0_ => absurd ((hoff 16 (by kernel_rfl)).symm.trans h0_) (by decide)⟩
                            refine steps_cons ?_ ?_
                            · rintro b a w' ⟨v235, v239, m15_, m16_, ha, Q_HO210, Q_HO226, Q_HO229, Q_BK213, Q_HB, Q_HO236, Q_HO240, Q_X15_, Q_X16_⟩ hb_ hon hoff
                              refine ⟨_, rfl, fun K hK => ?_⟩
                              have e91 : a.tmps[91]? = some (v239) := by rw [ha]; exact putSel_on (e := (14, 91, v239)) 7 rfl rfl (hon 14 (by kernel_rfl)) rfl
                              replace ha := Aside0.mk ha
                              have HO210 := Aside0.mk Q_HO210
                              have HO226 := Aside0.mk Q_HO226
                              have HO229 := Aside0.mk Q_HO229
                              have BK213 := Aside0.mk Q_BK213
                              have HB := Aside0.mk Q_HB
                              have HO236 := Aside0.mk (Q_HO236 (hon 8 (by kernel_rfl)))
                              have HO240 := Aside0.mk (Q_HO240 (hon 14 (by kernel_rfl)))
                              refine value_ (w1 := w') (v := v239) (by rfl) rfl ?_ ?_
                              · go_simp
                                (try simp only [i64_w])
                                try rfl
                              refine hK.out _ _ ⟨v235, v239, m15_, (v239), (by rw [ha.out]; exact putSel_upk 9 hb_ rfl rfl rfl), Q_HO210, Q_HO226, Q_HO229, Q_BK213, Q_HB, Q_HO236, Q_HO240, Q_X15_, fun _ => rfl⟩
                            exact steps_nil
                          rintro b a w61 hall ⟨v235, v239, m15_, m16_, ha, Q_HO210, Q_HO226, Q_HO229, Q_BK213, Q_HB, Q_HO236, Q_HO240, Q_X15_, Q_X16_⟩
                          clear BK213 HB HO210 HO226 HO229
                          have hb2_ := hall 2 (by kernel_rfl)
                          have hb3_ := hall 3 (by kernel_rfl)
                          have hb6_ := hall 6 (by kernel_rfl)
                          have hb7_ := hall 7 (by kernel_rfl)
                          have hb8_ := hall 8 (by kernel_rfl)
                          have hb11_ := hall 11 (by kernel_rfl)
                          have hb12_ := hall 12 (by kernel_rfl)
                          have hb14_ := hall 14 (by kernel_rfl)
                          have hb15_ := hall 15 (by kernel_rfl)
                          have hb16_ := hall 16 (by kernel_rfl)
                          subst ha
                          obtain rfl := Q_X15_ hb15_
                          obtain rfl := Q_X16_ hb16_
                          simp only [putSel, hb2_, hb3_, hb6_, hb7_, hb8_, hb11_, hb12_, hb14_, hb15_, hb16_, if_true, Act.put, List.setIfInBounds_toArray, List.set_cons_zero, List.set_cons_succ]
                          have HO210 := Aside0.mk Q_HO210
                          clear Q_HO210
                          have HO226 := Aside0.mk Q_HO226
                          clear Q_HO226
                          have HO229 := Aside0.mk Q_HO229
                          clear Q_HO229
                          have BK213 := Aside0.mk Q_BK213
                          clear Q_BK213
                          have HB := Aside0.mk Q_HB
                          clear Q_HB
                          have HO236 := Aside0.mk (Kd.R_mono (Q_HO236 hb8_) (fun _ hk => hk hb14_))
                          clear Q_HO236
                          have HO240 := Aside0.mk (Kd.R_mono (Q_HO240 hb14_) (fun _ hk => hk hb8_))
                          clear Q_HO240
                          clear hall hb2_ hb3_ hb6_ hb7_ hb8_ hb11_ hb12_ hb14_ hb15_ hb16_
                          try go_wp2
                          (try subst hji26); (try subst hji29); (try subst hji44); (try subst hji47); (try subst hji62); (try subst hji65); skip
                          go_meet
                          case rel => exact ⟨_, (y234), (y238), H', ⟨by first | omega | exact Nat.le_refl _⟩, ⟨by (with_reducible repeat (first | apply Kd.R_alloc | apply Kd.R_drewN | apply Kd.R_drew)); exact HO236.out⟩, ⟨by (with_reducible repeat (first | apply Kd.R_alloc | apply Kd.R_drewN | apply Kd.R_drew)); exact HO240.out⟩, ⟨by (with_reducible repeat (first | refine blk_drewN ?_ _ | refine blk_drew ?_ | refine blk_alloc ?_ _)); exact BK213.out⟩, ⟨by repeat (first | (with_reducible first | exact HB.out | apply below_alloc | apply pw_below_drewN | apply below_drew1 | refine below_set ?_ GE213.out) | exact HB.out)⟩⟩
                        · rw [if_neg c50] at H
                          exact absurd H (by simp)
                      · rw [if_neg c49] at H
                        exact absurd H (by simp)
                    · rw [if_neg c48] at H
                      exact absurd H (by simp)
                  · rw [if_neg c46] at H
                    exact absurd H (by simp)
                · rw [if_neg c45] at H
                  exact absurd H (by simp)
              · rw [if_neg c43] at H
                have c43b0 : decide (t231 < t230) = false := decide_eq_false c43
                clear c43
                obtain ⟨ji62, hji62⟩ : ∃ j_ : Int, (Int.tmod (wrap64 ((wrap64 (((rd_T86 t208 0).f0) + t212)) - 1)) t212) = j_ := ⟨_, rfl⟩
                replace H : (if 0 ≤ (ji62) then (if (ji62) < (l0.length : Int) then (if 0 ≤ (Int.tmod (wrap64 (((rd_T86 t208 0).f0) + ((rd_T86 t208 0).f1))) t212) then (if (Int.tmod (wrap64 (((rd_T86 t208 0).f0) + ((rd_T86 t208 0).f1))) t212) < (l0.length : Int) then (if (ji62) < (l1.length : Int) then (impl_crimp.j0 k l0 l1 t212 ji62 (Int.tmod (wrap64 (((rd_T86 t208 0).f0) + ((rd_T86 t208 0).f1))) t212) (([rd l0 (ji62), rd l0 (Int.tmod (wrap64 (((rd_T86 t208 0).f0) + ((rd_T86 t208 0).f1))) t212)] : List Int)) (([rd l1 (ji62), 2] : List Int))) else (none)) else (none)) else (none)) else (none)) else (none)) = some (r1, r2, r3) := by first | (rw [hji62] at H; exact H) | (simp only [hji62] at H ⊢; exact H)
                (try rw [hji62] at A39)
                (try rw [hji62] at A40)
                (try rw [hji62] at A41)
                (try rw [hji62] at A42)
                by_cases c63 : 0 ≤ (ji62)
                · rw [if_pos c63] at H
                  have c63b0 : decide (0 ≤ (ji62)) = true := decide_eq_true c63
                  clear c63
                  by_cases c64 : (ji62) < (l0.length : Int)
                  · rw [if_pos c64] at H
                    have c64b0 : decide ((ji62) < (l0.length : Int)) = true := decide_eq_true c64
                    clear c64
                    obtain ⟨ji65, hji65⟩ : ∃ j_ : Int, (Int.tmod (wrap64 (((rd_T86 t208 0).f0) + ((rd_T86 t208 0).f1))) t212) = j_ := ⟨_, rfl⟩
                    replace H : (if 0 ≤ (ji65) then (if (ji65) < (l0.length : Int) then (if (ji62) < (l1.length : Int) then (impl_crimp.j0 k l0 l1 t212 ji62 ji65 (([rd l0 (ji62), rd l0 (ji65)] : List Int)) (([rd l1 (ji62), 2] : List Int))) else (none)) else (none)) else (none)) = some (r1, r2, r3) := by first | (rw [hji65] at H; exact H) | (simp only [hji65] at H ⊢; exact H)
                    (try rw [hji65] at A39)
                    (try rw [hji65] at A40)
                    (try rw [hji65] at A41)
                    (try rw [hji65] at A42)
                    by_cases c66 : 0 ≤ (ji65)
                    · rw [if_pos c66] at H
                      have c66b0 : decide (0 ≤ (ji65)) = true := decide_eq_true c66
                      clear c66
                      by_cases c67 : (ji65) < (l0.length : Int)
                      · rw [if_pos c67] at H
                        have c67b0 : decide ((ji65) < (l0.length : Int)) = true := decide_eq_true c67
                        clear c67
                        obtain ⟨y243, hy243⟩ : ∃ y_ : List Int, y_ = (([rd l0 (ji62), rd l0 (ji65)] : List Int)) := ⟨_, rfl⟩
                        replace H : (if (ji62) < (l1.length : Int) then (impl_crimp.j0 k l0 l1 t212 ji62 ji65 y243 (([rd l1 (ji62), 2] : List Int))) else (none)) = some (r1, r2, r3) := by first | (rw [hy243]; with_reducible exact H) | (have H2_ := (Option.bind_some _ _).symm.trans H; rw [hy243]; with_reducible exact H2_) | (have H2_ := (Option.bind_some _ _).symm.trans H; with_reducible exact H2_) | with_reducible exact H | (rw [hy243]; exact H) | exact H
                        have Ny243 := Aside0.mk hy243
                        clear hy243
                        by_cases c68 : (ji62) < (l1.length : Int)
                        · rw [if_pos c68] at H
                          have c68b0 : decide ((ji62) < (l1.length : Int)) = true := decide_eq_true c68
                          clear c68
                          obtain ⟨y247, hy247⟩ : ∃ y_ : List Int, y_ = (([rd l1 (ji62), 2] : List Int)) := ⟨_, rfl⟩
                          replace H : (impl_crimp.j0 k l0 l1 t212 ji62 ji65 y243 y247) = some (r1, r2, r3) := by first | (rw [hy247]; with_reducible exact H) | (have H2_ := (Option.bind_some _ _).symm.trans H; rw [hy247]; with_reducible exact H2_) | (have H2_ := (Option.bind_some _ _).symm.trans H; with_reducible exact H2_) | with_reducible exact H | (rw [hy247]; exact H) | exact H
                          have Ny247 := Aside0.mk hy247
                          clear hy247
                          have H' := Aside0.mk H
                          clear H
                          have hcz69_0 : w23.cell? ⟨gb213, 0, none⟩ = some (.int .i64 ((rd_T86 t208 0).f0)) := (blk_cell BK213.out 0).trans rfl
                          have hcz69_1 : w23.cell? ⟨gb213, 1, none⟩ = some (.int .i64 ((rd_T86 t208 0).f1)) := (blk_cell BK213.out 1).trans rfl
                          have hcz69_2 : w23.cell? ⟨gb213, 2, none⟩ = some (.int .i64 ((rd_T86 t208 0).f2)) := (blk_cell BK213.out 2).trans rfl
                          have hfz69_0 := blk_frozen BK213.out 0
                          have hfz69_1 := blk_frozen BK213.out 1
                          have hfz69_2 := blk_frozen BK213.out 2
                          try go_wp2_with (first | ((with_reducible refine gate_callee (f := 69) rfl ?_); refine goesL_ (some 70) rfl rfl Try.func69 (by kernel_rfl) rfl #[.agg #[.int .i64 ((rd_T86 t208 0).f0), .int .i64 ((rd_T86 t208 0).f1), .int .i64 ((rd_T86 t208 0).f2)], .int .i64 t212] rfl (by (try simp only [List.map_toArray, List.map_cons, List.map_nil]); first | done | rfl | (simp only [List.length_drop, List.length_take]; rfl)) ?_; (with_reducible refine (impl_innerCreases.calls k ((rd_T86 t208 0).f0) ((rd_T86 t208 0).f1) ((rd_T86 t208 0).f2) t212 t224 _ A39.out).mono ?_); rintro e w70 ⟨v225, rfl, ho0, hb⟩; refine ⟨_, rfl, ?_⟩; have n0_ := Aside0.mk (Kd.R_below (by (with_reducible repeat (first | apply Kd.R_alloc | apply Kd.R_drewN | apply Kd.R_drew)); exact HO210.out) hb); have n1_ := Aside0.mk (Kd.R_lower ho0 (below_size (by repeat (first | (with_reducible first | exact HB.out | apply below_alloc | apply pw_below_drewN | apply below_drew1 | refine below_set ?_ GE213.out) | exact HB.out)))); have n2_ := Aside0.mk (blk_below (g := gb213) (o := .cells #[.int .i64 ((rd_T86 t208 0).f0), .int .i64 ((rd_T86 t208 0).f1), .int .i64 ((rd_T86 t208 0).f2)] 86 (0, 0)) (by (with_reducible repeat (first | refine blk_drewN ?_ _ | refine blk_drew ?_ | refine blk_alloc ?_ _)); exact BK213.out) hb); have n3_ := Aside0.mk (below_step (by repeat (first | (with_reducible first | exact HB.out | apply below_alloc | apply pw_below_drewN | apply below_drew1 | refine below_set ?_ GE213.out) | exact HB.out)) hb); clear HO210; clear BK213; clear HB; have HO210 := n0_; have HO226 := n1_; have BK213 := n2_; have HB := n3_; clear n0_ n1_ n2_ n3_; (try clear hb); (try clear hb2); (try clear hk); (try clear hi); (try clear ho0); obtain ⟨Ao71, co71, eo71⟩ := Kd.R_slice HO226.out; subst eo71) | ((with_reducible refine gate_callee (f := 68) rfl ?_); refine goesL_ (some 71) rfl rfl Try.func68 (by kernel_rfl) rfl #[.slice A1 l1.length c1, .slice Ao71 t224.length co71] rfl (by (try simp only [List.map_toArray, List.map_cons, List.map_nil]); first | done | rfl | (simp only [List.length_drop, List.length_take]; rfl)) ?_; (with_reducible refine (impl_chosen.calls k _ _ l1 _ _ t224 t227 _ ?side1 ?side2 ?side3 ?side4 A40.out).mono ?_); (case side1 => repeat (first | exact (Kd.C_below HR1.out HB.out) | (with_reducible refine Kd.C_alloc ?_ _) | (with_reducible refine Kd.C_drewN ?_ _) | (with_reducible refine Kd.C_drew ?_))); (case side2 => exact HC1.out); (case side3 => repeat (first | exact (Kd.R_reads' HO226.out).2.2 | (with_reducible refine Kd.C_alloc ?_ _) | (with_reducible refine Kd.C_drewN ?_ _) | (with_reducible refine Kd.C_drew ?_))); (case side4 => exact (Kd.R_reads' HO226.out).2.1); rintro e w72 ⟨v228, rfl, ho0, hb⟩; refine ⟨_, rfl, ?_⟩; have n0_ := Aside0.mk (Kd.R_below (by (with_reducible repeat (first | apply Kd.R_alloc | apply Kd.R_drewN | apply Kd.R_drew)); exact HO210.out) hb); have n1_ := Aside0.mk (Kd.R_elder' (by (with_reducible repeat (first | apply Kd.R_alloc | apply Kd.R_drewN | apply Kd.R_drew)); exact HO226.out) (Kd.R_base ho0) hb); have n2_ := Aside0.mk (Kd.R_lower (Kd.R_new' ho0 (Kd.R_lt (by (with_reducible repeat (first | apply Kd.R_alloc | apply Kd.R_drewN | apply Kd.R_drew)); exact HO226.out))) (below_size (by repeat (first | (with_reducible first | exact HB.out | apply below_alloc | apply pw_below_drewN | apply below_drew1 | refine below_set ?_ GE213.out) | exact HB.out)))); have n3_ := Aside0.mk (blk_below (g := gb213) (o := .cells #[.int .i64 ((rd_T86 t208 0).f0), .int .i64 ((rd_T86 t208 0).f1), .int .i64 ((rd_T86 t208 0).f2)] 86 (0, 0)) (by (with_reducible repeat (first | refine blk_drewN ?_ _ | refine blk_drew ?_ | refine blk_alloc ?_ _)); exact BK213.out) hb); have n4_ := Aside0.mk (below_step (by repeat (first | (with_reducible first | exact HB.out | apply below_alloc | apply pw_below_drewN | apply below_drew1 | refine below_set ?_ GE213.out) | exact HB.out)) hb); clear HO210; clear HO226; clear BK213; clear HB; have HO210 := n0_; have HO226 := n1_; have HO229 := n2_; have BK213 := n3_; have HB := n4_; clear n0_ n1_ n2_ n3_ n4_; (try clear hb); (try clear hb2); (try clear hk); (try clear hi); (try clear ho0); obtain ⟨Ao73, co73, eo73⟩ := Kd.R_slice HO229.out; subst eo73) | ((with_reducible refine gate_callee (f := 70) rfl ?_); refine goesL_ (some 73) rfl rfl Try.func70 (by kernel_rfl) rfl #[.slice Ao73 t227.length co73, .int .i64 3] rfl (by (try simp only [List.map_toArray, List.map_cons, List.map_nil]); first | done | rfl | (simp only [List.length_drop, List.length_take]; rfl)) ?_; (with_reducible refine (impl_countKind.calls k _ _ t227 3 t230 _ ?side1 ?side2 A41.out).mono ?_); (case side1 => repeat (first | exact (Kd.R_reads' HO229.out).2.2 | (with_reducible refine Kd.C_alloc ?_ _) | (with_reducible refine Kd.C_drewN ?_ _) | (with_reducible refine Kd.C_drew ?_))); (case side2 => exact (Kd.R_reads' HO229.out).2.1); rintro e w' ⟨rfl, ⟨nd, rfl⟩⟩; refine ⟨_, rfl, ?_⟩) | ((with_reducible refine gate_callee (f := 70) rfl ?_); refine goesL_ (some 75) rfl rfl Try.func70 (by kernel_rfl) rfl #[.slice Ao73 t227.length co73, .int .i64 2] rfl (by (try simp only [List.map_toArray, List.map_cons, List.map_nil]); first | done | rfl | (simp only [List.length_drop, List.length_take]; rfl)) ?_; (with_reducible refine (impl_countKind.calls k _ _ t227 2 t231 _ ?side1 ?side2 A42.out).mono ?_); (case side1 => repeat (first | exact (Kd.R_reads' HO229.out).2.2 | (with_reducible refine Kd.C_alloc ?_ _) | (with_reducible refine Kd.C_drewN ?_ _) | (with_reducible refine Kd.C_drew ?_))); (case side2 => exact (Kd.R_reads' HO229.out).2.1); rintro e w' ⟨rfl, ⟨nd, rfl⟩⟩; refine ⟨_, rfl, ?_⟩))
                          (try (rw [drewN_self w72]; generalize hq_ : World.drewN w72 _ = w72; have n0_ : Aside0 (Kd.R k86 86 w72 w.heap.size (fun k_ => k_ ≠ gb213) (.slice (some ad211) t208.length co14) t208) := ⟨by rw [← hq_]; exact (by (with_reducible repeat (first | apply Kd.R_alloc | apply Kd.R_drewN | apply Kd.R_drew)); exact HO210.out)⟩; have n1_ : Aside0 (Kd.R (Kd.int .i64) 2 w72 w.heap.size (fun k_ => (True ∧ some k_ ≠ (.slice Ao73 t227.length co73 : Value).ownBlock)) (.slice Ao71 t224.length co71) t224) := ⟨by rw [← hq_]; exact (by (with_reducible repeat (first | apply Kd.R_alloc | apply Kd.R_drewN | apply Kd.R_drew)); exact HO226.out)⟩; have n2_ : Aside0 (Kd.R (Kd.int .i64) 2 w72 w.heap.size (fun k_ => (True ∧ some k_ ≠ (.slice Ao71 t224.length co71 : Value).ownBlock)) (.slice Ao73 t227.length co73) t227) := ⟨by rw [← hq_]; exact (by (with_reducible repeat (first | apply Kd.R_alloc | apply Kd.R_drewN | apply Kd.R_drew)); exact HO229.out)⟩; have n3_ : Aside0 (w72.heap[gb213]? = some (.cells #[.int .i64 ((rd_T86 t208 0).f0), .int .i64 ((rd_T86 t208 0).f1), .int .i64 ((rd_T86 t208 0).f2)] 86 (0, 0))) := ⟨by rw [← hq_]; exact (by (with_reducible repeat (first | refine blk_drewN ?_ _ | refine blk_drew ?_ | refine blk_alloc ?_ _)); exact BK213.out)⟩; have n4_ : Aside0 (Below w.heap.size w w72) := ⟨by rw [← hq_]; exact (by repeat (first | (with_reducible first | exact HB.out | apply below_alloc | apply pw_below_drewN | apply below_drew1 | refine below_set ?_ GE213.out) | exact HB.out))⟩; clear HO210 HO226 HO229 BK213 HB hq_; have HO210 := n0_; have HO226 := n1_; have HO229 := n2_; have BK213 := n3_; have HB := n4_; clear n0_ n1_ n2_ n3_ n4_))
                          have n0_ := Aside0.mk (Kd.R_drew HO210.out)
                          have n1_ := Aside0.mk (Kd.R_drew HO226.out)
                          have n2_ := Aside0.mk (Kd.R_drew HO229.out)
                          have n3_ := Aside0.mk (blk_drew BK213.out)
                          have n4_ := Aside0.mk (below_drew1 HB.out)
                          clear HO210
                          clear HO226
                          clear HO229
                          clear BK213
                          clear HB
                          have HO210 := n0_
                          have HO226 := n1_
                          have HO229 := n2_
                          have BK213 := n3_
                          have HB := n4_
                          clear n0_ n1_ n2_ n3_ n4_
                          have p241 : 0 ≤ ((ji62) : Int) := of_decide_eq_true (by first | (with_reducible assumption) | assumption)
                          have q241 : (ji62) < (l0.length : Int) := of_decide_eq_true (by first | (with_reducible assumption) | assumption)
                          obtain ⟨ad241, e241, hx241_0⟩ := Kd.at_int HR0.out (ji62) p241 q241
                          have hw241_0 := hx241_0
                          cases e241
                          replace hx241_0 := (HB.out.cell (World.block_lt_of_cell? w _ hx241_0)).trans hx241_0
                          replace p241 := eq_true p241
                          replace q241 := eq_true q241
                          have p242 : 0 ≤ ((ji65) : Int) := of_decide_eq_true (by first | (with_reducible assumption) | assumption)
                          have q242 : (ji65) < (l0.length : Int) := of_decide_eq_true (by first | (with_reducible assumption) | assumption)
                          obtain ⟨ad242, e242, hx242_0⟩ := Kd.at_int HR0.out (ji65) p242 q242
                          have hw242_0 := hx242_0
                          obtain rfl : ad241 = ad242 := (by injection e242)
                          replace hx242_0 := (HB.out.cell (World.block_lt_of_cell? w _ hx242_0)).trans hx242_0
                          replace p242 := eq_true p242
                          replace q242 := eq_true q242
                          have p246 : 0 ≤ ((ji62) : Int) := of_decide_eq_true (by first | (with_reducible assumption) | assumption)
                          have q246 : (ji62) < (l1.length : Int) := of_decide_eq_true (by first | (with_reducible assumption) | assumption)
                          obtain ⟨ad246, e246, hx246_0⟩ := Kd.at_int HR1.out (ji62) p246 q246
                          have hw246_0 := hx246_0
                          cases e246
                          replace hx246_0 := (HB.out.cell (World.block_lt_of_cell? w _ hx246_0)).trans hx246_0
                          replace p246 := eq_true p246
                          replace q246 := eq_true q246
                          refine start_ (n := 17) (S := fun w' => True) (ds := []) #[false, false, false, false, false, false, false, false, false, false, false, false, false, false, false, false, false] (by kernel_rfl) rfl rfl trivial (fun hHeld => ?_); refine with_tabW impl_crimp.tab15 impl_crimp.bits15 (fun HT_ HW_ => ?_)
                          generalize w72.drew = w74 at HO210 HO226 HO229 BK213 HB hx241_0 hx242_0 hx246_0 hHeld ⊢
                          refine pure_ (i := 0) (N := some 77) (v := ?_) (a' := ?_) #[true, false, false, false, false, false, false, false, false, false, false, false, false, false, false, false, false] rfl rfl (any_of HT_.out (by kernel_rfl)) (fun _ _ _ h => h) (Or.inl ⟨by rfl, ?_⟩) ?_ ?_
                          rotate_left
                          · intro w'
                            go_simp
                            with_reducible rfl
                          rotate_left
                          · simp only [Act.put, List.setIfInBounds_toArray, List.set_cons_zero, List.set_cons_succ, i64_w, i32_w]
                            rfl
                          refine pure_ (i := 1) (N := some 78) (v := ?_) (a' := ?_) #[true, true, false, false, false, false, false, false, false, false, false, false, false, false, false, false, false] rfl rfl (any_of HT_.out (by kernel_rfl)) (fun _ _ _ h => h) (Or.inl ⟨by rfl, ?_⟩) ?_ ?_
                          rotate_left
                          · intro w'
                            go_simp
                            with_reducible rfl
                          rotate_left
                          · simp only [Act.put, List.setIfInBounds_toArray, List.set_cons_zero, List.set_cons_succ, i64_w, i32_w]
                            rfl
                          refine pure_ (i := 4) (N := some 81) (v := ?_) (a' := ?_) #[true, true, false, false, true, false, false, false, false, false, false, false, false, false, false, false, false] rfl rfl (any_of HT_.out (by kernel_rfl)) (fun _ _ _ h => h) (Or.inl ⟨by rfl, ?_⟩) ?_ ?_
                          rotate_left
                          · intro w'
                            go_simp
                            with_reducible rfl
                          rotate_left
                          · simp only [Act.put, List.setIfInBounds_toArray, List.set_cons_zero, List.set_cons_succ, i64_w, i32_w]
                            rfl
                          refine pure_ (i := 5) (N := some 82) (v := ?_) (a' := ?_) #[true, true, false, false, true, true, false, false, false, false, false, false, false, false, false, false, false] rfl rfl (any_of HT_.out (by kernel_rfl)) (fun _ _ _ h => h) (Or.inl ⟨by rfl, ?_⟩) ?_ ?_
                          rotate_left
                          · intro w'
                            go_simp
                            with_reducible rfl
                          rotate_left
                          · simp only [Act.put, List.setIfInBounds_toArray, List.set_cons_zero, List.set_cons_succ, i64_w, i32_w]
                            rfl
                          refine pure_ (i := 9) (N := some 86) (v := ?_) (a' := ?_) #[true, true, false, false, true, true, false, false, false, true, false, false, false, false, false, false, false] rfl rfl (any_of HT_.out (by kernel_rfl)) (fun _ _ _ h => h) (Or.inl ⟨by rfl, ?_⟩) ?_ ?_
                          rotate_left
                          · intro w'
                            go_simp
                            with_reducible rfl
                          rotate_left
                          · simp only [Act.put, List.setIfInBounds_toArray, List.set_cons_zero, List.set_cons_succ, i64_w, i32_w]
                            rfl
                          refine pure_ (i := 10) (N := some 87) (v := ?_) (a' := ?_) #[true, true, false, false, true, true, false, false, false, true, true, false, false, false, false, false, false] rfl rfl (any_of HT_.out (by kernel_rfl)) (fun _ _ _ h => h) (Or.inl ⟨by rfl, ?_⟩) ?_ ?_
                          rotate_left
                          · intro w'
                            go_simp
                            with_reducible rfl
                          rotate_left
                          · simp only [Act.put, List.setIfInBounds_toArray, List.set_cons_zero, List.set_cons_succ, i64_w, i32_w]
                            rfl
                          refine pure_ (i := 13) (N := some 90) (v := ?_) (a' := ?_) #[true, true, false, false, true, true, false, false, false, true, true, false, false, true, false, false, false] rfl rfl (any_of HT_.out (by kernel_rfl)) (fun _ _ _ h => h) (Or.inl ⟨by rfl, ?_⟩) ?_ ?_
                          rotate_left
                          · intro w'
                            go_simp
                            with_reducible rfl
                          rotate_left
                          · simp only [Act.put, List.setIfInBounds_toArray, List.set_cons_zero, List.set_cons_succ, i64_w, i32_w]
                            rfl
                          refine inv_at [2, 3, 6, 7, 8, 11, 12, 14, 15, 16] (fun a0_ b a w' => ∃ (v244 : Value) (v248 : Value) (m15_ : Value) (m16_ : Value), a = putSel a0_ b [(2, 79, .pointer (some (ad241.add ((ji62)).toNat))), (3, 80, .int .i64 (rd l0 (ji62))), (6, 83, .pointer (some (ad241.add ((ji65)).toNat))), (7, 84, .int .i64 (rd l0 (ji65))), (8, 85, v244), (11, 88, .pointer (some (ad246.add ((ji62)).toNat))), (12, 89, .int .i64 (rd l1 (ji62))), (14, 91, v248), (15, 12, m15_), (16, 13, m16_)] ∧ (Kd.R k86 86 w' w.heap.size (fun k_ => k_ ≠ gb213) (.slice (some ad211) t208.length co14) t208) ∧ (Kd.R (Kd.int .i64) 2 w' w.heap.size (fun k_ => some k_ ≠ (.slice Ao73 t227.length co73 : Value).ownBlock) (.slice Ao71 t224.length co71) t224) ∧ (Kd.R (Kd.int .i64) 2 w' w.heap.size (fun k_ => some k_ ≠ (.slice Ao71 t224.length co71 : Value).ownBlock) (.slice Ao73 t227.length co73) t227) ∧ (w'.heap[gb213]? = some (.cells #[.int .i64 ((rd_T86 t208 0).f0), .int .i64 ((rd_T86 t208 0).f1), .int .i64 ((rd_T86 t208 0).f2)] 86 (0, 0))) ∧ (Below w.heap.size w w') ∧ (b 8 = true → Kd.R (Kd.int .i64) 2 w' w.heap.size (fun k_ => b 14 = true → some k_ ≠ (v248 : Value).ownBlock) v244 y243) ∧ (b 14 = true → Kd.R (Kd.int .i64) 2 w' w.heap.size (fun k_ => b 8 = true → some k_ ≠ (v244 : Value).ownBlock) v248 y247) ∧ (b 15 = true → (m15_ : Value) = v244) ∧ (b 16 = true → (m16_ : Value) = v248)) HT_.out HW_.out (by kernel_rfl) (by kernel_rfl) ?_ ?_ ?_
                          · exact ⟨.bool false, .bool false, .bool false, .bool false, by simp only [putSel, Bool.false_eq_true, if_false], (Kd.R_mono HO210.out (fun _ hk => by first | exact hk.2 | exact hk)), (Kd.R_mono HO226.out (fun _ hk => by first | exact hk.2 | exact hk)), (Kd.R_mono HO229.out (fun _ hk => by first | exact hk.2 | exact hk)), BK213.out, HB.out, fun h_ => absurd h_ (by decide), fun h_ => absurd h_ (by decide), fun h_ => absurd h_ (by decide), fun h_ => absurd h_ (by decide)⟩
                          · skip
                            clear BK213 HB HO210 HO226 HO229
                            refine steps_cons ?_ ?_
                            · rintro b a w' ⟨v244, v248, m15_, m16_, ha, Q_HO210, Q_HO226, Q_HO229, Q_BK213, Q_HB, Q_HO245, Q_HO249, Q_X15_, Q_X16_⟩ hb_ hon hoff
                              refine ⟨_, rfl, fun K hK => ?_⟩
                              have e77 : a.tmps[77]? = some (.slice (some ad241) l0.length c0) := by rw [ha]; exact (putSel_off rfl).trans rfl
                              have e78 : a.tmps[78]? = some (.int .i64 ji62) := by rw [ha]; exact (putSel_off rfl).trans rfl
                              replace ha := Aside0.mk ha
                              have HO210 := Aside0.mk Q_HO210
                              have HO226 := Aside0.mk Q_HO226
                              have HO229 := Aside0.mk Q_HO229
                              have BK213 := Aside0.mk Q_BK213
                              have HB := Aside0.mk Q_HB
                              have hs0_ : w'.cell? (ad241.add ((ji62)).toNat) = some (.int .i64 (rd l0 (ji62))) := ((HB.out.cell (World.block_lt_of_cell? w _ hw241_0)).trans hw241_0)
                              refine value_ (w1 := w') (v := .pointer (some (ad241.add ((ji62)).toNat))) (by rfl) rfl ?_ ?_
                              · go_simp
                                (try simp only [i64_w])
                                try rfl
                              refine hK.out _ _ ⟨v244, v248, m15_, m16_, (by rw [ha.out]; exact putSel_upk 0 hb_ rfl rfl rfl), Q_HO210, Q_HO226, Q_HO229, Q_BK213, Q_HB, fun h0_ => absurd ((hoff 8 (by kernel_rfl)).symm.trans h0_) (by decide), Q_HO249, fun h0_ => absurd ((hoff 15 (by kernel_rfl)).symm.trans h0_) (by decide), fun h0_ => absurd ((hoff 16 (by kernel_rfl)).symm.trans h0_) (by decide)⟩
                            refine steps_cons ?_ ?_
                            · rintro b a w' ⟨v244, v248, m15_, m16_, ha, Q_HO210, Q_HO226, Q_HO229, Q_BK213, Q_HB, Q_HO245, Q_HO249, Q_X15_, Q_X16_⟩ hb_ hon hoff
                              refine ⟨_, rfl, fun K hK => ?_⟩
                              have e79 : a.tmps[79]? = some (.pointer (some (ad241.add ((ji62)).toNat))) := by rw [ha]; exact putSel_on (e := (2, 79, .pointer (some (ad241.add ((ji62)).toNat)))) 0 rfl rfl (hon 2 (by kernel_rfl)) rfl
                              replace ha := Aside0.mk ha
                              have HO210 := Aside0.mk Q_HO210
                              have HO226 := Aside0.mk Q_HO226
                              have HO229 := Aside0.mk Q_HO229
                              have BK213 := Aside0.mk Q_BK213
                              have HB := Aside0.mk Q_HB
                              have hs0_ : w'.cell? (ad241.add ((ji62)).toNat) = some (.int .i64 (rd l0 (ji62))) := ((HB.out.cell (World.block_lt_of_cell? w _ hw241_0)).trans hw241_0)
                              refine value_ (w1 := w') (v := .int .i64 (rd l0 (ji62))) (by rfl) rfl ?_ ?_
                              · go_simp
                                (try simp only [i64_w])
                                try rfl
                              refine hK.out _ _ ⟨v244, v248, m15_, m16_, (by rw [ha.out]; exact putSel_upk 1 hb_ rfl rfl rfl), Q_HO210, Q_HO226, Q_HO229, Q_BK213, Q_HB, fun h0_ => absurd ((hoff 8 (by kernel_rfl)).symm.trans h0_) (by decide), Q_HO249, fun h0_ => absurd ((hoff 15 (by kernel_rfl)).symm.trans h0_) (by decide), fun h0_ => absurd ((hoff 16 (by kernel_rfl)).symm.trans h0_) (by decide)⟩
                            refine steps_cons ?_ ?_
                            · rintro b a w' ⟨v244, v248, m15_, m16_, ha, Q_HO210, Q_HO226, Q_HO229, Q_BK213, Q_HB, Q_HO245, Q_HO249, Q_X15_, Q_X16_⟩ hb_ hon hoff
                              refine ⟨_, rfl, fun K hK => ?_⟩
                              have e81 : a.tmps[81]? = some (.slice (some ad241) l0.length c0) := by rw [ha]; exact (putSel_off rfl).trans rfl
                              have e82 : a.tmps[82]? = some (.int .i64 ji65) := by rw [ha]; exact (putSel_off rfl).trans rfl
                              replace ha := Aside0.mk ha
                              have HO210 := Aside0.mk Q_HO210
                              have HO226 := Aside0.mk Q_HO226
                              have HO229 := Aside0.mk Q_HO229
                              have BK213 := Aside0.mk Q_BK213
                              have HB := Aside0.mk Q_HB
                              have hs1_ : w'.cell? (ad241.add ((ji65)).toNat) = some (.int .i64 (rd l0 (ji65))) := ((HB.out.cell (World.block_lt_of_cell? w _ hw242_0)).trans hw242_0)
                              refine value_ (w1 := w') (v := .pointer (some (ad241.add ((ji65)).toNat))) (by rfl) rfl ?_ ?_
                              · go_simp
                                (try simp only [i64_w])
                                try rfl
                              refine hK.out _ _ ⟨v244, v248, m15_, m16_, (by rw [ha.out]; exact putSel_upk 2 hb_ rfl rfl rfl), Q_HO210, Q_HO226, Q_HO229, Q_BK213, Q_HB, fun h0_ => absurd ((hoff 8 (by kernel_rfl)).symm.trans h0_) (by decide), Q_HO249, fun h0_ => absurd ((hoff 15 (by kernel_rfl)).symm.trans h0_) (by decide), fun h0_ => absurd ((hoff 16 (by kernel_rfl)).symm.trans h0_) (by decide)⟩
                            refine steps_cons ?_ ?_
                            · rintro b a w' ⟨v244, v248, m15_, m16_, ha, Q_HO210, Q_HO226, Q_HO229, Q_BK213, Q_HB, Q_HO245, Q_HO249, Q_X15_, Q_X16_⟩ hb_ hon hoff
                              refine ⟨_, rfl, fun K hK => ?_⟩
                              have e83 : a.tmps[83]? = some (.pointer (some (ad241.add ((ji65)).toNat))) := by rw [ha]; exact putSel_on (e := (6, 83, .pointer (some (ad241.add ((ji65)).toNat)))) 2 rfl rfl (hon 6 (by kernel_rfl)) rfl
                              replace ha := Aside0.mk ha
                              have HO210 := Aside0.mk Q_HO210
                              have HO226 := Aside0.mk Q_HO226
                              have HO229 := Aside0.mk Q_HO229
                              have BK213 := Aside0.mk Q_BK213
                              have HB := Aside0.mk Q_HB
                              have hs1_ : w'.cell? (ad241.add ((ji65)).toNat) = some (.int .i64 (rd l0 (ji65))) := ((HB.out.cell (World.block_lt_of_cell? w _ hw242_0)).trans hw242_0)
                              refine value_ (w1 := w') (v := .int .i64 (rd l0 (ji65))) (by rfl) rfl ?_ ?_
                              · go_simp
                                (try simp only [i64_w])
                                try rfl
                              refine hK.out _ _ ⟨v244, v248, m15_, m16_, (by rw [ha.out]; exact putSel_upk 3 hb_ rfl rfl rfl), Q_HO210, Q_HO226, Q_HO229, Q_BK213, Q_HB, fun h0_ => absurd ((hoff 8 (by kernel_rfl)).symm.trans h0_) (by decide), Q_HO249, fun h0_ => absurd ((hoff 15 (by kernel_rfl)).symm.trans h0_) (by decide), fun h0_ => absurd ((hoff 16 (by kernel_rfl)).symm.trans h0_) (by decide)⟩
                            refine steps_cons ?_ ?_
                            · rintro b a w' ⟨v244, v248, m15_, m16_, ha, Q_HO210, Q_HO226, Q_HO229, Q_BK213, Q_HB, Q_HO245, Q_HO249, Q_X15_, Q_X16_⟩ hb_ hon hoff
                              refine ⟨_, rfl, fun K hK => ?_⟩
                              have e80 : a.tmps[80]? = some (.int .i64 (rd l0 (ji62))) := by rw [ha]; exact putSel_on (e := (3, 80, .int .i64 (rd l0 (ji62)))) 1 rfl rfl (hon 3 (by kernel_rfl)) rfl
                              have e84 : a.tmps[84]? = some (.int .i64 (rd l0 (ji65))) := by rw [ha]; exact putSel_on (e := (7, 84, .int .i64 (rd l0 (ji65)))) 3 rfl rfl (hon 7 (by kernel_rfl)) rfl
                              replace ha := Aside0.mk ha
                              have HO210 := Aside0.mk Q_HO210
                              have HO226 := Aside0.mk Q_HO226
                              have HO229 := Aside0.mk Q_HO229
                              have BK213 := Aside0.mk Q_BK213
                              have HB := Aside0.mk Q_HB
                              refine Kd.R_lit_step (Kd.int .i64) _ 2 ?hg (N := 85) ?hd (xs := ([rd l0 (ji62), rd l0 (ji65)] : List Int)) (inner := [.int .i64 (rd l0 (ji62)), .int .i64 (rd l0 (ji65))]) (ok := fun _ => True) (okp := fun _ => True) ?hr ?hp (fun _ hk => hk) trivial (Below.refl _ _) (Nat.le_refl _) (by simp) ?_; (case hd => rfl); (case hg => rfl); (case hr => first | (go_simp; done) | (go_simp; rfl)); (case hp => exact (Reps.one (show Kd.M (Kd.int .i64) _ _ _ (rd l0 (ji62)) [.int .i64 (rd l0 (ji62))] from rfl) (Reps.one (show Kd.M (Kd.int .i64) _ _ _ (rd l0 (ji65)) [.int .i64 (rd l0 (ji65))] from rfl) (Reps.none _ _))))
                              intro v244 w75 ho76 hb hg_ hnew_
                              clear hg_ hnew_
                              (first | rw [← Ny243.out] at ho76 | (simp only [Int.reduceToNat] at ho76; rw [← Ny243.out] at ho76))
                              have n0_ := Aside0.mk (Kd.R_below (by (with_reducible repeat (first | apply Kd.R_alloc | apply Kd.R_drewN | apply Kd.R_drew)); exact HO210.out) hb)
                              have n1_ := Aside0.mk (Kd.R_elder' (by (with_reducible repeat (first | apply Kd.R_alloc | apply Kd.R_drewN | apply Kd.R_drew)); exact HO226.out) (Kd.R_base ho76) hb)
                              have n2_ := Aside0.mk (Kd.R_elder' (by (with_reducible repeat (first | apply Kd.R_alloc | apply Kd.R_drewN | apply Kd.R_drew)); exact HO229.out) (Kd.R_base ho76) hb)
                              have n3_ := Aside0.mk (show Kd.R (Kd.int .i64) 2 w75 w.heap.size (fun k_ => b 14 = true → some k_ ≠ (v248 : Value).ownBlock) v244 y243 from Kd.R_mono (Kd.R_lower (Kd.R_bound (Kd.R_new' (Kd.R_new' ho76 (Kd.R_lt (by (with_reducible repeat (first | apply Kd.R_alloc | apply Kd.R_drewN | apply Kd.R_drew)); exact HO226.out))) (Kd.R_lt (by (with_reducible repeat (first | apply Kd.R_alloc | apply Kd.R_drewN | apply Kd.R_drew)); exact HO229.out)))) (below_size (by repeat (first | (with_reducible first | exact HB.out | apply below_alloc | apply pw_below_drewN | apply below_drew1 | refine below_set ?_ GE213.out) | exact HB.out)))) (fun k_ hk_ h0_ e_ => by obtain ⟨_, ho_⟩ := Kd.R_own (Q_HO249 h0_); have := own_lt ho_ k_ e_.symm; have := hk_.2.1; omega))
                              have n4_ := Aside0.mk (blk_below (g := gb213) (o := .cells #[.int .i64 ((rd_T86 t208 0).f0), .int .i64 ((rd_T86 t208 0).f1), .int .i64 ((rd_T86 t208 0).f2)] 86 (0, 0)) (by (with_reducible repeat (first | refine blk_drewN ?_ _ | refine blk_drew ?_ | refine blk_alloc ?_ _)); exact BK213.out) hb)
                              have n5_ := Aside0.mk (below_step (by repeat (first | (with_reducible first | exact HB.out | apply below_alloc | apply pw_below_drewN | apply below_drew1 | refine below_set ?_ GE213.out) | exact HB.out)) hb)
                              have z_HO249 := fun (h0_ : b 14 = true) => (Kd.R_elder' (by (with_reducible repeat (first | apply Kd.R_alloc | apply Kd.R_drewN | apply Kd.R_drew)); exact (Q_HO249 h0_)) (Kd.R_base ho76) hb)
                              clear HO210
                              clear HO226
                              clear HO229
                              clear BK213
                              clear HB
                              have HO210 := n0_
                              have HO226 := n1_
                              have HO229 := n2_
                              have HO245 := n3_
                              have BK213 := n4_
                              have HB := n5_
                              clear n0_ n1_ n2_ n3_ n4_ n5_
                              clear hb ho76
                              refine hK.out _ _ ⟨v244, v248, m15_, m16_, (by rw [ha.out]; exact putSel_upk 4 hb_ rfl rfl rfl), (by (with_reducible repeat (first | apply Kd.R_alloc | apply Kd.R_drewN | apply Kd.R_drew)); exact HO210.out), (by (with_reducible repeat (first | apply Kd.R_alloc | apply Kd.R_drewN | apply Kd.R_drew)); exact Kd.R_mono HO226.out (fun _ hk => by first | exact hk.2 | exact ⟨hk.1.2, hk.2⟩ | exact hk | exact hk.1)), (by (with_reducible repeat (first | apply Kd.R_alloc | apply Kd.R_drewN | apply Kd.R_drew)); exact Kd.R_mono HO229.out (fun _ hk => by first | exact hk.2 | exact ⟨hk.1.2, hk.2⟩ | exact hk | exact hk.1)), (by (with_reducible repeat (first | refine blk_drewN ?_ _ | refine blk_drew ?_ | refine blk_alloc ?_ _)); exact BK213.out), (by repeat (first | (with_reducible first | exact HB.out | apply below_alloc | apply pw_below_drewN | apply below_drew1 | refine below_set ?_ GE213.out) | exact HB.out)), fun _ => (by (with_reducible repeat (first | apply Kd.R_alloc | apply Kd.R_drewN | apply Kd.R_drew)); exact HO245.out), (fun h0_ => Kd.R_mono (z_HO249 h0_) (fun _ h_ _ => h_.2)), fun h0_ => absurd ((hoff 15 (by kernel_rfl)).symm.trans h0_) (by decide), fun h0_ => absurd ((hoff 16 (by kernel_rfl)).symm.trans h0_) (by decide)⟩
                            refine steps_cons ?_ ?_
                            · rintro b a w' ⟨v244, v248, m15_, m16_, ha, Q_HO210, Q_HO226, Q_HO229, Q_BK213, Q_HB, Q_HO245, Q_HO249, Q_X15_, Q_X16_⟩ hb_ hon hoff
                              refine ⟨_, rfl, fun K hK => ?_⟩
                              have e86 : a.tmps[86]? = some (.slice (some ad246) l1.length c1) := by rw [ha]; exact (putSel_off rfl).trans rfl
                              have e87 : a.tmps[87]? = some (.int .i64 ji62) := by rw [ha]; exact (putSel_off rfl).trans rfl
                              replace ha := Aside0.mk ha
                              have HO210 := Aside0.mk Q_HO210
                              have HO226 := Aside0.mk Q_HO226
                              have HO229 := Aside0.mk Q_HO229
                              have BK213 := Aside0.mk Q_BK213
                              have HB := Aside0.mk Q_HB
                              have hs2_ : w'.cell? (ad246.add ((ji62)).toNat) = some (.int .i64 (rd l1 (ji62))) := ((HB.out.cell (World.block_lt_of_cell? w _ hw246_0)).trans hw246_0)
                              refine value_ (w1 := w') (v := .pointer (some (ad246.add ((ji62)).toNat))) (by rfl) rfl ?_ ?_
                              · go_simp
                                (try simp only [i64_w])
                                try rfl
                              refine hK.out _ _ ⟨v244, v248, m15_, m16_, (by rw [ha.out]; exact putSel_upk 5 hb_ rfl rfl rfl), Q_HO210, Q_HO226, Q_HO229, Q_BK213, Q_HB, Q_HO245, fun h0_ => absurd ((hoff 14 (by kernel_rfl)).symm.trans h0_) (by decide), Q_X15_, fun h0_ => absurd ((hoff 16 (by kernel_rfl)).symm.trans h0_) (by decide)⟩
                            refine steps_cons ?_ ?_
                            · rintro b a w' ⟨v244, v248, m15_, m16_, ha, Q_HO210, Q_HO226, Q_HO229, Q_BK213, Q_HB, Q_HO245, Q_HO249, Q_X15_, Q_X16_⟩ hb_ hon hoff
                              refine ⟨_, rfl, fun K hK => ?_⟩
                              have e88 : a.tmps[88]? = some (.pointer (some (ad246.add ((ji62)).toNat))) := by rw [ha]; exact putSel_on (e := (11, 88, .pointer (some (ad246.add ((ji62)).toNat)))) 5 rfl rfl (hon 11 (by kernel_rfl)) rfl
                              replace ha := Aside0.mk ha
                              have HO210 := Aside0.mk Q_HO210
                              have HO226 := Aside0.mk Q_HO226
                              have HO229 := Aside0.mk Q_HO229
                              have BK213 := Aside0.mk Q_BK213
                              have HB := Aside0.mk Q_HB
                              have hs2_ : w'.cell? (ad246.add ((ji62)).toNat) = some (.int .i64 (rd l1 (ji62))) := ((HB.out.cell (World.block_lt_of_cell? w _ hw246_0)).trans hw246_0)
                              refine value_ (w1 := w') (v := .int .i64 (rd l1 (ji62))) (by rfl) rfl ?_ ?_
                              · go_simp
                                (try simp only [i64_w])
                                try rfl
                              refine hK.out _ _ ⟨v244, v248, m15_, m16_, (by rw [ha.out]; exact putSel_upk 6 hb_ rfl rfl rfl), Q_HO210, Q_HO226, Q_HO229, Q_BK213, Q_HB, Q_HO245, fun h0_ => absurd ((hoff 14 (by kernel_rfl)).symm.trans h0_) (by decide), Q_X15_, fun h0_ => absurd ((hoff 16 (by kernel_rfl)).symm.trans h0_) (by decide)⟩
                            refine steps_cons ?_ ?_
                            · rintro b a w' ⟨v244, v248, m15_, m16_, ha, Q_HO210, Q_HO226, Q_HO229, Q_BK213, Q_HB, Q_HO245, Q_HO249, Q_X15_, Q_X16_⟩ hb_ hon hoff
                              refine ⟨_, rfl, fun K hK => ?_⟩
                              have e89 : a.tmps[89]? = some (.int .i64 (rd l1 (ji62))) := by rw [ha]; exact putSel_on (e := (12, 89, .int .i64 (rd l1 (ji62)))) 6 rfl rfl (hon 12 (by kernel_rfl)) rfl
                              have e90 : a.tmps[90]? = some (.int .i64 2) := by rw [ha]; exact (putSel_off rfl).trans rfl
                              replace ha := Aside0.mk ha
                              have HO210 := Aside0.mk Q_HO210
                              have HO226 := Aside0.mk Q_HO226
                              have HO229 := Aside0.mk Q_HO229
                              have BK213 := Aside0.mk Q_BK213
                              have HB := Aside0.mk Q_HB
                              refine Kd.R_lit_step (Kd.int .i64) _ 2 ?hg (N := 91) ?hd (xs := ([rd l1 (ji62), 2] : List Int)) (inner := [.int .i64 (rd l1 (ji62)), .int .i64 2]) (ok := fun _ => True) (okp := fun _ => True) ?hr ?hp (fun _ hk => hk) trivial (Below.refl _ _) (Nat.le_refl _) (by simp) ?_; (case hd => rfl); (case hg => rfl); (case hr => first | (go_simp; done) | (go_simp; rfl)); (case hp => exact (Reps.one (show Kd.M (Kd.int .i64) _ _ _ (rd l1 (ji62)) [.int .i64 (rd l1 (ji62))] from rfl) (Reps.one (show Kd.M (Kd.int .i64) _ _ _ 2 [.int .i64 2] from rfl) (Reps.none _ _))))
                              intro v248 w75 ho76 hb hg_ hnew_
                              clear hg_ hnew_
                              (first | rw [← Ny247.out] at ho76 | (simp only [Int.reduceToNat] at ho76; rw [← Ny247.out] at ho76))
                              have n0_ := Aside0.mk (Kd.R_below (by (with_reducible repeat (first | apply Kd.R_alloc | apply Kd.R_drewN | apply Kd.R_drew)); exact HO210.out) hb)
                              have n1_ := Aside0.mk (Kd.R_elder' (by (with_reducible repeat (first | apply Kd.R_alloc | apply Kd.R_drewN | apply Kd.R_drew)); exact HO226.out) (Kd.R_base ho76) hb)
                              have n2_ := Aside0.mk (Kd.R_elder' (by (with_reducible repeat (first | apply Kd.R_alloc | apply Kd.R_drewN | apply Kd.R_drew)); exact HO229.out) (Kd.R_base ho76) hb)
                              have n3_ := Aside0.mk (show Kd.R (Kd.int .i64) 2 w75 w.heap.size (fun k_ => b 8 = true → some k_ ≠ (v244 : Value).ownBlock) v248 y247 from Kd.R_mono (Kd.R_lower (Kd.R_bound (Kd.R_new' (Kd.R_new' ho76 (Kd.R_lt (by (with_reducible repeat (first | apply Kd.R_alloc | apply Kd.R_drewN | apply Kd.R_drew)); exact HO226.out))) (Kd.R_lt (by (with_reducible repeat (first | apply Kd.R_alloc | apply Kd.R_drewN | apply Kd.R_drew)); exact HO229.out)))) (below_size (by repeat (first | (with_reducible first | exact HB.out | apply below_alloc | apply pw_below_drewN | apply below_drew1 | refine below_set ?_ GE213.out) | exact HB.out)))) (fun k_ hk_ h0_ e_ => by obtain ⟨_, ho_⟩ := Kd.R_own (Q_HO245 h0_); have := own_lt ho_ k_ e_.symm; have := hk_.2.1; omega))
                              have n4_ := Aside0.mk (blk_below (g := gb213) (o := .cells #[.int .i64 ((rd_T86 t208 0).f0), .int .i64 ((rd_T86 t208 0).f1), .int .i64 ((rd_T86 t208 0).f2)] 86 (0, 0)) (by (with_reducible repeat (first | refine blk_drewN ?_ _ | refine blk_drew ?_ | refine blk_alloc ?_ _)); exact BK213.out) hb)
                              have n5_ := Aside0.mk (below_step (by repeat (first | (with_reducible first | exact HB.out | apply below_alloc | apply pw_below_drewN | apply below_drew1 | refine below_set ?_ GE213.out) | exact HB.out)) hb)
                              have z_HO245 := fun (h0_ : b 8 = true) => (Kd.R_elder' (by (with_reducible repeat (first | apply Kd.R_alloc | apply Kd.R_drewN | apply Kd.R_drew)); exact (Q_HO245 h0_)) (Kd.R_base ho76) hb)
                              clear HO210
                              clear HO226
                              clear HO229
                              clear BK213
                              clear HB
                              have HO210 := n0_
                              have HO226 := n1_
                              have HO229 := n2_
                              have HO249 := n3_
                              have BK213 := n4_
                              have HB := n5_
                              clear n0_ n1_ n2_ n3_ n4_ n5_
                              clear hb ho76
                              refine hK.out _ _ ⟨v244, v248, m15_, m16_, (by rw [ha.out]; exact putSel_upk 7 hb_ rfl rfl rfl), (by (with_reducible repeat (first | apply Kd.R_alloc | apply Kd.R_drewN | apply Kd.R_drew)); exact HO210.out), (by (with_reducible repeat (first | apply Kd.R_alloc | apply Kd.R_drewN | apply Kd.R_drew)); exact Kd.R_mono HO226.out (fun _ hk => by first | exact hk.2 | exact ⟨hk.1.2, hk.2⟩ | exact hk | exact hk.1)), (by (with_reducible repeat (first | apply Kd.R_alloc | apply Kd.R_drewN | apply Kd.R_drew)); exact Kd.R_mono HO229.out (fun _ hk => by first | exact hk.2 | exact ⟨hk.1.2, hk.2⟩ | exact hk | exact hk.1)), (by (with_reducible repeat (first | refine blk_drewN ?_ _ | refine blk_drew ?_ | refine blk_alloc ?_ _)); exact BK213.out), (by repeat (first | (with_reducible first | exact HB.out | apply below_alloc | apply pw_below_drewN | apply below_drew1 | refine below_set ?_ GE213.out) | exact HB.out)), (fun h0_ => Kd.R_mono (z_HO245 h0_) (fun _ h_ _ => h_.2)), fun _ => (by (with_reducible repeat (first | apply Kd.R_alloc | apply Kd.R_drewN | apply Kd.R_drew)); exact HO249.out), Q_X15_, fun h0_ => absurd ((hoff 16 (by kernel_rfl)).symm.trans h0_) (by decide)⟩
                            refine steps_cons ?_ ?_
                            · rintro b a w' ⟨v244, v248, m15_, m16_, ha, Q_HO210, Q_HO226, Q_HO229, Q_BK213, Q_HB, Q_HO245, Q_HO249, Q_X15_, Q_X16_⟩ hb_ hon hoff
                              refine ⟨_, rfl, fun K hK => ?_⟩
                              have e85 : a.tmps[85]? = some (v244) := by rw [ha]; exact putSel_on (e := (8, 85, v244)) 4 rfl rfl (hon 8 (by kernel_rfl)) rfl
                              replace ha := Aside0.mk ha
                              have HO210 := Aside0.mk Q_HO210
                              have HO226 := Aside0.mk Q_HO226
                              have HO229 := Aside0.mk Q_HO229
                              have BK213 := Aside0.mk Q_BK213
                              have HB := Aside0.mk Q_HB
                              have HO245 := Aside0.mk (Q_HO245 (hon 8 (by kernel_rfl)))
                              refine value_ (w1 := w') (v := v244) (by rfl) rfl ?_ ?_
                              · go_simp
                                (try simp only [i64_w])
                                try rfl
                              refine hK.out _ _ ⟨v244, v248, (v244), m16_, (by rw [ha.out]; exact putSel_upk 8 hb_ rfl rfl rfl), Q_HO210, Q_HO226, Q_HO229, Q_BK213, Q_HB, Q_HO245, Q_HO249, fun _ => rfl, fun h0_ => absurd ((hoff 16 (by kernel_rfl)).symm.trans h0_) (by decide)⟩
                            refine steps_cons ?_ ?_
                            · rintro b a w' ⟨v244, v248, m15_, m16_, ha, Q_HO210, Q_HO226, Q_HO229, Q_BK213, Q_HB, Q_HO245, Q_HO249, Q_X15_, Q_X16_⟩ hb_ hon hoff
                              refine ⟨_, rfl, fun K hK => ?_⟩
                              have e91 : a.tmps[91]? = some (v248) := by rw [ha]; exact putSel_on (e := (14, 91, v248)) 7 rfl rfl (hon 14 (by kernel_rfl)) rfl
                              replace ha := Aside0.mk ha
                              have HO210 := Aside0.mk Q_HO210
                              have HO226 := Aside0.mk Q_HO226
                              have HO229 := Aside0.mk Q_HO229
                              have BK213 := Aside0.mk Q_BK213
                              have HB := Aside0.mk Q_HB
                              have HO245 := Aside0.mk (Q_HO245 (hon 8 (by kernel_rfl)))
                              have HO249 := Aside0.mk (Q_HO249 (hon 14 (by kernel_rfl)))
                              refine value_ (w1 := w') (v := v248) (by rfl) rfl ?_ ?_
                              · go_simp
                                (try simp only [i64_w])
                                try rfl
                              refine hK.out _ _ ⟨v244, v248, m15_, (v248), (by rw [ha.out]; exact putSel_upk 9 hb_ rfl rfl rfl), Q_HO210, Q_HO226, Q_HO229, Q_BK213, Q_HB, Q_HO245, Q_HO249, Q_X15_, fun _ => rfl⟩
                            exact steps_nil
                          rintro b a w79 hall ⟨v244, v248, m15_, m16_, ha, Q_HO210, Q_HO226, Q_HO229, Q_BK213, Q_HB, Q_HO245, Q_HO249, Q_X15_, Q_X16_⟩
                          clear BK213 HB HO210 HO226 HO229
                          have hb2_ := hall 2 (by kernel_rfl)
                          have hb3_ := hall 3 (by kernel_rfl)
                          have hb6_ := hall 6 (by kernel_rfl)
                          have hb7_ := hall 7 (by kernel_rfl)
                          have hb8_ := hall 8 (by kernel_rfl)
                          have hb11_ := hall 11 (by kernel_rfl)
                          have hb12_ := hall 12 (by kernel_rfl)
                          have hb14_ := hall 14 (by kernel_rfl)
                          have hb15_ := hall 15 (by kernel_rfl)
                          have hb16_ := hall 16 (by kernel_rfl)
                          subst ha
                          obtain rfl := Q_X15_ hb15_
                          obtain rfl := Q_X16_ hb16_
                          simp only [putSel, hb2_, hb3_, hb6_, hb7_, hb8_, hb11_, hb12_, hb14_, hb15_, hb16_, if_true, Act.put, List.setIfInBounds_toArray, List.set_cons_zero, List.set_cons_succ]
                          have HO210 := Aside0.mk Q_HO210
                          clear Q_HO210
                          have HO226 := Aside0.mk Q_HO226
                          clear Q_HO226
                          have HO229 := Aside0.mk Q_HO229
                          clear Q_HO229
                          have BK213 := Aside0.mk Q_BK213
                          clear Q_BK213
                          have HB := Aside0.mk Q_HB
                          clear Q_HB
                          have HO245 := Aside0.mk (Kd.R_mono (Q_HO245 hb8_) (fun _ hk => hk hb14_))
                          clear Q_HO245
                          have HO249 := Aside0.mk (Kd.R_mono (Q_HO249 hb14_) (fun _ hk => hk hb8_))
                          clear Q_HO249
                          clear hall hb2_ hb3_ hb6_ hb7_ hb8_ hb11_ hb12_ hb14_ hb15_ hb16_
                          try go_wp2
                          (try subst hji26); (try subst hji29); (try subst hji44); (try subst hji47); (try subst hji62); (try subst hji65); skip
                          go_meet
                          case rel => exact ⟨_, (y243), (y247), H', ⟨by first | omega | exact Nat.le_refl _⟩, ⟨by (with_reducible repeat (first | apply Kd.R_alloc | apply Kd.R_drewN | apply Kd.R_drew)); exact HO245.out⟩, ⟨by (with_reducible repeat (first | apply Kd.R_alloc | apply Kd.R_drewN | apply Kd.R_drew)); exact HO249.out⟩, ⟨by (with_reducible repeat (first | refine blk_drewN ?_ _ | refine blk_drew ?_ | refine blk_alloc ?_ _)); exact BK213.out⟩, ⟨by repeat (first | (with_reducible first | exact HB.out | apply below_alloc | apply pw_below_drewN | apply below_drew1 | refine below_set ?_ GE213.out) | exact HB.out)⟩⟩
                        · rw [if_neg c68] at H
                          exact absurd H (by simp)
                      · rw [if_neg c67] at H
                        exact absurd H (by simp)
                    · rw [if_neg c66] at H
                      exact absurd H (by simp)
                  · rw [if_neg c64] at H
                    exact absurd H (by simp)
                · rw [if_neg c63] at H
                  exact absurd H (by simp)
          case rest =>
            clear HC12
            try clear c1
            try clear p2
            try clear q2
            try clear hx2
            try clear c4
            try clear c5
            try clear c6
            try clear p6
            try clear c7
            try clear p24
            try clear q24
            try clear hx24
            try clear c43
            try clear c43b0
            try clear c45
            try clear c46
            try clear c48
            try clear c49
            try clear c50
            try clear c63
            try clear c63b0
            try clear c64
            try clear c64b0
            try clear p64
            try clear c66
            try clear c66b0
            try clear c67
            try clear c67b0
            try clear c68
            try clear c68b0
            try clear c69
            try clear c70
            try clear hcz69_0
            try clear hcz69_1
            try clear hcz69_2
            try clear hfz69_0
            try clear hfz69_1
            try clear hfz69_2
            try clear hx241_0
            try clear hx242_0
            try clear hx246_0
            try clear p241
            try clear p242
            try clear p246
            try clear q241
            try clear q242
            try clear q246
            obtain ⟨kq, x12_11, x13_11, HA, HJ11, HO_12, HO_13, BK213, HB⟩ := hcut
            cases kq with
            | zero => exact absurd HA.out (by simp [impl_crimp.j0])
            | succ kj11 =>
              have H := HA.out
              clear HA
              simp only [impl_crimp.j0] at H
              by_cases c80 : t212 = 0
              · rw [if_pos c80] at H
                exact absurd H (by simp)
              · rw [if_neg c80] at H
                have c80b0 : (t212 == 0) = false := beq_eq_false_iff_ne.mpr c80
                have c80b1 : (t212 != 0) = true := bne_iff_ne.mpr c80
                have H' := Aside0.mk H
                clear H
                go_wp2
                (try go_simp)
                go_loopg [12, 13, 16] kj11 (fun kq v12 v13 v16 w' => ∃ (x12_2 : List Int) (x13_2 : List Int) (x16_2 : Int), v16 = .int .i64 x16_2 ∧ Aside0 (impl_crimp.l0 kq l0 l1 t212 (Int.tmod (wrap64 ((wrap64 (((rd_T86 t208 0).f0) + t212)) - 1)) t212) x12_2 x13_2 x16_2 = some (r1, r2, r3)) ∧ Aside0 (kq ≤ kj11) ∧ Aside0 (Kd.R (Kd.int .i64) 2 w' w.heap.size (fun k_ => some k_ ≠ (v13 : Value).ownBlock) v12 x12_2) ∧ Aside0 (Kd.R (Kd.int .i64) 2 w' w.heap.size (fun k_ => some k_ ≠ (v12 : Value).ownBlock) v13 x13_2) ∧ Aside0 (w'.heap[gb213]? = some (.cells #[.int .i64 ((rd_T86 t208 0).f0), .int .i64 ((rd_T86 t208 0).f1), .int .i64 ((rd_T86 t208 0).f2)] 86 (0, 0))) ∧ Aside0 (Below w.heap.size w w'))
                case atStart => exact ⟨(x12_11), (x13_11), (Int.tmod (wrap64 ((Int.tmod (wrap64 (((rd_T86 t208 0).f0) + ((rd_T86 t208 0).f1))) t212) + 1)) t212), (by first | rfl | (simp; done) | (simp [*]; done)), H', ⟨Nat.le_refl _⟩, ⟨by (with_reducible repeat (first | apply Kd.R_alloc | apply Kd.R_drewN | apply Kd.R_drew)); exact HO_12.out⟩, ⟨by (with_reducible repeat (first | apply Kd.R_alloc | apply Kd.R_drewN | apply Kd.R_drew)); exact HO_13.out⟩, ⟨by (with_reducible repeat (first | refine blk_drewN ?_ _ | refine blk_drew ?_ | refine blk_alloc ?_ _)); exact BK213.out⟩, ⟨by repeat (first | (with_reducible first | exact HB.out | apply below_alloc | apply pw_below_drewN | apply below_drew1 | refine below_set ?_ GE213.out) | exact HB.out)⟩⟩
                case round =>
                  clear H'
                  try clear c1
                  try clear p2
                  try clear q2
                  try clear hx2
                  try clear c4
                  try clear c5
                  try clear c6
                  try clear p6
                  try clear c7
                  try clear c8
                  try clear p24
                  try clear q24
                  try clear hx24
                  try clear c43
                  try clear c43b0
                  try clear c45
                  try clear c46
                  try clear c48
                  try clear c49
                  try clear c50
                  try clear c63
                  try clear c63b0
                  try clear c64
                  try clear c64b0
                  try clear p64
                  try clear c66
                  try clear c66b0
                  try clear c67
                  try clear c67b0
                  try clear c68
                  try clear c68b0
                  try clear c69
                  try clear c70
                  try clear c80
                  try clear c80b0
                  try clear c80b1
                  try clear hcz69_0
                  try clear hcz69_1
                  try clear hcz69_2
                  try clear hfz69_0
                  try clear hfz69_1
                  try clear hfz69_2
                  try clear hx241_0
                  try clear hx242_0
                  try clear hx246_0
                  try clear p2
                  try clear p24
                  try clear p241
                  try clear p242
                  try clear p246
                  try clear p6
                  try clear p64
                  try clear q2
                  try clear q24
                  try clear q241
                  try clear q242
                  try clear q246
                  obtain ⟨x12_2, x13_2, x16_2, rfl, HA, HK2, HO_12, HO_13, BK213, HB⟩ := hrel
                  cases gk with
                  | zero => exact absurd HA.out (by simp [impl_crimp.l0])
                  | succ k2 =>
                    have H := HA.out
                    clear HA
                    simp only [impl_crimp.l0] at H
                    by_cases c81 : x16_2 = (Int.tmod (wrap64 ((wrap64 (((rd_T86 t208 0).f0) + t212)) - 1)) t212)
                    · rw [if_pos c81] at H
                      have c81b0 : (x16_2 == (Int.tmod (wrap64 ((wrap64 (((rd_T86 t208 0).f0) + t212)) - 1)) t212)) = true := beq_iff_eq.mpr c81
                      have c81b1 : (x16_2 != (Int.tmod (wrap64 ((wrap64 (((rd_T86 t208 0).f0) + t212)) - 1)) t212)) = false := bne_eq_false_iff_eq.mpr c81
                      clear c81
                      simp only [Option.some.injEq, Prod.mk.injEq] at H
                      obtain ⟨rfl, rfl, rfl⟩ := H
                      go_wp2
                      go_ret3
                      exact ⟨_, _, by first | rfl | (simp [errW_none, errW_some] <;> rfl) | (simp [*, errW_none, errW_some] <;> rfl), by (with_reducible repeat (first | apply Kd.R_alloc | apply Kd.R_drewN | apply Kd.R_drew)); exact HO_12.out, by (with_reducible repeat (first | apply Kd.R_alloc | apply Kd.R_drewN | apply Kd.R_drew)); exact HO_13.out, by repeat (first | (with_reducible first | exact HB.out | apply below_alloc | apply pw_below_drewN | apply below_drew1 | refine below_set ?_ GE213.out) | exact HB.out)⟩
                    · rw [if_neg c81] at H
                      have c81b0 : (x16_2 == (Int.tmod (wrap64 ((wrap64 (((rd_T86 t208 0).f0) + t212)) - 1)) t212)) = false := beq_eq_false_iff_ne.mpr c81
                      have c81b1 : (x16_2 != (Int.tmod (wrap64 ((wrap64 (((rd_T86 t208 0).f0) + t212)) - 1)) t212)) = true := bne_iff_ne.mpr c81
                      by_cases c82 : 0 ≤ x16_2
                      · rw [if_pos c82] at H
                        have c82b0 : decide (0 ≤ x16_2) = true := decide_eq_true c82
                        clear c82
                        by_cases c83 : x16_2 < (l0.length : Int)
                        · rw [if_pos c83] at H
                          have c83b0 : decide (x16_2 < (l0.length : Int)) = true := decide_eq_true c83
                          clear c83
                          by_cases c84 : x12_2.length < 17592186044416
                          · rw [if_pos c84] at H
                            have LMc84 := Aside0.mk c84
                            clear c84
                            obtain ⟨y251, hy251⟩ : ∃ y_ : List Int, y_ = (x12_2 ++ [rd l0 x16_2]) := ⟨_, rfl⟩
                            replace H : (if x16_2 < (l1.length : Int) then (if x13_2.length < 17592186044416 then (if t212 = 0 then (none) else (impl_crimp.l0 k2 l0 l1 t212 (Int.tmod (wrap64 ((wrap64 (((rd_T86 t208 0).f0) + t212)) - 1)) t212) y251 (x13_2 ++ [rd l1 x16_2]) (Int.tmod (wrap64 (x16_2 + 1)) t212))) else (none)) else (none)) = some (r1, r2, r3) := by first | (rw [hy251]; with_reducible exact H) | (have H2_ := (Option.bind_some _ _).symm.trans H; rw [hy251]; with_reducible exact H2_) | (have H2_ := (Option.bind_some _ _).symm.trans H; with_reducible exact H2_) | with_reducible exact H | (rw [hy251]; exact H) | exact H
                            have Ny251 := Aside0.mk hy251
                            clear hy251
                            by_cases c85 : x16_2 < (l1.length : Int)
                            · rw [if_pos c85] at H
                              have c85b0 : decide (x16_2 < (l1.length : Int)) = true := decide_eq_true c85
                              clear c85
                              by_cases c86 : x13_2.length < 17592186044416
                              · rw [if_pos c86] at H
                                have LMc86 := Aside0.mk c86
                                clear c86
                                obtain ⟨y255, hy255⟩ : ∃ y_ : List Int, y_ = (x13_2 ++ [rd l1 x16_2]) := ⟨_, rfl⟩
                                replace H : (if t212 = 0 then (none) else (impl_crimp.l0 k2 l0 l1 t212 (Int.tmod (wrap64 ((wrap64 (((rd_T86 t208 0).f0) + t212)) - 1)) t212) y251 y255 (Int.tmod (wrap64 (x16_2 + 1)) t212))) = some (r1, r2, r3) := by first | (rw [hy255]; with_reducible exact H) | (have H2_ := (Option.bind_some _ _).symm.trans H; rw [hy255]; with_reducible exact H2_) | (have H2_ := (Option.bind_some _ _).symm.trans H; with_reducible exact H2_) | with_reducible exact H | (rw [hy255]; exact H) | exact H
                                have Ny255 := Aside0.mk hy255
                                clear hy255
                                by_cases c87 : t212 = 0
                                · rw [if_pos c87] at H
                                  exact absurd H (by simp)
                                · rw [if_neg c87] at H
                                  have c87b0 : (t212 == 0) = false := beq_eq_false_iff_ne.mpr c87
                                  have c87b1 : (t212 != 0) = true := bne_iff_ne.mpr c87
                                  have H' := Aside0.mk H
                                  clear H
                                  have p250 : 0 ≤ (x16_2 : Int) := of_decide_eq_true (by first | (with_reducible assumption) | assumption)
                                  have q250 : x16_2 < (l0.length : Int) := of_decide_eq_true (by first | (with_reducible assumption) | assumption)
                                  obtain ⟨ad250, e250, hx250_0⟩ := Kd.at_int HR0.out x16_2 p250 q250
                                  cases e250
                                  replace hx250_0 := (HB.out.cell (World.block_lt_of_cell? w _ hx250_0)).trans hx250_0
                                  replace p250 := eq_true p250
                                  replace q250 := eq_true q250
                                  go_wp2_with (first | ((with_reducible refine gate_builtin (b := .append) (xs := #[.tmp 103, .tmp 108]) rfl ?_); at_builtin; refine Kd.R_append (Kd.int .i64) (w0 := w) w.heap.size rfl (.tmp 103) (.tmp 108) 22 2 (.int .i64 0) 8 rfl Try.underlying22 info2 rfl (by decide) (by omega) u12 x12_2 (rd l0 x16_2) [.int .i64 (rd l0 x16_2)] (fun k_ => some k_ ≠ (u13 : Value).ownBlock) (fun _ => False) rfl rfl ?aP (fun _ hk => hk.elim) ?aF ?aO ?aB ?aS ?aL ?_; (case aP => exact rfl); (case aB => exact (by repeat (first | (with_reducible first | exact HB.out | apply below_alloc | apply pw_below_drewN | apply below_drew1 | refine below_set ?_ GE213.out) | exact HB.out))); (case aF => exact (fun k_ hk => Kd.fresh' (Kd.R_lt (by (with_reducible repeat (first | apply Kd.R_alloc | apply Kd.R_drewN | apply Kd.R_drew)); exact HO_13.out)) k_ hk)); (case aO => exact (by (with_reducible repeat (first | apply Kd.R_alloc | apply Kd.R_drewN | apply Kd.R_drew)); exact HO_12.out)); (case aS => exact (below_size (by repeat (first | (with_reducible first | exact HB.out | apply below_alloc | apply pw_below_drewN | apply below_drew1 | refine below_set ?_ GE213.out) | exact HB.out)))); (case aL => have := LMc84.out; omega); intro v252 w88 ho hb hg hat; rw [← Ny251.out] at ho; have n0_ := Aside0.mk (Kd.R_after (ok := (fun _ => True)) (by (with_reducible repeat (first | apply Kd.R_alloc | apply Kd.R_drewN | apply Kd.R_drew)); exact Kd.R_mono HO_13.out (fun _ hk => ⟨trivial, hk⟩)) hg hat); have n1_ := Aside0.mk (blk_grown (g := gb213) (o := .cells #[.int .i64 ((rd_T86 t208 0).f0), .int .i64 ((rd_T86 t208 0).f1), .int .i64 ((rd_T86 t208 0).f2)] 86 (0, 0)) (by (with_reducible repeat (first | refine blk_drewN ?_ _ | refine blk_drew ?_ | refine blk_alloc ?_ _)); exact BK213.out) hg (Kd.R_ne HO_12.out BK213.out (by decide))); have n2_ := Aside0.mk (hb); have n3_ := Aside0.mk (ho); clear HO_13; clear BK213; clear HB; clear HO_12; have HO_13 := n0_; have BK213 := n1_; have HB := n2_; have HO253 := n3_; clear n0_ n1_ n2_ n3_; clear ho hb hg hat; have p254 : 0 ≤ (x16_2 : Int) := of_decide_eq_true (by first | (with_reducible assumption) | assumption); have q254 : x16_2 < (l1.length : Int) := of_decide_eq_true (by first | (with_reducible assumption) | assumption); obtain ⟨ad254, e254, hx254_0⟩ := Kd.at_int HR1.out x16_2 p254 q254; cases e254; replace hx254_0 := (HB.out.cell (World.block_lt_of_cell? w _ hx254_0)).trans hx254_0; replace p254 := eq_true p254; replace q254 := eq_true q254) | ((with_reducible refine gate_builtin (b := .append) (xs := #[.tmp 110, .tmp 115]) rfl ?_); at_builtin; refine Kd.R_append (Kd.int .i64) (w0 := w) w.heap.size rfl (.tmp 110) (.tmp 115) 22 2 (.int .i64 0) 8 rfl Try.underlying22 info2 rfl (by decide) (by omega) u13 x13_2 (rd l1 x16_2) [.int .i64 (rd l1 x16_2)] (fun k_ => some k_ ≠ (v252 : Value).ownBlock) (fun _ => False) rfl rfl ?aP (fun _ hk => hk.elim) ?aF ?aO ?aB ?aS ?aL ?_; (case aP => exact rfl); (case aB => exact (by repeat (first | (with_reducible first | exact HB.out | apply below_alloc | apply pw_below_drewN | apply below_drew1 | refine below_set ?_ GE213.out) | exact HB.out))); (case aF => exact (fun k_ hk => Kd.fresh' (Kd.R_lt (by (with_reducible repeat (first | apply Kd.R_alloc | apply Kd.R_drewN | apply Kd.R_drew)); exact HO253.out)) k_ hk)); (case aO => exact (by (with_reducible repeat (first | apply Kd.R_alloc | apply Kd.R_drewN | apply Kd.R_drew)); exact Kd.R_mono HO_13.out (fun _ hk => hk.2))); (case aS => exact (below_size (by repeat (first | (with_reducible first | exact HB.out | apply below_alloc | apply pw_below_drewN | apply below_drew1 | refine below_set ?_ GE213.out) | exact HB.out)))); (case aL => have := LMc86.out; omega); intro v256 w89 ho hb hg hat; rw [← Ny255.out] at ho; have n0_ := Aside0.mk (blk_grown (g := gb213) (o := .cells #[.int .i64 ((rd_T86 t208 0).f0), .int .i64 ((rd_T86 t208 0).f1), .int .i64 ((rd_T86 t208 0).f2)] 86 (0, 0)) (by (with_reducible repeat (first | refine blk_drewN ?_ _ | refine blk_drew ?_ | refine blk_alloc ?_ _)); exact BK213.out) hg (Kd.R_ne HO_13.out BK213.out (by decide))); have n1_ := Aside0.mk (Kd.R_after (ok := (fun _ => True)) (by (with_reducible repeat (first | apply Kd.R_alloc | apply Kd.R_drewN | apply Kd.R_drew)); exact Kd.R_mono HO253.out (fun _ hk => ⟨trivial, hk⟩)) hg hat); have n2_ := Aside0.mk (hb); have n3_ := Aside0.mk (ho); clear BK213; clear HO253; clear HB; clear HO_13; have BK213 := n0_; have HO253 := n1_; have HB := n2_; have HO257 := n3_; clear n0_ n1_ n2_ n3_; clear ho hb hg hat))
                                  go_roundg k2
                                  case measure => have := HJ11.out; have := HK2.out; omega
                                  case rel => exact ⟨(y251), (y255), (Int.tmod (wrap64 (x16_2 + 1)) t212), (by first | rfl | (simp; done) | (simp [*]; done)), H', ⟨by have := HJ11.out; have := HK2.out; omega⟩, ⟨by (with_reducible repeat (first | apply Kd.R_alloc | apply Kd.R_drewN | apply Kd.R_drew)); exact Kd.R_mono HO253.out (fun _ hk => hk.2)⟩, ⟨by (with_reducible repeat (first | apply Kd.R_alloc | apply Kd.R_drewN | apply Kd.R_drew)); exact HO257.out⟩, ⟨by (with_reducible repeat (first | refine blk_drewN ?_ _ | refine blk_drew ?_ | refine blk_alloc ?_ _)); exact BK213.out⟩, ⟨by repeat (first | (with_reducible first | exact HB.out | apply below_alloc | apply pw_below_drewN | apply below_drew1 | refine below_set ?_ GE213.out) | exact HB.out)⟩⟩
                              · rw [if_neg c86] at H
                                exact absurd H (by simp)
                            · rw [if_neg c85] at H
                              exact absurd H (by simp)
                          · rw [if_neg c84] at H
                            exact absurd H (by simp)
                        · rw [if_neg c83] at H
                          exact absurd H (by simp)
                      · rw [if_neg c82] at H
                        exact absurd H (by simp)
      · replace c10 := Bool.eq_false_iff.mpr c10
        subst c10
        have H1 : (some (([] : List Int), ([] : List Int), 8)) = some (r1, r2, r3) := by rw [if_neg (show ¬ (false = true) by decide)] at H; exact H
        clear H
        have H := H1
        clear H1
        simp only [Option.some.injEq, Prod.mk.injEq] at H
        obtain ⟨rfl, rfl, rfl⟩ := H
        go_enter Try.func48, Try.ntmps48
        try go_wp2_with (first | ((with_reducible refine gate_callee (f := 66) rfl ?_); refine goesL_ (some 18) rfl rfl Try.func66 (by kernel_rfl) rfl #[.slice A0 l0.length c0] rfl (by (try simp only [List.map_toArray, List.map_cons, List.map_nil]); first | done | rfl | (simp only [List.length_drop, List.length_take]; rfl)) ?_; (with_reducible refine (impl_littleRuns.calls k _ _ l0 t208 _ ?side1 ?side2 A3.out).mono ?_); (case side1 => repeat (first | exact HR0.out | (with_reducible refine Kd.C_alloc ?_ _) | (with_reducible refine Kd.C_drewN ?_ _) | (with_reducible refine Kd.C_drew ?_))); (case side2 => exact HC0.out); rintro e w90 ⟨v209, rfl, ho0, hb⟩; refine ⟨_, rfl, ?_⟩; have n0_ := Aside0.mk (Kd.R_lower ho0 (below_size (by repeat (first | (with_reducible first | exact HB.out | apply below_alloc | apply pw_below_drewN | apply below_drew1) | exact HB.out)))); have n1_ := Aside0.mk (below_step (by repeat (first | (with_reducible first | exact HB.out | apply below_alloc | apply pw_below_drewN | apply below_drew1) | exact HB.out)) hb); clear HB; have HO210 := n0_; have HB := n1_; clear n0_ n1_; (try clear hb); (try clear hb2); (try clear hk); (try clear hi); (try clear ho0); obtain ⟨Ao91, co91, eo91⟩ := Kd.R_slice HO210.out; subst eo91))
        have n0_ := Aside0.mk (Kd.R_drew HO210.out)
        have n1_ := Aside0.mk (below_drew1 HB.out)
        clear HO210
        clear HB
        have HO210 := n0_
        have HB := n1_
        clear n0_ n1_
        have p211 : 0 ≤ (0 : Int) := (by omega)
        have q211 : 0 < (t208.length : Int) := of_decide_eq_true (by first | (with_reducible assumption) | assumption)
        obtain ⟨ad211, e211, hx211_0, hx211_1, hx211_2⟩ := at_T86 (Kd.R_reads' HO210.out).2.2 0 p211 q211
        cases e211
        have qi211 : (0 < t208.length) = True := eq_true (by omega)
        (try rw [show ((0 : Int)).toNat = 0 from rfl] at hx211_0)
        (try rw [show 0 * 3 = 0 from rfl] at hx211_0)
        (try rw [Addr.add_zero'] at hx211_0)
        (try rw [show ((0 : Int)).toNat = 0 from rfl] at hx211_1)
        (try rw [show 0 * 3 = 0 from rfl] at hx211_1)
        (try rw [Addr.add_zero'] at hx211_1)
        (try rw [show ((0 : Int)).toNat = 0 from rfl] at hx211_2)
        (try rw [show 0 * 3 = 0 from rfl] at hx211_2)
        (try rw [Addr.add_zero'] at hx211_2)
        replace p211 := eq_true p211
        replace q211 := eq_true q211
        refine start_ (n := 8) (S := fun w' => w'.cell? ad211 = some (.int .i64 ((rd_T86 t208 0).f0)) ∧ w'.cell? ⟨ad211.block, ad211.off + 1, none⟩ = some (.int .i64 ((rd_T86 t208 0).f1)) ∧ w'.cell? ⟨ad211.block, ad211.off + 2, none⟩ = some (.int .i64 ((rd_T86 t208 0).f2))) (ds := []) #[false, false, false, false, false, false, false, false] (by kernel_rfl) rfl rfl ⟨hx211_0, hx211_1, hx211_2⟩ (fun hHeld => ?_); refine with_tabW impl_crimp.tab4 impl_crimp.bits4 (fun HT_ HW_ => ?_)
        generalize w90.drew = w92 at HO210 HB hx211_0 hx211_1 hx211_2 hHeld ⊢
        refine pure_ (i := 0) (N := some 22) (v := ?_) (a' := ?_) #[true, false, false, false, false, false, false, false] rfl rfl (any_of HT_.out (by kernel_rfl)) (fun _ _ _ h => h) (Or.inl ⟨by rfl, ?_⟩) ?_ ?_
        rotate_left
        · intro w'
          go_simp
          with_reducible rfl
        rotate_left
        · simp only [Act.put, List.setIfInBounds_toArray, List.set_cons_zero, List.set_cons_succ, i64_w, i32_w]
          rfl
        refine pure_ (i := 1) (N := some 23) (v := ?_) (a' := ?_) #[true, true, false, false, false, false, false, false] rfl rfl (any_of HT_.out (by kernel_rfl)) (fun _ _ _ h => h) (Or.inl ⟨by rfl, ?_⟩) ?_ ?_
        rotate_left
        · intro w'
          go_simp
          with_reducible rfl
        rotate_left
        · simp only [Act.put, List.setIfInBounds_toArray, List.set_cons_zero, List.set_cons_succ, i64_w, i32_w]
          rfl
        refine pure_ (i := 3) (N := some 25) (v := ?_) (a' := ?_) #[true, true, false, true, false, false, false, false] rfl rfl (any_of HT_.out (by kernel_rfl)) (fun _ _ _ h => h) (Or.inl ⟨by rfl, ?_⟩) ?_ ?_
        rotate_left
        · intro w'
          go_simp
          with_reducible rfl
        rotate_left
        · simp only [Act.put, List.setIfInBounds_toArray, List.set_cons_zero, List.set_cons_succ, i64_w, i32_w]
          rfl
        refine take_ (i := 2) (N := some 24) (v := ?_) (a' := ?_) #[true, true, true, true, false, false, false, false] rfl rfl (take_ofW HT_.out HW_.out (by kernel_rfl)) (fun _ _ _ h => h) (Or.inl ⟨by rfl, ?_⟩) hHeld ?_ ?_
        rotate_left
        · rintro w' ⟨s0, s1, s2⟩
          go_simp
          with_reducible rfl
        rotate_left
        · simp only [Act.put, List.setIfInBounds_toArray, List.set_cons_zero, List.set_cons_succ, i64_w, i32_w]
          rfl
        refine join_ (σ := Nat) 2 #[true, true, true, true, true, true, false, false] (fun s_ => [(26, .int .i64 t212), (8, .pointer (some ⟨s_, 0, none⟩))]) (fun s_ w' => (w'.cell? ad211 = some (.int .i64 ((rd_T86 t208 0).f0)) ∧ w'.cell? ⟨ad211.block, ad211.off + 1, none⟩ = some (.int .i64 ((rd_T86 t208 0).f1)) ∧ w'.cell? ⟨ad211.block, ad211.off + 2, none⟩ = some (.int .i64 ((rd_T86 t208 0).f2))) ∧ (Kd.R k86 86 w' w.heap.size (fun k_ => k_ ≠ s_) (.slice (some ad211) t208.length co91) t208) ∧ (w'.heap[s_]? = some (.cells #[.int .i64 0, .int .i64 0, .int .i64 0] 86 (0, 0))) ∧ (w.heap.size ≤ s_) ∧ (w.heap.size ≤ s_) ∧ (Below w.heap.size w w')) ?_ ?_
        rotate_left
        · intro hCont
          refine two_ (i := 4) (j := 5) (Ni := some 26) (Nj := some 8) #[true, true, true, true, true, false, false, false] #[true, true, true, true, false, true, false, false] rfl rfl rfl rfl (two_of HT_.out (by kernel_rfl)) (by decide) (by decide) (fun K hK => ?_) (fun K hK => ?_)
          · skip
            refine goes_ Try.func29 (by kernel_rfl) rfl #[.slice A0 l0.length c0] (by rfl) rfl rfl (by (try simp only [List.map_toArray, List.map_cons, List.map_nil]); first | done | rfl | (simp only [List.length_drop, List.length_take]; rfl)) ?_
            with_reducible refine (impl_length_int64.calls _ _ l0 t212 _ ?side1 ?side2 A8.out).mono ?_
            (case side1 => repeat (first | exact (Kd.C_below HR0.out HB.out) | (with_reducible refine Kd.C_alloc ?_ _) | (with_reducible refine Kd.C_drewN ?_ _) | (with_reducible refine Kd.C_drew ?_)))
            (case side2 => exact HC0.out)
            rintro e w' ⟨rfl, ⟨nd, rfl⟩⟩
            refine ⟨_, rfl, ?_⟩
            refine hK.out _ _ ⟨hHeld.1, hHeld.2.1, hHeld.2.2⟩ (fun hHeld => ?_)
            clear hK K
            refine norm_ (a' := ?_) ?_ ?_
            rotate_left
            · show Act.put _ (some 26) _ = _
              simp only [Act.put, List.setIfInBounds_toArray, List.set_cons_zero, List.set_cons_succ, i64_w, i32_w]
              rfl
            refine one_ (i := 5) (N := some 8) #[true, true, true, true, true, true, false, false] rfl rfl (one_of HT_.out (by kernel_rfl)) (by decide) (fun K hK => ?_)
            refine box_step ?hg (N := 8) ?hd (cs := #[.int .i64 0, .int .i64 0, .int .i64 0]) (t := 86) ?hr ?_; (case hd => rfl); (case hg => rfl); (case hr => first | (go_simp; done) | (go_simp; rfl))
            intro gb213 hg w93 hbox hb
            have HS0_ := (hb.cell (World.block_lt_of_cell? _ _ (hHeld.1))).trans (hHeld.1)
            have HS1_ := (hb.cell (World.block_lt_of_cell? _ _ (hHeld.2.1))).trans (hHeld.2.1)
            have HS2_ := (hb.cell (World.block_lt_of_cell? _ _ (hHeld.2.2))).trans (hHeld.2.2)
            have n0_ := Aside0.mk (Kd.R_below (Kd.R_elderB (by (with_reducible repeat (first | apply Kd.R_alloc | apply Kd.R_drewN | apply Kd.R_drew)); exact HO210.out) gb213 (Nat.le_of_eq hg.symm)) hb)
            have n1_ := Aside0.mk (below_step (by repeat (first | (with_reducible first | exact HB.out | apply below_alloc | apply pw_below_drewN | apply below_drew1) | exact HB.out)) hb)
            have n2_ := Aside0.mk (hbox)
            have n3_ := Aside0.mk ((by rw [hg]; exact (below_size (by repeat (first | (with_reducible first | exact HB.out | apply below_alloc | apply pw_below_drewN | apply below_drew1) | exact HB.out))) : w.heap.size ≤ gb213))
            have n4_ := Aside0.mk ((by rw [hg]; exact (below_size (by repeat (first | (with_reducible first | exact HB.out | apply below_alloc | apply pw_below_drewN | apply below_drew1) | exact HB.out))) : w.heap.size ≤ gb213))
            clear HO210
            clear HB
            have HO210 := n0_
            have HB := n1_
            have BK213 := n2_
            have GW213 := n3_
            have GE213 := n4_
            clear n0_ n1_ n2_ n3_ n4_
            clear hb hbox hg
            refine hK.out _ _ ⟨HS0_, HS1_, HS2_⟩ (fun hHeld => ?_)
            clear hK K
            refine norm_ (a' := ?_) ?_ ?_
            rotate_left
            · show Act.put _ (some 8) _ = _
              simp only [Act.put, List.setIfInBounds_toArray, List.set_cons_zero, List.set_cons_succ, i64_w, i32_w]
              rfl
            exact norm_ (by simp only [putAll, Act.put, List.setIfInBounds_toArray, List.set_cons_zero, List.set_cons_succ]) (hCont (gb213) _ ⟨hHeld, (by (with_reducible repeat (first | apply Kd.R_alloc | apply Kd.R_drewN | apply Kd.R_drew)); exact Kd.R_mono HO210.out (fun _ hk => hk.2)), (by (with_reducible repeat (first | refine blk_drewN ?_ _ | refine blk_drew ?_ | refine blk_alloc ?_ _)); exact BK213.out), GW213.out, GE213.out, (by repeat (first | (with_reducible first | exact HB.out | apply below_alloc | apply pw_below_drewN | apply below_drew1 | refine below_set ?_ GE213.out) | exact HB.out))⟩)
          · skip
            refine box_step ?hg (N := 8) ?hd (cs := #[.int .i64 0, .int .i64 0, .int .i64 0]) (t := 86) ?hr ?_; (case hd => rfl); (case hg => rfl); (case hr => first | (go_simp; done) | (go_simp; rfl))
            intro gb213 hg w93 hbox hb
            have HS0_ := (hb.cell (World.block_lt_of_cell? _ _ (hHeld.1))).trans (hHeld.1)
            have HS1_ := (hb.cell (World.block_lt_of_cell? _ _ (hHeld.2.1))).trans (hHeld.2.1)
            have HS2_ := (hb.cell (World.block_lt_of_cell? _ _ (hHeld.2.2))).trans (hHeld.2.2)
            have n0_ := Aside0.mk (Kd.R_below (Kd.R_elderB (by (with_reducible repeat (first | apply Kd.R_alloc | apply Kd.R_drewN | apply Kd.R_drew)); exact HO210.out) gb213 (Nat.le_of_eq hg.symm)) hb)
            have n1_ := Aside0.mk (below_step (by repeat (first | (with_reducible first | exact HB.out | apply below_alloc | apply pw_below_drewN | apply below_drew1) | exact HB.out)) hb)
            have n2_ := Aside0.mk (hbox)
            have n3_ := Aside0.mk ((by rw [hg]; exact (below_size (by repeat (first | (with_reducible first | exact HB.out | apply below_alloc | apply pw_below_drewN | apply below_drew1) | exact HB.out))) : w.heap.size ≤ gb213))
            have n4_ := Aside0.mk ((by rw [hg]; exact (below_size (by repeat (first | (with_reducible first | exact HB.out | apply below_alloc | apply pw_below_drewN | apply below_drew1) | exact HB.out))) : w.heap.size ≤ gb213))
            clear HO210
            clear HB
            have HO210 := n0_
            have HB := n1_
            have BK213 := n2_
            have GW213 := n3_
            have GE213 := n4_
            clear n0_ n1_ n2_ n3_ n4_
            clear hb hbox hg
            refine hK.out _ _ ⟨HS0_, HS1_, HS2_⟩ (fun hHeld => ?_)
            clear hK K
            refine norm_ (a' := ?_) ?_ ?_
            rotate_left
            · show Act.put _ (some 8) _ = _
              simp only [Act.put, List.setIfInBounds_toArray, List.set_cons_zero, List.set_cons_succ, i64_w, i32_w]
              rfl
            refine one_ (i := 4) (N := some 26) #[true, true, true, true, true, true, false, false] rfl rfl (one_of HT_.out (by kernel_rfl)) (by decide) (fun K hK => ?_)
            refine goes_ Try.func29 (by kernel_rfl) rfl #[.slice A0 l0.length c0] (by rfl) rfl rfl (by (try simp only [List.map_toArray, List.map_cons, List.map_nil]); first | done | rfl | (simp only [List.length_drop, List.length_take]; rfl)) ?_
            with_reducible refine (impl_length_int64.calls _ _ l0 t212 _ ?side1 ?side2 A8.out).mono ?_
            (case side1 => repeat (first | exact (Kd.C_below HR0.out HB.out) | (with_reducible refine Kd.C_alloc ?_ _) | (with_reducible refine Kd.C_drewN ?_ _) | (with_reducible refine Kd.C_drew ?_)))
            (case side2 => exact HC0.out)
            rintro e w' ⟨rfl, ⟨nd, rfl⟩⟩
            refine ⟨_, rfl, ?_⟩
            refine hK.out _ _ ⟨hHeld.1, hHeld.2.1, hHeld.2.2⟩ (fun hHeld => ?_)
            clear hK K
            refine norm_ (a' := ?_) ?_ ?_
            rotate_left
            · show Act.put _ (some 26) _ = _
              simp only [Act.put, List.setIfInBounds_toArray, List.set_cons_zero, List.set_cons_succ, i64_w, i32_w]
              rfl
            exact norm_ (by simp only [putAll, Act.put, List.setIfInBounds_toArray, List.set_cons_zero, List.set_cons_succ]) (hCont (gb213) _ ⟨hHeld, (by (with_reducible repeat (first | apply Kd.R_alloc | apply Kd.R_drewN | apply Kd.R_drew)); exact Kd.R_mono HO210.out (fun _ hk => hk.2)), (by (with_reducible repeat (first | refine blk_drewN ?_ _ | refine blk_drew ?_ | refine blk_alloc ?_ _)); exact BK213.out), GW213.out, GE213.out, (by repeat (first | (with_reducible first | exact HB.out | apply below_alloc | apply pw_below_drewN | apply below_drew1 | refine below_set ?_ GE213.out) | exact HB.out))⟩)
        rintro gb213 w94 ⟨hS_, h0_, h1_, h2_, h3_, h4_⟩
        have n0_ : Aside0 (Kd.R k86 86 w94 w.heap.size (fun k_ => k_ ≠ gb213) (.slice (some ad211) t208.length co91) t208) := ⟨h0_⟩
        have n1_ : Aside0 (w94.heap[gb213]? = some (.cells #[.int .i64 0, .int .i64 0, .int .i64 0] 86 (0, 0))) := ⟨h1_⟩
        have n2_ : Aside0 (w.heap.size ≤ gb213) := ⟨h2_⟩
        have n3_ : Aside0 (w.heap.size ≤ gb213) := ⟨h3_⟩
        have n4_ : Aside0 (Below w.heap.size w w94) := ⟨h4_⟩
        clear HO210
        clear HB
        clear h0_ h1_ h2_ h3_ h4_
        have HO210 := n0_
        have BK213 := n1_
        have GW213 := n2_
        have GE213 := n3_
        have HB := n4_
        clear n0_ n1_ n2_ n3_ n4_
        have hHeld : w94.cell? ad211 = some (.int .i64 ((rd_T86 t208 0).f0)) ∧ w94.cell? ⟨ad211.block, ad211.off + 1, none⟩ = some (.int .i64 ((rd_T86 t208 0).f1)) ∧ w94.cell? ⟨ad211.block, ad211.off + 2, none⟩ = some (.int .i64 ((rd_T86 t208 0).f2)) := hS_
        refine norm_ (a' := ?_) ?_ ?_
        rotate_left
        · simp only [putAll, Act.put, List.setIfInBounds_toArray, List.set_cons_zero, List.set_cons_succ]
          rfl
        refine one_ (i := 6) (N := none) #[true, true, true, true, true, true, true, false] rfl rfl (one_of HT_.out (by kernel_rfl)) (by decide) (fun K hK => ?_)
        have hs95 : w94.cell? ⟨gb213, 0, none⟩ = some (.int .i64 0) := (blk_cell BK213.out 0).trans rfl
        have hfs95 := blk_frozen BK213.out 0
        have hs96 : w94.cell? ⟨gb213, 1, none⟩ = some (.int .i64 0) := (blk_cell BK213.out 1).trans rfl
        have hfs96 := blk_frozen BK213.out 1
        have hs97 : w94.cell? ⟨gb213, 2, none⟩ = some (.int .i64 0) := (blk_cell BK213.out 2).trans rfl
        have hfs97 := blk_frozen BK213.out 2
        refine skip_ (w1 := ?_) (by rfl) rfl ?_ ?_
        rotate_left
        · go_simp
          rfl
        refine hK.out _ _ ⟨((cell_far (p := ⟨gb213, _, none⟩) (by first | exact Kd.own_blk (Kd.R_away HO210.out (fun _ hk => hk)) | (rw [add_block]; exact Kd.own_blk (Kd.R_away HO210.out (fun _ hk => hk))) | (show (Addr.add _ _).block ≠ _; rw [add_block]; exact Kd.own_blk (Kd.R_away HO210.out (fun _ hk => hk))) | (dsimp only; exact Kd.own_blk (Kd.R_away HO210.out (fun _ hk => hk)))) _).trans (((cell_far (p := ⟨gb213, _, none⟩) (by first | exact Kd.own_blk (Kd.R_away HO210.out (fun _ hk => hk)) | (rw [add_block]; exact Kd.own_blk (Kd.R_away HO210.out (fun _ hk => hk))) | (show (Addr.add _ _).block ≠ _; rw [add_block]; exact Kd.own_blk (Kd.R_away HO210.out (fun _ hk => hk))) | (dsimp only; exact Kd.own_blk (Kd.R_away HO210.out (fun _ hk => hk)))) _).trans (((cell_far (p := ⟨gb213, _, none⟩) (by first | exact Kd.own_blk (Kd.R_away HO210.out (fun _ hk => hk)) | (rw [add_block]; exact Kd.own_blk (Kd.R_away HO210.out (fun _ hk => hk))) | (show (Addr.add _ _).block ≠ _; rw [add_block]; exact Kd.own_blk (Kd.R_away HO210.out (fun _ hk => hk))) | (dsimp only; exact Kd.own_blk (Kd.R_away HO210.out (fun _ hk => hk)))) _).trans (hHeld.1)))))), ((cell_far (p := ⟨gb213, _, none⟩) (by first | exact Kd.own_blk (Kd.R_away HO210.out (fun _ hk => hk)) | (rw [add_block]; exact Kd.own_blk (Kd.R_away HO210.out (fun _ hk => hk))) | (show (Addr.add _ _).block ≠ _; rw [add_block]; exact Kd.own_blk (Kd.R_away HO210.out (fun _ hk => hk))) | (dsimp only; exact Kd.own_blk (Kd.R_away HO210.out (fun _ hk => hk)))) _).trans (((cell_far (p := ⟨gb213, _, none⟩) (by first | exact Kd.own_blk (Kd.R_away HO210.out (fun _ hk => hk)) | (rw [add_block]; exact Kd.own_blk (Kd.R_away HO210.out (fun _ hk => hk))) | (show (Addr.add _ _).block ≠ _; rw [add_block]; exact Kd.own_blk (Kd.R_away HO210.out (fun _ hk => hk))) | (dsimp only; exact Kd.own_blk (Kd.R_away HO210.out (fun _ hk => hk)))) _).trans (((cell_far (p := ⟨gb213, _, none⟩) (by first | exact Kd.own_blk (Kd.R_away HO210.out (fun _ hk => hk)) | (rw [add_block]; exact Kd.own_blk (Kd.R_away HO210.out (fun _ hk => hk))) | (show (Addr.add _ _).block ≠ _; rw [add_block]; exact Kd.own_blk (Kd.R_away HO210.out (fun _ hk => hk))) | (dsimp only; exact Kd.own_blk (Kd.R_away HO210.out (fun _ hk => hk)))) _).trans (hHeld.2.1)))))), ((cell_far (p := ⟨gb213, _, none⟩) (by first | exact Kd.own_blk (Kd.R_away HO210.out (fun _ hk => hk)) | (rw [add_block]; exact Kd.own_blk (Kd.R_away HO210.out (fun _ hk => hk))) | (show (Addr.add _ _).block ≠ _; rw [add_block]; exact Kd.own_blk (Kd.R_away HO210.out (fun _ hk => hk))) | (dsimp only; exact Kd.own_blk (Kd.R_away HO210.out (fun _ hk => hk)))) _).trans (((cell_far (p := ⟨gb213, _, none⟩) (by first | exact Kd.own_blk (Kd.R_away HO210.out (fun _ hk => hk)) | (rw [add_block]; exact Kd.own_blk (Kd.R_away HO210.out (fun _ hk => hk))) | (show (Addr.add _ _).block ≠ _; rw [add_block]; exact Kd.own_blk (Kd.R_away HO210.out (fun _ hk => hk))) | (dsimp only; exact Kd.own_blk (Kd.R_away HO210.out (fun _ hk => hk)))) _).trans (((cell_far (p := ⟨gb213, _, none⟩) (by first | exact Kd.own_blk (Kd.R_away HO210.out (fun _ hk => hk)) | (rw [add_block]; exact Kd.own_blk (Kd.R_away HO210.out (fun _ hk => hk))) | (show (Addr.add _ _).block ≠ _; rw [add_block]; exact Kd.own_blk (Kd.R_away HO210.out (fun _ hk => hk))) | (dsimp only; exact Kd.own_blk (Kd.R_away HO210.out (fun _ hk => hk)))) _).trans (hHeld.2.2))))))⟩ (fun hHeld => ?_)
        clear hK K
        refine pure_ (i := 7) (N := some 9) (v := ?_) (a' := ?_) #[true, true, true, true, true, true, true, true] rfl rfl (any_of HT_.out (by kernel_rfl)) (fun _ _ _ h => h) (Or.inl ⟨by rfl, ?_⟩) ?_ ?_
        rotate_left
        · intro w'
          go_simp
          with_reducible rfl
        rotate_left
        · simp only [Act.put, List.setIfInBounds_toArray, List.set_cons_zero, List.set_cons_succ, i64_w, i32_w]
          rfl
        refine done_ (done_of HT_.out (by kernel_rfl)) ?_
        have hcz98_0 : w94.cell? ⟨gb213, 0, none⟩ = some (.int .i64 0) := (blk_cell BK213.out 0).trans rfl
        have hcz98_1 : w94.cell? ⟨gb213, 1, none⟩ = some (.int .i64 0) := (blk_cell BK213.out 1).trans rfl
        have hcz98_2 : w94.cell? ⟨gb213, 2, none⟩ = some (.int .i64 0) := (blk_cell BK213.out 2).trans rfl
        have hfz98_0 := blk_frozen BK213.out 0
        have hfz98_1 := blk_frozen BK213.out 1
        have hfz98_2 := blk_frozen BK213.out 2
        try go_wp2_with (first | ((with_reducible refine gate_callee (f := 67) rfl ?_); refine goesL_ (some 29) rfl rfl Try.func67 (by kernel_rfl) rfl #[.agg #[.int .i64 ((rd_T86 t208 0).f0), .int .i64 ((rd_T86 t208 0).f1), .int .i64 ((rd_T86 t208 0).f2)], .slice A1 l1.length c1] rfl (by (try simp only [List.map_toArray, List.map_cons, List.map_nil]); first | done | rfl | (simp only [List.length_drop, List.length_take]; rfl)) ?_; (with_reducible refine (impl_isBalanced.calls k ((rd_T86 t208 0).f0) ((rd_T86 t208 0).f1) ((rd_T86 t208 0).f2) _ _ l1 false _ ?side1 ?side2 A9.out).mono ?_); (case side1 => exact Kd.C_below HR1.out (by repeat (first | (with_reducible first | exact HB.out | apply below_alloc | apply pw_below_drewN | apply below_drew1 | refine below_set ?_ GE213.out) | exact HB.out))); (case side2 => exact HC1.out); rintro e w99 ⟨rfl, hb⟩; refine ⟨_, rfl, ?_⟩; have n0_ := Aside0.mk (Kd.R_below (by (with_reducible repeat (first | apply Kd.R_alloc | apply Kd.R_drewN | apply Kd.R_drew)); exact (Kd.R_mono (Kd.R_far (p := ⟨gb213, 2, none⟩) (Kd.R_far (p := ⟨gb213, 1, none⟩) (Kd.R_far (p := ⟨gb213, 0, none⟩) (Kd.R_mono HO210.out (fun k_ hk => (⟨hk, hk⟩ : _ ∧ k_ ≠ gb213))) (fun _ hk => hk.2) (.int .i64 ((rd_T86 t208 0).f0))) (fun _ hk => hk.2) (.int .i64 ((rd_T86 t208 0).f1))) (fun _ hk => hk.2) (.int .i64 ((rd_T86 t208 0).f2))) (fun _ h_ => h_.1))) hb); have n1_ := Aside0.mk (blk_below (g := gb213) (o := .cells #[.int .i64 ((rd_T86 t208 0).f0), .int .i64 ((rd_T86 t208 0).f1), .int .i64 ((rd_T86 t208 0).f2)] 86 (0, 0)) (by (with_reducible repeat (first | refine blk_drewN ?_ _ | refine blk_drew ?_ | refine blk_alloc ?_ _)); refine blk_put (cs := #[.int .i64 ((rd_T86 t208 0).f0), .int .i64 ((rd_T86 t208 0).f1), .int .i64 0]) ?_ 2 _ rfl; (with_reducible repeat (first | refine blk_drewN ?_ _ | refine blk_drew ?_ | refine blk_alloc ?_ _)); refine blk_put (cs := #[.int .i64 ((rd_T86 t208 0).f0), .int .i64 0, .int .i64 0]) ?_ 1 _ rfl; (with_reducible repeat (first | refine blk_drewN ?_ _ | refine blk_drew ?_ | refine blk_alloc ?_ _)); refine blk_put (cs := #[.int .i64 0, .int .i64 0, .int .i64 0]) ?_ 0 _ rfl; (with_reducible repeat (first | refine blk_drewN ?_ _ | refine blk_drew ?_ | refine blk_alloc ?_ _)); exact BK213.out) hb); have n2_ := Aside0.mk (below_step (by repeat (first | (with_reducible first | exact HB.out | apply below_alloc | apply pw_below_drewN | apply below_drew1 | refine below_set ?_ GE213.out) | exact HB.out)) hb); clear HO210; clear BK213; clear HB; have HO210 := n0_; have BK213 := n1_; have HB := n2_; clear n0_ n1_ n2_; (try clear hb); (try clear hb2); (try clear hk); (try clear hi)))
        go_ret3
        exact ⟨_, _, by first | rfl | (simp [errW_none, errW_some] <;> rfl) | (simp [*, errW_none, errW_some] <;> rfl), by first | exact Kd.R_nil _ _ _ _ _ | exact Kd.N_nil _ _ _ _ _ | exact Kd.V_nil _ _ _ _ _ | exact Kd.Q_nil _ _ _ _ _ | exact Kd.S_nil _ _ _ _ _, by first | exact Kd.R_nil _ _ _ _ _ | exact Kd.N_nil _ _ _ _ _ | exact Kd.V_nil _ _ _ _ _ | exact Kd.Q_nil _ _ _ _ _ | exact Kd.S_nil _ _ _ _ _, by repeat (first | (with_reducible first | exact HB.out | apply below_alloc | apply pw_below_drewN | apply below_drew1 | refine below_set ?_ GE213.out) | exact HB.out)⟩
    · rw [if_neg c7] at H
      exact absurd H (by simp)

end Go.Proofs.Ytakpnhlkalbcoaa.PFnExactCountAssignments
