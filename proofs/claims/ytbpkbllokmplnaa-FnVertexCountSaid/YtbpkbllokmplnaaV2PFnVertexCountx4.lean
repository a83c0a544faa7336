-- Printed for this claim by this session's program pp.py, which drives the kit's print with additions. Not trusted: Lean checks it.
import Derived.Test.YtbpkbllokmplnaaV2PFnVertexCountx0
import Derived.Test.YtbpkbllokmplnaaV2PFnVertexCountx1
import Derived.Test.YtbpkbllokmplnaaV2PFnVertexCountx2
import Derived.Test.YtbpkbllokmplnaaV2PFnVertexCountx3
namespace Go.Proofs.Ytbpkbllokmplnaa.PFnVertexCount
open Go.RowKit Go.Proofs.YtbpkbllokmplnaaW.PrintWords Go.Proofs.YtbpkbllokmplnaaW.PrintLast Go.Proofs.YtbpkbllokmplnaaW.PrintMore
attribute [local go_sem] max2_int min2_int max_two min_two znE zuB max_four min_four   -- for this text's walks alone
set_option linter.unusedVariables false
set_option linter.unusedSimpArgs false

mutual
def zzB.j0 : Nat → List Int → List Int → Int → Int → Int → List Int → List Int → Option (List Int × List Int × Int)
 | 0, _, _, _, _, _, _, _ => none
 | k + 1, x0, x1, x9, x10, x11, x12, x13 => if x9 = 0 then (none) else (zzB.l0 k x0 x1 x9 x10 x12 x13 (Int.tmod (wrap64 (x11 + 1)) x9))
def zzB.l0 : Nat → List Int → List Int → Int → Int → List Int → List Int → Int → Option (List Int × List Int × Int)
 | 0, _, _, _, _, _, _, _ => none
 | k + 1, x0, x1, x9, x10, x12, x13, x16 => if x16 = x10 then (some (x12, x13, 0)) else (if 0 ≤ x16 then (if x16 < (x0.length : Int) then (if x12.length < 17592186044416 then (if x16 < (x1.length : Int) then (if x13.length < 17592186044416 then (if x9 = 0 then (none) else (zzB.l0 k x0 x1 x9 x10 (x12 ++ [rd x0 x16]) (x13 ++ [rd x1 x16]) (Int.tmod (wrap64 (x16 + 1)) x9))) else (none)) else (none)) else (none)) else (none)) else (none))
end
def zzB.f (k : Nat) (l0 : List Int) (l1 : List Int) : Option (List Int × List Int × Int) := (zpB.f k l0).bind fun t142 => (if (t142.length : Int) = 0 then (some (([] : List Int), ([] : List Int), 6)) else (if 0 < (t142.length : Int) then ((zfN.f l0).bind fun t146 => ((zbF.f k ((zwR t142 0).f0) ((zwR t142 0).f1) ((zwR t142 0).f2) l1).bind fun t148 => (if t148 = true then (if t146 = 0 then (none) else (if (Int.tmod ((zwR t142 0).f1) 2) = 1 then (if 0 ≤ (Int.tmod (wrap64 ((wrap64 (((zwR t142 0).f0) + t146)) - 1)) t146) then (if (Int.tmod (wrap64 ((wrap64 (((zwR t142 0).f0) + t146)) - 1)) t146) < (l0.length : Int) then (if 0 ≤ (Int.tmod (wrap64 (((zwR t142 0).f0) + ((zwR t142 0).f1))) t146) then (if (Int.tmod (wrap64 (((zwR t142 0).f0) + ((zwR t142 0).f1))) t146) < (l0.length : Int) then (if (Int.tmod (wrap64 ((wrap64 (((zwR t142 0).f0) + t146)) - 1)) t146) < (l1.length : Int) then (zzB.j0 k l0 l1 t146 (Int.tmod (wrap64 ((wrap64 (((zwR t142 0).f0) + t146)) - 1)) t146) (Int.tmod (wrap64 (((zwR t142 0).f0) + ((zwR t142 0).f1))) t146) (([wrap64 ((wrap64 ((rd l0 (Int.tmod (wrap64 ((wrap64 (((zwR t142 0).f0) + t146)) - 1)) t146)) - ((zwR t142 0).f2))) + (rd l0 (Int.tmod (wrap64 (((zwR t142 0).f0) + ((zwR t142 0).f1))) t146)))] : List Int)) (([rd l1 (Int.tmod (wrap64 ((wrap64 (((zwR t142 0).f0) + t146)) - 1)) t146)] : List Int))) else (none)) else (none)) else (none)) else (none)) else (none)) else ((zgK.f k ((zwR t142 0).f0) ((zwR t142 0).f1) ((zwR t142 0).f2) t146).bind fun t158 => ((zrS.f k l1 t158).bind fun t161 => ((zeT.f k t161 3).bind fun t164 => ((zeT.f k t161 2).bind fun t165 => (if t164 > t165 then (if 0 ≤ (Int.tmod (wrap64 ((wrap64 (((zwR t142 0).f0) + t146)) - 1)) t146) then (if (Int.tmod (wrap64 ((wrap64 (((zwR t142 0).f0) + t146)) - 1)) t146) < (l0.length : Int) then (if 0 ≤ (Int.tmod (wrap64 (((zwR t142 0).f0) + ((zwR t142 0).f1))) t146) then (if (Int.tmod (wrap64 (((zwR t142 0).f0) + ((zwR t142 0).f1))) t146) < (l0.length : Int) then (if (Int.tmod (wrap64 ((wrap64 (((zwR t142 0).f0) + t146)) - 1)) t146) < (l1.length : Int) then (zzB.j0 k l0 l1 t146 (Int.tmod (wrap64 ((wrap64 (((zwR t142 0).f0) + t146)) - 1)) t146) (Int.tmod (wrap64 (((zwR t142 0).f0) + ((zwR t142 0).f1))) t146) (([rd l0 (Int.tmod (wrap64 ((wrap64 (((zwR t142 0).f0) + t146)) - 1)) t146), rd l0 (Int.tmod (wrap64 (((zwR t142 0).f0) + ((zwR t142 0).f1))) t146)] : List Int)) (([rd l1 (Int.tmod (wrap64 ((wrap64 (((zwR t142 0).f0) + t146)) - 1)) t146), 3] : List Int))) else (none)) else (none)) else (none)) else (none)) else (none)) else (if 0 ≤ (Int.tmod (wrap64 ((wrap64 (((zwR t142 0).f0) + t146)) - 1)) t146) then (if (Int.tmod (wrap64 ((wrap64 (((zwR t142 0).f0) + t146)) - 1)) t146) < (l0.length : Int) then (if 0 ≤ (Int.tmod (wrap64 (((zwR t142 0).f0) + ((zwR t142 0).f1))) t146) then (if (Int.tmod (wrap64 (((zwR t142 0).f0) + ((zwR t142 0).f1))) t146) < (l0.length : Int) then (if (Int.tmod (wrap64 ((wrap64 (((zwR t142 0).f0) + t146)) - 1)) t146) < (l1.length : Int) then (zzB.j0 k l0 l1 t146 (Int.tmod (wrap64 ((wrap64 (((zwR t142 0).f0) + t146)) - 1)) t146) (Int.tmod (wrap64 (((zwR t142 0).f0) + ((zwR t142 0).f1))) t146) (([rd l0 (Int.tmod (wrap64 ((wrap64 (((zwR t142 0).f0) + t146)) - 1)) t146), rd l0 (Int.tmod (wrap64 (((zwR t142 0).f0) + ((zwR t142 0).f1))) t146)] : List Int)) (([rd l1 (Int.tmod (wrap64 ((wrap64 (((zwR t142 0).f0) + t146)) - 1)) t146), 2] : List Int))) else (none)) else (none)) else (none)) else (none)) else (none))))))))) else (some (([] : List Int), ([] : List Int), 8))))) else (none)))
theorem zzB.mono_l : ∀ k, (∀ y0 y1 y2 y3 y4 y5 y6, LeO (zzB.j0 k y0 y1 y2 y3 y4 y5 y6) (zzB.j0 (k + 1) y0 y1 y2 y3 y4 y5 y6)) ∧ (∀ y0 y1 y2 y3 y4 y5 y6, LeO (zzB.l0 k y0 y1 y2 y3 y4 y5 y6) (zzB.l0 (k + 1) y0 y1 y2 y3 y4 y5 y6))
 | 0 => ⟨fun _ _ _ _ _ _ _ r h => by simp [zzB.j0] at h, fun _ _ _ _ _ _ _ r h => by simp [zzB.l0] at h⟩
 | k + 1 => by
  obtain ⟨ih0, ih1⟩ := zzB.mono_l k
  refine ⟨?_, ?_⟩
  ·intro y0 y1 y2 y3 y4 y5 y6
   unfold zzB.j0
   repeat' first
   | (with_reducible exact ih0 _ _ _ _ _ _ _)
   | (with_reducible exact ih1 _ _ _ _ _ _ _)
   | (with_reducible exact zrS.mono _ _ _)
   | (with_reducible exact zeT.mono _ _ _)
   | (with_reducible exact zgK.mono _ _ _ _ _)
   | (with_reducible exact zbF.mono _ _ _ _ _)
   | (with_reducible exact zpB.mono _ _)
   | (with_reducible exact LeO.refl _)
   | (with_reducible exact LeO.none _)
   | (with_reducible refine LeO.ite ?_ ?_)
   | (with_reducible refine LeO.bind ?_ (fun _ => ?_))
   | exact ih0 _ _ _ _ _ _ _
   | exact ih1 _ _ _ _ _ _ _
   | exact zrS.mono _ _ _
   | exact zeT.mono _ _ _
   | exact zgK.mono _ _ _ _ _
   | exact zbF.mono _ _ _ _ _
   | exact zpB.mono _ _
   | exact LeO.none _
   | refine LeO.ite ?_ ?_
   | refine LeO.bind ?_ (fun _ => ?_)
  ·intro y0 y1 y2 y3 y4 y5 y6
   unfold zzB.l0
   repeat' first
   | (with_reducible exact ih0 _ _ _ _ _ _ _)
   | (with_reducible exact ih1 _ _ _ _ _ _ _)
   | (with_reducible exact zrS.mono _ _ _)
   | (with_reducible exact zeT.mono _ _ _)
   | (with_reducible exact zgK.mono _ _ _ _ _)
   | (with_reducible exact zbF.mono _ _ _ _ _)
   | (with_reducible exact zpB.mono _ _)
   | (with_reducible exact LeO.refl _)
   | (with_reducible exact LeO.none _)
   | (with_reducible refine LeO.ite ?_ ?_)
   | (with_reducible refine LeO.bind ?_ (fun _ => ?_))
   | exact ih0 _ _ _ _ _ _ _
   | exact ih1 _ _ _ _ _ _ _
   | exact zrS.mono _ _ _
   | exact zeT.mono _ _ _
   | exact zgK.mono _ _ _ _ _
   | exact zbF.mono _ _ _ _ _
   | exact zpB.mono _ _
   | exact LeO.none _
   | refine LeO.ite ?_ ?_
   | refine LeO.bind ?_ (fun _ => ?_)
theorem zzB.mono : ∀ a0 a1 k, LeO (zzB.f k a0 a1) (zzB.f (k + 1) a0 a1) := by
 intro a0 a1 k
 obtain ⟨ih0, ih1⟩ := zzB.mono_l k
 unfold zzB.f
 repeat' first
   | (with_reducible exact ih0 _ _ _ _ _ _ _)
   | (with_reducible exact ih1 _ _ _ _ _ _ _)
   | (with_reducible exact zrS.mono _ _ _)
   | (with_reducible exact zeT.mono _ _ _)
   | (with_reducible exact zgK.mono _ _ _ _ _)
   | (with_reducible exact zbF.mono _ _ _ _ _)
   | (with_reducible exact zpB.mono _ _)
   | (with_reducible exact LeO.refl _)
   | (with_reducible exact LeO.none _)
   | (with_reducible refine LeO.ite ?_ ?_)
   | (with_reducible refine LeO.bind ?_ (fun _ => ?_))
   | exact ih0 _ _ _ _ _ _ _
   | exact ih1 _ _ _ _ _ _ _
   | exact zrS.mono _ _ _
   | exact zeT.mono _ _ _
   | exact zgK.mono _ _ _ _ _
   | exact zbF.mono _ _ _ _ _
   | exact zpB.mono _ _
   | exact LeO.none _
   | refine LeO.ite ?_ ?_
   | refine LeO.bind ?_ (fun _ => ?_)
def zzB.T4 : Bool × List (List Nat × List Nat) := (true, [([], []), ([0], [0]), ([1], [1]), ([], []), ([3], [3]), ([], []), ([5, 2, 4, 0, 1, 2, 5], [2, 5]), ([4, 6, 0, 1, 2, 3, 4, 5, 6], [4])])
def zzB.B4 : List Nat := [0, 1, 3, 0, 8, 0, 63, 127]
theorem zzB.tab4 : rtab .any (opsOf Try.f59 4) = zzB.T4 := by kernel_rfl
theorem zzB.bits4 : ztE zzB.T4.2 zzB.B4 = true := by kernel_rfl
def zzB.T7 : Bool × List (List Nat × List Nat) := (true, [([], []), ([0], [0]), ([], []), ([1, 2], [1, 2]), ([3], [3]), ([], []), ([4, 5], [4, 5]), ([], []), ([7], [7]), ([], []), ([9], [9]), ([8, 10], [8, 10]), ([], []), ([11, 12], [11, 12]), ([6, 0, 1, 2, 3, 4, 5, 6], [6]), ([13, 14, 0, 1, 2, 3, 4, 5, 6, 7, 8, 9, 10, 11, 12, 13, 14], [13])])
def zzB.B7 : List Nat := [0, 1, 0, 7, 15, 0, 63, 0, 128, 0, 512, 1920, 0, 8064, 127, 32767]
theorem zzB.tab7 : rtab .any (opsOf Try.f59 7) = zzB.T7 := by kernel_rfl
theorem zzB.bits7 : ztE zzB.T7.2 zzB.B7 = true := by kernel_rfl
def zzB.T10 : Bool × List (List Nat × List Nat) := (true, [([], []), ([], []), ([0, 1], [0, 1]), ([2], [2]), ([], []), ([4], [4]), ([3, 5], [3, 5]), ([], []), ([], []), ([7, 8], [7, 8]), ([9], [9]), ([6, 10], [6, 10]), ([11], [11]), ([], []), ([], []), ([13, 14], [13, 14]), ([15], [15]), ([16], [16]), ([12, 0, 1, 2, 3, 4, 5, 6, 7, 8, 9, 10, 11, 12], [12]), ([17, 18, 0, 1, 2, 3, 4, 5, 6, 7, 8, 9, 10, 11, 12, 13, 14, 15, 16, 17, 18], [17])])
def zzB.B10 : List Nat := [0, 0, 3, 7, 0, 16, 63, 0, 0, 384, 896, 2047, 4095, 0, 0, 24576, 57344, 122880, 8191, 524287]
theorem zzB.tab10 : rtab .any (opsOf Try.f59 10) = zzB.T10 := by kernel_rfl
theorem zzB.bits10 : ztE zzB.T10.2 zzB.B10 = true := by kernel_rfl
def zzB.T15 : Bool × List (List Nat × List Nat) := (true, [([], []), ([], []), ([0, 1], [0, 1]), ([2], [2]), ([], []), ([], []), ([4, 5], [4, 5]), ([6], [6]), ([3, 7], [3, 7]), ([], []), ([], []), ([9, 10], [9, 10]), ([11], [11]), ([], []), ([12, 13], [12, 13]), ([8, 0, 1, 2, 3, 4, 5, 6, 7, 8], [8]), ([14, 15, 0, 1, 2, 3, 4, 5, 6, 7, 8, 9, 10, 11, 12, 13, 14, 15], [14])])
def zzB.B15 : List Nat := [0, 0, 3, 7, 0, 0, 48, 112, 255, 0, 0, 1536, 3584, 0, 15872, 511, 65535]
theorem zzB.tab15 : rtab .any (opsOf Try.f59 15) = zzB.T15 := by kernel_rfl
theorem zzB.bits15 : ztE zzB.T15.2 zzB.B15 = true := by kernel_rfl
set_option maxHeartbeats 8000000 in
set_option maxRecDepth 100000 in
theorem zzB.calls (k : Nat) (A0 : Option Addr) (c0 : Nat) (l0 : List Int) (A1 : Option Addr) (c1 : Nat) (l1 : List Int) (r1 : List Int) (r2 : List Int) (r3 : Int) (w : World) (hr0 : Kd.C (Kd.int .i64) w A0 l0.length l0) (hc0 : l0.length ≤ c0) (hr1 : Kd.C (Kd.int .i64) w A1 l1.length l1) (hc1 : l1.length ≤ c1) (h : zzB.f k l0 l1 = some (r1, r2, r3)) :
  Calls Try.prog 59 #[.slice A0 l0.length c0, .slice A1 l1.length c1] w fun e w' => ∃ v0_ v1_ : Value, e = .returned (.tuple #[v0_, v1_, .int .i64 r3]) ∧ Kd.R (Kd.int .i64) 2 w' w.heap.size (fun k_ => some k_ ≠ (v1_ : Value).ownBlock) v0_ r1 ∧ Kd.R (Kd.int .i64) 2 w' w.heap.size (fun k_ => some k_ ≠ (v0_ : Value).ownBlock) v1_ r2 ∧ Below w.heap.size w w' := by
 have hu87 := Try.underlying87
 have HR0 := zpS hr0
 have HC0 := zpS hc0
 clear hr0 hc0
 have HR1 := zpS hr1
 have HC1 := zpS hc1
 clear hr1 hc1
 have HB := zpS (Below.refl w.heap.size w)
 have H : ((zpB.f k l0).bind fun t142 => (if (t142.length : Int) = 0 then (some (([] : List Int), ([] : List Int), 6)) else (if 0 < (t142.length : Int) then ((zfN.f l0).bind fun t146 => ((zbF.f k ((zwR t142 0).f0) ((zwR t142 0).f1) ((zwR t142 0).f2) l1).bind fun t148 => (if t148 = true then (if t146 = 0 then (none) else (if (Int.tmod ((zwR t142 0).f1) 2) = 1 then (if 0 ≤ (Int.tmod (wrap64 ((wrap64 (((zwR t142 0).f0) + t146)) - 1)) t146) then (if (Int.tmod (wrap64 ((wrap64 (((zwR t142 0).f0) + t146)) - 1)) t146) < (l0.length : Int) then (if 0 ≤ (Int.tmod (wrap64 (((zwR t142 0).f0) + ((zwR t142 0).f1))) t146) then (if (Int.tmod (wrap64 (((zwR t142 0).f0) + ((zwR t142 0).f1))) t146) < (l0.length : Int) then (if (Int.tmod (wrap64 ((wrap64 (((zwR t142 0).f0) + t146)) - 1)) t146) < (l1.length : Int) then (zzB.j0 k l0 l1 t146 (Int.tmod (wrap64 ((wrap64 (((zwR t142 0).f0) + t146)) - 1)) t146) (Int.tmod (wrap64 (((zwR t142 0).f0) + ((zwR t142 0).f1))) t146) (([wrap64 ((wrap64 ((rd l0 (Int.tmod (wrap64 ((wrap64 (((zwR t142 0).f0) + t146)) - 1)) t146)) - ((zwR t142 0).f2))) + (rd l0 (Int.tmod (wrap64 (((zwR t142 0).f0) + ((zwR t142 0).f1))) t146)))] : List Int)) (([rd l1 (Int.tmod (wrap64 ((wrap64 (((zwR t142 0).f0) + t146)) - 1)) t146)] : List Int))) else (none)) else (none)) else (none)) else (none)) else (none)) else ((zgK.f k ((zwR t142 0).f0) ((zwR t142 0).f1) ((zwR t142 0).f2) t146).bind fun t158 => ((zrS.f k l1 t158).bind fun t161 => ((zeT.f k t161 3).bind fun t164 => ((zeT.f k t161 2).bind fun t165 => (if t164 > t165 then (if 0 ≤ (Int.tmod (wrap64 ((wrap64 (((zwR t142 0).f0) + t146)) - 1)) t146) then (if (Int.tmod (wrap64 ((wrap64 (((zwR t142 0).f0) + t146)) - 1)) t146) < (l0.length : Int) then (if 0 ≤ (Int.tmod (wrap64 (((zwR t142 0).f0) + ((zwR t142 0).f1))) t146) then (if (Int.tmod (wrap64 (((zwR t142 0).f0) + ((zwR t142 0).f1))) t146) < (l0.length : Int) then (if (Int.tmod (wrap64 ((wrap64 (((zwR t142 0).f0) + t146)) - 1)) t146) < (l1.length : Int) then (zzB.j0 k l0 l1 t146 (Int.tmod (wrap64 ((wrap64 (((zwR t142 0).f0) + t146)) - 1)) t146) (Int.tmod (wrap64 (((zwR t142 0).f0) + ((zwR t142 0).f1))) t146) (([rd l0 (Int.tmod (wrap64 ((wrap64 (((zwR t142 0).f0) + t146)) - 1)) t146), rd l0 (Int.tmod (wrap64 (((zwR t142 0).f0) + ((zwR t142 0).f1))) t146)] : List Int)) (([rd l1 (Int.tmod (wrap64 ((wrap64 (((zwR t142 0).f0) + t146)) - 1)) t146), 3] : List Int))) else (none)) else (none)) else (none)) else (none)) else (none)) else (if 0 ≤ (Int.tmod (wrap64 ((wrap64 (((zwR t142 0).f0) + t146)) - 1)) t146) then (if (Int.tmod (wrap64 ((wrap64 (((zwR t142 0).f0) + t146)) - 1)) t146) < (l0.length : Int) then (if 0 ≤ (Int.tmod (wrap64 (((zwR t142 0).f0) + ((zwR t142 0).f1))) t146) then (if (Int.tmod (wrap64 (((zwR t142 0).f0) + ((zwR t142 0).f1))) t146) < (l0.length : Int) then (if (Int.tmod (wrap64 ((wrap64 (((zwR t142 0).f0) + t146)) - 1)) t146) < (l1.length : Int) then (zzB.j0 k l0 l1 t146 (Int.tmod (wrap64 ((wrap64 (((zwR t142 0).f0) + t146)) - 1)) t146) (Int.tmod (wrap64 (((zwR t142 0).f0) + ((zwR t142 0).f1))) t146) (([rd l0 (Int.tmod (wrap64 ((wrap64 (((zwR t142 0).f0) + t146)) - 1)) t146), rd l0 (Int.tmod (wrap64 (((zwR t142 0).f0) + ((zwR t142 0).f1))) t146)] : List Int)) (([rd l1 (Int.tmod (wrap64 ((wrap64 (((zwR t142 0).f0) + t146)) - 1)) t146), 2] : List Int))) else (none)) else (none)) else (none)) else (none)) else (none))))))))) else (some (([] : List Int), ([] : List Int), 8))))) else (none)))) = some (r1, r2, r3) := h
 clear h
 replace H := Option.bind_eq_some_iff.mp H
 obtain ⟨t142, A30, H⟩ := H
 replace H : (if (t142.length : Int) = 0 then (some (([] : List Int), ([] : List Int), 6)) else (if 0 < (t142.length : Int) then ((zfN.f l0).bind fun t146 => ((zbF.f k ((zwR t142 0).f0) ((zwR t142 0).f1) ((zwR t142 0).f2) l1).bind fun t148 => (if t148 = true then (if t146 = 0 then (none) else (if (Int.tmod ((zwR t142 0).f1) 2) = 1 then (if 0 ≤ (Int.tmod (wrap64 ((wrap64 (((zwR t142 0).f0) + t146)) - 1)) t146) then (if (Int.tmod (wrap64 ((wrap64 (((zwR t142 0).f0) + t146)) - 1)) t146) < (l0.length : Int) then (if 0 ≤ (Int.tmod (wrap64 (((zwR t142 0).f0) + ((zwR t142 0).f1))) t146) then (if (Int.tmod (wrap64 (((zwR t142 0).f0) + ((zwR t142 0).f1))) t146) < (l0.length : Int) then (if (Int.tmod (wrap64 ((wrap64 (((zwR t142 0).f0) + t146)) - 1)) t146) < (l1.length : Int) then (zzB.j0 k l0 l1 t146 (Int.tmod (wrap64 ((wrap64 (((zwR t142 0).f0) + t146)) - 1)) t146) (Int.tmod (wrap64 (((zwR t142 0).f0) + ((zwR t142 0).f1))) t146) (([wrap64 ((wrap64 ((rd l0 (Int.tmod (wrap64 ((wrap64 (((zwR t142 0).f0) + t146)) - 1)) t146)) - ((zwR t142 0).f2))) + (rd l0 (Int.tmod (wrap64 (((zwR t142 0).f0) + ((zwR t142 0).f1))) t146)))] : List Int)) (([rd l1 (Int.tmod (wrap64 ((wrap64 (((zwR t142 0).f0) + t146)) - 1)) t146)] : List Int))) else (none)) else (none)) else (none)) else (none)) else (none)) else ((zgK.f k ((zwR t142 0).f0) ((zwR t142 0).f1) ((zwR t142 0).f2) t146).bind fun t158 => ((zrS.f k l1 t158).bind fun t161 => ((zeT.f k t161 3).bind fun t164 => ((zeT.f k t161 2).bind fun t165 => (if t164 > t165 then (if 0 ≤ (Int.tmod (wrap64 ((wrap64 (((zwR t142 0).f0) + t146)) - 1)) t146) then (if (Int.tmod (wrap64 ((wrap64 (((zwR t142 0).f0) + t146)) - 1)) t146) < (l0.length : Int) then (if 0 ≤ (Int.tmod (wrap64 (((zwR t142 0).f0) + ((zwR t142 0).f1))) t146) then (if (Int.tmod (wrap64 (((zwR t142 0).f0) + ((zwR t142 0).f1))) t146) < (l0.length : Int) then (if (Int.tmod (wrap64 ((wrap64 (((zwR t142 0).f0) + t146)) - 1)) t146) < (l1.length : Int) then (zzB.j0 k l0 l1 t146 (Int.tmod (wrap64 ((wrap64 (((zwR t142 0).f0) + t146)) - 1)) t146) (Int.tmod (wrap64 (((zwR t142 0).f0) + ((zwR t142 0).f1))) t146) (([rd l0 (Int.tmod (wrap64 ((wrap64 (((zwR t142 0).f0) + t146)) - 1)) t146), rd l0 (Int.tmod (wrap64 (((zwR t142 0).f0) + ((zwR t142 0).f1))) t146)] : List Int)) (([rd l1 (Int.tmod (wrap64 ((wrap64 (((zwR t142 0).f0) + t146)) - 1)) t146), 3] : List Int))) else (none)) else (none)) else (none)) else (none)) else (none)) else (if 0 ≤ (Int.tmod (wrap64 ((wrap64 (((zwR t142 0).f0) + t146)) - 1)) t146) then (if (Int.tmod (wrap64 ((wrap64 (((zwR t142 0).f0) + t146)) - 1)) t146) < (l0.length : Int) then (if 0 ≤ (Int.tmod (wrap64 (((zwR t142 0).f0) + ((zwR t142 0).f1))) t146) then (if (Int.tmod (wrap64 (((zwR t142 0).f0) + ((zwR t142 0).f1))) t146) < (l0.length : Int) then (if (Int.tmod (wrap64 ((wrap64 (((zwR t142 0).f0) + t146)) - 1)) t146) < (l1.length : Int) then (zzB.j0 k l0 l1 t146 (Int.tmod (wrap64 ((wrap64 (((zwR t142 0).f0) + t146)) - 1)) t146) (Int.tmod (wrap64 (((zwR t142 0).f0) + ((zwR t142 0).f1))) t146) (([rd l0 (Int.tmod (wrap64 ((wrap64 (((zwR t142 0).f0) + t146)) - 1)) t146), rd l0 (Int.tmod (wrap64 (((zwR t142 0).f0) + ((zwR t142 0).f1))) t146)] : List Int)) (([rd l1 (Int.tmod (wrap64 ((wrap64 (((zwR t142 0).f0) + t146)) - 1)) t146), 2] : List Int))) else (none)) else (none)) else (none)) else (none)) else (none))))))))) else (some (([] : List Int), ([] : List Int), 8))))) else (none))) = some (r1, r2, r3) := H
 have A3 := zpS A30
 clear A30
 by_cases c4 : (t142.length : Int) = 0
 ·rw [if_pos c4] at H
  have c4b0 : ((t142.length : Int) == 0) = true := beq_iff_eq.mpr c4
  have c4b1 : ((t142.length : Int) != 0) = false := bne_eq_false_iff_eq.mpr c4
  clear c4
  simp only [Option.some.injEq, Prod.mk.injEq] at H
  obtain ⟨rfl, rfl, rfl⟩ := H
  go_enter Try.func59, Try.ntmps59
  go_wp2_with (first | ((with_reducible refine zgL (f := 92) rfl ?_); refine zqQ (some 18) rfl rfl Try.func92 (by kernel_rfl) rfl #[.slice A0 l0.length c0] rfl (by (try simp only [List.map_toArray, List.map_cons, List.map_nil]); first | done | rfl | (simp only [List.length_drop, List.length_take]; rfl)) ?_; (with_reducible refine (zpB.calls k _ _ l0 t142 _ ?side1 ?side2 A3.out).mono ?_); (case side1 => repeat (first | exact HR0.out | (with_reducible refine Kd.C_alloc ?_ _) | (with_reducible refine Kd.C_drewN ?_ _) | (with_reducible refine Kd.C_drew ?_))); (case side2 => exact HC0.out); rintro e w5 ⟨v143, rfl, ho0, hb⟩; refine ⟨_, rfl, ?_⟩; have n0_ := zpS (Kd.R_lower ho0 (zuA bb_)); have n1_ := (ns_ hb); clear HB; have HO144 := n0_; have HB := n1_; clear n0_ n1_; (try clear hb); (try clear hb2); (try clear ho0); obtain ⟨Ao6, co6, eo6⟩ := Kd.R_slice HO144.out; subst eo6))
  go_ret3
  exact ⟨_, _, by first | rfl | (simp [ziS, znJ] <;> rfl) | (simp [*, ziS, znJ] <;> rfl), by first | exact Kd.R_nil _ _ _ _ _ | exact Kd.N_nil _ _ _ _ _ | exact Kd.V_nil _ _ _ _ _ | exact Kd.Q_nil _ _ _ _ _ | exact Kd.S_nil _ _ _ _ _, by first | exact Kd.R_nil _ _ _ _ _ | exact Kd.N_nil _ _ _ _ _ | exact Kd.V_nil _ _ _ _ _ | exact Kd.Q_nil _ _ _ _ _ | exact Kd.S_nil _ _ _ _ _, bb_⟩
 ·rw [if_neg c4] at H
  have c4b0 : ((t142.length : Int) == 0) = false := beq_eq_false_iff_ne.mpr c4
  have c4b1 : ((t142.length : Int) != 0) = true := bne_iff_ne.mpr c4
  have c4b2 : ¬ (t142 = []) := fun h_ => c4 (by rw [h_]; rfl)
  by_cases c7 : 0 < (t142.length : Int)
  ·rw [if_pos c7] at H
   have c7b0 : decide (0 < (t142.length : Int)) = true := decide_eq_true c7
   have c7b1 : decide (0 < t142.length) = true := decide_eq_true (by omega)
   clear c7
   replace H := Option.bind_eq_some_iff.mp H
   obtain ⟨t146, A80, H⟩ := H
   replace H : ((zbF.f k ((zwR t142 0).f0) ((zwR t142 0).f1) ((zwR t142 0).f2) l1).bind fun t148 => (if t148 = true then (if t146 = 0 then (none) else (if (Int.tmod ((zwR t142 0).f1) 2) = 1 then (if 0 ≤ (Int.tmod (wrap64 ((wrap64 (((zwR t142 0).f0) + t146)) - 1)) t146) then (if (Int.tmod (wrap64 ((wrap64 (((zwR t142 0).f0) + t146)) - 1)) t146) < (l0.length : Int) then (if 0 ≤ (Int.tmod (wrap64 (((zwR t142 0).f0) + ((zwR t142 0).f1))) t146) then (if (Int.tmod (wrap64 (((zwR t142 0).f0) + ((zwR t142 0).f1))) t146) < (l0.length : Int) then (if (Int.tmod (wrap64 ((wrap64 (((zwR t142 0).f0) + t146)) - 1)) t146) < (l1.length : Int) then (zzB.j0 k l0 l1 t146 (Int.tmod (wrap64 ((wrap64 (((zwR t142 0).f0) + t146)) - 1)) t146) (Int.tmod (wrap64 (((zwR t142 0).f0) + ((zwR t142 0).f1))) t146) (([wrap64 ((wrap64 ((rd l0 (Int.tmod (wrap64 ((wrap64 (((zwR t142 0).f0) + t146)) - 1)) t146)) - ((zwR t142 0).f2))) + (rd l0 (Int.tmod (wrap64 (((zwR t142 0).f0) + ((zwR t142 0).f1))) t146)))] : List Int)) (([rd l1 (Int.tmod (wrap64 ((wrap64 (((zwR t142 0).f0) + t146)) - 1)) t146)] : List Int))) else (none)) else (none)) else (none)) else (none)) else (none)) else ((zgK.f k ((zwR t142 0).f0) ((zwR t142 0).f1) ((zwR t142 0).f2) t146).bind fun t158 => ((zrS.f k l1 t158).bind fun t161 => ((zeT.f k t161 3).bind fun t164 => ((zeT.f k t161 2).bind fun t165 => (if t164 > t165 then (if 0 ≤ (Int.tmod (wrap64 ((wrap64 (((zwR t142 0).f0) + t146)) - 1)) t146) then (if (Int.tmod (wrap64 ((wrap64 (((zwR t142 0).f0) + t146)) - 1)) t146) < (l0.length : Int) then (if 0 ≤ (Int.tmod (wrap64 (((zwR t142 0).f0) + ((zwR t142 0).f1))) t146) then (if (Int.tmod (wrap64 (((zwR t142 0).f0) + ((zwR t142 0).f1))) t146) < (l0.length : Int) then (if (Int.tmod (wrap64 ((wrap64 (((zwR t142 0).f0) + t146)) - 1)) t146) < (l1.length : Int) then (zzB.j0 k l0 l1 t146 (Int.tmod (wrap64 ((wrap64 (((zwR t142 0).f0) + t146)) - 1)) t146) (Int.tmod (wrap64 (((zwR t142 0).f0) + ((zwR t142 0).f1))) t146) (([rd l0 (Int.tmod (wrap64 ((wrap64 (((zwR t142 0).f0) + t146)) - 1)) t146), rd l0 (Int.tmod (wrap64 (((zwR t142 0).f0) + ((zwR t142 0).f1))) t146)] : List Int)) (([rd l1 (Int.tmod (wrap64 ((wrap64 (((zwR t142 0).f0) + t146)) - 1)) t146), 3] : List Int))) else (none)) else (none)) else (none)) else (none)) else (none)) else (if 0 ≤ (Int.tmod (wrap64 ((wrap64 (((zwR t142 0).f0) + t146)) - 1)) t146) then (if (Int.tmod (wrap64 ((wrap64 (((zwR t142 0).f0) + t146)) - 1)) t146) < (l0.length : Int) then (if 0 ≤ (Int.tmod (wrap64 (((zwR t142 0).f0) + ((zwR t142 0).f1))) t146) then (if (Int.tmod (wrap64 (((zwR t142 0).f0) + ((zwR t142 0).f1))) t146) < (l0.length : Int) then (if (Int.tmod (wrap64 ((wrap64 (((zwR t142 0).f0) + t146)) - 1)) t146) < (l1.length : Int) then (zzB.j0 k l0 l1 t146 (Int.tmod (wrap64 ((wrap64 (((zwR t142 0).f0) + t146)) - 1)) t146) (Int.tmod (wrap64 (((zwR t142 0).f0) + ((zwR t142 0).f1))) t146) (([rd l0 (Int.tmod (wrap64 ((wrap64 (((zwR t142 0).f0) + t146)) - 1)) t146), rd l0 (Int.tmod (wrap64 (((zwR t142 0).f0) + ((zwR t142 0).f1))) t146)] : List Int)) (([rd l1 (Int.tmod (wrap64 ((wrap64 (((zwR t142 0).f0) + t146)) - 1)) t146), 2] : List Int))) else (none)) else (none)) else (none)) else (none)) else (none))))))))) else (some (([] : List Int), ([] : List Int), 8)))) = some (r1, r2, r3) := H
   have A8 := zpS A80
   clear A80
   replace H := Option.bind_eq_some_iff.mp H
   obtain ⟨t148, A90, H⟩ := H
   replace H : (if t148 = true then (if t146 = 0 then (none) else (if (Int.tmod ((zwR t142 0).f1) 2) = 1 then (if 0 ≤ (Int.tmod (wrap64 ((wrap64 (((zwR t142 0).f0) + t146)) - 1)) t146) then (if (Int.tmod (wrap64 ((wrap64 (((zwR t142 0).f0) + t146)) - 1)) t146) < (l0.length : Int) then (if 0 ≤ (Int.tmod (wrap64 (((zwR t142 0).f0) + ((zwR t142 0).f1))) t146) then (if (Int.tmod (wrap64 (((zwR t142 0).f0) + ((zwR t142 0).f1))) t146) < (l0.length : Int) then (if (Int.tmod (wrap64 ((wrap64 (((zwR t142 0).f0) + t146)) - 1)) t146) < (l1.length : Int) then (zzB.j0 k l0 l1 t146 (Int.tmod (wrap64 ((wrap64 (((zwR t142 0).f0) + t146)) - 1)) t146) (Int.tmod (wrap64 (((zwR t142 0).f0) + ((zwR t142 0).f1))) t146) (([wrap64 ((wrap64 ((rd l0 (Int.tmod (wrap64 ((wrap64 (((zwR t142 0).f0) + t146)) - 1)) t146)) - ((zwR t142 0).f2))) + (rd l0 (Int.tmod (wrap64 (((zwR t142 0).f0) + ((zwR t142 0).f1))) t146)))] : List Int)) (([rd l1 (Int.tmod (wrap64 ((wrap64 (((zwR t142 0).f0) + t146)) - 1)) t146)] : List Int))) else (none)) else (none)) else (none)) else (none)) else (none)) else ((zgK.f k ((zwR t142 0).f0) ((zwR t142 0).f1) ((zwR t142 0).f2) t146).bind fun t158 => ((zrS.f k l1 t158).bind fun t161 => ((zeT.f k t161 3).bind fun t164 => ((zeT.f k t161 2).bind fun t165 => (if t164 > t165 then (if 0 ≤ (Int.tmod (wrap64 ((wrap64 (((zwR t142 0).f0) + t146)) - 1)) t146) then (if (Int.tmod (wrap64 ((wrap64 (((zwR t142 0).f0) + t146)) - 1)) t146) < (l0.length : Int) then (if 0 ≤ (Int.tmod (wrap64 (((zwR t142 0).f0) + ((zwR t142 0).f1))) t146) then (if (Int.tmod (wrap64 (((zwR t142 0).f0) + ((zwR t142 0).f1))) t146) < (l0.length : Int) then (if (Int.tmod (wrap64 ((wrap64 (((zwR t142 0).f0) + t146)) - 1)) t146) < (l1.length : Int) then (zzB.j0 k l0 l1 t146 (Int.tmod (wrap64 ((wrap64 (((zwR t142 0).f0) + t146)) - 1)) t146) (Int.tmod (wrap64 (((zwR t142 0).f0) + ((zwR t142 0).f1))) t146) (([rd l0 (Int.tmod (wrap64 ((wrap64 (((zwR t142 0).f0) + t146)) - 1)) t146), rd l0 (Int.tmod (wrap64 (((zwR t142 0).f0) + ((zwR t142 0).f1))) t146)] : List Int)) (([rd l1 (Int.tmod (wrap64 ((wrap64 (((zwR t142 0).f0) + t146)) - 1)) t146), 3] : List Int))) else (none)) else (none)) else (none)) else (none)) else (none)) else (if 0 ≤ (Int.tmod (wrap64 ((wrap64 (((zwR t142 0).f0) + t146)) - 1)) t146) then (if (Int.tmod (wrap64 ((wrap64 (((zwR t142 0).f0) + t146)) - 1)) t146) < (l0.length : Int) then (if 0 ≤ (Int.tmod (wrap64 (((zwR t142 0).f0) + ((zwR t142 0).f1))) t146) then (if (Int.tmod (wrap64 (((zwR t142 0).f0) + ((zwR t142 0).f1))) t146) < (l0.length : Int) then (if (Int.tmod (wrap64 ((wrap64 (((zwR t142 0).f0) + t146)) - 1)) t146) < (l1.length : Int) then (zzB.j0 k l0 l1 t146 (Int.tmod (wrap64 ((wrap64 (((zwR t142 0).f0) + t146)) - 1)) t146) (Int.tmod (wrap64 (((zwR t142 0).f0) + ((zwR t142 0).f1))) t146) (([rd l0 (Int.tmod (wrap64 ((wrap64 (((zwR t142 0).f0) + t146)) - 1)) t146), rd l0 (Int.tmod (wrap64 (((zwR t142 0).f0) + ((zwR t142 0).f1))) t146)] : List Int)) (([rd l1 (Int.tmod (wrap64 ((wrap64 (((zwR t142 0).f0) + t146)) - 1)) t146), 2] : List Int))) else (none)) else (none)) else (none)) else (none)) else (none))))))))) else (some (([] : List Int), ([] : List Int), 8))) = some (r1, r2, r3) := H
   have A9 := zpS A90
   clear A90
   by_cases c10 : t148 = true
   ·subst c10
    have H1 : (if t146 = 0 then (none) else (if (Int.tmod ((zwR t142 0).f1) 2) = 1 then (if 0 ≤ (Int.tmod (wrap64 ((wrap64 (((zwR t142 0).f0) + t146)) - 1)) t146) then (if (Int.tmod (wrap64 ((wrap64 (((zwR t142 0).f0) + t146)) - 1)) t146) < (l0.length : Int) then (if 0 ≤ (Int.tmod (wrap64 (((zwR t142 0).f0) + ((zwR t142 0).f1))) t146) then (if (Int.tmod (wrap64 (((zwR t142 0).f0) + ((zwR t142 0).f1))) t146) < (l0.length : Int) then (if (Int.tmod (wrap64 ((wrap64 (((zwR t142 0).f0) + t146)) - 1)) t146) < (l1.length : Int) then (zzB.j0 k l0 l1 t146 (Int.tmod (wrap64 ((wrap64 (((zwR t142 0).f0) + t146)) - 1)) t146) (Int.tmod (wrap64 (((zwR t142 0).f0) + ((zwR t142 0).f1))) t146) (([wrap64 ((wrap64 ((rd l0 (Int.tmod (wrap64 ((wrap64 (((zwR t142 0).f0) + t146)) - 1)) t146)) - ((zwR t142 0).f2))) + (rd l0 (Int.tmod (wrap64 (((zwR t142 0).f0) + ((zwR t142 0).f1))) t146)))] : List Int)) (([rd l1 (Int.tmod (wrap64 ((wrap64 (((zwR t142 0).f0) + t146)) - 1)) t146)] : List Int))) else (none)) else (none)) else (none)) else (none)) else (none)) else ((zgK.f k ((zwR t142 0).f0) ((zwR t142 0).f1) ((zwR t142 0).f2) t146).bind fun t158 => ((zrS.f k l1 t158).bind fun t161 => ((zeT.f k t161 3).bind fun t164 => ((zeT.f k t161 2).bind fun t165 => (if t164 > t165 then (if 0 ≤ (Int.tmod (wrap64 ((wrap64 (((zwR t142 0).f0) + t146)) - 1)) t146) then (if (Int.tmod (wrap64 ((wrap64 (((zwR t142 0).f0) + t146)) - 1)) t146) < (l0.length : Int) then (if 0 ≤ (Int.tmod (wrap64 (((zwR t142 0).f0) + ((zwR t142 0).f1))) t146) then (if (Int.tmod (wrap64 (((zwR t142 0).f0) + ((zwR t142 0).f1))) t146) < (l0.length : Int) then (if (Int.tmod (wrap64 ((wrap64 (((zwR t142 0).f0) + t146)) - 1)) t146) < (l1.length : Int) then (zzB.j0 k l0 l1 t146 (Int.tmod (wrap64 ((wrap64 (((zwR t142 0).f0) + t146)) - 1)) t146) (Int.tmod (wrap64 (((zwR t142 0).f0) + ((zwR t142 0).f1))) t146) (([rd l0 (Int.tmod (wrap64 ((wrap64 (((zwR t142 0).f0) + t146)) - 1)) t146), rd l0 (Int.tmod (wrap64 (((zwR t142 0).f0) + ((zwR t142 0).f1))) t146)] : List Int)) (([rd l1 (Int.tmod (wrap64 ((wrap64 (((zwR t142 0).f0) + t146)) - 1)) t146), 3] : List Int))) else (none)) else (none)) else (none)) else (none)) else (none)) else (if 0 ≤ (Int.tmod (wrap64 ((wrap64 (((zwR t142 0).f0) + t146)) - 1)) t146) then (if (Int.tmod (wrap64 ((wrap64 (((zwR t142 0).f0) + t146)) - 1)) t146) < (l0.length : Int) then (if 0 ≤ (Int.tmod (wrap64 (((zwR t142 0).f0) + ((zwR t142 0).f1))) t146) then (if (Int.tmod (wrap64 (((zwR t142 0).f0) + ((zwR t142 0).f1))) t146) < (l0.length : Int) then (if (Int.tmod (wrap64 ((wrap64 (((zwR t142 0).f0) + t146)) - 1)) t146) < (l1.length : Int) then (zzB.j0 k l0 l1 t146 (Int.tmod (wrap64 ((wrap64 (((zwR t142 0).f0) + t146)) - 1)) t146) (Int.tmod (wrap64 (((zwR t142 0).f0) + ((zwR t142 0).f1))) t146) (([rd l0 (Int.tmod (wrap64 ((wrap64 (((zwR t142 0).f0) + t146)) - 1)) t146), rd l0 (Int.tmod (wrap64 (((zwR t142 0).f0) + ((zwR t142 0).f1))) t146)] : List Int)) (([rd l1 (Int.tmod (wrap64 ((wrap64 (((zwR t142 0).f0) + t146)) - 1)) t146), 2] : List Int))) else (none)) else (none)) else (none)) else (none)) else (none))))))))) = some (r1, r2, r3) := by rw [if_pos rfl] at H; exact H
    clear H
    have H := H1
    clear H1
    by_cases c11 : t146 = 0
    ·rw [if_pos c11] at H
     exact absurd H (by simp)
    ·rw [if_neg c11] at H
     have c11b0 : (t146 == 0) = false := beq_eq_false_iff_ne.mpr c11
     have c11b1 : (t146 != 0) = true := bne_iff_ne.mpr c11
     have HC12 := zpS H
     clear H
     go_enter Try.func59, Try.ntmps59
     try go_wp2_with (first | ((with_reducible refine zgL (f := 92) rfl ?_); refine zqQ (some 18) rfl rfl Try.func92 (by kernel_rfl) rfl #[.slice A0 l0.length c0] rfl (by (try simp only [List.map_toArray, List.map_cons, List.map_nil]); first | done | rfl | (simp only [List.length_drop, List.length_take]; rfl)) ?_; (with_reducible refine (zpB.calls k _ _ l0 t142 _ ?side1 ?side2 A3.out).mono ?_); (case side1 => repeat (first | exact HR0.out | (with_reducible refine Kd.C_alloc ?_ _) | (with_reducible refine Kd.C_drewN ?_ _) | (with_reducible refine Kd.C_drew ?_))); (case side2 => exact HC0.out); rintro e w13 ⟨v143, rfl, ho0, hb⟩; refine ⟨_, rfl, ?_⟩; have n0_ := zpS (Kd.R_lower ho0 (zuA bb_)); have n1_ := (ns_ hb); clear HB; have HO144 := n0_; have HB := n1_; clear n0_ n1_; (try clear hb); (try clear hb2); (try clear ho0); obtain ⟨Ao14, co14, eo14⟩ := Kd.R_slice HO144.out; subst eo14))
     have n0_ := zpS (Kd.R_drew HO144.out)
     have n1_ := zpS (zvF HB.out)
     clear HO144
     clear HB
     have HO144 := n0_
     have HB := n1_
     clear n0_ n1_
     have p145 : 0 ≤ (0 : Int) := (by omega)
     have q145 : 0 < (t142.length : Int) := of_decide_eq_true (by first | (with_reducible assumption) | assumption)
     obtain ⟨ad145, e145, hx145_0, hx145_1, hx145_2⟩ := at_T87 (Kd.R_reads' HO144.out).2.2 0 p145 q145
     cases e145
     have qi145 : (0 < t142.length) = True := eq_true (by omega)
     (try rw [show ((0 : Int)).toNat = 0 from rfl] at hx145_0)
     (try rw [show 0 * 3 = 0 from rfl] at hx145_0)
     (try rw [Addr.add_zero'] at hx145_0)
     (try rw [show ((0 : Int)).toNat = 0 from rfl] at hx145_1)
     (try rw [show 0 * 3 = 0 from rfl] at hx145_1)
     (try rw [Addr.add_zero'] at hx145_1)
     (try rw [show ((0 : Int)).toNat = 0 from rfl] at hx145_2)
     (try rw [show 0 * 3 = 0 from rfl] at hx145_2)
     (try rw [Addr.add_zero'] at hx145_2)
     replace p145 := eq_true p145
     replace q145 := eq_true q145
     refine start_ (n := 8) (S := fun w' => w'.cell? ad145 = some (.int .i64 ((zwR t142 0).f0)) ∧ w'.cell? ⟨ad145.block, ad145.off + 1, none⟩ = some (.int .i64 ((zwR t142 0).f1)) ∧ w'.cell? ⟨ad145.block, ad145.off + 2, none⟩ = some (.int .i64 ((zwR t142 0).f2))) (ds := []) #[false, false, false, false, false, false, false, false] (by kernel_rfl) rfl rfl ⟨hx145_0, hx145_1, hx145_2⟩ (fun hHeld => ?_); refine with_tabW zzB.tab4 zzB.bits4 (fun HT_ HW_ => ?_)
     generalize w13.drew = w15 at HO144 HB hx145_0 hx145_1 hx145_2 hHeld ⊢
     refine pu_ 0 (some 22) (bl_ 8 1) ?_
     refine pu_ 1 (some 23) (bl_ 8 3) ?_
     refine pu_ 3 (some 25) (bl_ 8 11) ?_
     refine tk3_ 2 (some 24) (bl_ 8 15) hHeld ?_
     refine join_ (σ := Nat) 2 #[true, true, true, true, true, true, false, false] (fun s_ => [(26, .int .i64 t146), (8, .pointer (some ⟨s_, 0, none⟩))]) (fun s_ w' => (w'.cell? ad145 = some (.int .i64 ((zwR t142 0).f0)) ∧ w'.cell? ⟨ad145.block, ad145.off + 1, none⟩ = some (.int .i64 ((zwR t142 0).f1)) ∧ w'.cell? ⟨ad145.block, ad145.off + 2, none⟩ = some (.int .i64 ((zwR t142 0).f2))) ∧ (Kd.R k87 87 w' w.heap.size (fun k_ => k_ ≠ s_) (.slice (some ad145) t142.length co14) t142) ∧ (w'.heap[s_]? = some (.cells #[.int .i64 0, .int .i64 0, .int .i64 0] 87 (0, 0))) ∧ (w.heap.size ≤ s_) ∧ (w.heap.size ≤ s_) ∧ (Below w.heap.size w w')) ?_ ?_
     rotate_left
     ·intro hCont
      refine two_ (i := 4) (j := 5) (Ni := some 26) (Nj := some 8) (bl_ 8 31) (bl_ 8 47) rfl rfl rfl rfl (two_of HT_.out (by kernel_rfl)) (by decide) (by decide) (fun K hK => ?_) (fun K hK => ?_)
      ·skip
       refine goes_ Try.func61 (by kernel_rfl) rfl #[.slice A0 l0.length c0] (by rfl) rfl rfl (by (try simp only [List.map_toArray, List.map_cons, List.map_nil]); first | done | rfl | (simp only [List.length_drop, List.length_take]; rfl)) ?_
       with_reducible refine (zfN.calls _ _ l0 t146 _ ?side1 ?side2 A8.out).mono ?_
       (case side1 => repeat (first | exact (Kd.C_below HR0.out HB.out) | (with_reducible refine Kd.C_alloc ?_ _) | (with_reducible refine Kd.C_drewN ?_ _) | (with_reducible refine Kd.C_drew ?_)))
       (case side2 => exact HC0.out)
       rintro e w' ⟨rfl, ⟨nd, rfl⟩⟩
       refine ⟨_, rfl, ?_⟩
       refine hK.out _ _ ⟨hHeld.1, hHeld.2.1, hHeld.2.2⟩ (fun hHeld => ?_)
       clear hK K
       refine norm_ (a' := ?_) ?_ ?_
       rotate_left
       ·show Act.put _ (some 26) _ = _
        simp only [Act.put, List.setIfInBounds_toArray, List.set_cons_zero, List.set_cons_succ, zcO, i32_w]
        rfl
       refine one_ (i := 5) (N := some 8) (bl_ 8 63) rfl rfl (one_of HT_.out (by kernel_rfl)) (by decide) (fun K hK => ?_)
       refine box_step ?hg (N := 8) ?hd (cs := #[.int .i64 0, .int .i64 0, .int .i64 0]) (t := 87) ?hr ?_; (case hd => rfl); (case hg => rfl); (case hr => first | (go_simp; done) | (go_simp; rfl))
       intro gb147 hg w16 hbox hb
       have HS0_ := (hb.cell (World.block_lt_of_cell? _ _ (hHeld.1))).trans (hHeld.1)
       have HS1_ := (hb.cell (World.block_lt_of_cell? _ _ (hHeld.2.1))).trans (hHeld.2.1)
       have HS2_ := (hb.cell (World.block_lt_of_cell? _ _ (hHeld.2.2))).trans (hHeld.2.2)
       have n0_ := zpS (Kd.R_below (Kd.R_elderB (by (with_reducible repeat (first | apply Kd.R_alloc | apply Kd.R_drewN | apply Kd.R_drew)); exact HO144.out) gb147 (Nat.le_of_eq hg.symm)) hb)
       have n1_ := (ns_ hb)
       have n2_ := zpS (hbox)
       have n3_ := (ng_ hg)
       have n4_ := (ng_ hg)
       clear HO144
       clear HB
       have HO144 := n0_
       have HB := n1_
       have BK147 := n2_
       have GW147 := n3_
       have GE147 := n4_
       clear n0_ n1_ n2_ n3_ n4_
       clear hb hbox hg
       refine hK.out _ _ ⟨HS0_, HS1_, HS2_⟩ (fun hHeld => ?_)
       clear hK K
       refine norm_ (a' := ?_) ?_ ?_
       rotate_left
       ·show Act.put _ (some 8) _ = _
        simp only [Act.put, List.setIfInBounds_toArray, List.set_cons_zero, List.set_cons_succ, zcO, i32_w]
        rfl
       exact norm_ (by simp only [putAll, Act.put, List.setIfInBounds_toArray, List.set_cons_zero, List.set_cons_succ]) (hCont (gb147) _ ⟨hHeld, (by (with_reducible repeat (first | apply Kd.R_alloc | apply Kd.R_drewN | apply Kd.R_drew)); exact Kd.R_mono HO144.out (fun _ hk => hk.2)), bk_, GW147.out, GE147.out, bb_⟩)
      ·skip
       refine box_step ?hg (N := 8) ?hd (cs := #[.int .i64 0, .int .i64 0, .int .i64 0]) (t := 87) ?hr ?_; (case hd => rfl); (case hg => rfl); (case hr => first | (go_simp; done) | (go_simp; rfl))
       intro gb147 hg w16 hbox hb
       have HS0_ := (hb.cell (World.block_lt_of_cell? _ _ (hHeld.1))).trans (hHeld.1)
       have HS1_ := (hb.cell (World.block_lt_of_cell? _ _ (hHeld.2.1))).trans (hHeld.2.1)
       have HS2_ := (hb.cell (World.block_lt_of_cell? _ _ (hHeld.2.2))).trans (hHeld.2.2)
       have n0_ := zpS (Kd.R_below (Kd.R_elderB (by (with_reducible repeat (first | apply Kd.R_alloc | apply Kd.R_drewN | apply Kd.R_drew)); exact HO144.out) gb147 (Nat.le_of_eq hg.symm)) hb)
       have n1_ := (ns_ hb)
       have n2_ := zpS (hbox)
       have n3_ := (ng_ hg)
       have n4_ := (ng_ hg)
       clear HO144
       clear HB
       have HO144 := n0_
       have HB := n1_
       have BK147 := n2_
       have GW147 := n3_
       have GE147 := n4_
       clear n0_ n1_ n2_ n3_ n4_
       clear hb hbox hg
       refine hK.out _ _ ⟨HS0_, HS1_, HS2_⟩ (fun hHeld => ?_)
       clear hK K
       refine norm_ (a' := ?_) ?_ ?_
       rotate_left
       ·show Act.put _ (some 8) _ = _
        simp only [Act.put, List.setIfInBounds_toArray, List.set_cons_zero, List.set_cons_succ, zcO, i32_w]
        rfl
       refine one_ (i := 4) (N := some 26) (bl_ 8 63) rfl rfl (one_of HT_.out (by kernel_rfl)) (by decide) (fun K hK => ?_)
       refine goes_ Try.func61 (by kernel_rfl) rfl #[.slice A0 l0.length c0] (by rfl) rfl rfl (by (try simp only [List.map_toArray, List.map_cons, List.map_nil]); first | done | rfl | (simp only [List.length_drop, List.length_take]; rfl)) ?_
       with_reducible refine (zfN.calls _ _ l0 t146 _ ?side1 ?side2 A8.out).mono ?_
       (case side1 => repeat (first | exact (Kd.C_below HR0.out HB.out) | (with_reducible refine Kd.C_alloc ?_ _) | (with_reducible refine Kd.C_drewN ?_ _) | (with_reducible refine Kd.C_drew ?_)))
       (case side2 => exact HC0.out)
       rintro e w' ⟨rfl, ⟨nd, rfl⟩⟩
       refine ⟨_, rfl, ?_⟩
       refine hK.out _ _ ⟨hHeld.1, hHeld.2.1, hHeld.2.2⟩ (fun hHeld => ?_)
       clear hK K
       refine norm_ (a' := ?_) ?_ ?_
       rotate_left
       ·show Act.put _ (some 26) _ = _
        simp only [Act.put, List.setIfInBounds_toArray, List.set_cons_zero, List.set_cons_succ, zcO, i32_w]
        rfl
       exact norm_ (by simp only [putAll, Act.put, List.setIfInBounds_toArray, List.set_cons_zero, List.set_cons_succ]) (hCont (gb147) _ ⟨hHeld, (by (with_reducible repeat (first | apply Kd.R_alloc | apply Kd.R_drewN | apply Kd.R_drew)); exact Kd.R_mono HO144.out (fun _ hk => hk.2)), bk_, GW147.out, GE147.out, bb_⟩)
     rintro gb147 w17 ⟨hS_, h0_, h1_, h2_, h3_, h4_⟩
     have n0_ : Aside0 (Kd.R k87 87 w17 w.heap.size (fun k_ => k_ ≠ gb147) (.slice (some ad145) t142.length co14) t142) := ⟨h0_⟩
     have n1_ : Aside0 (w17.heap[gb147]? = some (.cells #[.int .i64 0, .int .i64 0, .int .i64 0] 87 (0, 0))) := ⟨h1_⟩
     have n2_ : Aside0 (w.heap.size ≤ gb147) := ⟨h2_⟩
     have n3_ : Aside0 (w.heap.size ≤ gb147) := ⟨h3_⟩
     have n4_ : Aside0 (Below w.heap.size w w17) := ⟨h4_⟩
     clear HO144
     clear HB
     clear h0_ h1_ h2_ h3_ h4_
     have HO144 := n0_
     have BK147 := n1_
     have GW147 := n2_
     have GE147 := n3_
     have HB := n4_
     clear n0_ n1_ n2_ n3_ n4_
     have hHeld : w17.cell? ad145 = some (.int .i64 ((zwR t142 0).f0)) ∧ w17.cell? ⟨ad145.block, ad145.off + 1, none⟩ = some (.int .i64 ((zwR t142 0).f1)) ∧ w17.cell? ⟨ad145.block, ad145.off + 2, none⟩ = some (.int .i64 ((zwR t142 0).f2)) := hS_
     refine norm_ (a' := ?_) ?_ ?_
     rotate_left
     ·simp only [putAll, Act.put, List.setIfInBounds_toArray, List.set_cons_zero, List.set_cons_succ]
      rfl
     refine one_ (i := 6) (N := none) (bl_ 8 127) rfl rfl (one_of HT_.out (by kernel_rfl)) (by decide) (fun K hK => ?_)
     have hs18 : w17.cell? ⟨gb147, 0, none⟩ = some (.int .i64 0) := (zzS BK147.out 0).trans rfl
     have hfs18 := zjG BK147.out 0
     have hs19 : w17.cell? ⟨gb147, 1, none⟩ = some (.int .i64 0) := (zzS BK147.out 1).trans rfl
     have hfs19 := zjG BK147.out 1
     have hs20 : w17.cell? ⟨gb147, 2, none⟩ = some (.int .i64 0) := (zzS BK147.out 2).trans rfl
     have hfs20 := zjG BK147.out 2
     refine skip_ (w1 := ?_) (by rfl) rfl ?_ ?_
     rotate_left
     ·go_simp
      rfl
     refine hK.out _ _ ⟨((zgQ (p := ⟨gb147, _, none⟩) (by first | exact Kd.own_blk (Kd.R_away HO144.out (fun _ hk => hk)) | (rw [zhT]; exact Kd.own_blk (Kd.R_away HO144.out (fun _ hk => hk))) | (show (Addr.add _ _).block ≠ _; rw [zhT]; exact Kd.own_blk (Kd.R_away HO144.out (fun _ hk => hk))) | (dsimp only; exact Kd.own_blk (Kd.R_away HO144.out (fun _ hk => hk)))) _).trans (((zgQ (p := ⟨gb147, _, none⟩) (by first | exact Kd.own_blk (Kd.R_away HO144.out (fun _ hk => hk)) | (rw [zhT]; exact Kd.own_blk (Kd.R_away HO144.out (fun _ hk => hk))) | (show (Addr.add _ _).block ≠ _; rw [zhT]; exact Kd.own_blk (Kd.R_away HO144.out (fun _ hk => hk))) | (dsimp only; exact Kd.own_blk (Kd.R_away HO144.out (fun _ hk => hk)))) _).trans (((zgQ (p := ⟨gb147, _, none⟩) (by first | exact Kd.own_blk (Kd.R_away HO144.out (fun _ hk => hk)) | (rw [zhT]; exact Kd.own_blk (Kd.R_away HO144.out (fun _ hk => hk))) | (show (Addr.add _ _).block ≠ _; rw [zhT]; exact Kd.own_blk (Kd.R_away HO144.out (fun _ hk => hk))) | (dsimp only; exact Kd.own_blk (Kd.R_away HO144.out (fun _ hk => hk)))) _).trans (hHeld.1)))))), ((zgQ (p := ⟨gb147, _, none⟩) (by first | exact Kd.own_blk (Kd.R_away HO144.out (fun _ hk => hk)) | (rw [zhT]; exact Kd.own_blk (Kd.R_away HO144.out (fun _ hk => hk))) | (show (Addr.add _ _).block ≠ _; rw [zhT]; exact Kd.own_blk (Kd.R_away HO144.out (fun _ hk => hk))) | (dsimp only; exact Kd.own_blk (Kd.R_away HO144.out (fun _ hk => hk)))) _).trans (((zgQ (p := ⟨gb147, _, none⟩) (by first | exact Kd.own_blk (Kd.R_away HO144.out (fun _ hk => hk)) | (rw [zhT]; exact Kd.own_blk (Kd.R_away HO144.out (fun _ hk => hk))) | (show (Addr.add _ _).block ≠ _; rw [zhT]; exact Kd.own_blk (Kd.R_away HO144.out (fun _ hk => hk))) | (dsimp only; exact Kd.own_blk (Kd.R_away HO144.out (fun _ hk => hk)))) _).trans (((zgQ (p := ⟨gb147, _, none⟩) (by first | exact Kd.own_blk (Kd.R_away HO144.out (fun _ hk => hk)) | (rw [zhT]; exact Kd.own_blk (Kd.R_away HO144.out (fun _ hk => hk))) | (show (Addr.add _ _).block ≠ _; rw [zhT]; exact Kd.own_blk (Kd.R_away HO144.out (fun _ hk => hk))) | (dsimp only; exact Kd.own_blk (Kd.R_away HO144.out (fun _ hk => hk)))) _).trans (hHeld.2.1)))))), ((zgQ (p := ⟨gb147, _, none⟩) (by first | exact Kd.own_blk (Kd.R_away HO144.out (fun _ hk => hk)) | (rw [zhT]; exact Kd.own_blk (Kd.R_away HO144.out (fun _ hk => hk))) | (show (Addr.add _ _).block ≠ _; rw [zhT]; exact Kd.own_blk (Kd.R_away HO144.out (fun _ hk => hk))) | (dsimp only; exact Kd.own_blk (Kd.R_away HO144.out (fun _ hk => hk)))) _).trans (((zgQ (p := ⟨gb147, _, none⟩) (by first | exact Kd.own_blk (Kd.R_away HO144.out (fun _ hk => hk)) | (rw [zhT]; exact Kd.own_blk (Kd.R_away HO144.out (fun _ hk => hk))) | (show (Addr.add _ _).block ≠ _; rw [zhT]; exact Kd.own_blk (Kd.R_away HO144.out (fun _ hk => hk))) | (dsimp only; exact Kd.own_blk (Kd.R_away HO144.out (fun _ hk => hk)))) _).trans (((zgQ (p := ⟨gb147, _, none⟩) (by first | exact Kd.own_blk (Kd.R_away HO144.out (fun _ hk => hk)) | (rw [zhT]; exact Kd.own_blk (Kd.R_away HO144.out (fun _ hk => hk))) | (show (Addr.add _ _).block ≠ _; rw [zhT]; exact Kd.own_blk (Kd.R_away HO144.out (fun _ hk => hk))) | (dsimp only; exact Kd.own_blk (Kd.R_away HO144.out (fun _ hk => hk)))) _).trans (hHeld.2.2))))))⟩ (fun hHeld => ?_)
     clear hK K
     refine pu_ 7 (some 9) (bl_ 8 255) ?_
     refine done_ (done_of HT_.out (by kernel_rfl)) ?_
     obtain ⟨hcz21_0, hcz21_1, hcz21_2⟩ := cz3_ BK147.out
     obtain ⟨hfz21_0, hfz21_1, hfz21_2⟩ := fz3_ BK147.out
     try go_wp2_with (first | ((with_reducible refine zgL (f := 93) rfl ?_); refine zqQ (some 29) rfl rfl Try.func93 (by kernel_rfl) rfl #[.agg #[.int .i64 ((zwR t142 0).f0), .int .i64 ((zwR t142 0).f1), .int .i64 ((zwR t142 0).f2)], .slice A1 l1.length c1] rfl (by (try simp only [List.map_toArray, List.map_cons, List.map_nil]); first | done | rfl | (simp only [List.length_drop, List.length_take]; rfl)) ?_; (with_reducible refine (zbF.calls k ((zwR t142 0).f0) ((zwR t142 0).f1) ((zwR t142 0).f2) _ _ l1 true _ ?side1 ?side2 A9.out).mono ?_); (case side1 => exact Kd.C_below HR1.out bb_); (case side2 => exact HC1.out); rintro e w22 ⟨rfl, hb⟩; refine ⟨_, rfl, ?_⟩; have n0_ := zpS (Kd.R_below (by (with_reducible repeat (first | apply Kd.R_alloc | apply Kd.R_drewN | apply Kd.R_drew)); exact (Kd.R_mono (Kd.R_far (p := ⟨gb147, 2, none⟩) (Kd.R_far (p := ⟨gb147, 1, none⟩) (Kd.R_far (p := ⟨gb147, 0, none⟩) (Kd.R_mono HO144.out (fun k_ hk => (⟨hk, hk⟩ : _ ∧ k_ ≠ gb147))) (fun _ hk => hk.2) (.int .i64 ((zwR t142 0).f0))) (fun _ hk => hk.2) (.int .i64 ((zwR t142 0).f1))) (fun _ hk => hk.2) (.int .i64 ((zwR t142 0).f2))) (fun _ h_ => h_.1))) hb); have n1_ := zpS (zgM (g := gb147) (o := .cells #[.int .i64 ((zwR t142 0).f0), .int .i64 ((zwR t142 0).f1), .int .i64 ((zwR t142 0).f2)] 87 (0, 0)) (by (with_reducible repeat (first | apply zuW | apply ztN | apply zqY)); refine blk_put (cs := #[.int .i64 ((zwR t142 0).f0), .int .i64 ((zwR t142 0).f1), .int .i64 0]) ?_ 2 _ rfl; (with_reducible repeat (first | apply zuW | apply ztN | apply zqY)); refine blk_put (cs := #[.int .i64 ((zwR t142 0).f0), .int .i64 0, .int .i64 0]) ?_ 1 _ rfl; (with_reducible repeat (first | apply zuW | apply ztN | apply zqY)); refine blk_put (cs := #[.int .i64 0, .int .i64 0, .int .i64 0]) ?_ 0 _ rfl; (with_reducible repeat (first | apply zuW | apply ztN | apply zqY)); exact BK147.out) hb); have n2_ := (ns_ hb); clear HO144; clear BK147; clear HB; have HO144 := n0_; have BK147 := n1_; have HB := n2_; clear n0_ n1_ n2_; (try clear hb); (try clear hb2)))
     have n0_ := zpS (Kd.R_drew HO144.out)
     have n1_ := zpS (ztN BK147.out)
     have n2_ := zpS (zvF HB.out)
     clear HO144
     clear BK147
     clear HB
     have HO144 := n0_
     have BK147 := n1_
     have HB := n2_
     clear n0_ n1_ n2_
     refine start_ (n := 16) (S := fun w' => w'.cell? ⟨gb147, 0, none⟩ = some (.int .i64 ((zwR t142 0).f0)) ∧ w'.cell? ⟨gb147, 1, none⟩ = some (.int .i64 ((zwR t142 0).f1)) ∧ w'.cell? ⟨gb147, 2, none⟩ = some (.int .i64 ((zwR t142 0).f2))) (ds := []) #[false, false, false, false, false, false, false, false, false, false, false, false, false, false, false, false] (by kernel_rfl) rfl rfl ⟨(zzS BK147.out 0).trans rfl, (zzS BK147.out 1).trans rfl, (zzS BK147.out 2).trans rfl⟩ (fun hHeld => ?_); refine with_tabW zzB.tab7 zzB.bits7 (fun HT_ HW_ => ?_)
     generalize w22.drew = w23 at HO144 BK147 HB hHeld ⊢
     refine pu_ 0 (some 31) (bl_ 16 1) ?_
     refine pu_ 2 (some 33) (bl_ 16 5) ?_
     refine pu_ 5 (some 36) (bl_ 16 37) ?_
     refine pu_ 7 (some 38) (bl_ 16 165) ?_
     refine pu_ 9 (some 40) (bl_ 16 677) ?_
     refine pu_ 12 (some 43) (bl_ 16 4773) ?_
     refine tk3_ 1 (some 32) (bl_ 16 4775) hHeld ?_
     refine pu_ 3 (some 34) (bl_ 16 4783) ?_
     refine pu_ 4 (some 35) (bl_ 16 4799) ?_
     refine pu_ 6 (some 37) (bl_ 16 4863) ?_
     refine pu_ 14 (some 10) (bl_ 16 21247) ?_
     refine tk3_ 8 (some 39) (bl_ 16 21503) hHeld ?_
     refine tk3_ 10 (some 41) (bl_ 16 22527) hHeld ?_
     refine pu_ 11 (some 42) (bl_ 16 24575) ?_
     refine pu_ 13 (some 44) (bl_ 16 32767) ?_
     refine pu_ 15 (some 11) (bl_ 16 65535) ?_
     refine done_ (done_of HT_.out (by kernel_rfl)) ?_
     obtain ⟨hcz24_0, hcz24_1, hcz24_2⟩ := cz3_ BK147.out
     obtain ⟨hfz24_0, hfz24_1, hfz24_2⟩ := fz3_ BK147.out
     go_upto_if 48 with (fail)
     go_cut [12, 13] (fun v12 v13 wc => ∃ (kq : Nat) (x12_11 : List Int) (x13_11 : List Int), Aside0 (zzB.j0 kq l0 l1 t146 (Int.tmod (wrap64 ((wrap64 (((zwR t142 0).f0) + t146)) - 1)) t146) (Int.tmod (wrap64 (((zwR t142 0).f0) + ((zwR t142 0).f1))) t146) x12_11 x13_11 = some (r1, r2, r3)) ∧ Aside0 (kq ≤ k) ∧ Aside0 (Kd.R (Kd.int .i64) 2 wc w.heap.size (fun k_ => some k_ ≠ (v13 : Value).ownBlock) v12 x12_11) ∧ Aside0 (Kd.R (Kd.int .i64) 2 wc w.heap.size (fun k_ => some k_ ≠ (v12 : Value).ownBlock) v13 x13_11) ∧ Aside0 (wc.heap[gb147]? = some (.cells #[.int .i64 ((zwR t142 0).f0), .int .i64 ((zwR t142 0).f1), .int .i64 ((zwR t142 0).f2)] 87 (0, 0))) ∧ Aside0 (Below w.heap.size w wc))
     case first =>
      have H := HC12.out
      clear HC12
      by_cases c25 : (Int.tmod ((zwR t142 0).f1) 2) = 1
      ·rw [if_pos c25] at H
       have c25b0 : ((Int.tmod ((zwR t142 0).f1) 2) == 1) = true := beq_iff_eq.mpr c25
       have c25b1 : ((Int.tmod ((zwR t142 0).f1) 2) != 1) = false := bne_eq_false_iff_eq.mpr c25
       clear c25
       (first | rw [c25b0] | (simp only [zcO, i32_w]; rw [c25b0]) | skip)
       obtain ⟨ji26, hji26⟩ : ∃ j_ : Int, (Int.tmod (wrap64 ((wrap64 (((zwR t142 0).f0) + t146)) - 1)) t146) = j_ := ⟨_, rfl⟩
       replace H : (if 0 ≤ (ji26) then (if (ji26) < (l0.length : Int) then (if 0 ≤ (Int.tmod (wrap64 (((zwR t142 0).f0) + ((zwR t142 0).f1))) t146) then (if (Int.tmod (wrap64 (((zwR t142 0).f0) + ((zwR t142 0).f1))) t146) < (l0.length : Int) then (if (ji26) < (l1.length : Int) then (zzB.j0 k l0 l1 t146 ji26 (Int.tmod (wrap64 (((zwR t142 0).f0) + ((zwR t142 0).f1))) t146) (([wrap64 ((wrap64 ((rd l0 (ji26)) - ((zwR t142 0).f2))) + (rd l0 (Int.tmod (wrap64 (((zwR t142 0).f0) + ((zwR t142 0).f1))) t146)))] : List Int)) (([rd l1 (ji26)] : List Int))) else (none)) else (none)) else (none)) else (none)) else (none)) = some (r1, r2, r3) := by first | (rw [hji26] at H; exact H) | (simp only [hji26] at H ⊢; exact H)
       by_cases c27 : 0 ≤ (ji26)
       ·rw [if_pos c27] at H
        have c27b0 : decide (0 ≤ (ji26)) = true := decide_eq_true c27
        clear c27
        by_cases c28 : (ji26) < (l0.length : Int)
        ·rw [if_pos c28] at H
         have c28b0 : decide ((ji26) < (l0.length : Int)) = true := decide_eq_true c28
         clear c28
         obtain ⟨ji29, hji29⟩ : ∃ j_ : Int, (Int.tmod (wrap64 (((zwR t142 0).f0) + ((zwR t142 0).f1))) t146) = j_ := ⟨_, rfl⟩
         replace H : (if 0 ≤ (ji29) then (if (ji29) < (l0.length : Int) then (if (ji26) < (l1.length : Int) then (zzB.j0 k l0 l1 t146 ji26 ji29 (([wrap64 ((wrap64 ((rd l0 (ji26)) - ((zwR t142 0).f2))) + (rd l0 (ji29)))] : List Int)) (([rd l1 (ji26)] : List Int))) else (none)) else (none)) else (none)) = some (r1, r2, r3) := by first | (rw [hji29] at H; exact H) | (simp only [hji29] at H ⊢; exact H)
         by_cases c30 : 0 ≤ (ji29)
         ·rw [if_pos c30] at H
          have c30b0 : decide (0 ≤ (ji29)) = true := decide_eq_true c30
          clear c30
          by_cases c31 : (ji29) < (l0.length : Int)
          ·rw [if_pos c31] at H
           have c31b0 : decide ((ji29) < (l0.length : Int)) = true := decide_eq_true c31
           clear c31
           obtain ⟨y151, hy151⟩ : ∃ y_ : List Int, y_ = (([wrap64 ((wrap64 ((rd l0 (ji26)) - ((zwR t142 0).f2))) + (rd l0 (ji29)))] : List Int)) := ⟨_, rfl⟩
           replace H : (if (ji26) < (l1.length : Int) then (zzB.j0 k l0 l1 t146 ji26 ji29 y151 (([rd l1 (ji26)] : List Int))) else (none)) = some (r1, r2, r3) := by first | (rw [hy151]; with_reducible exact H) | (have H2_ := (Option.bind_some _ _).symm.trans H; rw [hy151]; with_reducible exact H2_) | (have H2_ := (Option.bind_some _ _).symm.trans H; with_reducible exact H2_) | with_reducible exact H | (rw [hy151]; exact H) | exact H
           have Ny151 := zpS hy151
           clear hy151
           by_cases c32 : (ji26) < (l1.length : Int)
           ·rw [if_pos c32] at H
            have c32b0 : decide ((ji26) < (l1.length : Int)) = true := decide_eq_true c32
            clear c32
            obtain ⟨y155, hy155⟩ : ∃ y_ : List Int, y_ = (([rd l1 (ji26)] : List Int)) := ⟨_, rfl⟩
            replace H : (zzB.j0 k l0 l1 t146 ji26 ji29 y151 y155) = some (r1, r2, r3) := by first | (rw [hy155]; with_reducible exact H) | (have H2_ := (Option.bind_some _ _).symm.trans H; rw [hy155]; with_reducible exact H2_) | (have H2_ := (Option.bind_some _ _).symm.trans H; with_reducible exact H2_) | with_reducible exact H | (rw [hy155]; exact H) | exact H
            have Ny155 := zpS hy155
            clear hy155
            have H' := zpS H
            clear H
            try go_wp2
            have n0_ := zpS (Kd.R_drew HO144.out)
            have n1_ := zpS (ztN BK147.out)
            have n2_ := zpS (zvF HB.out)
            clear HO144
            clear BK147
            clear HB
            have HO144 := n0_
            have BK147 := n1_
            have HB := n2_
            clear n0_ n1_ n2_
            have p149 : 0 ≤ ((ji26) : Int) := of_decide_eq_true (by first | (with_reducible assumption) | assumption)
            have q149 : (ji26) < (l0.length : Int) := of_decide_eq_true (by first | (with_reducible assumption) | assumption)
            obtain ⟨ad149, e149, hx149_0⟩ := Kd.at_int HR0.out (ji26) p149 q149
            have hw149_0 := hx149_0
            cases e149
            replace hx149_0 := cel_ HB.out hx149_0
            replace p149 := eq_true p149
            replace q149 := eq_true q149
            have p150 : 0 ≤ ((ji29) : Int) := of_decide_eq_true (by first | (with_reducible assumption) | assumption)
            have q150 : (ji29) < (l0.length : Int) := of_decide_eq_true (by first | (with_reducible assumption) | assumption)
            obtain ⟨ad150, e150, hx150_0⟩ := Kd.at_int HR0.out (ji29) p150 q150
            have hw150_0 := hx150_0
            obtain rfl : ad149 = ad150 := (by injection e150)
            replace hx150_0 := cel_ HB.out hx150_0
            replace p150 := eq_true p150
            replace q150 := eq_true q150
            have p154 : 0 ≤ ((ji26) : Int) := of_decide_eq_true (by first | (with_reducible assumption) | assumption)
            have q154 : (ji26) < (l1.length : Int) := of_decide_eq_true (by first | (with_reducible assumption) | assumption)
            obtain ⟨ad154, e154, hx154_0⟩ := Kd.at_int HR1.out (ji26) p154 q154
            have hw154_0 := hx154_0
            cases e154
            replace hx154_0 := cel_ HB.out hx154_0
            replace p154 := eq_true p154
            replace q154 := eq_true q154
            refine start_ (n := 20) (S := fun w' => True) (ds := []) #[false, false, false, false, false, false, false, false, false, false, false, false, false, false, false, false, false, false, false, false] (by kernel_rfl) rfl rfl trivial (fun hHeld => ?_); refine with_tabW zzB.tab10 zzB.bits10 (fun HT_ HW_ => ?_)
            generalize w23.drew = w33 at HO144 BK147 HB hx149_0 hx150_0 hx154_0 hHeld ⊢
            refine pu_ 0 (some 49) (bl_ 20 1) ?_
            refine pu_ 1 (some 50) (bl_ 20 3) ?_
            refine pu_ 4 (some 53) (bl_ 20 19) ?_
            refine pu_ 7 (some 56) (bl_ 20 147) ?_
            refine pu_ 8 (some 57) (bl_ 20 403) ?_
            refine pu_ 13 (some 62) (bl_ 20 8595) ?_
            refine pu_ 14 (some 63) (bl_ 20 24979) ?_
            refine inv_at [2, 3, 5, 6, 9, 10, 11, 12, 15, 16, 17, 18, 19] (fun a0_ b a w' => ∃ (v152 : Value) (v156 : Value) (m18_ : Value) (m19_ : Value), a = zfO a0_ b [(2, 51, .pointer (some (ad149.add ((ji26)).toNat))), (3, 52, .int .i64 (rd l0 (ji26))), (5, 54, .int .i64 ((zwR t142 0).f2)), (6, 55, .int .i64 (wrap64 ((rd l0 (ji26)) - ((zwR t142 0).f2)))), (9, 58, .pointer (some (ad149.add ((ji29)).toNat))), (10, 59, .int .i64 (rd l0 (ji29))), (11, 60, .int .i64 (wrap64 ((wrap64 ((rd l0 (ji26)) - ((zwR t142 0).f2))) + (rd l0 (ji29))))), (12, 61, v152), (15, 64, .pointer (some (ad154.add ((ji26)).toNat))), (16, 65, .int .i64 (rd l1 (ji26))), (17, 66, v156), (18, 12, m18_), (19, 13, m19_)] ∧ (Kd.R k87 87 w' w.heap.size (fun k_ => k_ ≠ gb147) (.slice (some ad145) t142.length co14) t142) ∧ (w'.heap[gb147]? = some (.cells #[.int .i64 ((zwR t142 0).f0), .int .i64 ((zwR t142 0).f1), .int .i64 ((zwR t142 0).f2)] 87 (0, 0))) ∧ (Below w.heap.size w w') ∧ (b 12 = true → Kd.R (Kd.int .i64) 2 w' w.heap.size (fun k_ => b 17 = true → some k_ ≠ (v156 : Value).ownBlock) v152 y151) ∧ (b 17 = true → Kd.R (Kd.int .i64) 2 w' w.heap.size (fun k_ => b 12 = true → some k_ ≠ (v152 : Value).ownBlock) v156 y155) ∧ (b 18 = true → (m18_ : Value) = v152) ∧ (b 19 = true → (m19_ : Value) = v156)) HT_.out HW_.out (by kernel_rfl) (by kernel_rfl) ?_ ?_ ?_
            ·exact ⟨.bool false, .bool false, .bool false, .bool false, by simp only [zfO, Bool.false_eq_true, if_false], (Kd.R_mono HO144.out (fun _ hk => by first | exact hk.2 | exact hk)), BK147.out, HB.out, fun h_ => absurd h_ (by decide), fun h_ => absurd h_ (by decide), fun h_ => absurd h_ (by decide), fun h_ => absurd h_ (by decide)⟩
            ·skip
             clear BK147 HB HO144
             refine zuE ?_ ?_
             ·rintro b a w' ⟨v152, v156, m18_, m19_, ha, Q_HO144, Q_BK147, Q_HB, Q_HO153, Q_HO157, Q_X18_, Q_X19_⟩ hb_ hon hoff
              refine ⟨_, rfl, fun K hK => ?_⟩
              have e49 : a.tmps[49]? = some (.slice (some ad149) l0.length c0) := by rw [ha]; exact (zqL rfl).trans rfl
              have e50 : a.tmps[50]? = some (.int .i64 ji26) := by rw [ha]; exact (zqL rfl).trans rfl
              replace ha := zpS ha
              have HO144 := zpS Q_HO144
              have BK147 := zpS Q_BK147
              have HB := zpS Q_HB
              have hs0_ : w'.cell? (ad149.add ((ji26)).toNat) = some (.int .i64 (rd l0 (ji26))) := (cel_ HB.out hw149_0)
              refine zcF (w1 := w') (v := .pointer (some (ad149.add ((ji26)).toNat))) (by rfl) rfl ?_ ?_
              ·go_simp
               (try simp only [zcO])
               try rfl
              refine hK.out _ _ ⟨v152, v156, m18_, m19_, (by rw [ha.out]; exact zxE 0 hb_ rfl rfl rfl), Q_HO144, Q_BK147, Q_HB, fun h0_ => absurd ((hoff 12 (by kernel_rfl)).symm.trans h0_) (by decide), Q_HO157, fun h0_ => absurd ((hoff 18 (by kernel_rfl)).symm.trans h0_) (by decide), fun h0_ => absurd ((hoff 19 (by kernel_rfl)).symm.trans h0_) (by decide)⟩
             refine zuE ?_ ?_
             ·rintro b a w' ⟨v152, v156, m18_, m19_, ha, Q_HO144, Q_BK147, Q_HB, Q_HO153, Q_HO157, Q_X18_, Q_X19_⟩ hb_ hon hoff
              refine ⟨_, rfl, fun K hK => ?_⟩
              have e51 : a.tmps[51]? = some (.pointer (some (ad149.add ((ji26)).toNat))) := by rw [ha]; exact zwO (e := (2, 51, .pointer (some (ad149.add ((ji26)).toNat)))) 0 rfl rfl (hon 2 (by kernel_rfl)) rfl
              replace ha := zpS ha
              have HO144 := zpS Q_HO144
              have BK147 := zpS Q_BK147
              have HB := zpS Q_HB
              have hs0_ : w'.cell? (ad149.add ((ji26)).toNat) = some (.int .i64 (rd l0 (ji26))) := (cel_ HB.out hw149_0)
              refine zcF (w1 := w') (v := .int .i64 (rd l0 (ji26))) (by rfl) rfl ?_ ?_
              ·go_simp
               (try simp only [zcO])
               try rfl
              refine hK.out _ _ ⟨v152, v156, m18_, m19_, (by rw [ha.out]; exact zxE 1 hb_ rfl rfl rfl), Q_HO144, Q_BK147, Q_HB, fun h0_ => absurd ((hoff 12 (by kernel_rfl)).symm.trans h0_) (by decide), Q_HO157, fun h0_ => absurd ((hoff 18 (by kernel_rfl)).symm.trans h0_) (by decide), fun h0_ => absurd ((hoff 19 (by kernel_rfl)).symm.trans h0_) (by decide)⟩
             refine zuE ?_ ?_
             ·rintro b a w' ⟨v152, v156, m18_, m19_, ha, Q_HO144, Q_BK147, Q_HB, Q_HO153, Q_HO157, Q_X18_, Q_X19_⟩ hb_ hon hoff
              refine ⟨_, rfl, fun K hK => ?_⟩
              have e53 : a.tmps[53]? = some (.pointer (some ⟨gb147, 2, none⟩)) := by rw [ha]; exact (zqL rfl).trans rfl
              replace ha := zpS ha
              have HO144 := zpS Q_HO144
              have BK147 := zpS Q_BK147
              have HB := zpS Q_HB
              have hc0_ : w'.cell? ⟨gb147, 0, none⟩ = some (.int .i64 ((zwR t142 0).f0)) := (zzS BK147.out 0).trans rfl
              have hc1_ : w'.cell? ⟨gb147, 1, none⟩ = some (.int .i64 ((zwR t142 0).f1)) := (zzS BK147.out 1).trans rfl
              have hc2_ : w'.cell? ⟨gb147, 2, none⟩ = some (.int .i64 ((zwR t142 0).f2)) := (zzS BK147.out 2).trans rfl
              refine zcF (w1 := w') (v := .int .i64 ((zwR t142 0).f2)) (by rfl) rfl ?_ ?_
              ·go_simp
               (try simp only [zcO])
               try rfl
              refine hK.out _ _ ⟨v152, v156, m18_, m19_, (by rw [ha.out]; exact zxE 2 hb_ rfl rfl rfl), Q_HO144, Q_BK147, Q_HB, fun h0_ => absurd ((hoff 12 (by kernel_rfl)).symm.trans h0_) (by decide), Q_HO157, fun h0_ => absurd ((hoff 18 (by kernel_rfl)).symm.trans h0_) (by decide), fun h0_ => absurd ((hoff 19 (by kernel_rfl)).symm.trans h0_) (by decide)⟩
             refine zuE ?_ ?_
             ·rintro b a w' ⟨v152, v156, m18_, m19_, ha, Q_HO144, Q_BK147, Q_HB, Q_HO153, Q_HO157, Q_X18_, Q_X19_⟩ hb_ hon hoff
              refine ⟨_, rfl, fun K hK => ?_⟩
              have e52 : a.tmps[52]? = some (.int .i64 (rd l0 (ji26))) := by rw [ha]; exact zwO (e := (3, 52, .int .i64 (rd l0 (ji26)))) 1 rfl rfl (hon 3 (by kernel_rfl)) rfl
              have e54 : a.tmps[54]? = some (.int .i64 ((zwR t142 0).f2)) := by rw [ha]; exact zwO (e := (5, 54, .int .i64 ((zwR t142 0).f2))) 2 rfl rfl (hon 5 (by kernel_rfl)) rfl
              replace ha := zpS ha
              have HO144 := zpS Q_HO144
              have BK147 := zpS Q_BK147
              have HB := zpS Q_HB
              refine zcF (w1 := w') (v := .int .i64 (wrap64 ((rd l0 (ji26)) - ((zwR t142 0).f2)))) (by rfl) rfl ?_ ?_
              ·go_simp
               (try simp only [zcO])
               try rfl
              refine hK.out _ _ ⟨v152, v156, m18_, m19_, (by rw [ha.out]; exact zxE 3 hb_ rfl rfl rfl), Q_HO144, Q_BK147, Q_HB, fun h0_ => absurd ((hoff 12 (by kernel_rfl)).symm.trans h0_) (by decide), Q_HO157, fun h0_ => absurd ((hoff 18 (by kernel_rfl)).symm.trans h0_) (by decide), fun h0_ => absurd ((hoff 19 (by kernel_rfl)).symm.trans h0_) (by decide)⟩
             refine zuE ?_ ?_
             ·rintro b a w' ⟨v152, v156, m18_, m19_, ha, Q_HO144, Q_BK147, Q_HB, Q_HO153, Q_HO157, Q_X18_, Q_X19_⟩ hb_ hon hoff
              refine ⟨_, rfl, fun K hK => ?_⟩
              have e56 : a.tmps[56]? = some (.slice (some ad149) l0.length c0) := by rw [ha]; exact (zqL rfl).trans rfl
              have e57 : a.tmps[57]? = some (.int .i64 ji29) := by rw [ha]; exact (zqL rfl).trans rfl
              replace ha := zpS ha
              have HO144 := zpS Q_HO144
              have BK147 := zpS Q_BK147
              have HB := zpS Q_HB
              have hs1_ : w'.cell? (ad149.add ((ji29)).toNat) = some (.int .i64 (rd l0 (ji29))) := (cel_ HB.out hw150_0)
              refine zcF (w1 := w') (v := .pointer (some (ad149.add ((ji29)).toNat))) (by rfl) rfl ?_ ?_
              ·go_simp
               (try simp only [zcO])
               try rfl
              refine hK.out _ _ ⟨v152, v156, m18_, m19_, (by rw [ha.out]; exact zxE 4 hb_ rfl rfl rfl), Q_HO144, Q_BK147, Q_HB, fun h0_ => absurd ((hoff 12 (by kernel_rfl)).symm.trans h0_) (by decide), Q_HO157, fun h0_ => absurd ((hoff 18 (by kernel_rfl)).symm.trans h0_) (by decide), fun h0_ => absurd ((hoff 19 (by kernel_rfl)).symm.trans h0_) (by decide)⟩
             refine zuE ?_ ?_
             ·rintro b a w' ⟨v152, v156, m18_, m19_, ha, Q_HO144, Q_BK147, Q_HB, Q_HO153, Q_HO157, Q_X18_, Q_X19_⟩ hb_ hon hoff
              refine ⟨_, rfl, fun K hK => ?_⟩
              have e58 : a.tmps[58]? = some (.pointer (some (ad149.add ((ji29)).toNat))) := by rw [ha]; exact zwO (e := (9, 58, .pointer (some (ad149.add ((ji29)).toNat)))) 4 rfl rfl (hon 9 (by kernel_rfl)) rfl
              replace ha := zpS ha
              have HO144 := zpS Q_HO144
              have BK147 := zpS Q_BK147
              have HB := zpS Q_HB
              have hs1_ : w'.cell? (ad149.add ((ji29)).toNat) = some (.int .i64 (rd l0 (ji29))) := (cel_ HB.out hw150_0)
              refine zcF (w1 := w') (v := .int .i64 (rd l0 (ji29))) (by rfl) rfl ?_ ?_
              ·go_simp
               (try simp only [zcO])
               try rfl
              refine hK.out _ _ ⟨v152, v156, m18_, m19_, (by rw [ha.out]; exact zxE 5 hb_ rfl rfl rfl), Q_HO144, Q_BK147, Q_HB, fun h0_ => absurd ((hoff 12 (by kernel_rfl)).symm.trans h0_) (by decide), Q_HO157, fun h0_ => absurd ((hoff 18 (by kernel_rfl)).symm.trans h0_) (by decide), fun h0_ => absurd ((hoff 19 (by kernel_rfl)).symm.trans h0_) (by decide)⟩
             refine zuE ?_ ?_
             ·rintro b a w' ⟨v152, v156, m18_, m19_, ha, Q_HO144, Q_BK147, Q_HB, Q_HO153, Q_HO157, Q_X18_, Q_X19_⟩ hb_ hon hoff
              refine ⟨_, rfl, fun K hK => ?_⟩
              have e55 : a.tmps[55]? = some (.int .i64 (wrap64 ((rd l0 (ji26)) - ((zwR t142 0).f2)))) := by rw [ha]; exact zwO (e := (6, 55, .int .i64 (wrap64 ((rd l0 (ji26)) - ((zwR t142 0).f2))))) 3 rfl rfl (hon 6 (by kernel_rfl)) rfl
              have e59 : a.tmps[59]? = some (.int .i64 (rd l0 (ji29))) := by rw [ha]; exact zwO (e := (10, 59, .int .i64 (rd l0 (ji29)))) 5 rfl rfl (hon 10 (by kernel_rfl)) rfl
              replace ha := zpS ha
              have HO144 := zpS Q_HO144
              have BK147 := zpS Q_BK147
              have HB := zpS Q_HB
              refine zcF (w1 := w') (v := .int .i64 (wrap64 ((wrap64 ((rd l0 (ji26)) - ((zwR t142 0).f2))) + (rd l0 (ji29))))) (by rfl) rfl ?_ ?_
              ·go_simp
               (try simp only [zcO])
               try rfl
              refine hK.out _ _ ⟨v152, v156, m18_, m19_, (by rw [ha.out]; exact zxE 6 hb_ rfl rfl rfl), Q_HO144, Q_BK147, Q_HB, fun h0_ => absurd ((hoff 12 (by kernel_rfl)).symm.trans h0_) (by decide), Q_HO157, fun h0_ => absurd ((hoff 18 (by kernel_rfl)).symm.trans h0_) (by decide), fun h0_ => absurd ((hoff 19 (by kernel_rfl)).symm.trans h0_) (by decide)⟩
             refine zuE ?_ ?_
             ·rintro b a w' ⟨v152, v156, m18_, m19_, ha, Q_HO144, Q_BK147, Q_HB, Q_HO153, Q_HO157, Q_X18_, Q_X19_⟩ hb_ hon hoff
              refine ⟨_, rfl, fun K hK => ?_⟩
              have e60 : a.tmps[60]? = some (.int .i64 (wrap64 ((wrap64 ((rd l0 (ji26)) - ((zwR t142 0).f2))) + (rd l0 (ji29))))) := by rw [ha]; exact zwO (e := (11, 60, .int .i64 (wrap64 ((wrap64 ((rd l0 (ji26)) - ((zwR t142 0).f2))) + (rd l0 (ji29)))))) 6 rfl rfl (hon 11 (by kernel_rfl)) rfl
              replace ha := zpS ha
              have HO144 := zpS Q_HO144
              have BK147 := zpS Q_BK147
              have HB := zpS Q_HB
              refine Kd.R_lit_step (Kd.int .i64) _ 2 ?hg (N := 61) ?hd (xs := ([wrap64 ((wrap64 ((rd l0 (ji26)) - ((zwR t142 0).f2))) + (rd l0 (ji29)))] : List Int)) (zlR := [.int .i64 (wrap64 ((wrap64 ((rd l0 (ji26)) - ((zwR t142 0).f2))) + (rd l0 (ji29))))]) (ok := fun _ => True) (okp := fun _ => True) ?hr ?hp (fun _ hk => hk) trivial (Below.refl _ _) (Nat.le_refl _) (by simp) ?_; (case hd => rfl); (case hg => rfl); (case hr => first | (go_simp; done) | (go_simp; rfl)); (case hp => exact (zfH.one (show Kd.M (Kd.int .i64) _ _ _ (wrap64 ((wrap64 ((rd l0 (ji26)) - ((zwR t142 0).f2))) + (rd l0 (ji29)))) [.int .i64 (wrap64 ((wrap64 ((rd l0 (ji26)) - ((zwR t142 0).f2))) + (rd l0 (ji29))))] from rfl) (zfH.none _ _)))
              intro v152 w34 ho35 hb hg_ hnew_
              clear hg_ hnew_
              (first | rw [← Ny151.out] at ho35 | (simp only [Int.reduceToNat] at ho35; rw [← Ny151.out] at ho35))
              have n0_ := zpS (Kd.R_below (by (with_reducible repeat (first | apply Kd.R_alloc | apply Kd.R_drewN | apply Kd.R_drew)); exact HO144.out) hb)
              have n1_ := zpS (show Kd.R (Kd.int .i64) 2 w34 w.heap.size (fun k_ => b 17 = true → some k_ ≠ (v156 : Value).ownBlock) v152 y151 from Kd.R_mono (Kd.R_lower (Kd.R_bound ho35) (zuA bb_)) (fun k_ hk_ h0_ e_ => by obtain ⟨_, ho_⟩ := Kd.R_own (Q_HO157 h0_); have := own_lt ho_ k_ e_.symm; have := hk_.2.1; omega))
              have n2_ := zpS (zgM (g := gb147) (o := .cells #[.int .i64 ((zwR t142 0).f0), .int .i64 ((zwR t142 0).f1), .int .i64 ((zwR t142 0).f2)] 87 (0, 0)) bk_ hb)
              have n3_ := (ns_ hb)
              have z_HO157 := fun (h0_ : b 17 = true) => (Kd.R_elder' (by (with_reducible repeat (first | apply Kd.R_alloc | apply Kd.R_drewN | apply Kd.R_drew)); exact (Q_HO157 h0_)) (Kd.R_base ho35) hb)
              clear HO144
              clear BK147
              clear HB
              have HO144 := n0_
              have HO153 := n1_
              have BK147 := n2_
              have HB := n3_
              clear n0_ n1_ n2_ n3_
              clear hb ho35
              refine hK.out _ _ ⟨v152, v156, m18_, m19_, (by rw [ha.out]; exact zxE 7 hb_ rfl rfl rfl), (by (with_reducible repeat (first | apply Kd.R_alloc | apply Kd.R_drewN | apply Kd.R_drew)); exact HO144.out), bk_, bb_, fun _ => (by (with_reducible repeat (first | apply Kd.R_alloc | apply Kd.R_drewN | apply Kd.R_drew)); exact HO153.out), (fun h0_ => Kd.R_mono (z_HO157 h0_) (fun _ h_ _ => h_.2)), fun h0_ => absurd ((hoff 18 (by kernel_rfl)).symm.trans h0_) (by decide), fun h0_ => absurd ((hoff 19 (by kernel_rfl)).symm.trans h0_) (by decide)⟩
             refine zuE ?_ ?_
             ·rintro b a w' ⟨v152, v156, m18_, m19_, ha, Q_HO144, Q_BK147, Q_HB, Q_HO153, Q_HO157, Q_X18_, Q_X19_⟩ hb_ hon hoff
              refine ⟨_, rfl, fun K hK => ?_⟩
              have e62 : a.tmps[62]? = some (.slice (some ad154) l1.length c1) := by rw [ha]; exact (zqL rfl).trans rfl
              have e63 : a.tmps[63]? = some (.int .i64 ji26) := by rw [ha]; exact (zqL rfl).trans rfl
              replace ha := zpS ha
              have HO144 := zpS Q_HO144
              have BK147 := zpS Q_BK147
              have HB := zpS Q_HB
              have hs2_ : w'.cell? (ad154.add ((ji26)).toNat) = some (.int .i64 (rd l1 (ji26))) := (cel_ HB.out hw154_0)
              refine zcF (w1 := w') (v := .pointer (some (ad154.add ((ji26)).toNat))) (by rfl) rfl ?_ ?_
              ·go_simp
               (try simp only [zcO])
               try rfl
              refine hK.out _ _ ⟨v152, v156, m18_, m19_, (by rw [ha.out]; exact zxE 8 hb_ rfl rfl rfl), Q_HO144, Q_BK147, Q_HB, Q_HO153, fun h0_ => absurd ((hoff 17 (by kernel_rfl)).symm.trans h0_) (by decide), Q_X18_, fun h0_ => absurd ((hoff 19 (by kernel_rfl)).symm.trans h0_) (by decide)⟩
             refine zuE ?_ ?_
             ·rintro b a w' ⟨v152, v156, m18_, m19_, ha, Q_HO144, Q_BK147, Q_HB, Q_HO153, Q_HO157, Q_X18_, Q_X19_⟩ hb_ hon hoff
              refine ⟨_, rfl, fun K hK => ?_⟩
              have e64 : a.tmps[64]? = some (.pointer (some (ad154.add ((ji26)).toNat))) := by rw [ha]; exact zwO (e := (15, 64, .pointer (some (ad154.add ((ji26)).toNat)))) 8 rfl rfl (hon 15 (by kernel_rfl)) rfl
              replace ha := zpS ha
              have HO144 := zpS Q_HO144
              have BK147 := zpS Q_BK147
              have HB := zpS Q_HB
              have hs2_ : w'.cell? (ad154.add ((ji26)).toNat) = some (.int .i64 (rd l1 (ji26))) := (cel_ HB.out hw154_0)
              refine zcF (w1 := w') (v := .int .i64 (rd l1 (ji26))) (by rfl) rfl ?_ ?_
              ·go_simp
               (try simp only [zcO])
               try rfl
              refine hK.out _ _ ⟨v152, v156, m18_, m19_, (by rw [ha.out]; exact zxE 9 hb_ rfl rfl rfl), Q_HO144, Q_BK147, Q_HB, Q_HO153, fun h0_ => absurd ((hoff 17 (by kernel_rfl)).symm.trans h0_) (by decide), Q_X18_, fun h0_ => absurd ((hoff 19 (by kernel_rfl)).symm.trans h0_) (by decide)⟩
             refine zuE ?_ ?_
             ·rintro b a w' ⟨v152, v156, m18_, m19_, ha, Q_HO144, Q_BK147, Q_HB, Q_HO153, Q_HO157, Q_X18_, Q_X19_⟩ hb_ hon hoff
              refine ⟨_, rfl, fun K hK => ?_⟩
              have e65 : a.tmps[65]? = some (.int .i64 (rd l1 (ji26))) := by rw [ha]; exact zwO (e := (16, 65, .int .i64 (rd l1 (ji26)))) 9 rfl rfl (hon 16 (by kernel_rfl)) rfl
              replace ha := zpS ha
              have HO144 := zpS Q_HO144
              have BK147 := zpS Q_BK147
              have HB := zpS Q_HB
              refine Kd.R_lit_step (Kd.int .i64) _ 2 ?hg (N := 66) ?hd (xs := ([rd l1 (ji26)] : List Int)) (zlR := [.int .i64 (rd l1 (ji26))]) (ok := fun _ => True) (okp := fun _ => True) ?hr ?hp (fun _ hk => hk) trivial (Below.refl _ _) (Nat.le_refl _) (by simp) ?_; (case hd => rfl); (case hg => rfl); (case hr => first | (go_simp; done) | (go_simp; rfl)); (case hp => exact (zfH.one (show Kd.M (Kd.int .i64) _ _ _ (rd l1 (ji26)) [.int .i64 (rd l1 (ji26))] from rfl) (zfH.none _ _)))
              intro v156 w34 ho35 hb hg_ hnew_
              clear hg_ hnew_
              (first | rw [← Ny155.out] at ho35 | (simp only [Int.reduceToNat] at ho35; rw [← Ny155.out] at ho35))
              have n0_ := zpS (Kd.R_below (by (with_reducible repeat (first | apply Kd.R_alloc | apply Kd.R_drewN | apply Kd.R_drew)); exact HO144.out) hb)
              have n1_ := zpS (show Kd.R (Kd.int .i64) 2 w34 w.heap.size (fun k_ => b 12 = true → some k_ ≠ (v152 : Value).ownBlock) v156 y155 from Kd.R_mono (Kd.R_lower (Kd.R_bound ho35) (zuA bb_)) (fun k_ hk_ h0_ e_ => by obtain ⟨_, ho_⟩ := Kd.R_own (Q_HO153 h0_); have := own_lt ho_ k_ e_.symm; have := hk_.2.1; omega))
              have n2_ := zpS (zgM (g := gb147) (o := .cells #[.int .i64 ((zwR t142 0).f0), .int .i64 ((zwR t142 0).f1), .int .i64 ((zwR t142 0).f2)] 87 (0, 0)) bk_ hb)
              have n3_ := (ns_ hb)
              have z_HO153 := fun (h0_ : b 12 = true) => (Kd.R_elder' (by (with_reducible repeat (first | apply Kd.R_alloc | apply Kd.R_drewN | apply Kd.R_drew)); exact (Q_HO153 h0_)) (Kd.R_base ho35) hb)
              clear HO144
              clear BK147
              clear HB
              have HO144 := n0_
              have HO157 := n1_
              have BK147 := n2_
              have HB := n3_
              clear n0_ n1_ n2_ n3_
              clear hb ho35
              refine hK.out _ _ ⟨v152, v156, m18_, m19_, (by rw [ha.out]; exact zxE 10 hb_ rfl rfl rfl), (by (with_reducible repeat (first | apply Kd.R_alloc | apply Kd.R_drewN | apply Kd.R_drew)); exact HO144.out), bk_, bb_, (fun h0_ => Kd.R_mono (z_HO153 h0_) (fun _ h_ _ => h_.2)), fun _ => (by (with_reducible repeat (first | apply Kd.R_alloc | apply Kd.R_drewN | apply Kd.R_drew)); exact HO157.out), Q_X18_, fun h0_ => absurd ((hoff 19 (by kernel_rfl)).symm.trans h0_) (by decide)⟩
             refine zuE ?_ ?_
             ·rintro b a w' ⟨v152, v156, m18_, m19_, ha, Q_HO144, Q_BK147, Q_HB, Q_HO153, Q_HO157, Q_X18_, Q_X19_⟩ hb_ hon hoff
              refine ⟨_, rfl, fun K hK => ?_⟩
              have e61 : a.tmps[61]? = some (v152) := by rw [ha]; exact zwO (e := (12, 61, v152)) 7 rfl rfl (hon 12 (by kernel_rfl)) rfl
              replace ha := zpS ha
              have HO144 := zpS Q_HO144
              have BK147 := zpS Q_BK147
              have HB := zpS Q_HB
              have HO153 := zpS (Q_HO153 (hon 12 (by kernel_rfl)))
              refine zcF (w1 := w') (v := v152) (by rfl) rfl ?_ ?_
              ·go_simp
               (try simp only [zcO])
               try rfl
              refine hK.out _ _ ⟨v152, v156, (v152), m19_, (by rw [ha.out]; exact zxE 11 hb_ rfl rfl rfl), Q_HO144, Q_BK147, Q_HB, Q_HO153, Q_HO157, fun _ => rfl, fun h0_ => absurd ((hoff 19 (by kernel_rfl)).symm.trans h0_) (by decide)⟩
             refine zuE ?_ ?_
             ·rintro b a w' ⟨v152, v156, m18_, m19_, ha, Q_HO144, Q_BK147, Q_HB, Q_HO153, Q_HO157, Q_X18_, Q_X19_⟩ hb_ hon hoff
              refine ⟨_, rfl, fun K hK => ?_⟩
              have e66 : a.tmps[66]? = some (v156) := by rw [ha]; exact zwO (e := (17, 66, v156)) 10 rfl rfl (hon 17 (by kernel_rfl)) rfl
              replace ha := zpS ha
              have HO144 := zpS Q_HO144
              have BK147 := zpS Q_BK147
              have HB := zpS Q_HB
              have HO153 := zpS (Q_HO153 (hon 12 (by kernel_rfl)))
              have HO157 := zpS (Q_HO157 (hon 17 (by kernel_rfl)))
              refine zcF (w1 := w') (v := v156) (by rfl) rfl ?_ ?_
              ·go_simp
               (try simp only [zcO])
               try rfl
              refine hK.out _ _ ⟨v152, v156, m18_, (v156), (by rw [ha.out]; exact zxE 12 hb_ rfl rfl rfl), Q_HO144, Q_BK147, Q_HB, Q_HO153, Q_HO157, Q_X18_, fun _ => rfl⟩
             exact steps_nil
            rintro b a w38 hall ⟨v152, v156, m18_, m19_, ha, Q_HO144, Q_BK147, Q_HB, Q_HO153, Q_HO157, Q_X18_, Q_X19_⟩
            clear BK147 HB HO144
            have hb2_ := hall 2 (by kernel_rfl)
            have hb3_ := hall 3 (by kernel_rfl)
            have hb5_ := hall 5 (by kernel_rfl)
            have hb6_ := hall 6 (by kernel_rfl)
            have hb9_ := hall 9 (by kernel_rfl)
            have hb10_ := hall 10 (by kernel_rfl)
            have hb11_ := hall 11 (by kernel_rfl)
            have hb12_ := hall 12 (by kernel_rfl)
            have hb15_ := hall 15 (by kernel_rfl)
            have hb16_ := hall 16 (by kernel_rfl)
            have hb17_ := hall 17 (by kernel_rfl)
            have hb18_ := hall 18 (by kernel_rfl)
            have hb19_ := hall 19 (by kernel_rfl)
            subst ha
            obtain rfl := Q_X18_ hb18_
            obtain rfl := Q_X19_ hb19_
            simp only [zfO, hb2_, hb3_, hb5_, hb6_, hb9_, hb10_, hb11_, hb12_, hb15_, hb16_, hb17_, hb18_, hb19_, if_true, Act.put, List.setIfInBounds_toArray, List.set_cons_zero, List.set_cons_succ]
            have HO144 := zpS Q_HO144
            clear Q_HO144
            have BK147 := zpS Q_BK147
            clear Q_BK147
            have HB := zpS Q_HB
            clear Q_HB
            have HO153 := zpS (Kd.R_mono (Q_HO153 hb12_) (fun _ hk => hk hb17_))
            clear Q_HO153
            have HO157 := zpS (Kd.R_mono (Q_HO157 hb17_) (fun _ hk => hk hb12_))
            clear Q_HO157
            clear hall hb2_ hb3_ hb5_ hb6_ hb9_ hb10_ hb11_ hb12_ hb15_ hb16_ hb17_ hb18_ hb19_
            try go_wp2
            (try subst hji26); (try subst hji29); (try subst hji44); (try subst hji47); (try subst hji62); (try subst hji65); skip
            go_meet
            case rel => exact ⟨_, (y151), (y155), H', ⟨by first | omega | exact Nat.le_refl _⟩, ⟨by (with_reducible repeat (first | apply Kd.R_alloc | apply Kd.R_drewN | apply Kd.R_drew)); exact HO153.out⟩, ⟨by (with_reducible repeat (first | apply Kd.R_alloc | apply Kd.R_drewN | apply Kd.R_drew)); exact HO157.out⟩, ⟨bk_⟩, ⟨bb_⟩⟩
           ·rw [if_neg c32] at H
            exact absurd H (by simp)
          ·rw [if_neg c31] at H
           exact absurd H (by simp)
         ·rw [if_neg c30] at H
          exact absurd H (by simp)
        ·rw [if_neg c28] at H
         exact absurd H (by simp)
       ·rw [if_neg c27] at H
        exact absurd H (by simp)
      ·rw [if_neg c25] at H
       have c25b0 : ((Int.tmod ((zwR t142 0).f1) 2) == 1) = false := beq_eq_false_iff_ne.mpr c25
       have c25b1 : ((Int.tmod ((zwR t142 0).f1) 2) != 1) = true := bne_iff_ne.mpr c25
       (first | rw [c25b0] | (simp only [zcO, i32_w]; rw [c25b0]) | skip)
       replace H := Option.bind_eq_some_iff.mp H
       obtain ⟨t158, A390, H⟩ := H
       replace H : ((zrS.f k l1 t158).bind fun t161 => ((zeT.f k t161 3).bind fun t164 => ((zeT.f k t161 2).bind fun t165 => (if t164 > t165 then (if 0 ≤ (Int.tmod (wrap64 ((wrap64 (((zwR t142 0).f0) + t146)) - 1)) t146) then (if (Int.tmod (wrap64 ((wrap64 (((zwR t142 0).f0) + t146)) - 1)) t146) < (l0.length : Int) then (if 0 ≤ (Int.tmod (wrap64 (((zwR t142 0).f0) + ((zwR t142 0).f1))) t146) then (if (Int.tmod (wrap64 (((zwR t142 0).f0) + ((zwR t142 0).f1))) t146) < (l0.length : Int) then (if (Int.tmod (wrap64 ((wrap64 (((zwR t142 0).f0) + t146)) - 1)) t146) < (l1.length : Int) then (zzB.j0 k l0 l1 t146 (Int.tmod (wrap64 ((wrap64 (((zwR t142 0).f0) + t146)) - 1)) t146) (Int.tmod (wrap64 (((zwR t142 0).f0) + ((zwR t142 0).f1))) t146) (([rd l0 (Int.tmod (wrap64 ((wrap64 (((zwR t142 0).f0) + t146)) - 1)) t146), rd l0 (Int.tmod (wrap64 (((zwR t142 0).f0) + ((zwR t142 0).f1))) t146)] : List Int)) (([rd l1 (Int.tmod (wrap64 ((wrap64 (((zwR t142 0).f0) + t146)) - 1)) t146), 3] : List Int))) else (none)) else (none)) else (none)) else (none)) else (none)) else (if 0 ≤ (Int.tmod (wrap64 ((wrap64 (((zwR t142 0).f0) + t146)) - 1)) t146) then (if (Int.tmod (wrap64 ((wrap64 (((zwR t142 0).f0) + t146)) - 1)) t146) < (l0.length : Int) then (if 0 ≤ (Int.tmod (wrap64 (((zwR t142 0).f0) + ((zwR t142 0).f1))) t146) then (if (Int.tmod (wrap64 (((zwR t142 0).f0) + ((zwR t142 0).f1))) t146) < (l0.length : Int) then (if (Int.tmod (wrap64 ((wrap64 (((zwR t142 0).f0) + t146)) - 1)) t146) < (l1.length : Int) then (zzB.j0 k l0 l1 t146 (Int.tmod (wrap64 ((wrap64 (((zwR t142 0).f0) + t146)) - 1)) t146) (Int.tmod (wrap64 (((zwR t142 0).f0) + ((zwR t142 0).f1))) t146) (([rd l0 (Int.tmod (wrap64 ((wrap64 (((zwR t142 0).f0) + t146)) - 1)) t146), rd l0 (Int.tmod (wrap64 (((zwR t142 0).f0) + ((zwR t142 0).f1))) t146)] : List Int)) (([rd l1 (Int.tmod (wrap64 ((wrap64 (((zwR t142 0).f0) + t146)) - 1)) t146), 2] : List Int))) else (none)) else (none)) else (none)) else (none)) else (none)))))) = some (r1, r2, r3) := H
       have A39 := zpS A390
       clear A390
       replace H := Option.bind_eq_some_iff.mp H
       obtain ⟨t161, A400, H⟩ := H
       replace H : ((zeT.f k t161 3).bind fun t164 => ((zeT.f k t161 2).bind fun t165 => (if t164 > t165 then (if 0 ≤ (Int.tmod (wrap64 ((wrap64 (((zwR t142 0).f0) + t146)) - 1)) t146) then (if (Int.tmod (wrap64 ((wrap64 (((zwR t142 0).f0) + t146)) - 1)) t146) < (l0.length : Int) then (if 0 ≤ (Int.tmod (wrap64 (((zwR t142 0).f0) + ((zwR t142 0).f1))) t146) then (if (Int.tmod (wrap64 (((zwR t142 0).f0) + ((zwR t142 0).f1))) t146) < (l0.length : Int) then (if (Int.tmod (wrap64 ((wrap64 (((zwR t142 0).f0) + t146)) - 1)) t146) < (l1.length : Int) then (zzB.j0 k l0 l1 t146 (Int.tmod (wrap64 ((wrap64 (((zwR t142 0).f0) + t146)) - 1)) t146) (Int.tmod (wrap64 (((zwR t142 0).f0) + ((zwR t142 0).f1))) t146) (([rd l0 (Int.tmod (wrap64 ((wrap64 (((zwR t142 0).f0) + t146)) - 1)) t146), rd l0 (Int.tmod (wrap64 (((zwR t142 0).f0) + ((zwR t142 0).f1))) t146)] : List Int)) (([rd l1 (Int.tmod (wrap64 ((wrap64 (((zwR t142 0).f0) + t146)) - 1)) t146), 3] : List Int))) else (none)) else (none)) else (none)) else (none)) else (none)) else (if 0 ≤ (Int.tmod (wrap64 ((wrap64 (((zwR t142 0).f0) + t146)) - 1)) t146) then (if (Int.tmod (wrap64 ((wrap64 (((zwR t142 0).f0) + t146)) - 1)) t146) < (l0.length : Int) then (if 0 ≤ (Int.tmod (wrap64 (((zwR t142 0).f0) + ((zwR t142 0).f1))) t146) then (if (Int.tmod (wrap64 (((zwR t142 0).f0) + ((zwR t142 0).f1))) t146) < (l0.length : Int) then (if (Int.tmod (wrap64 ((wrap64 (((zwR t142 0).f0) + t146)) - 1)) t146) < (l1.length : Int) then (zzB.j0 k l0 l1 t146 (Int.tmod (wrap64 ((wrap64 (((zwR t142 0).f0) + t146)) - 1)) t146) (Int.tmod (wrap64 (((zwR t142 0).f0) + ((zwR t142 0).f1))) t146) (([rd l0 (Int.tmod (wrap64 ((wrap64 (((zwR t142 0).f0) + t146)) - 1)) t146), rd l0 (Int.tmod (wrap64 (((zwR t142 0).f0) + ((zwR t142 0).f1))) t146)] : List Int)) (([rd l1 (Int.tmod (wrap64 ((wrap64 (((zwR t142 0).f0) + t146)) - 1)) t146), 2] : List Int))) else (none)) else (none)) else (none)) else (none)) else (none))))) = some (r1, r2, r3) := H
       have A40 := zpS A400
       clear A400
       replace H := Option.bind_eq_some_iff.mp H
       obtain ⟨t164, A410, H⟩ := H
       replace H : ((zeT.f k t161 2).bind fun t165 => (if t164 > t165 then (if 0 ≤ (Int.tmod (wrap64 ((wrap64 (((zwR t142 0).f0) + t146)) - 1)) t146) then (if (Int.tmod (wrap64 ((wrap64 (((zwR t142 0).f0) + t146)) - 1)) t146) < (l0.length : Int) then (if 0 ≤ (Int.tmod (wrap64 (((zwR t142 0).f0) + ((zwR t142 0).f1))) t146) then (if (Int.tmod (wrap64 (((zwR t142 0).f0) + ((zwR t142 0).f1))) t146) < (l0.length : Int) then (if (Int.tmod (wrap64 ((wrap64 (((zwR t142 0).f0) + t146)) - 1)) t146) < (l1.length : Int) then (zzB.j0 k l0 l1 t146 (Int.tmod (wrap64 ((wrap64 (((zwR t142 0).f0) + t146)) - 1)) t146) (Int.tmod (wrap64 (((zwR t142 0).f0) + ((zwR t142 0).f1))) t146) (([rd l0 (Int.tmod (wrap64 ((wrap64 (((zwR t142 0).f0) + t146)) - 1)) t146), rd l0 (Int.tmod (wrap64 (((zwR t142 0).f0) + ((zwR t142 0).f1))) t146)] : List Int)) (([rd l1 (Int.tmod (wrap64 ((wrap64 (((zwR t142 0).f0) + t146)) - 1)) t146), 3] : List Int))) else (none)) else (none)) else (none)) else (none)) else (none)) else (if 0 ≤ (Int.tmod (wrap64 ((wrap64 (((zwR t142 0).f0) + t146)) - 1)) t146) then (if (Int.tmod (wrap64 ((wrap64 (((zwR t142 0).f0) + t146)) - 1)) t146) < (l0.length : Int) then (if 0 ≤ (Int.tmod (wrap64 (((zwR t142 0).f0) + ((zwR t142 0).f1))) t146) then (if (Int.tmod (wrap64 (((zwR t142 0).f0) + ((zwR t142 0).f1))) t146) < (l0.length : Int) then (if (Int.tmod (wrap64 ((wrap64 (((zwR t142 0).f0) + t146)) - 1)) t146) < (l1.length : Int) then (zzB.j0 k l0 l1 t146 (Int.tmod (wrap64 ((wrap64 (((zwR t142 0).f0) + t146)) - 1)) t146) (Int.tmod (wrap64 (((zwR t142 0).f0) + ((zwR t142 0).f1))) t146) (([rd l0 (Int.tmod (wrap64 ((wrap64 (((zwR t142 0).f0) + t146)) - 1)) t146), rd l0 (Int.tmod (wrap64 (((zwR t142 0).f0) + ((zwR t142 0).f1))) t146)] : List Int)) (([rd l1 (Int.tmod (wrap64 ((wrap64 (((zwR t142 0).f0) + t146)) - 1)) t146), 2] : List Int))) else (none)) else (none)) else (none)) else (none)) else (none)))) = some (r1, r2, r3) := H
       have A41 := zpS A410
       clear A410
       replace H := Option.bind_eq_some_iff.mp H
       obtain ⟨t165, A420, H⟩ := H
       replace H : (if t164 > t165 then (if 0 ≤ (Int.tmod (wrap64 ((wrap64 (((zwR t142 0).f0) + t146)) - 1)) t146) then (if (Int.tmod (wrap64 ((wrap64 (((zwR t142 0).f0) + t146)) - 1)) t146) < (l0.length : Int) then (if 0 ≤ (Int.tmod (wrap64 (((zwR t142 0).f0) + ((zwR t142 0).f1))) t146) then (if (Int.tmod (wrap64 (((zwR t142 0).f0) + ((zwR t142 0).f1))) t146) < (l0.length : Int) then (if (Int.tmod (wrap64 ((wrap64 (((zwR t142 0).f0) + t146)) - 1)) t146) < (l1.length : Int) then (zzB.j0 k l0 l1 t146 (Int.tmod (wrap64 ((wrap64 (((zwR t142 0).f0) + t146)) - 1)) t146) (Int.tmod (wrap64 (((zwR t142 0).f0) + ((zwR t142 0).f1))) t146) (([rd l0 (Int.tmod (wrap64 ((wrap64 (((zwR t142 0).f0) + t146)) - 1)) t146), rd l0 (Int.tmod (wrap64 (((zwR t142 0).f0) + ((zwR t142 0).f1))) t146)] : List Int)) (([rd l1 (Int.tmod (wrap64 ((wrap64 (((zwR t142 0).f0) + t146)) - 1)) t146), 3] : List Int))) else (none)) else (none)) else (none)) else (none)) else (none)) else (if 0 ≤ (Int.tmod (wrap64 ((wrap64 (((zwR t142 0).f0) + t146)) - 1)) t146) then (if (Int.tmod (wrap64 ((wrap64 (((zwR t142 0).f0) + t146)) - 1)) t146) < (l0.length : Int) then (if 0 ≤ (Int.tmod (wrap64 (((zwR t142 0).f0) + ((zwR t142 0).f1))) t146) then (if (Int.tmod (wrap64 (((zwR t142 0).f0) + ((zwR t142 0).f1))) t146) < (l0.length : Int) then (if (Int.tmod (wrap64 ((wrap64 (((zwR t142 0).f0) + t146)) - 1)) t146) < (l1.length : Int) then (zzB.j0 k l0 l1 t146 (Int.tmod (wrap64 ((wrap64 (((zwR t142 0).f0) + t146)) - 1)) t146) (Int.tmod (wrap64 (((zwR t142 0).f0) + ((zwR t142 0).f1))) t146) (([rd l0 (Int.tmod (wrap64 ((wrap64 (((zwR t142 0).f0) + t146)) - 1)) t146), rd l0 (Int.tmod (wrap64 (((zwR t142 0).f0) + ((zwR t142 0).f1))) t146)] : List Int)) (([rd l1 (Int.tmod (wrap64 ((wrap64 (((zwR t142 0).f0) + t146)) - 1)) t146), 2] : List Int))) else (none)) else (none)) else (none)) else (none)) else (none))) = some (r1, r2, r3) := H
       have A42 := zpS A420
       clear A420
       by_cases c43 : t164 > t165
       ·rw [if_pos c43] at H
        have c43b0 : decide (t165 < t164) = true := decide_eq_true c43
        clear c43
        obtain ⟨ji44, hji44⟩ : ∃ j_ : Int, (Int.tmod (wrap64 ((wrap64 (((zwR t142 0).f0) + t146)) - 1)) t146) = j_ := ⟨_, rfl⟩
        replace H : (if 0 ≤ (ji44) then (if (ji44) < (l0.length : Int) then (if 0 ≤ (Int.tmod (wrap64 (((zwR t142 0).f0) + ((zwR t142 0).f1))) t146) then (if (Int.tmod (wrap64 (((zwR t142 0).f0) + ((zwR t142 0).f1))) t146) < (l0.length : Int) then (if (ji44) < (l1.length : Int) then (zzB.j0 k l0 l1 t146 ji44 (Int.tmod (wrap64 (((zwR t142 0).f0) + ((zwR t142 0).f1))) t146) (([rd l0 (ji44), rd l0 (Int.tmod (wrap64 (((zwR t142 0).f0) + ((zwR t142 0).f1))) t146)] : List Int)) (([rd l1 (ji44), 3] : List Int))) else (none)) else (none)) else (none)) else (none)) else (none)) = some (r1, r2, r3) := by first | (rw [hji44] at H; exact H) | (simp only [hji44] at H ⊢; exact H)
        (try rw [hji44] at A39)
        (try rw [hji44] at A40)
        (try rw [hji44] at A41)
        (try rw [hji44] at A42)
        by_cases c45 : 0 ≤ (ji44)
        ·rw [if_pos c45] at H
         have c45b0 : decide (0 ≤ (ji44)) = true := decide_eq_true c45
         clear c45
         by_cases c46 : (ji44) < (l0.length : Int)
         ·rw [if_pos c46] at H
          have c46b0 : decide ((ji44) < (l0.length : Int)) = true := decide_eq_true c46
          clear c46
          obtain ⟨ji47, hji47⟩ : ∃ j_ : Int, (Int.tmod (wrap64 (((zwR t142 0).f0) + ((zwR t142 0).f1))) t146) = j_ := ⟨_, rfl⟩
          replace H : (if 0 ≤ (ji47) then (if (ji47) < (l0.length : Int) then (if (ji44) < (l1.length : Int) then (zzB.j0 k l0 l1 t146 ji44 ji47 (([rd l0 (ji44), rd l0 (ji47)] : List Int)) (([rd l1 (ji44), 3] : List Int))) else (none)) else (none)) else (none)) = some (r1, r2, r3) := by first | (rw [hji47] at H; exact H) | (simp only [hji47] at H ⊢; exact H)
          (try rw [hji47] at A39)
          (try rw [hji47] at A40)
          (try rw [hji47] at A41)
          (try rw [hji47] at A42)
          by_cases c48 : 0 ≤ (ji47)
          ·rw [if_pos c48] at H
           have c48b0 : decide (0 ≤ (ji47)) = true := decide_eq_true c48
           clear c48
           by_cases c49 : (ji47) < (l0.length : Int)
           ·rw [if_pos c49] at H
            have c49b0 : decide ((ji47) < (l0.length : Int)) = true := decide_eq_true c49
            clear c49
            obtain ⟨y168, hy168⟩ : ∃ y_ : List Int, y_ = (([rd l0 (ji44), rd l0 (ji47)] : List Int)) := ⟨_, rfl⟩
            replace H : (if (ji44) < (l1.length : Int) then (zzB.j0 k l0 l1 t146 ji44 ji47 y168 (([rd l1 (ji44), 3] : List Int))) else (none)) = some (r1, r2, r3) := by first | (rw [hy168]; with_reducible exact H) | (have H2_ := (Option.bind_some _ _).symm.trans H; rw [hy168]; with_reducible exact H2_) | (have H2_ := (Option.bind_some _ _).symm.trans H; with_reducible exact H2_) | with_reducible exact H | (rw [hy168]; exact H) | exact H
            have Ny168 := zpS hy168
            clear hy168
            by_cases c50 : (ji44) < (l1.length : Int)
            ·rw [if_pos c50] at H
             have c50b0 : decide ((ji44) < (l1.length : Int)) = true := decide_eq_true c50
             clear c50
             obtain ⟨y172, hy172⟩ : ∃ y_ : List Int, y_ = (([rd l1 (ji44), 3] : List Int)) := ⟨_, rfl⟩
             replace H : (zzB.j0 k l0 l1 t146 ji44 ji47 y168 y172) = some (r1, r2, r3) := by first | (rw [hy172]; with_reducible exact H) | (have H2_ := (Option.bind_some _ _).symm.trans H; rw [hy172]; with_reducible exact H2_) | (have H2_ := (Option.bind_some _ _).symm.trans H; with_reducible exact H2_) | with_reducible exact H | (rw [hy172]; exact H) | exact H
             have Ny172 := zpS hy172
             clear hy172
             have H' := zpS H
             clear H
             obtain ⟨hcz51_0, hcz51_1, hcz51_2⟩ := cz3_ BK147.out
             obtain ⟨hfz51_0, hfz51_1, hfz51_2⟩ := fz3_ BK147.out
             try go_wp2_with (first | ((with_reducible refine zgL (f := 95) rfl ?_); refine zqQ (some 70) rfl rfl Try.func95 (by kernel_rfl) rfl #[.agg #[.int .i64 ((zwR t142 0).f0), .int .i64 ((zwR t142 0).f1), .int .i64 ((zwR t142 0).f2)], .int .i64 t146] rfl (by (try simp only [List.map_toArray, List.map_cons, List.map_nil]); first | done | rfl | (simp only [List.length_drop, List.length_take]; rfl)) ?_; (with_reducible refine (zgK.calls k ((zwR t142 0).f0) ((zwR t142 0).f1) ((zwR t142 0).f2) t146 t158 _ A39.out).mono ?_); rintro e w52 ⟨v159, rfl, ho0, hb⟩; refine ⟨_, rfl, ?_⟩; have n0_ := zpS (Kd.R_below (by (with_reducible repeat (first | apply Kd.R_alloc | apply Kd.R_drewN | apply Kd.R_drew)); exact HO144.out) hb); have n1_ := zpS (Kd.R_lower ho0 (zuA bb_)); have n2_ := zpS (zgM (g := gb147) (o := .cells #[.int .i64 ((zwR t142 0).f0), .int .i64 ((zwR t142 0).f1), .int .i64 ((zwR t142 0).f2)] 87 (0, 0)) bk_ hb); have n3_ := (ns_ hb); clear HO144; clear BK147; clear HB; have HO144 := n0_; have HO160 := n1_; have BK147 := n2_; have HB := n3_; clear n0_ n1_ n2_ n3_; (try clear hb); (try clear hb2); (try clear ho0); obtain ⟨Ao53, co53, eo53⟩ := Kd.R_slice HO160.out; subst eo53) | ((with_reducible refine zgL (f := 94) rfl ?_); refine zqQ (some 71) rfl rfl Try.func94 (by kernel_rfl) rfl #[.slice A1 l1.length c1, .slice Ao53 t158.length co53] rfl (by (try simp only [List.map_toArray, List.map_cons, List.map_nil]); first | done | rfl | (simp only [List.length_drop, List.length_take]; rfl)) ?_; (with_reducible refine (zrS.calls k _ _ l1 _ _ t158 t161 _ ?side1 ?side2 ?side3 ?side4 A40.out).mono ?_); (case side1 => repeat (first | exact (Kd.C_below HR1.out HB.out) | (with_reducible refine Kd.C_alloc ?_ _) | (with_reducible refine Kd.C_drewN ?_ _) | (with_reducible refine Kd.C_drew ?_))); (case side2 => exact HC1.out); (case side3 => repeat (first | exact (Kd.R_reads' HO160.out).2.2 | (with_reducible refine Kd.C_alloc ?_ _) | (with_reducible refine Kd.C_drewN ?_ _) | (with_reducible refine Kd.C_drew ?_))); (case side4 => exact (Kd.R_reads' HO160.out).2.1); rintro e w54 ⟨v162, rfl, ho0, hb⟩; refine ⟨_, rfl, ?_⟩; have n0_ := zpS (Kd.R_below (by (with_reducible repeat (first | apply Kd.R_alloc | apply Kd.R_drewN | apply Kd.R_drew)); exact HO144.out) hb); have n1_ := zpS (Kd.R_elder' (by (with_reducible repeat (first | apply Kd.R_alloc | apply Kd.R_drewN | apply Kd.R_drew)); exact HO160.out) (Kd.R_base ho0) hb); have n2_ := zpS (Kd.R_lower (Kd.R_new' ho0 (Kd.R_lt (by (with_reducible repeat (first | apply Kd.R_alloc | apply Kd.R_drewN | apply Kd.R_drew)); exact HO160.out))) (zuA bb_)); have n3_ := zpS (zgM (g := gb147) (o := .cells #[.int .i64 ((zwR t142 0).f0), .int .i64 ((zwR t142 0).f1), .int .i64 ((zwR t142 0).f2)] 87 (0, 0)) bk_ hb); have n4_ := (ns_ hb); clear HO144; clear HO160; clear BK147; clear HB; have HO144 := n0_; have HO160 := n1_; have HO163 := n2_; have BK147 := n3_; have HB := n4_; clear n0_ n1_ n2_ n3_ n4_; (try clear hb); (try clear hb2); (try clear ho0); obtain ⟨Ao55, co55, eo55⟩ := Kd.R_slice HO163.out; subst eo55) | ((with_reducible refine zgL (f := 96) rfl ?_); refine zqQ (some 73) rfl rfl Try.func96 (by kernel_rfl) rfl #[.slice Ao55 t161.length co55, .int .i64 3] rfl (by (try simp only [List.map_toArray, List.map_cons, List.map_nil]); first | done | rfl | (simp only [List.length_drop, List.length_take]; rfl)) ?_; (with_reducible refine (zeT.calls k _ _ t161 3 t164 _ ?side1 ?side2 A41.out).mono ?_); (case side1 => repeat (first | exact (Kd.R_reads' HO163.out).2.2 | (with_reducible refine Kd.C_alloc ?_ _) | (with_reducible refine Kd.C_drewN ?_ _) | (with_reducible refine Kd.C_drew ?_))); (case side2 => exact (Kd.R_reads' HO163.out).2.1); rintro e w' ⟨rfl, ⟨nd, rfl⟩⟩; refine ⟨_, rfl, ?_⟩) | ((with_reducible refine zgL (f := 96) rfl ?_); refine zqQ (some 75) rfl rfl Try.func96 (by kernel_rfl) rfl #[.slice Ao55 t161.length co55, .int .i64 2] rfl (by (try simp only [List.map_toArray, List.map_cons, List.map_nil]); first | done | rfl | (simp only [List.length_drop, List.length_take]; rfl)) ?_; (with_reducible refine (zeT.calls k _ _ t161 2 t165 _ ?side1 ?side2 A42.out).mono ?_); (case side1 => repeat (first | exact (Kd.R_reads' HO163.out).2.2 | (with_reducible refine Kd.C_alloc ?_ _) | (with_reducible refine Kd.C_drewN ?_ _) | (with_reducible refine Kd.C_drew ?_))); (case side2 => exact (Kd.R_reads' HO163.out).2.1); rintro e w' ⟨rfl, ⟨nd, rfl⟩⟩; refine ⟨_, rfl, ?_⟩))
             (try (rw [drewN_self w54]; generalize hq_ : World.drewN w54 _ = w54; have n0_ : Aside0 (Kd.R k87 87 w54 w.heap.size (fun k_ => k_ ≠ gb147) (.slice (some ad145) t142.length co14) t142) := ⟨by rw [← hq_]; exact (by (with_reducible repeat (first | apply Kd.R_alloc | apply Kd.R_drewN | apply Kd.R_drew)); exact HO144.out)⟩; have n1_ : Aside0 (Kd.R (Kd.int .i64) 2 w54 w.heap.size (fun k_ => (True ∧ some k_ ≠ (.slice Ao55 t161.length co55 : Value).ownBlock)) (.slice Ao53 t158.length co53) t158) := ⟨by rw [← hq_]; exact (by (with_reducible repeat (first | apply Kd.R_alloc | apply Kd.R_drewN | apply Kd.R_drew)); exact HO160.out)⟩; have n2_ : Aside0 (Kd.R (Kd.int .i64) 2 w54 w.heap.size (fun k_ => (True ∧ some k_ ≠ (.slice Ao53 t158.length co53 : Value).ownBlock)) (.slice Ao55 t161.length co55) t161) := ⟨by rw [← hq_]; exact (by (with_reducible repeat (first | apply Kd.R_alloc | apply Kd.R_drewN | apply Kd.R_drew)); exact HO163.out)⟩; have n3_ : Aside0 (w54.heap[gb147]? = some (.cells #[.int .i64 ((zwR t142 0).f0), .int .i64 ((zwR t142 0).f1), .int .i64 ((zwR t142 0).f2)] 87 (0, 0))) := ⟨by rw [← hq_]; exact bk_⟩; have n4_ : Aside0 (Below w.heap.size w w54) := ⟨by rw [← hq_]; exact bb_⟩; clear HO144 HO160 HO163 BK147 HB hq_; have HO144 := n0_; have HO160 := n1_; have HO163 := n2_; have BK147 := n3_; have HB := n4_; clear n0_ n1_ n2_ n3_ n4_))
             have n0_ := zpS (Kd.R_drew HO144.out)
             have n1_ := zpS (Kd.R_drew HO160.out)
             have n2_ := zpS (Kd.R_drew HO163.out)
             have n3_ := zpS (ztN BK147.out)
             have n4_ := zpS (zvF HB.out)
             clear HO144
             clear HO160
             clear HO163
             clear BK147
             clear HB
             have HO144 := n0_
             have HO160 := n1_
             have HO163 := n2_
             have BK147 := n3_
             have HB := n4_
             clear n0_ n1_ n2_ n3_ n4_
             have p166 : 0 ≤ ((ji44) : Int) := of_decide_eq_true (by first | (with_reducible assumption) | assumption)
             have q166 : (ji44) < (l0.length : Int) := of_decide_eq_true (by first | (with_reducible assumption) | assumption)
             obtain ⟨ad166, e166, hx166_0⟩ := Kd.at_int HR0.out (ji44) p166 q166
             have hw166_0 := hx166_0
             cases e166
             replace hx166_0 := cel_ HB.out hx166_0
             replace p166 := eq_true p166
             replace q166 := eq_true q166
             have p167 : 0 ≤ ((ji47) : Int) := of_decide_eq_true (by first | (with_reducible assumption) | assumption)
             have q167 : (ji47) < (l0.length : Int) := of_decide_eq_true (by first | (with_reducible assumption) | assumption)
             obtain ⟨ad167, e167, hx167_0⟩ := Kd.at_int HR0.out (ji47) p167 q167
             have hw167_0 := hx167_0
             obtain rfl : ad166 = ad167 := (by injection e167)
             replace hx167_0 := cel_ HB.out hx167_0
             replace p167 := eq_true p167
             replace q167 := eq_true q167
             have p171 : 0 ≤ ((ji44) : Int) := of_decide_eq_true (by first | (with_reducible assumption) | assumption)
             have q171 : (ji44) < (l1.length : Int) := of_decide_eq_true (by first | (with_reducible assumption) | assumption)
             obtain ⟨ad171, e171, hx171_0⟩ := Kd.at_int HR1.out (ji44) p171 q171
             have hw171_0 := hx171_0
             cases e171
             replace hx171_0 := cel_ HB.out hx171_0
             replace p171 := eq_true p171
             replace q171 := eq_true q171
             refine start_ (n := 17) (S := fun w' => True) (ds := []) #[false, false, false, false, false, false, false, false, false, false, false, false, false, false, false, false, false] (by kernel_rfl) rfl rfl trivial (fun hHeld => ?_); refine with_tabW zzB.tab15 zzB.bits15 (fun HT_ HW_ => ?_)
             generalize w54.drew = w56 at HO144 HO160 HO163 BK147 HB hx166_0 hx167_0 hx171_0 hHeld ⊢
             refine pu_ 0 (some 77) (bl_ 17 1) ?_
             refine pu_ 1 (some 78) (bl_ 17 3) ?_
             refine pu_ 4 (some 81) (bl_ 17 19) ?_
             refine pu_ 5 (some 82) (bl_ 17 51) ?_
             refine pu_ 9 (some 86) (bl_ 17 563) ?_
             refine pu_ 10 (some 87) (bl_ 17 1587) ?_
             refine pu_ 13 (some 90) (bl_ 17 9779) ?_
             refine inv_at [2, 3, 6, 7, 8, 11, 12, 14, 15, 16] (fun a0_ b a w' => ∃ (v169 : Value) (v173 : Value) (m15_ : Value) (m16_ : Value), a = zfO a0_ b [(2, 79, .pointer (some (ad166.add ((ji44)).toNat))), (3, 80, .int .i64 (rd l0 (ji44))), (6, 83, .pointer (some (ad166.add ((ji47)).toNat))), (7, 84, .int .i64 (rd l0 (ji47))), (8, 85, v169), (11, 88, .pointer (some (ad171.add ((ji44)).toNat))), (12, 89, .int .i64 (rd l1 (ji44))), (14, 91, v173), (15, 12, m15_), (16, 13, m16_)] ∧ (Kd.R k87 87 w' w.heap.size (fun k_ => k_ ≠ gb147) (.slice (some ad145) t142.length co14) t142) ∧ (Kd.R (Kd.int .i64) 2 w' w.heap.size (fun k_ => some k_ ≠ (.slice Ao55 t161.length co55 : Value).ownBlock) (.slice Ao53 t158.length co53) t158) ∧ (Kd.R (Kd.int .i64) 2 w' w.heap.size (fun k_ => some k_ ≠ (.slice Ao53 t158.length co53 : Value).ownBlock) (.slice Ao55 t161.length co55) t161) ∧ (w'.heap[gb147]? = some (.cells #[.int .i64 ((zwR t142 0).f0), .int .i64 ((zwR t142 0).f1), .int .i64 ((zwR t142 0).f2)] 87 (0, 0))) ∧ (Below w.heap.size w w') ∧ (b 8 = true → Kd.R (Kd.int .i64) 2 w' w.heap.size (fun k_ => b 14 = true → some k_ ≠ (v173 : Value).ownBlock) v169 y168) ∧ (b 14 = true → Kd.R (Kd.int .i64) 2 w' w.heap.size (fun k_ => b 8 = true → some k_ ≠ (v169 : Value).ownBlock) v173 y172) ∧ (b 15 = true → (m15_ : Value) = v169) ∧ (b 16 = true → (m16_ : Value) = v173)) HT_.out HW_.out (by kernel_rfl) (by kernel_rfl) ?_ ?_ ?_
             ·exact ⟨.bool false, .bool false, .bool false, .bool false, by simp only [zfO, Bool.false_eq_true, if_false], (Kd.R_mono HO144.out (fun _ hk => by first | exact hk.2 | exact hk)), (Kd.R_mono HO160.out (fun _ hk => by first | exact hk.2 | exact hk)), (Kd.R_mono HO163.out (fun _ hk => by first | exact hk.2 | exact hk)), BK147.out, HB.out, fun h_ => absurd h_ (by decide), fun h_ => absurd h_ (by decide), fun h_ => absurd h_ (by decide), fun h_ => absurd h_ (by decide)⟩
             ·skip
              clear BK147 HB HO144 HO160 HO163
              refine zuE ?_ ?_
              ·rintro b a w' ⟨v169, v173, m15_, m16_, ha, Q_HO144, Q_HO160, Q_HO163, Q_BK147, Q_HB, Q_HO170, Q_HO174, Q_X15_, Q_X16_⟩ hb_ hon hoff
               refine ⟨_, rfl, fun K hK => ?_⟩
               have e77 : a.tmps[77]? = some (.slice (some ad166) l0.length c0) := by rw [ha]; exact (zqL rfl).trans rfl
               have e78 : a.tmps[78]? = some (.int .i64 ji44) := by rw [ha]; exact (zqL rfl).trans rfl
               replace ha := zpS ha
               have HO144 := zpS Q_HO144
               have HO160 := zpS Q_HO160
               have HO163 := zpS Q_HO163
               have BK147 := zpS Q_BK147
               have HB := zpS Q_HB
               have hs0_ : w'.cell? (ad166.add ((ji44)).toNat) = some (.int .i64 (rd l0 (ji44))) := (cel_ HB.out hw166_0)
               refine zcF (w1 := w') (v := .pointer (some (ad166.add ((ji44)).toNat))) (by rfl) rfl ?_ ?_
               ·go_simp
                (try simp only [zcO])
                try rfl
               refine hK.out _ _ ⟨v169, v173, m15_, m16_, (by rw [ha.out]; exact zxE 0 hb_ rfl rfl rfl), Q_HO144, Q_HO160, Q_HO163, Q_BK147, Q_HB, fun h0_ => absurd ((hoff 8 (by kernel_rfl)).symm.trans h0_) (by decide), Q_HO174, fun h0_ => absurd ((hoff 15 (by kernel_rfl)).symm.trans h0_) (by decide), fun h0_ => absurd ((hoff 16 (by kernel_rfl)).symm.trans h0_) (by decide)⟩
              refine zuE ?_ ?_
              ·rintro b a w' ⟨v169, v173, m15_, m16_, ha, Q_HO144, Q_HO160, Q_HO163, Q_BK147, Q_HB, Q_HO170, Q_HO174, Q_X15_, Q_X16_⟩ hb_ hon hoff
               refine ⟨_, rfl, fun K hK => ?_⟩
               have e79 : a.tmps[79]? = some (.pointer (some (ad166.add ((ji44)).toNat))) := by rw [ha]; exact zwO (e := (2, 79, .pointer (some (ad166.add ((ji44)).toNat)))) 0 rfl rfl (hon 2 (by kernel_rfl)) rfl
               replace ha := zpS ha
               have HO144 := zpS Q_HO144
               have HO160 := zpS Q_HO160
               have HO163 := zpS Q_HO163
               have BK147 := zpS Q_BK147
               have HB := zpS Q_HB
               have hs0_ : w'.cell? (ad166.add ((ji44)).toNat) = some (.int .i64 (rd l0 (ji44))) := (cel_ HB.out hw166_0)
               refine zcF (w1 := w') (v := .int .i64 (rd l0 (ji44))) (by rfl) rfl ?_ ?_
               ·go_simp
                (try simp only [zcO])
                try rfl
               refine hK.out _ _ ⟨v169, v173, m15_, m16_, (by rw [ha.out]; exact zxE 1 hb_ rfl rfl rfl), Q_HO144, Q_HO160, Q_HO163, Q_BK147, Q_HB, fun h0_ => absurd ((hoff 8 (by kernel_rfl)).symm.trans h0_) (by decide), Q_HO174, fun h0_ => absurd ((hoff 15 (by kernel_rfl)).symm.trans h0_) (by decide), fun h0_ => absurd ((hoff 16 (by kernel_rfl)).symm.trans h0_) (by decide)⟩
              refine zuE ?_ ?_
              ·rintro b a w' ⟨v169, v173, m15_, m16_, ha, Q_HO144, Q_HO160, Q_HO163, Q_BK147, Q_HB, Q_HO170, Q_HO174, Q_X15_, Q_X16_⟩ hb_ hon hoff
               refine ⟨_, rfl, fun K hK => ?_⟩
               have e81 : a.tmps[81]? = some (.slice (some ad166) l0.length c0) := by rw [ha]; exact (zqL rfl).trans rfl
               have e82 : a.tmps[82]? = some (.int .i64 ji47) := by rw [ha]; exact (zqL rfl).trans rfl
               replace ha := zpS ha
               have HO144 := zpS Q_HO144
               have HO160 := zpS Q_HO160
               have HO163 := zpS Q_HO163
               have BK147 := zpS Q_BK147
               have HB := zpS Q_HB
               have hs1_ : w'.cell? (ad166.add ((ji47)).toNat) = some (.int .i64 (rd l0 (ji47))) := (cel_ HB.out hw167_0)
               refine zcF (w1 := w') (v := .pointer (some (ad166.add ((ji47)).toNat))) (by rfl) rfl ?_ ?_
               ·go_simp
                (try simp only [zcO])
                try rfl
               refine hK.out _ _ ⟨v169, v173, m15_, m16_, (by rw [ha.out]; exact zxE 2 hb_ rfl rfl rfl), Q_HO144, Q_HO160, Q_HO163, Q_BK147, Q_HB, fun h0_ => absurd ((hoff 8 (by kernel_rfl)).symm.trans h0_) (by decide), Q_HO174, fun h0_ => absurd ((hoff 15 (by kernel_rfl)).symm.trans h0_) (by decide), fun h0_ => absurd ((hoff 16 (by kernel_rfl)).symm.trans h0_) (by decide)⟩
              refine zuE ?_ ?_
              ·rintro b a w' ⟨v169, v173, m15_, m16_, ha, Q_HO144, Q_HO160, Q_HO163, Q_BK147, Q_HB, Q_HO170, Q_HO174, Q_X15_, Q_X16_⟩ hb_ hon hoff
               refine ⟨_, rfl, fun K hK => ?_⟩
               have e83 : a.tmps[83]? = some (.pointer (some (ad166.add ((ji47)).toNat))) := by rw [ha]; exact zwO (e := (6, 83, .pointer (some (ad166.add ((ji47)).toNat)))) 2 rfl rfl (hon 6 (by kernel_rfl)) rfl
               replace ha := zpS ha
               have HO144 := zpS Q_HO144
               have HO160 := zpS Q_HO160
               have HO163 := zpS Q_HO163
               have BK147 := zpS Q_BK147
               have HB := zpS Q_HB
               have hs1_ : w'.cell? (ad166.add ((ji47)).toNat) = some (.int .i64 (rd l0 (ji47))) := (cel_ HB.out hw167_0)
               refine zcF (w1 := w') (v := .int .i64 (rd l0 (ji47))) (by rfl) rfl ?_ ?_
               ·go_simp
                (try simp only [zcO])
                try rfl
               refine hK.out _ _ ⟨v169, v173, m15_, m16_, (by rw [ha.out]; exact zxE 3 hb_ rfl rfl rfl), Q_HO144, Q_HO160, Q_HO163, Q_BK147, Q_HB, fun h0_ => absurd ((hoff 8 (by kernel_rfl)).symm.trans h0_) (by decide), Q_HO174, fun h0_ => absurd ((hoff 15 (by kernel_rfl)).symm.trans h0_) (by decide), fun h0_ => absurd ((hoff 16 (by kernel_rfl)).symm.trans h0_) (by decide)⟩
              refine zuE ?_ ?_
              ·rintro b a w' ⟨v169, v173, m15_, m16_, ha, Q_HO144, Q_HO160, Q_HO163, Q_BK147, Q_HB, Q_HO170, Q_HO174, Q_X15_, Q_X16_⟩ hb_ hon hoff
               refine ⟨_, rfl, fun K hK => ?_⟩
               have e80 : a.tmps[80]? = some (.int .i64 (rd l0 (ji44))) := by rw [ha]; exact zwO (e := (3, 80, .int .i64 (rd l0 (ji44)))) 1 rfl rfl (hon 3 (by kernel_rfl)) rfl
               have e84 : a.tmps[84]? = some (.int .i64 (rd l0 (ji47))) := by rw [ha]; exact zwO (e := (7, 84, .int .i64 (rd l0 (ji47)))) 3 rfl rfl (hon 7 (by kernel_rfl)) rfl
               replace ha := zpS ha
               have HO144 := zpS Q_HO144
               have HO160 := zpS Q_HO160
               have HO163 := zpS Q_HO163
               have BK147 := zpS Q_BK147
               have HB := zpS Q_HB
               refine Kd.R_lit_step (Kd.int .i64) _ 2 ?hg (N := 85) ?hd (xs := ([rd l0 (ji44), rd l0 (ji47)] : List Int)) (zlR := [.int .i64 (rd l0 (ji44)), .int .i64 (rd l0 (ji47))]) (ok := fun _ => True) (okp := fun _ => True) ?hr ?hp (fun _ hk => hk) trivial (Below.refl _ _) (Nat.le_refl _) (by simp) ?_; (case hd => rfl); (case hg => rfl); (case hr => first | (go_simp; done) | (go_simp; rfl)); (case hp => exact (zfH.one (show Kd.M (Kd.int .i64) _ _ _ (rd l0 (ji44)) [.int .i64 (rd l0 (ji44))] from rfl) (zfH.one (show Kd.M (Kd.int .i64) _ _ _ (rd l0 (ji47)) [.int .i64 (rd l0 (ji47))] from rfl) (zfH.none _ _))))
               intro v169 w57 ho58 hb hg_ hnew_
               clear hg_ hnew_
               (first | rw [← Ny168.out] at ho58 | (simp only [Int.reduceToNat] at ho58; rw [← Ny168.out] at ho58))
               have n0_ := zpS (Kd.R_below (by (with_reducible repeat (first | apply Kd.R_alloc | apply Kd.R_drewN | apply Kd.R_drew)); exact HO144.out) hb)
               have n1_ := zpS (Kd.R_elder' (by (with_reducible repeat (first | apply Kd.R_alloc | apply Kd.R_drewN | apply Kd.R_drew)); exact HO160.out) (Kd.R_base ho58) hb)
               have n2_ := zpS (Kd.R_elder' (by (with_reducible repeat (first | apply Kd.R_alloc | apply Kd.R_drewN | apply Kd.R_drew)); exact HO163.out) (Kd.R_base ho58) hb)
               have n3_ := zpS (show Kd.R (Kd.int .i64) 2 w57 w.heap.size (fun k_ => b 14 = true → some k_ ≠ (v173 : Value).ownBlock) v169 y168 from Kd.R_mono (Kd.R_lower (Kd.R_bound (Kd.R_new' (Kd.R_new' ho58 (Kd.R_lt (by (with_reducible repeat (first | apply Kd.R_alloc | apply Kd.R_drewN | apply Kd.R_drew)); exact HO160.out))) (Kd.R_lt (by (with_reducible repeat (first | apply Kd.R_alloc | apply Kd.R_drewN | apply Kd.R_drew)); exact HO163.out)))) (zuA bb_)) (fun k_ hk_ h0_ e_ => by obtain ⟨_, ho_⟩ := Kd.R_own (Q_HO174 h0_); have := own_lt ho_ k_ e_.symm; have := hk_.2.1; omega))
               have n4_ := zpS (zgM (g := gb147) (o := .cells #[.int .i64 ((zwR t142 0).f0), .int .i64 ((zwR t142 0).f1), .int .i64 ((zwR t142 0).f2)] 87 (0, 0)) bk_ hb)
               have n5_ := (ns_ hb)
               have z_HO174 := fun (h0_ : b 14 = true) => (Kd.R_elder' (by (with_reducible repeat (first | apply Kd.R_alloc | apply Kd.R_drewN | apply Kd.R_drew)); exact (Q_HO174 h0_)) (Kd.R_base ho58) hb)
               clear HO144
               clear HO160
               clear HO163
               clear BK147
               clear HB
               have HO144 := n0_
               have HO160 := n1_
               have HO163 := n2_
               have HO170 := n3_
               have BK147 := n4_
               have HB := n5_
               clear n0_ n1_ n2_ n3_ n4_ n5_
               clear hb ho58
               refine hK.out _ _ ⟨v169, v173, m15_, m16_, (by rw [ha.out]; exact zxE 4 hb_ rfl rfl rfl), (by (with_reducible repeat (first | apply Kd.R_alloc | apply Kd.R_drewN | apply Kd.R_drew)); exact HO144.out), (by (with_reducible repeat (first | apply Kd.R_alloc | apply Kd.R_drewN | apply Kd.R_drew)); exact Kd.R_mono HO160.out (fun _ hk => by first | exact hk.2 | exact ⟨hk.1.2, hk.2⟩ | exact hk | exact hk.1)), (by (with_reducible repeat (first | apply Kd.R_alloc | apply Kd.R_drewN | apply Kd.R_drew)); exact Kd.R_mono HO163.out (fun _ hk => by first | exact hk.2 | exact ⟨hk.1.2, hk.2⟩ | exact hk | exact hk.1)), bk_, bb_, fun _ => (by (with_reducible repeat (first | apply Kd.R_alloc | apply Kd.R_drewN | apply Kd.R_drew)); exact HO170.out), (fun h0_ => Kd.R_mono (z_HO174 h0_) (fun _ h_ _ => h_.2)), fun h0_ => absurd ((hoff 15 (by kernel_rfl)).symm.trans h0_) (by decide), fun h0_ => absurd ((hoff 16 (by kernel_rfl)).symm.trans h0_) (by decide)⟩
              refine zuE ?_ ?_
              ·rintro b a w' ⟨v169, v173, m15_, m16_, ha, Q_HO144, Q_HO160, Q_HO163, Q_BK147, Q_HB, Q_HO170, Q_HO174, Q_X15_, Q_X16_⟩ hb_ hon hoff
               refine ⟨_, rfl, fun K hK => ?_⟩
               have e86 : a.tmps[86]? = some (.slice (some ad171) l1.length c1) := by rw [ha]; exact (zqL rfl).trans rfl
               have e87 : a.tmps[87]? = some (.int .i64 ji44) := by rw [ha]; exact (zqL rfl).trans rfl
               replace ha := zpS ha
               have HO144 := zpS Q_HO144
               have HO160 := zpS Q_HO160
               have HO163 := zpS Q_HO163
               have BK147 := zpS Q_BK147
               have HB := zpS Q_HB
               have hs2_ : w'.cell? (ad171.add ((ji44)).toNat) = some (.int .i64 (rd l1 (ji44))) := (cel_ HB.out hw171_0)
               refine zcF (w1 := w') (v := .pointer (some (ad171.add ((ji44)).toNat))) (by rfl) rfl ?_ ?_
               ·go_simp
                (try simp only [zcO])
                try rfl
               refine hK.out _ _ ⟨v169, v173, m15_, m16_, (by rw [ha.out]; exact zxE 5 hb_ rfl rfl rfl), Q_HO144, Q_HO160, Q_HO163, Q_BK147, Q_HB, Q_HO170, fun h0_ => absurd ((hoff 14 (by kernel_rfl)).symm.trans h0_) (by decide), Q_X15_, fun h0_ => absurd ((hoff 16 (by kernel_rfl)).symm.trans h0_) (by decide)⟩
              refine zuE ?_ ?_
              ·rintro b a w' ⟨v169, v173, m15_, m16_, ha, Q_HO144, Q_HO160, Q_HO163, Q_BK147, Q_HB, Q_HO170, Q_HO174, Q_X15_, Q_X16_⟩ hb_ hon hoff
               refine ⟨_, rfl, fun K hK => ?_⟩
               have e88 : a.tmps[88]? = some (.pointer (some (ad171.add ((ji44)).toNat))) := by rw [ha]; exact zwO (e := (11, 88, .pointer (some (ad171.add ((ji44)).toNat)))) 5 rfl rfl (hon 11 (by kernel_rfl)) rfl
               replace ha := zpS ha
               have HO144 := zpS Q_HO144
               have HO160 := zpS Q_HO160
               have HO163 := zpS Q_HO163
               have BK147 := zpS Q_BK147
               have HB := zpS Q_HB
               have hs2_ : w'.cell? (ad171.add ((ji44)).toNat) = some (.int .i64 (rd l1 (ji44))) := (cel_ HB.out hw171_0)
               refine zcF (w1 := w') (v := .int .i64 (rd l1 (ji44))) (by rfl) rfl ?_ ?_
               ·go_simp
                (try simp only [zcO])
                try rfl
               refine hK.out _ _ ⟨v169, v173, m15_, m16_, (by rw [ha.out]; exact zxE 6 hb_ rfl rfl rfl), Q_HO144, Q_HO160, Q_HO163, Q_BK147, Q_HB, Q_HO170, fun h0_ => absurd ((hoff 14 (by kernel_rfl)).symm.trans h0_) (by decide), Q_X15_, fun h0_ => absurd ((hoff 16 (by kernel_rfl)).symm.trans h0_) (by decide)⟩
              refine zuE ?_ ?_
              ·rintro b a w' ⟨v169, v173, m15_, m16_, ha, Q_HO144, Q_HO160, Q_HO163, Q_BK147, Q_HB, Q_HO170, Q_HO174, Q_X15_, Q_X16_⟩ hb_ hon hoff
               refine ⟨_, rfl, fun K hK => ?_⟩
               have e89 : a.tmps[89]? = some (.int .i64 (rd l1 (ji44))) := by rw [ha]; exact zwO (e := (12, 89, .int .i64 (rd l1 (ji44)))) 6 rfl rfl (hon 12 (by kernel_rfl)) rfl
               have e90 : a.tmps[90]? = some (.int .i64 3) := by rw [ha]; exact (zqL rfl).trans rfl
               replace ha := zpS ha
               have HO144 := zpS Q_HO144
               have HO160 := zpS Q_HO160
               have HO163 := zpS Q_HO163
               have BK147 := zpS Q_BK147
               have HB := zpS Q_HB
               refine Kd.R_lit_step (Kd.int .i64) _ 2 ?hg (N := 91) ?hd (xs := ([rd l1 (ji44), 3] : List Int)) (zlR := [.int .i64 (rd l1 (ji44)), .int .i64 3]) (ok := fun _ => True) (okp := fun _ => True) ?hr ?hp (fun _ hk => hk) trivial (Below.refl _ _) (Nat.le_refl _) (by simp) ?_; (case hd => rfl); (case hg => rfl); (case hr => first | (go_simp; done) | (go_simp; rfl)); (case hp => exact (zfH.one (show Kd.M (Kd.int .i64) _ _ _ (rd l1 (ji44)) [.int .i64 (rd l1 (ji44))] from rfl) (zfH.one (show Kd.M (Kd.int .i64) _ _ _ 3 [.int .i64 3] from rfl) (zfH.none _ _))))
               intro v173 w57 ho58 hb hg_ hnew_
               clear hg_ hnew_
               (first | rw [← Ny172.out] at ho58 | (simp only [Int.reduceToNat] at ho58; rw [← Ny172.out] at ho58))
               have n0_ := zpS (Kd.R_below (by (with_reducible repeat (first | apply Kd.R_alloc | apply Kd.R_drewN | apply Kd.R_drew)); exact HO144.out) hb)
               have n1_ := zpS (Kd.R_elder' (by (with_reducible repeat (first | apply Kd.R_alloc | apply Kd.R_drewN | apply Kd.R_drew)); exact HO160.out) (Kd.R_base ho58) hb)
               have n2_ := zpS (Kd.R_elder' (by (with_reducible repeat (first | apply Kd.R_alloc | apply Kd.R_drewN | apply Kd.R_drew)); exact HO163.out) (Kd.R_base ho58) hb)
               have n3_ := zpS (show Kd.R (Kd.int .i64) 2 w57 w.heap.size (fun k_ => b 8 = true → some k_ ≠ (v169 : Value).ownBlock) v173 y172 from Kd.R_mono (Kd.R_lower (Kd.R_bound (Kd.R_new' (Kd.R_new' ho58 (Kd.R_lt (by (with_reducible repeat (first | apply Kd.R_alloc | apply Kd.R_drewN | apply Kd.R_drew)); exact HO160.out))) (Kd.R_lt (by (with_reducible repeat (first | apply Kd.R_alloc | apply Kd.R_drewN | apply Kd.R_drew)); exact HO163.out)))) (zuA bb_)) (fun k_ hk_ h0_ e_ => by obtain ⟨_, ho_⟩ := Kd.R_own (Q_HO170 h0_); have := own_lt ho_ k_ e_.symm; have := hk_.2.1; omega))
               have n4_ := zpS (zgM (g := gb147) (o := .cells #[.int .i64 ((zwR t142 0).f0), .int .i64 ((zwR t142 0).f1), .int .i64 ((zwR t142 0).f2)] 87 (0, 0)) bk_ hb)
               have n5_ := (ns_ hb)
               have z_HO170 := fun (h0_ : b 8 = true) => (Kd.R_elder' (by (with_reducible repeat (first | apply Kd.R_alloc | apply Kd.R_drewN | apply Kd.R_drew)); exact (Q_HO170 h0_)) (Kd.R_base ho58) hb)
               clear HO144
               clear HO160
               clear HO163
               clear BK147
               clear HB
               have HO144 := n0_
               have HO160 := n1_
               have HO163 := n2_
               have HO174 := n3_
               have BK147 := n4_
               have HB := n5_
               clear n0_ n1_ n2_ n3_ n4_ n5_
               clear hb ho58
               refine hK.out _ _ ⟨v169, v173, m15_, m16_, (by rw [ha.out]; exact zxE 7 hb_ rfl rfl rfl), (by (with_reducible repeat (first | apply Kd.R_alloc | apply Kd.R_drewN | apply Kd.R_drew)); exact HO144.out), (by (with_reducible repeat (first | apply Kd.R_alloc | apply Kd.R_drewN | apply Kd.R_drew)); exact Kd.R_mono HO160.out (fun _ hk => by first | exact hk.2 | exact ⟨hk.1.2, hk.2⟩ | exact hk | exact hk.1)), (by (with_reducible repeat (first | apply Kd.R_alloc | apply Kd.R_drewN | apply Kd.R_drew)); exact Kd.R_mono HO163.out (fun _ hk => by first | exact hk.2 | exact ⟨hk.1.2, hk.2⟩ | exact hk | exact hk.1)), bk_, bb_, (fun h0_ => Kd.R_mono (z_HO170 h0_) (fun _ h_ _ => h_.2)), fun _ => (by (with_reducible repeat (first | apply Kd.R_alloc | apply Kd.R_drewN | apply Kd.R_drew)); exact HO174.out), Q_X15_, fun h0_ => absurd ((hoff 16 (by kernel_rfl)).symm.trans h0_) (by decide)⟩
              refine zuE ?_ ?_
              ·rintro b a w' ⟨v169, v173, m15_, m16_, ha, Q_HO144, Q_HO160, Q_HO163, Q_BK147, Q_HB, Q_HO170, Q_HO174, Q_X15_, Q_X16_⟩ hb_ hon hoff
               refine ⟨_, rfl, fun K hK => ?_⟩
               have e85 : a.tmps[85]? = some (v169) := by rw [ha]; exact zwO (e := (8, 85, v169)) 4 rfl rfl (hon 8 (by kernel_rfl)) rfl
               replace ha := zpS ha
               have HO144 := zpS Q_HO144
               have HO160 := zpS Q_HO160
               have HO163 := zpS Q_HO163
               have BK147 := zpS Q_BK147
               have HB := zpS Q_HB
               have HO170 := zpS (Q_HO170 (hon 8 (by kernel_rfl)))
               refine zcF (w1 := w') (v := v169) (by rfl) rfl ?_ ?_
               ·go_simp
                (try simp only [zcO])
                try rfl
               refine hK.out _ _ ⟨v169, v173, (v169), m16_, (by rw [ha.out]; exact zxE 8 hb_ rfl rfl rfl), Q_HO144, Q_HO160, Q_HO163, Q_BK147, Q_HB, Q_HO170, Q_HO174, fun _ => rfl, fun h0_ => absurd ((hoff 16 (by kernel_rfl)).symm.trans h0_) (by decide)⟩
              refine zuE ?_ ?_
              ·rintro b a w' ⟨v169, v173, m15_, m16_, ha, Q_HO144, Q_HO160, Q_HO163, Q_BK147, Q_HB, Q_HO170, Q_HO174, Q_X15_, Q_X16_⟩ hb_ hon hoff
               refine ⟨_, rfl, fun K hK => ?_⟩
               have e91 : a.tmps[91]? = some (v173) := by rw [ha]; exact zwO (e := (14, 91, v173)) 7 rfl rfl (hon 14 (by kernel_rfl)) rfl
               replace ha := zpS ha
               have HO144 := zpS Q_HO144
               have HO160 := zpS Q_HO160
               have HO163 := zpS Q_HO163
               have BK147 := zpS Q_BK147
               have HB := zpS Q_HB
               have HO170 := zpS (Q_HO170 (hon 8 (by kernel_rfl)))
               have HO174 := zpS (Q_HO174 (hon 14 (by kernel_rfl)))
               refine zcF (w1 := w') (v := v173) (by rfl) rfl ?_ ?_
               ·go_simp
                (try simp only [zcO])
                try rfl
               refine hK.out _ _ ⟨v169, v173, m15_, (v173), (by rw [ha.out]; exact zxE 9 hb_ rfl rfl rfl), Q_HO144, Q_HO160, Q_HO163, Q_BK147, Q_HB, Q_HO170, Q_HO174, Q_X15_, fun _ => rfl⟩
              exact steps_nil
             rintro b a w61 hall ⟨v169, v173, m15_, m16_, ha, Q_HO144, Q_HO160, Q_HO163, Q_BK147, Q_HB, Q_HO170, Q_HO174, Q_X15_, Q_X16_⟩
             clear BK147 HB HO144 HO160 HO163
             have hb2_ := hall 2 (by kernel_rfl)
             have hb3_ := hall 3 (by kernel_rfl)
             have hb6_ := hall 6 (by kernel_rfl)
             have hb7_ := hall 7 (by kernel_rfl)
             have hb8_ := hall 8 (by kernel_rfl)
             have hb11_ := hall 11 (by kernel_rfl)
             have hb12_ := hall 12 (by kernel_rfl)
             have hb14_ := hall 14 (by kernel_rfl)
             have hb15_ := hall 15 (by kernel_rfl)
             have hb16_ := hall 16 (by kernel_rfl)
             subst ha
             obtain rfl := Q_X15_ hb15_
             obtain rfl := Q_X16_ hb16_
             simp only [zfO, hb2_, hb3_, hb6_, hb7_, hb8_, hb11_, hb12_, hb14_, hb15_, hb16_, if_true, Act.put, List.setIfInBounds_toArray, List.set_cons_zero, List.set_cons_succ]
             have HO144 := zpS Q_HO144
             clear Q_HO144
             have HO160 := zpS Q_HO160
             clear Q_HO160
             have HO163 := zpS Q_HO163
             clear Q_HO163
             have BK147 := zpS Q_BK147
             clear Q_BK147
             have HB := zpS Q_HB
             clear Q_HB
             have HO170 := zpS (Kd.R_mono (Q_HO170 hb8_) (fun _ hk => hk hb14_))
             clear Q_HO170
             have HO174 := zpS (Kd.R_mono (Q_HO174 hb14_) (fun _ hk => hk hb8_))
             clear Q_HO174
             clear hall hb2_ hb3_ hb6_ hb7_ hb8_ hb11_ hb12_ hb14_ hb15_ hb16_
             try go_wp2
             (try subst hji26); (try subst hji29); (try subst hji44); (try subst hji47); (try subst hji62); (try subst hji65); skip
             go_meet
             case rel => exact ⟨_, (y168), (y172), H', ⟨by first | omega | exact Nat.le_refl _⟩, ⟨by (with_reducible repeat (first | apply Kd.R_alloc | apply Kd.R_drewN | apply Kd.R_drew)); exact HO170.out⟩, ⟨by (with_reducible repeat (first | apply Kd.R_alloc | apply Kd.R_drewN | apply Kd.R_drew)); exact HO174.out⟩, ⟨bk_⟩, ⟨bb_⟩⟩
            ·rw [if_neg c50] at H
             exact absurd H (by simp)
           ·rw [if_neg c49] at H
            exact absurd H (by simp)
          ·rw [if_neg c48] at H
           exact absurd H (by simp)
         ·rw [if_neg c46] at H
          exact absurd H (by simp)
        ·rw [if_neg c45] at H
         exact absurd H (by simp)
       ·rw [if_neg c43] at H
        have c43b0 : decide (t165 < t164) = false := decide_eq_false c43
        clear c43
        obtain ⟨ji62, hji62⟩ : ∃ j_ : Int, (Int.tmod (wrap64 ((wrap64 (((zwR t142 0).f0) + t146)) - 1)) t146) = j_ := ⟨_, rfl⟩
        replace H : (if 0 ≤ (ji62) then (if (ji62) < (l0.length : Int) then (if 0 ≤ (Int.tmod (wrap64 (((zwR t142 0).f0) + ((zwR t142 0).f1))) t146) then (if (Int.tmod (wrap64 (((zwR t142 0).f0) + ((zwR t142 0).f1))) t146) < (l0.length : Int) then (if (ji62) < (l1.length : Int) then (zzB.j0 k l0 l1 t146 ji62 (Int.tmod (wrap64 (((zwR t142 0).f0) + ((zwR t142 0).f1))) t146) (([rd l0 (ji62), rd l0 (Int.tmod (wrap64 (((zwR t142 0).f0) + ((zwR t142 0).f1))) t146)] : List Int)) (([rd l1 (ji62), 2] : List Int))) else (none)) else (none)) else (none)) else (none)) else (none)) = some (r1, r2, r3) := by first | (rw [hji62] at H; exact H) | (simp only [hji62] at H ⊢; exact H)
        (try rw [hji62] at A39)
        (try rw [hji62] at A40)
        (try rw [hji62] at A41)
        (try rw [hji62] at A42)
        by_cases c63 : 0 ≤ (ji62)
        ·rw [if_pos c63] at H
         have c63b0 : decide (0 ≤ (ji62)) = true := decide_eq_true c63
         clear c63
         by_cases c64 : (ji62) < (l0.length : Int)
         ·rw [if_pos c64] at H
          have c64b0 : decide ((ji62) < (l0.length : Int)) = true := decide_eq_true c64
          clear c64
          obtain ⟨ji65, hji65⟩ : ∃ j_ : Int, (Int.tmod (wrap64 (((zwR t142 0).f0) + ((zwR t142 0).f1))) t146) = j_ := ⟨_, rfl⟩
          replace H : (if 0 ≤ (ji65) then (if (ji65) < (l0.length : Int) then (if (ji62) < (l1.length : Int) then (zzB.j0 k l0 l1 t146 ji62 ji65 (([rd l0 (ji62), rd l0 (ji65)] : List Int)) (([rd l1 (ji62), 2] : List Int))) else (none)) else (none)) else (none)) = some (r1, r2, r3) := by first | (rw [hji65] at H; exact H) | (simp only [hji65] at H ⊢; exact H)
          (try rw [hji65] at A39)
          (try rw [hji65] at A40)
          (try rw [hji65] at A41)
          (try rw [hji65] at A42)
          by_cases c66 : 0 ≤ (ji65)
          ·rw [if_pos c66] at H
           have c66b0 : decide (0 ≤ (ji65)) = true := decide_eq_true c66
           clear c66
           by_cases c67 : (ji65) < (l0.length : Int)
           ·rw [if_pos c67] at H
            have c67b0 : decide ((ji65) < (l0.length : Int)) = true := decide_eq_true c67
            clear c67
            obtain ⟨y177, hy177⟩ : ∃ y_ : List Int, y_ = (([rd l0 (ji62), rd l0 (ji65)] : List Int)) := ⟨_, rfl⟩
            replace H : (if (ji62) < (l1.length : Int) then (zzB.j0 k l0 l1 t146 ji62 ji65 y177 (([rd l1 (ji62), 2] : List Int))) else (none)) = some (r1, r2, r3) := by first | (rw [hy177]; with_reducible exact H) | (have H2_ := (Option.bind_some _ _).symm.trans H; rw [hy177]; with_reducible exact H2_) | (have H2_ := (Option.bind_some _ _).symm.trans H; with_reducible exact H2_) | with_reducible exact H | (rw [hy177]; exact H) | exact H
            have Ny177 := zpS hy177
            clear hy177
            by_cases c68 : (ji62) < (l1.length : Int)
            ·rw [if_pos c68] at H
             have c68b0 : decide ((ji62) < (l1.length : Int)) = true := decide_eq_true c68
             clear c68
             obtain ⟨y181, hy181⟩ : ∃ y_ : List Int, y_ = (([rd l1 (ji62), 2] : List Int)) := ⟨_, rfl⟩
             replace H : (zzB.j0 k l0 l1 t146 ji62 ji65 y177 y181) = some (r1, r2, r3) := by first | (rw [hy181]; with_reducible exact H) | (have H2_ := (Option.bind_some _ _).symm.trans H; rw [hy181]; with_reducible exact H2_) | (have H2_ := (Option.bind_some _ _).symm.trans H; with_reducible exact H2_) | with_reducible exact H | (rw [hy181]; exact H) | exact H
             have Ny181 := zpS hy181
             clear hy181
             have H' := zpS H
             clear H
             obtain ⟨hcz69_0, hcz69_1, hcz69_2⟩ := cz3_ BK147.out
             obtain ⟨hfz69_0, hfz69_1, hfz69_2⟩ := fz3_ BK147.out
             try go_wp2_with (first | ((with_reducible refine zgL (f := 95) rfl ?_); refine zqQ (some 70) rfl rfl Try.func95 (by kernel_rfl) rfl #[.agg #[.int .i64 ((zwR t142 0).f0), .int .i64 ((zwR t142 0).f1), .int .i64 ((zwR t142 0).f2)], .int .i64 t146] rfl (by (try simp only [List.map_toArray, List.map_cons, List.map_nil]); first | done | rfl | (simp only [List.length_drop, List.length_take]; rfl)) ?_; (with_reducible refine (zgK.calls k ((zwR t142 0).f0) ((zwR t142 0).f1) ((zwR t142 0).f2) t146 t158 _ A39.out).mono ?_); rintro e w70 ⟨v159, rfl, ho0, hb⟩; refine ⟨_, rfl, ?_⟩; have n0_ := zpS (Kd.R_below (by (with_reducible repeat (first | apply Kd.R_alloc | apply Kd.R_drewN | apply Kd.R_drew)); exact HO144.out) hb); have n1_ := zpS (Kd.R_lower ho0 (zuA bb_)); have n2_ := zpS (zgM (g := gb147) (o := .cells #[.int .i64 ((zwR t142 0).f0), .int .i64 ((zwR t142 0).f1), .int .i64 ((zwR t142 0).f2)] 87 (0, 0)) bk_ hb); have n3_ := (ns_ hb); clear HO144; clear BK147; clear HB; have HO144 := n0_; have HO160 := n1_; have BK147 := n2_; have HB := n3_; clear n0_ n1_ n2_ n3_; (try clear hb); (try clear hb2); (try clear ho0); obtain ⟨Ao71, co71, eo71⟩ := Kd.R_slice HO160.out; subst eo71) | ((with_reducible refine zgL (f := 94) rfl ?_); refine zqQ (some 71) rfl rfl Try.func94 (by kernel_rfl) rfl #[.slice A1 l1.length c1, .slice Ao71 t158.length co71] rfl (by (try simp only [List.map_toArray, List.map_cons, List.map_nil]); first | done | rfl | (simp only [List.length_drop, List.length_take]; rfl)) ?_; (with_reducible refine (zrS.calls k _ _ l1 _ _ t158 t161 _ ?side1 ?side2 ?side3 ?side4 A40.out).mono ?_); (case side1 => repeat (first | exact (Kd.C_below HR1.out HB.out) | (with_reducible refine Kd.C_alloc ?_ _) | (with_reducible refine Kd.C_drewN ?_ _) | (with_reducible refine Kd.C_drew ?_))); (case side2 => exact HC1.out); (case side3 => repeat (first | exact (Kd.R_reads' HO160.out).2.2 | (with_reducible refine Kd.C_alloc ?_ _) | (with_reducible refine Kd.C_drewN ?_ _) | (with_reducible refine Kd.C_drew ?_))); (case side4 => exact (Kd.R_reads' HO160.out).2.1); rintro e w72 ⟨v162, rfl, ho0, hb⟩; refine ⟨_, rfl, ?_⟩; have n0_ := zpS (Kd.R_below (by (with_reducible repeat (first | apply Kd.R_alloc | apply Kd.R_drewN | apply Kd.R_drew)); exact HO144.out) hb); have n1_ := zpS (Kd.R_elder' (by (with_reducible repeat (first | apply Kd.R_alloc | apply Kd.R_drewN | apply Kd.R_drew)); exact HO160.out) (Kd.R_base ho0) hb); have n2_ := zpS (Kd.R_lower (Kd.R_new' ho0 (Kd.R_lt (by (with_reducible repeat (first | apply Kd.R_alloc | apply Kd.R_drewN | apply Kd.R_drew)); exact HO160.out))) (zuA bb_)); have n3_ := zpS (zgM (g := gb147) (o := .cells #[.int .i64 ((zwR t142 0).f0), .int .i64 ((zwR t142 0).f1), .int .i64 ((zwR t142 0).f2)] 87 (0, 0)) bk_ hb); have n4_ := (ns_ hb); clear HO144; clear HO160; clear BK147; clear HB; have HO144 := n0_; have HO160 := n1_; have HO163 := n2_; have BK147 := n3_; have HB := n4_; clear n0_ n1_ n2_ n3_ n4_; (try clear hb); (try clear hb2); (try clear ho0); obtain ⟨Ao73, co73, eo73⟩ := Kd.R_slice HO163.out; subst eo73) | ((with_reducible refine zgL (f := 96) rfl ?_); refine zqQ (some 73) rfl rfl Try.func96 (by kernel_rfl) rfl #[.slice Ao73 t161.length co73, .int .i64 3] rfl (by (try simp only [List.map_toArray, List.map_cons, List.map_nil]); first | done | rfl | (simp only [List.length_drop, List.length_take]; rfl)) ?_; (with_reducible refine (zeT.calls k _ _ t161 3 t164 _ ?side1 ?side2 A41.out).mono ?_); (case side1 => repeat (first | exact (Kd.R_reads' HO163.out).2.2 | (with_reducible refine Kd.C_alloc ?_ _) | (with_reducible refine Kd.C_drewN ?_ _) | (with_reducible refine Kd.C_drew ?_))); (case side2 => exact (Kd.R_reads' HO163.out).2.1); rintro e w' ⟨rfl, ⟨nd, rfl⟩⟩; refine ⟨_, rfl, ?_⟩) | ((with_reducible refine zgL (f := 96) rfl ?_); refine zqQ (some 75) rfl rfl Try.func96 (by kernel_rfl) rfl #[.slice Ao73 t161.length co73, .int .i64 2] rfl (by (try simp only [List.map_toArray, List.map_cons, List.map_nil]); first | done | rfl | (simp only [List.length_drop, List.length_take]; rfl)) ?_; (with_reducible refine (zeT.calls k _ _ t161 2 t165 _ ?side1 ?side2 A42.out).mono ?_); (case side1 => repeat (first | exact (Kd.R_reads' HO163.out).2.2 | (with_reducible refine Kd.C_alloc ?_ _) | (with_reducible refine Kd.C_drewN ?_ _) | (with_reducible refine Kd.C_drew ?_))); (case side2 => exact (Kd.R_reads' HO163.out).2.1); rintro e w' ⟨rfl, ⟨nd, rfl⟩⟩; refine ⟨_, rfl, ?_⟩))
             (try (rw [drewN_self w72]; generalize hq_ : World.drewN w72 _ = w72; have n0_ : Aside0 (Kd.R k87 87 w72 w.heap.size (fun k_ => k_ ≠ gb147) (.slice (some ad145) t142.length co14) t142) := ⟨by rw [← hq_]; exact (by (with_reducible repeat (first | apply Kd.R_alloc | apply Kd.R_drewN | apply Kd.R_drew)); exact HO144.out)⟩; have n1_ : Aside0 (Kd.R (Kd.int .i64) 2 w72 w.heap.size (fun k_ => (True ∧ some k_ ≠ (.slice Ao73 t161.length co73 : Value).ownBlock)) (.slice Ao71 t158.length co71) t158) := ⟨by rw [← hq_]; exact (by (with_reducible repeat (first | apply Kd.R_alloc | apply Kd.R_drewN | apply Kd.R_drew)); exact HO160.out)⟩; have n2_ : Aside0 (Kd.R (Kd.int .i64) 2 w72 w.heap.size (fun k_ => (True ∧ some k_ ≠ (.slice Ao71 t158.length co71 : Value).ownBlock)) (.slice Ao73 t161.length co73) t161) := ⟨by rw [← hq_]; exact (by (with_reducible repeat (first | apply Kd.R_alloc | apply Kd.R_drewN | apply Kd.R_drew)); exact HO163.out)⟩; have n3_ : Aside0 (w72.heap[gb147]? = some (.cells #[.int .i64 ((zwR t142 0).f0), .int .i64 ((zwR t142 0).f1), .int .i64 ((zwR t142 0).f2)] 87 (0, 0))) := ⟨by rw [← hq_]; exact bk_⟩; have n4_ : Aside0 (Below w.heap.size w w72) := ⟨by rw [← hq_]; exact bb_⟩; clear HO144 HO160 HO163 BK147 HB hq_; have HO144 := n0_; have HO160 := n1_; have HO163 := n2_; have BK147 := n3_; have HB := n4_; clear n0_ n1_ n2_ n3_ n4_))
             have n0_ := zpS (Kd.R_drew HO144.out)
             have n1_ := zpS (Kd.R_drew HO160.out)
             have n2_ := zpS (Kd.R_drew HO163.out)
             have n3_ := zpS (ztN BK147.out)
             have n4_ := zpS (zvF HB.out)
             clear HO144
             clear HO160
             clear HO163
             clear BK147
             clear HB
             have HO144 := n0_
             have HO160 := n1_
             have HO163 := n2_
             have BK147 := n3_
             have HB := n4_
             clear n0_ n1_ n2_ n3_ n4_
             have p175 : 0 ≤ ((ji62) : Int) := of_decide_eq_true (by first | (with_reducible assumption) | assumption)
             have q175 : (ji62) < (l0.length : Int) := of_decide_eq_true (by first | (with_reducible assumption) | assumption)
             obtain ⟨ad175, e175, hx175_0⟩ := Kd.at_int HR0.out (ji62) p175 q175
             have hw175_0 := hx175_0
             cases e175
             replace hx175_0 := cel_ HB.out hx175_0
             replace p175 := eq_true p175
             replace q175 := eq_true q175
             have p176 : 0 ≤ ((ji65) : Int) := of_decide_eq_true (by first | (with_reducible assumption) | assumption)
             have q176 : (ji65) < (l0.length : Int) := of_decide_eq_true (by first | (with_reducible assumption) | assumption)
             obtain ⟨ad176, e176, hx176_0⟩ := Kd.at_int HR0.out (ji65) p176 q176
             have hw176_0 := hx176_0
             obtain rfl : ad175 = ad176 := (by injection e176)
             replace hx176_0 := cel_ HB.out hx176_0
             replace p176 := eq_true p176
             replace q176 := eq_true q176
             have p180 : 0 ≤ ((ji62) : Int) := of_decide_eq_true (by first | (with_reducible assumption) | assumption)
             have q180 : (ji62) < (l1.length : Int) := of_decide_eq_true (by first | (with_reducible assumption) | assumption)
             obtain ⟨ad180, e180, hx180_0⟩ := Kd.at_int HR1.out (ji62) p180 q180
             have hw180_0 := hx180_0
             cases e180
             replace hx180_0 := cel_ HB.out hx180_0
             replace p180 := eq_true p180
             replace q180 := eq_true q180
             refine start_ (n := 17) (S := fun w' => True) (ds := []) #[false, false, false, false, false, false, false, false, false, false, false, false, false, false, false, false, false] (by kernel_rfl) rfl rfl trivial (fun hHeld => ?_); refine with_tabW zzB.tab15 zzB.bits15 (fun HT_ HW_ => ?_)
             generalize w72.drew = w74 at HO144 HO160 HO163 BK147 HB hx175_0 hx176_0 hx180_0 hHeld ⊢
             refine pu_ 0 (some 77) (bl_ 17 1) ?_
             refine pu_ 1 (some 78) (bl_ 17 3) ?_
             refine pu_ 4 (some 81) (bl_ 17 19) ?_
             refine pu_ 5 (some 82) (bl_ 17 51) ?_
             refine pu_ 9 (some 86) (bl_ 17 563) ?_
             refine pu_ 10 (some 87) (bl_ 17 1587) ?_
             refine pu_ 13 (some 90) (bl_ 17 9779) ?_
             refine inv_at [2, 3, 6, 7, 8, 11, 12, 14, 15, 16] (fun a0_ b a w' => ∃ (v178 : Value) (v182 : Value) (m15_ : Value) (m16_ : Value), a = zfO a0_ b [(2, 79, .pointer (some (ad175.add ((ji62)).toNat))), (3, 80, .int .i64 (rd l0 (ji62))), (6, 83, .pointer (some (ad175.add ((ji65)).toNat))), (7, 84, .int .i64 (rd l0 (ji65))), (8, 85, v178), (11, 88, .pointer (some (ad180.add ((ji62)).toNat))), (12, 89, .int .i64 (rd l1 (ji62))), (14, 91, v182), (15, 12, m15_), (16, 13, m16_)] ∧ (Kd.R k87 87 w' w.heap.size (fun k_ => k_ ≠ gb147) (.slice (some ad145) t142.length co14) t142) ∧ (Kd.R (Kd.int .i64) 2 w' w.heap.size (fun k_ => some k_ ≠ (.slice Ao73 t161.length co73 : Value).ownBlock) (.slice Ao71 t158.length co71) t158) ∧ (Kd.R (Kd.int .i64) 2 w' w.heap.size (fun k_ => some k_ ≠ (.slice Ao71 t158.length co71 : Value).ownBlock) (.slice Ao73 t161.length co73) t161) ∧ (w'.heap[gb147]? = some (.cells #[.int .i64 ((zwR t142 0).f0), .int .i64 ((zwR t142 0).f1), .int .i64 ((zwR t142 0).f2)] 87 (0, 0))) ∧ (Below w.heap.size w w') ∧ (b 8 = true → Kd.R (Kd.int .i64) 2 w' w.heap.size (fun k_ => b 14 = true → some k_ ≠ (v182 : Value).ownBlock) v178 y177) ∧ (b 14 = true → Kd.R (Kd.int .i64) 2 w' w.heap.size (fun k_ => b 8 = true → some k_ ≠ (v178 : Value).ownBlock) v182 y181) ∧ (b 15 = true → (m15_ : Value) = v178) ∧ (b 16 = true → (m16_ : Value) = v182)) HT_.out HW_.out (by kernel_rfl) (by kernel_rfl) ?_ ?_ ?_
             ·exact ⟨.bool false, .bool false, .bool false, .bool false, by simp only [zfO, Bool.false_eq_true, if_false], (Kd.R_mono HO144.out (fun _ hk => by first | exact hk.2 | exact hk)), (Kd.R_mono HO160.out (fun _ hk => by first | exact hk.2 | exact hk)), (Kd.R_mono HO163.out (fun _ hk => by first | exact hk.2 | exact hk)), BK147.out, HB.out, fun h_ => absurd h_ (by decide), fun h_ => absurd h_ (by decide), fun h_ => absurd h_ (by decide), fun h_ => absurd h_ (by decide)⟩
             ·skip
              clear BK147 HB HO144 HO160 HO163
              refine zuE ?_ ?_
              ·rintro b a w' ⟨v178, v182, m15_, m16_, ha, Q_HO144, Q_HO160, Q_HO163, Q_BK147, Q_HB, Q_HO179, Q_HO183, Q_X15_, Q_X16_⟩ hb_ hon hoff
               refine ⟨_, rfl, fun K hK => ?_⟩
               have e77 : a.tmps[77]? = some (.slice (some ad175) l0.length c0) := by rw [ha]; exact (zqL rfl).trans rfl
               have e78 : a.tmps[78]? = some (.int .i64 ji62) := by rw [ha]; exact (zqL rfl).trans rfl
               replace ha := zpS ha
               have HO144 := zpS Q_HO144
               have HO160 := zpS Q_HO160
               have HO163 := zpS Q_HO163
               have BK147 := zpS Q_BK147
               have HB := zpS Q_HB
               have hs0_ : w'.cell? (ad175.add ((ji62)).toNat) = some (.int .i64 (rd l0 (ji62))) := (cel_ HB.out hw175_0)
               refine zcF (w1 := w') (v := .pointer (some (ad175.add ((ji62)).toNat))) (by rfl) rfl ?_ ?_
               ·go_simp
                (try simp only [zcO])
                try rfl
               refine hK.out _ _ ⟨v178, v182, m15_, m16_, (by rw [ha.out]; exact zxE 0 hb_ rfl rfl rfl), Q_HO144, Q_HO160, Q_HO163, Q_BK147, Q_HB, fun h0_ => absurd ((hoff 8 (by kernel_rfl)).symm.trans h0_) (by decide), Q_HO183, fun h0_ => absurd ((hoff 15 (by kernel_rfl)).symm.trans h0_) (by decide), fun h0_ => absurd ((hoff 16 (by kernel_rfl)).symm.trans h0_) (by decide)⟩
              refine zuE ?_ ?_
              ·rintro b a w' ⟨v178, v182, m15_, m16_, ha, Q_HO144, Q_HO160, Q_HO163, Q_BK147, Q_HB, Q_HO179, Q_HO183, Q_X15_, Q_X16_⟩ hb_ hon hoff
               refine ⟨_, rfl, fun K hK => ?_⟩
               have e79 : a.tmps[79]? = some (.pointer (some (ad175.add ((ji62)).toNat))) := by rw [ha]; exact zwO (e := (2, 79, .pointer (some (ad175.add ((ji62)).toNat)))) 0 rfl rfl (hon 2 (by kernel_rfl)) rfl
               replace ha := zpS ha
               have HO144 := zpS Q_HO144
               have HO160 := zpS Q_HO160
               have HO163 := zpS Q_HO163
               have BK147 := zpS Q_BK147
               have HB := zpS Q_HB
               have hs0_ : w'.cell? (ad175.add ((ji62)).toNat) = some (.int .i64 (rd l0 (ji62))) := (cel_ HB.out hw175_0)
               refine zcF (w1 := w') (v := .int .i64 (rd l0 (ji62))) (by rfl) rfl ?_ ?_
               ·go_simp
                (try simp only [zcO])
                try rfl
               refine hK.out _ _ ⟨v178, v182, m15_, m16_, (by rw [ha.out]; exact zxE 1 hb_ rfl rfl rfl), Q_HO144, Q_HO160, Q_HO163, Q_BK147, Q_HB, fun h0_ => absurd ((hoff 8 (by kernel_rfl)).symm.trans h0_) (by decide), Q_HO183, fun h0_ => absurd ((hoff 15 (by kernel_rfl)).symm.trans h0_) (by decide), fun h0_ => absurd ((hoff 16 (by kernel_rfl)).symm.trans h0_) (by decide)⟩
              refine zuE ?_ ?_
              ·rintro b a w' ⟨v178, v182, m15_, m16_, ha, Q_HO144, Q_HO160, Q_HO163, Q_BK147, Q_HB, Q_HO179, Q_HO183, Q_X15_, Q_X16_⟩ hb_ hon hoff
               refine ⟨_, rfl, fun K hK => ?_⟩
               have e81 : a.tmps[81]? = some (.slice (some ad175) l0.length c0) := by rw [ha]; exact (zqL rfl).trans rfl
               have e82 : a.tmps[82]? = some (.int .i64 ji65) := by rw [ha]; exact (zqL rfl).trans rfl
               replace ha := zpS ha
               have HO144 := zpS Q_HO144
               have HO160 := zpS Q_HO160
               have HO163 := zpS Q_HO163
               have BK147 := zpS Q_BK147
               have HB := zpS Q_HB
               have hs1_ : w'.cell? (ad175.add ((ji65)).toNat) = some (.int .i64 (rd l0 (ji65))) := (cel_ HB.out hw176_0)
               refine zcF (w1 := w') (v := .pointer (some (ad175.add ((ji65)).toNat))) (by rfl) rfl ?_ ?_
               ·go_simp
                (try simp only [zcO])
                try rfl
               refine hK.out _ _ ⟨v178, v182, m15_, m16_, (by rw [ha.out]; exact zxE 2 hb_ rfl rfl rfl), Q_HO144, Q_HO160, Q_HO163, Q_BK147, Q_HB, fun h0_ => absurd ((hoff 8 (by kernel_rfl)).symm.trans h0_) (by decide), Q_HO183, fun h0_ => absurd ((hoff 15 (by kernel_rfl)).symm.trans h0_) (by decide), fun h0_ => absurd ((hoff 16 (by kernel_rfl)).symm.trans h0_) (by decide)⟩
              refine zuE ?_ ?_
              ·rintro b a w' ⟨v178, v182, m15_, m16_, ha, Q_HO144, Q_HO160, Q_HO163, Q_BK147, Q_HB, Q_HO179, Q_HO183, Q_X15_, Q_X16_⟩ hb_ hon hoff
               refine ⟨_, rfl, fun K hK => ?_⟩
               have e83 : a.tmps[83]? = some (.pointer (some (ad175.add ((ji65)).toNat))) := by rw [ha]; exact zwO (e := (6, 83, .pointer (some (ad175.add ((ji65)).toNat)))) 2 rfl rfl (hon 6 (by kernel_rfl)) rfl
               replace ha := zpS ha
               have HO144 := zpS Q_HO144
               have HO160 := zpS Q_HO160
               have HO163 := zpS Q_HO163
               have BK147 := zpS Q_BK147
               have HB := zpS Q_HB
               have hs1_ : w'.cell? (ad175.add ((ji65)).toNat) = some (.int .i64 (rd l0 (ji65))) := (cel_ HB.out hw176_0)
               refine zcF (w1 := w') (v := .int .i64 (rd l0 (ji65))) (by rfl) rfl ?_ ?_
               ·go_simp
                (try simp only [zcO])
                try rfl
               refine hK.out _ _ ⟨v178, v182, m15_, m16_, (by rw [ha.out]; exact zxE 3 hb_ rfl rfl rfl), Q_HO144, Q_HO160, Q_HO163, Q_BK147, Q_HB, fun h0_ => absurd ((hoff 8 (by kernel_rfl)).symm.trans h0_) (by decide), Q_HO183, fun h0_ => absurd ((hoff 15 (by kernel_rfl)).symm.trans h0_) (by decide), fun h0_ => absurd ((hoff 16 (by kernel_rfl)).symm.trans h0_) (by decide)⟩
              refine zuE ?_ ?_
              ·rintro b a w' ⟨v178, v182, m15_, m16_, ha, Q_HO144, Q_HO160, Q_HO163, Q_BK147, Q_HB, Q_HO179, Q_HO183, Q_X15_, Q_X16_⟩ hb_ hon hoff
               refine ⟨_, rfl, fun K hK => ?_⟩
               have e80 : a.tmps[80]? = some (.int .i64 (rd l0 (ji62))) := by rw [ha]; exact zwO (e := (3, 80, .int .i64 (rd l0 (ji62)))) 1 rfl rfl (hon 3 (by kernel_rfl)) rfl
               have e84 : a.tmps[84]? = some (.int .i64 (rd l0 (ji65))) := by rw [ha]; exact zwO (e := (7, 84, .int .i64 (rd l0 (ji65)))) 3 rfl rfl (hon 7 (by kernel_rfl)) rfl
               replace ha := zpS ha
               have HO144 := zpS Q_HO144
               have HO160 := zpS Q_HO160
               have HO163 := zpS Q_HO163
               have BK147 := zpS Q_BK147
               have HB := zpS Q_HB
               refine Kd.R_lit_step (Kd.int .i64) _ 2 ?hg (N := 85) ?hd (xs := ([rd l0 (ji62), rd l0 (ji65)] : List Int)) (zlR := [.int .i64 (rd l0 (ji62)), .int .i64 (rd l0 (ji65))]) (ok := fun _ => True) (okp := fun _ => True) ?hr ?hp (fun _ hk => hk) trivial (Below.refl _ _) (Nat.le_refl _) (by simp) ?_; (case hd => rfl); (case hg => rfl); (case hr => first | (go_simp; done) | (go_simp; rfl)); (case hp => exact (zfH.one (show Kd.M (Kd.int .i64) _ _ _ (rd l0 (ji62)) [.int .i64 (rd l0 (ji62))] from rfl) (zfH.one (show Kd.M (Kd.int .i64) _ _ _ (rd l0 (ji65)) [.int .i64 (rd l0 (ji65))] from rfl) (zfH.none _ _))))
               intro v178 w75 ho76 hb hg_ hnew_
               clear hg_ hnew_
               (first | rw [← Ny177.out] at ho76 | (simp only [Int.reduceToNat] at ho76; rw [← Ny177.out] at ho76))
               have n0_ := zpS (Kd.R_below (by (with_reducible repeat (first | apply Kd.R_alloc | apply Kd.R_drewN | apply Kd.R_drew)); exact HO144.out) hb)
               have n1_ := zpS (Kd.R_elder' (by (with_reducible repeat (first | apply Kd.R_alloc | apply Kd.R_drewN | apply Kd.R_drew)); exact HO160.out) (Kd.R_base ho76) hb)
               have n2_ := zpS (Kd.R_elder' (by (with_reducible repeat (first | apply Kd.R_alloc | apply Kd.R_drewN | apply Kd.R_drew)); exact HO163.out) (Kd.R_base ho76) hb)
               have n3_ := zpS (show Kd.R (Kd.int .i64) 2 w75 w.heap.size (fun k_ => b 14 = true → some k_ ≠ (v182 : Value).ownBlock) v178 y177 from Kd.R_mono (Kd.R_lower (Kd.R_bound (Kd.R_new' (Kd.R_new' ho76 (Kd.R_lt (by (with_reducible repeat (first | apply Kd.R_alloc | apply Kd.R_drewN | apply Kd.R_drew)); exact HO160.out))) (Kd.R_lt (by (with_reducible repeat (first | apply Kd.R_alloc | apply Kd.R_drewN | apply Kd.R_drew)); exact HO163.out)))) (zuA bb_)) (fun k_ hk_ h0_ e_ => by obtain ⟨_, ho_⟩ := Kd.R_own (Q_HO183 h0_); have := own_lt ho_ k_ e_.symm; have := hk_.2.1; omega))
               have n4_ := zpS (zgM (g := gb147) (o := .cells #[.int .i64 ((zwR t142 0).f0), .int .i64 ((zwR t142 0).f1), .int .i64 ((zwR t142 0).f2)] 87 (0, 0)) bk_ hb)
               have n5_ := (ns_ hb)
               have z_HO183 := fun (h0_ : b 14 = true) => (Kd.R_elder' (by (with_reducible repeat (first | apply Kd.R_alloc | apply Kd.R_drewN | apply Kd.R_drew)); exact (Q_HO183 h0_)) (Kd.R_base ho76) hb)
               clear HO144
               clear HO160
               clear HO163
               clear BK147
               clear HB
               have HO144 := n0_
               have HO160 := n1_
               have HO163 := n2_
               have HO179 := n3_
               have BK147 := n4_
               have HB := n5_
               clear n0_ n1_ n2_ n3_ n4_ n5_
               clear hb ho76
               refine hK.out _ _ ⟨v178, v182, m15_, m16_, (by rw [ha.out]; exact zxE 4 hb_ rfl rfl rfl), (by (with_reducible repeat (first | apply Kd.R_alloc | apply Kd.R_drewN | apply Kd.R_drew)); exact HO144.out), (by (with_reducible repeat (first | apply Kd.R_alloc | apply Kd.R_drewN | apply Kd.R_drew)); exact Kd.R_mono HO160.out (fun _ hk => by first | exact hk.2 | exact ⟨hk.1.2, hk.2⟩ | exact hk | exact hk.1)), (by (with_reducible repeat (first | apply Kd.R_alloc | apply Kd.R_drewN | apply Kd.R_drew)); exact Kd.R_mono HO163.out (fun _ hk => by first | exact hk.2 | exact ⟨hk.1.2, hk.2⟩ | exact hk | exact hk.1)), bk_, bb_, fun _ => (by (with_reducible repeat (first | apply Kd.R_alloc | apply Kd.R_drewN | apply Kd.R_drew)); exact HO179.out), (fun h0_ => Kd.R_mono (z_HO183 h0_) (fun _ h_ _ => h_.2)), fun h0_ => absurd ((hoff 15 (by kernel_rfl)).symm.trans h0_) (by decide), fun h0_ => absurd ((hoff 16 (by kernel_rfl)).symm.trans h0_) (by decide)⟩
              refine zuE ?_ ?_
              ·rintro b a w' ⟨v178, v182, m15_, m16_, ha, Q_HO144, Q_HO160, Q_HO163, Q_BK147, Q_HB, Q_HO179, Q_HO183, Q_X15_, Q_X16_⟩ hb_ hon hoff
               refine ⟨_, rfl, fun K hK => ?_⟩
               have e86 : a.tmps[86]? = some (.slice (some ad180) l1.length c1) := by rw [ha]; exact (zqL rfl).trans rfl
               have e87 : a.tmps[87]? = some (.int .i64 ji62) := by rw [ha]; exact (zqL rfl).trans rfl
               replace ha := zpS ha
               have HO144 := zpS Q_HO144
               have HO160 := zpS Q_HO160
               have HO163 := zpS Q_HO163
               have BK147 := zpS Q_BK147
               have HB := zpS Q_HB
               have hs2_ : w'.cell? (ad180.add ((ji62)).toNat) = some (.int .i64 (rd l1 (ji62))) := (cel_ HB.out hw180_0)
               refine zcF (w1 := w') (v := .pointer (some (ad180.add ((ji62)).toNat))) (by rfl) rfl ?_ ?_
               ·go_simp
                (try simp only [zcO])
                try rfl
               refine hK.out _ _ ⟨v178, v182, m15_, m16_, (by rw [ha.out]; exact zxE 5 hb_ rfl rfl rfl), Q_HO144, Q_HO160, Q_HO163, Q_BK147, Q_HB, Q_HO179, fun h0_ => absurd ((hoff 14 (by kernel_rfl)).symm.trans h0_) (by decide), Q_X15_, fun h0_ => absurd ((hoff 16 (by kernel_rfl)).symm.trans h0_) (by decide)⟩
              refine zuE ?_ ?_
              ·rintro b a w' ⟨v178, v182, m15_, m16_, ha, Q_HO144, Q_HO160, Q_HO163, Q_BK147, Q_HB, Q_HO179, Q_HO183, Q_X15_, Q_X16_⟩ hb_ hon hoff
               refine ⟨_, rfl, fun K hK => ?_⟩
               have e88 : a.tmps[88]? = some (.pointer (some (ad180.add ((ji62)).toNat))) := by rw [ha]; exact zwO (e := (11, 88, .pointer (some (ad180.add ((ji62)).toNat)))) 5 rfl rfl (hon 11 (by kernel_rfl)) rfl
               replace ha := zpS ha
               have HO144 := zpS Q_HO144
               have HO160 := zpS Q_HO160
               have HO163 := zpS Q_HO163
               have BK147 := zpS Q_BK147
               have HB := zpS Q_HB
               have hs2_ : w'.cell? (ad180.add ((ji62)).toNat) = some (.int .i64 (rd l1 (ji62))) := (cel_ HB.out hw180_0)
               refine zcF (w1 := w') (v := .int .i64 (rd l1 (ji62))) (by rfl) rfl ?_ ?_
               ·go_simp
                (try simp only [zcO])
                try rfl
               refine hK.out _ _ ⟨v178, v182, m15_, m16_, (by rw [ha.out]; exact zxE 6 hb_ rfl rfl rfl), Q_HO144, Q_HO160, Q_HO163, Q_BK147, Q_HB, Q_HO179, fun h0_ => absurd ((hoff 14 (by kernel_rfl)).symm.trans h0_) (by decide), Q_X15_, fun h0_ => absurd ((hoff 16 (by kernel_rfl)).symm.trans h0_) (by decide)⟩
              refine zuE ?_ ?_
              ·rintro b a w' ⟨v178, v182, m15_, m16_, ha, Q_HO144, Q_HO160, Q_HO163, Q_BK147, Q_HB, Q_HO179, Q_HO183, Q_X15_, Q_X16_⟩ hb_ hon hoff
               refine ⟨_, rfl, fun K hK => ?_⟩
               have e89 : a.tmps[89]? = some (.int .i64 (rd l1 (ji62))) := by rw [ha]; exact zwO (e := (12, 89, .int .i64 (rd l1 (ji62)))) 6 rfl rfl (hon 12 (by kernel_rfl)) rfl
               have e90 : a.tmps[90]? = some (.int .i64 2) := by rw [ha]; exact (zqL rfl).trans rfl
               replace ha := zpS ha
               have HO144 := zpS Q_HO144
               have HO160 := zpS Q_HO160
               have HO163 := zpS Q_HO163
               have BK147 := zpS Q_BK147
               have HB := zpS Q_HB
               refine Kd.R_lit_step (Kd.int .i64) _ 2 ?hg (N := 91) ?hd (xs := ([rd l1 (ji62), 2] : List Int)) (zlR := [.int .i64 (rd l1 (ji62)), .int .i64 2]) (ok := fun _ => True) (okp := fun _ => True) ?hr ?hp (fun _ hk => hk) trivial (Below.refl _ _) (Nat.le_refl _) (by simp) ?_; (case hd => rfl); (case hg => rfl); (case hr => first | (go_simp; done) | (go_simp; rfl)); (case hp => exact (zfH.one (show Kd.M (Kd.int .i64) _ _ _ (rd l1 (ji62)) [.int .i64 (rd l1 (ji62))] from rfl) (zfH.one (show Kd.M (Kd.int .i64) _ _ _ 2 [.int .i64 2] from rfl) (zfH.none _ _))))
               intro v182 w75 ho76 hb hg_ hnew_
               clear hg_ hnew_
               (first | rw [← Ny181.out] at ho76 | (simp only [Int.reduceToNat] at ho76; rw [← Ny181.out] at ho76))
               have n0_ := zpS (Kd.R_below (by (with_reducible repeat (first | apply Kd.R_alloc | apply Kd.R_drewN | apply Kd.R_drew)); exact HO144.out) hb)
               have n1_ := zpS (Kd.R_elder' (by (with_reducible repeat (first | apply Kd.R_alloc | apply Kd.R_drewN | apply Kd.R_drew)); exact HO160.out) (Kd.R_base ho76) hb)
               have n2_ := zpS (Kd.R_elder' (by (with_reducible repeat (first | apply Kd.R_alloc | apply Kd.R_drewN | apply Kd.R_drew)); exact HO163.out) (Kd.R_base ho76) hb)
               have n3_ := zpS (show Kd.R (Kd.int .i64) 2 w75 w.heap.size (fun k_ => b 8 = true → some k_ ≠ (v178 : Value).ownBlock) v182 y181 from Kd.R_mono (Kd.R_lower (Kd.R_bound (Kd.R_new' (Kd.R_new' ho76 (Kd.R_lt (by (with_reducible repeat (first | apply Kd.R_alloc | apply Kd.R_drewN | apply Kd.R_drew)); exact HO160.out))) (Kd.R_lt (by (with_reducible repeat (first | apply Kd.R_alloc | apply Kd.R_drewN | apply Kd.R_drew)); exact HO163.out)))) (zuA bb_)) (fun k_ hk_ h0_ e_ => by obtain ⟨_, ho_⟩ := Kd.R_own (Q_HO179 h0_); have := own_lt ho_ k_ e_.symm; have := hk_.2.1; omega))
               have n4_ := zpS (zgM (g := gb147) (o := .cells #[.int .i64 ((zwR t142 0).f0), .int .i64 ((zwR t142 0).f1), .int .i64 ((zwR t142 0).f2)] 87 (0, 0)) bk_ hb)
               have n5_ := (ns_ hb)
               have z_HO179 := fun (h0_ : b 8 = true) => (Kd.R_elder' (by (with_reducible repeat (first | apply Kd.R_alloc | apply Kd.R_drewN | apply Kd.R_drew)); exact (Q_HO179 h0_)) (Kd.R_base ho76) hb)
               clear HO144
               clear HO160
               clear HO163
               clear BK147
               clear HB
               have HO144 := n0_
               have HO160 := n1_
               have HO163 := n2_
               have HO183 := n3_
               have BK147 := n4_
               have HB := n5_
               clear n0_ n1_ n2_ n3_ n4_ n5_
               clear hb ho76
               refine hK.out _ _ ⟨v178, v182, m15_, m16_, (by rw [ha.out]; exact zxE 7 hb_ rfl rfl rfl), (by (with_reducible repeat (first | apply Kd.R_alloc | apply Kd.R_drewN | apply Kd.R_drew)); exact HO144.out), (by (with_reducible repeat (first | apply Kd.R_alloc | apply Kd.R_drewN | apply Kd.R_drew)); exact Kd.R_mono HO160.out (fun _ hk => by first | exact hk.2 | exact ⟨hk.1.2, hk.2⟩ | exact hk | exact hk.1)), (by (with_reducible repeat (first | apply Kd.R_alloc | apply Kd.R_drewN | apply Kd.R_drew)); exact Kd.R_mono HO163.out (fun _ hk => by first | exact hk.2 | exact ⟨hk.1.2, hk.2⟩ | exact hk | exact hk.1)), bk_, bb_, (fun h0_ => Kd.R_mono (z_HO179 h0_) (fun _ h_ _ => h_.2)), fun _ => (by (with_reducible repeat (first | apply Kd.R_alloc | apply Kd.R_drewN | apply Kd.R_drew)); exact HO183.out), Q_X15_, fun h0_ => absurd ((hoff 16 (by kernel_rfl)).symm.trans h0_) (by decide)⟩
              refine zuE ?_ ?_
              ·rintro b a w' ⟨v178, v182, m15_, m16_, ha, Q_HO144, Q_HO160, Q_HO163, Q_BK147, Q_HB, Q_HO179, Q_HO183, Q_X15_, Q_X16_⟩ hb_ hon hoff
               refine ⟨_, rfl, fun K hK => ?_⟩
               have e85 : a.tmps[85]? = some (v178) := by rw [ha]; exact zwO (e := (8, 85, v178)) 4 rfl rfl (hon 8 (by kernel_rfl)) rfl
               replace ha := zpS ha
               have HO144 := zpS Q_HO144
               have HO160 := zpS Q_HO160
               have HO163 := zpS Q_HO163
               have BK147 := zpS Q_BK147
               have HB := zpS Q_HB
               have HO179 := zpS (Q_HO179 (hon 8 (by kernel_rfl)))
               refine zcF (w1 := w') (v := v178) (by rfl) rfl ?_ ?_
               ·go_simp
                (try simp only [zcO])
                try rfl
               refine hK.out _ _ ⟨v178, v182, (v178), m16_, (by rw [ha.out]; exact zxE 8 hb_ rfl rfl rfl), Q_HO144, Q_HO160, Q_HO163, Q_BK147, Q_HB, Q_HO179, Q_HO183, fun _ => rfl, fun h0_ => absurd ((hoff 16 (by kernel_rfl)).symm.trans h0_) (by decide)⟩
              refine zuE ?_ ?_
              ·rintro b a w' ⟨v178, v182, m15_, m16_, ha, Q_HO144, Q_HO160, Q_HO163, Q_BK147, Q_HB, Q_HO179, Q_HO183, Q_X15_, Q_X16_⟩ hb_ hon hoff
               refine ⟨_, rfl, fun K hK => ?_⟩
               have e91 : a.tmps[91]? = some (v182) := by rw [ha]; exact zwO (e := (14, 91, v182)) 7 rfl rfl (hon 14 (by kernel_rfl)) rfl
               replace ha := zpS ha
               have HO144 := zpS Q_HO144
               have HO160 := zpS Q_HO160
               have HO163 := zpS Q_HO163
               have BK147 := zpS Q_BK147
               have HB := zpS Q_HB
               have HO179 := zpS (Q_HO179 (hon 8 (by kernel_rfl)))
               have HO183 := zpS (Q_HO183 (hon 14 (by kernel_rfl)))
               refine zcF (w1 := w') (v := v182) (by rfl) rfl ?_ ?_
               ·go_simp
                (try simp only [zcO])
                try rfl
               refine hK.out _ _ ⟨v178, v182, m15_, (v182), (by rw [ha.out]; exact zxE 9 hb_ rfl rfl rfl), Q_HO144, Q_HO160, Q_HO163, Q_BK147, Q_HB, Q_HO179, Q_HO183, Q_X15_, fun _ => rfl⟩
              exact steps_nil
             rintro b a w79 hall ⟨v178, v182, m15_, m16_, ha, Q_HO144, Q_HO160, Q_HO163, Q_BK147, Q_HB, Q_HO179, Q_HO183, Q_X15_, Q_X16_⟩
             clear BK147 HB HO144 HO160 HO163
             have hb2_ := hall 2 (by kernel_rfl)
             have hb3_ := hall 3 (by kernel_rfl)
             have hb6_ := hall 6 (by kernel_rfl)
             have hb7_ := hall 7 (by kernel_rfl)
             have hb8_ := hall 8 (by kernel_rfl)
             have hb11_ := hall 11 (by kernel_rfl)
             have hb12_ := hall 12 (by kernel_rfl)
             have hb14_ := hall 14 (by kernel_rfl)
             have hb15_ := hall 15 (by kernel_rfl)
             have hb16_ := hall 16 (by kernel_rfl)
             subst ha
             obtain rfl := Q_X15_ hb15_
             obtain rfl := Q_X16_ hb16_
             simp only [zfO, hb2_, hb3_, hb6_, hb7_, hb8_, hb11_, hb12_, hb14_, hb15_, hb16_, if_true, Act.put, List.setIfInBounds_toArray, List.set_cons_zero, List.set_cons_succ]
             have HO144 := zpS Q_HO144
             clear Q_HO144
             have HO160 := zpS Q_HO160
             clear Q_HO160
             have HO163 := zpS Q_HO163
             clear Q_HO163
             have BK147 := zpS Q_BK147
             clear Q_BK147
             have HB := zpS Q_HB
             clear Q_HB
             have HO179 := zpS (Kd.R_mono (Q_HO179 hb8_) (fun _ hk => hk hb14_))
             clear Q_HO179
             have HO183 := zpS (Kd.R_mono (Q_HO183 hb14_) (fun _ hk => hk hb8_))
             clear Q_HO183
             clear hall hb2_ hb3_ hb6_ hb7_ hb8_ hb11_ hb12_ hb14_ hb15_ hb16_
             try go_wp2
             (try subst hji26); (try subst hji29); (try subst hji44); (try subst hji47); (try subst hji62); (try subst hji65); skip
             go_meet
             case rel => exact ⟨_, (y177), (y181), H', ⟨by first | omega | exact Nat.le_refl _⟩, ⟨by (with_reducible repeat (first | apply Kd.R_alloc | apply Kd.R_drewN | apply Kd.R_drew)); exact HO179.out⟩, ⟨by (with_reducible repeat (first | apply Kd.R_alloc | apply Kd.R_drewN | apply Kd.R_drew)); exact HO183.out⟩, ⟨bk_⟩, ⟨bb_⟩⟩
            ·rw [if_neg c68] at H
             exact absurd H (by simp)
           ·rw [if_neg c67] at H
            exact absurd H (by simp)
          ·rw [if_neg c66] at H
           exact absurd H (by simp)
         ·rw [if_neg c64] at H
          exact absurd H (by simp)
        ·rw [if_neg c63] at H
         exact absurd H (by simp)
     case rest =>
      clear HC12
      try clear c1
      try clear p1
      try clear q1
      try clear hx1
      try clear p2
      try clear c4
      try clear c5
      try clear c6
      try clear p6
      try clear c9
      try clear p17
      try clear q17
      try clear hx17
      try clear p18
      try clear q18
      try clear hx18
      try clear c43
      try clear c43b0
      try clear c45
      try clear c46
      try clear c48
      try clear c49
      try clear c50
      try clear c63
      try clear c63b0
      try clear c64
      try clear c64b0
      try clear p64
      try clear c66
      try clear c66b0
      try clear c67
      try clear c67b0
      try clear c68
      try clear c68b0
      try clear hcz69_0
      try clear hcz69_1
      try clear hcz69_2
      try clear hfz69_0
      try clear hfz69_1
      try clear hfz69_2
      try clear hx175_0
      try clear hx176_0
      try clear hx180_0
      try clear p175
      try clear p176
      try clear p180
      try clear q175
      try clear q176
      try clear q180
      obtain ⟨kq, x12_11, x13_11, HA, HJ11, HO_12, HO_13, BK147, HB⟩ := hcut
      cases kq with
      | zero => exact absurd HA.out (by simp [zzB.j0])
      | succ kj11 =>
       have H := HA.out
       clear HA
       simp only [zzB.j0] at H
       by_cases c80 : t146 = 0
       ·rw [if_pos c80] at H
        exact absurd H (by simp)
       ·rw [if_neg c80] at H
        have c80b0 : (t146 == 0) = false := beq_eq_false_iff_ne.mpr c80
        have c80b1 : (t146 != 0) = true := bne_iff_ne.mpr c80
        have H' := zpS H
        clear H
        go_wp2
        (try go_simp)
        go_loopg [12, 13, 16] kj11 (fun kq v12 v13 v16 w' => ∃ (x12_2 : List Int) (x13_2 : List Int) (x16_2 : Int), v16 = .int .i64 x16_2 ∧ Aside0 (zzB.l0 kq l0 l1 t146 (Int.tmod (wrap64 ((wrap64 (((zwR t142 0).f0) + t146)) - 1)) t146) x12_2 x13_2 x16_2 = some (r1, r2, r3)) ∧ Aside0 (kq ≤ kj11) ∧ Aside0 (Kd.R (Kd.int .i64) 2 w' w.heap.size (fun k_ => some k_ ≠ (v13 : Value).ownBlock) v12 x12_2) ∧ Aside0 (Kd.R (Kd.int .i64) 2 w' w.heap.size (fun k_ => some k_ ≠ (v12 : Value).ownBlock) v13 x13_2) ∧ Aside0 (w'.heap[gb147]? = some (.cells #[.int .i64 ((zwR t142 0).f0), .int .i64 ((zwR t142 0).f1), .int .i64 ((zwR t142 0).f2)] 87 (0, 0))) ∧ Aside0 (Below w.heap.size w w'))
        case atStart => exact ⟨(x12_11), (x13_11), (Int.tmod (wrap64 ((Int.tmod (wrap64 (((zwR t142 0).f0) + ((zwR t142 0).f1))) t146) + 1)) t146), (by first | rfl | (simp; done) | (simp [*]; done)), H', ⟨Nat.le_refl _⟩, ⟨by (with_reducible repeat (first | apply Kd.R_alloc | apply Kd.R_drewN | apply Kd.R_drew)); exact HO_12.out⟩, ⟨by (with_reducible repeat (first | apply Kd.R_alloc | apply Kd.R_drewN | apply Kd.R_drew)); exact HO_13.out⟩, ⟨bk_⟩, ⟨bb_⟩⟩
        case round =>
         clear H'
         try clear c1
         try clear p1
         try clear q1
         try clear hx1
         try clear p2
         try clear c4
         try clear c5
         try clear c6
         try clear p6
         try clear c8
         try clear c9
         try clear p17
         try clear q17
         try clear hx17
         try clear p18
         try clear q18
         try clear hx18
         try clear c43
         try clear c43b0
         try clear c45
         try clear c46
         try clear c48
         try clear c49
         try clear c50
         try clear c63
         try clear c63b0
         try clear c64
         try clear c64b0
         try clear p64
         try clear c66
         try clear c66b0
         try clear c67
         try clear c67b0
         try clear c68
         try clear c68b0
         try clear c80
         try clear c80b0
         try clear c80b1
         try clear hcz69_0
         try clear hcz69_1
         try clear hcz69_2
         try clear hfz69_0
         try clear hfz69_1
         try clear hfz69_2
         try clear hx175_0
         try clear hx176_0
         try clear hx180_0
         try clear p1
         try clear p17
         try clear p175
         try clear p176
         try clear p18
         try clear p180
         try clear p2
         try clear p6
         try clear p64
         try clear q1
         try clear q17
         try clear q175
         try clear q176
         try clear q18
         try clear q180
         obtain ⟨x12_2, x13_2, x16_2, rfl, HA, HK2, HO_12, HO_13, BK147, HB⟩ := hrel
         cases gk with
         | zero => exact absurd HA.out (by simp [zzB.l0])
         | succ k2 =>
          have H := HA.out
          clear HA
          simp only [zzB.l0] at H
          by_cases c81 : x16_2 = (Int.tmod (wrap64 ((wrap64 (((zwR t142 0).f0) + t146)) - 1)) t146)
          ·rw [if_pos c81] at H
           have c81b0 : (x16_2 == (Int.tmod (wrap64 ((wrap64 (((zwR t142 0).f0) + t146)) - 1)) t146)) = true := beq_iff_eq.mpr c81
           have c81b1 : (x16_2 != (Int.tmod (wrap64 ((wrap64 (((zwR t142 0).f0) + t146)) - 1)) t146)) = false := bne_eq_false_iff_eq.mpr c81
           clear c81
           simp only [Option.some.injEq, Prod.mk.injEq] at H
           obtain ⟨rfl, rfl, rfl⟩ := H
           go_wp2
           go_ret3
           exact ⟨_, _, by first | rfl | (simp [ziS, znJ] <;> rfl) | (simp [*, ziS, znJ] <;> rfl), by (with_reducible repeat (first | apply Kd.R_alloc | apply Kd.R_drewN | apply Kd.R_drew)); exact HO_12.out, by (with_reducible repeat (first | apply Kd.R_alloc | apply Kd.R_drewN | apply Kd.R_drew)); exact HO_13.out, bb_⟩
          ·rw [if_neg c81] at H
           have c81b0 : (x16_2 == (Int.tmod (wrap64 ((wrap64 (((zwR t142 0).f0) + t146)) - 1)) t146)) = false := beq_eq_false_iff_ne.mpr c81
           have c81b1 : (x16_2 != (Int.tmod (wrap64 ((wrap64 (((zwR t142 0).f0) + t146)) - 1)) t146)) = true := bne_iff_ne.mpr c81
           by_cases c82 : 0 ≤ x16_2
           ·rw [if_pos c82] at H
            have c82b0 : decide (0 ≤ x16_2) = true := decide_eq_true c82
            clear c82
            by_cases c83 : x16_2 < (l0.length : Int)
            ·rw [if_pos c83] at H
             have c83b0 : decide (x16_2 < (l0.length : Int)) = true := decide_eq_true c83
             clear c83
             by_cases c84 : x12_2.length < 17592186044416
             ·rw [if_pos c84] at H
              have LMc84 := zpS c84
              clear c84
              obtain ⟨y185, hy185⟩ : ∃ y_ : List Int, y_ = (x12_2 ++ [rd l0 x16_2]) := ⟨_, rfl⟩
              replace H : (if x16_2 < (l1.length : Int) then (if x13_2.length < 17592186044416 then (if t146 = 0 then (none) else (zzB.l0 k2 l0 l1 t146 (Int.tmod (wrap64 ((wrap64 (((zwR t142 0).f0) + t146)) - 1)) t146) y185 (x13_2 ++ [rd l1 x16_2]) (Int.tmod (wrap64 (x16_2 + 1)) t146))) else (none)) else (none)) = some (r1, r2, r3) := by first | (rw [hy185]; with_reducible exact H) | (have H2_ := (Option.bind_some _ _).symm.trans H; rw [hy185]; with_reducible exact H2_) | (have H2_ := (Option.bind_some _ _).symm.trans H; with_reducible exact H2_) | with_reducible exact H | (rw [hy185]; exact H) | exact H
              have Ny185 := zpS hy185
              clear hy185
              by_cases c85 : x16_2 < (l1.length : Int)
              ·rw [if_pos c85] at H
               have c85b0 : decide (x16_2 < (l1.length : Int)) = true := decide_eq_true c85
               clear c85
               by_cases c86 : x13_2.length < 17592186044416
               ·rw [if_pos c86] at H
                have LMc86 := zpS c86
                clear c86
                obtain ⟨y189, hy189⟩ : ∃ y_ : List Int, y_ = (x13_2 ++ [rd l1 x16_2]) := ⟨_, rfl⟩
                replace H : (if t146 = 0 then (none) else (zzB.l0 k2 l0 l1 t146 (Int.tmod (wrap64 ((wrap64 (((zwR t142 0).f0) + t146)) - 1)) t146) y185 y189 (Int.tmod (wrap64 (x16_2 + 1)) t146))) = some (r1, r2, r3) := by first | (rw [hy189]; with_reducible exact H) | (have H2_ := (Option.bind_some _ _).symm.trans H; rw [hy189]; with_reducible exact H2_) | (have H2_ := (Option.bind_some _ _).symm.trans H; with_reducible exact H2_) | with_reducible exact H | (rw [hy189]; exact H) | exact H
                have Ny189 := zpS hy189
                clear hy189
                by_cases c87 : t146 = 0
                ·rw [if_pos c87] at H
                 exact absurd H (by simp)
                ·rw [if_neg c87] at H
                 have c87b0 : (t146 == 0) = false := beq_eq_false_iff_ne.mpr c87
                 have c87b1 : (t146 != 0) = true := bne_iff_ne.mpr c87
                 have H' := zpS H
                 clear H
                 have p184 : 0 ≤ (x16_2 : Int) := of_decide_eq_true (by first | (with_reducible assumption) | assumption)
                 have q184 : x16_2 < (l0.length : Int) := of_decide_eq_true (by first | (with_reducible assumption) | assumption)
                 obtain ⟨ad184, e184, hx184_0⟩ := Kd.at_int HR0.out x16_2 p184 q184
                 cases e184
                 replace hx184_0 := cel_ HB.out hx184_0
                 replace p184 := eq_true p184
                 replace q184 := eq_true q184
                 go_wp2_with (first | ((with_reducible refine zcM (b := .append) (xs := #[.tmp 103, .tmp 108]) rfl ?_); at_builtin; refine Kd.R_append (Kd.int .i64) (w0 := w) w.heap.size rfl (.tmp 103) (.tmp 108) 22 2 (.int .i64 0) 8 rfl Try.underlying22 info2 rfl (by decide) (by omega) u12 x12_2 (rd l0 x16_2) [.int .i64 (rd l0 x16_2)] (fun k_ => some k_ ≠ (u13 : Value).ownBlock) (fun _ => False) rfl rfl ?aP (fun _ hk => hk.elim) ?aF ?aO ?aB ?aS ?aL ?_; (case aP => exact rfl); (case aB => exact bb_); (case aF => exact (fun k_ hk => Kd.fresh' (Kd.R_lt (by (with_reducible repeat (first | apply Kd.R_alloc | apply Kd.R_drewN | apply Kd.R_drew)); exact HO_13.out)) k_ hk)); (case aO => exact (by (with_reducible repeat (first | apply Kd.R_alloc | apply Kd.R_drewN | apply Kd.R_drew)); exact HO_12.out)); (case aS => exact (zuA bb_)); (case aL => have := LMc84.out; omega); intro v186 w88 ho hb hg hat; rw [← Ny185.out] at ho; have n0_ := zpS (Kd.R_after (ok := (fun _ => True)) (by (with_reducible repeat (first | apply Kd.R_alloc | apply Kd.R_drewN | apply Kd.R_drew)); exact Kd.R_mono HO_13.out (fun _ hk => ⟨trivial, hk⟩)) hg hat); have n1_ := zpS (blk_grown (g := gb147) (o := .cells #[.int .i64 ((zwR t142 0).f0), .int .i64 ((zwR t142 0).f1), .int .i64 ((zwR t142 0).f2)] 87 (0, 0)) bk_ hg (Kd.R_ne HO_12.out BK147.out (by decide))); have n2_ := zpS (hb); have n3_ := zpS (ho); clear HO_13; clear BK147; clear HB; clear HO_12; have HO_13 := n0_; have BK147 := n1_; have HB := n2_; have HO187 := n3_; clear n0_ n1_ n2_ n3_; clear ho hb hg hat; have p188 : 0 ≤ (x16_2 : Int) := of_decide_eq_true (by first | (with_reducible assumption) | assumption); have q188 : x16_2 < (l1.length : Int) := of_decide_eq_true (by first | (with_reducible assumption) | assumption); obtain ⟨ad188, e188, hx188_0⟩ := Kd.at_int HR1.out x16_2 p188 q188; cases e188; replace hx188_0 := cel_ HB.out hx188_0; replace p188 := eq_true p188; replace q188 := eq_true q188) | ((with_reducible refine zcM (b := .append) (xs := #[.tmp 110, .tmp 115]) rfl ?_); at_builtin; refine Kd.R_append (Kd.int .i64) (w0 := w) w.heap.size rfl (.tmp 110) (.tmp 115) 22 2 (.int .i64 0) 8 rfl Try.underlying22 info2 rfl (by decide) (by omega) u13 x13_2 (rd l1 x16_2) [.int .i64 (rd l1 x16_2)] (fun k_ => some k_ ≠ (v186 : Value).ownBlock) (fun _ => False) rfl rfl ?aP (fun _ hk => hk.elim) ?aF ?aO ?aB ?aS ?aL ?_; (case aP => exact rfl); (case aB => exact bb_); (case aF => exact (fun k_ hk => Kd.fresh' (Kd.R_lt (by (with_reducible repeat (first | apply Kd.R_alloc | apply Kd.R_drewN | apply Kd.R_drew)); exact HO187.out)) k_ hk)); (case aO => exact (by (with_reducible repeat (first | apply Kd.R_alloc | apply Kd.R_drewN | apply Kd.R_drew)); exact Kd.R_mono HO_13.out (fun _ hk => hk.2))); (case aS => exact (zuA bb_)); (case aL => have := LMc86.out; omega); intro v190 w89 ho hb hg hat; rw [← Ny189.out] at ho; have n0_ := zpS (blk_grown (g := gb147) (o := .cells #[.int .i64 ((zwR t142 0).f0), .int .i64 ((zwR t142 0).f1), .int .i64 ((zwR t142 0).f2)] 87 (0, 0)) bk_ hg (Kd.R_ne HO_13.out BK147.out (by decide))); have n1_ := zpS (Kd.R_after (ok := (fun _ => True)) (by (with_reducible repeat (first | apply Kd.R_alloc | apply Kd.R_drewN | apply Kd.R_drew)); exact Kd.R_mono HO187.out (fun _ hk => ⟨trivial, hk⟩)) hg hat); have n2_ := zpS (hb); have n3_ := zpS (ho); clear BK147; clear HO187; clear HB; clear HO_13; have BK147 := n0_; have HO187 := n1_; have HB := n2_; have HO191 := n3_; clear n0_ n1_ n2_ n3_; clear ho hb hg hat))
                 go_roundg k2
                 case measure => have := HJ11.out; have := HK2.out; omega
                 case rel => exact ⟨(y185), (y189), (Int.tmod (wrap64 (x16_2 + 1)) t146), (by first | rfl | (simp; done) | (simp [*]; done)), H', ⟨by have := HJ11.out; have := HK2.out; omega⟩, ⟨by (with_reducible repeat (first | apply Kd.R_alloc | apply Kd.R_drewN | apply Kd.R_drew)); exact Kd.R_mono HO187.out (fun _ hk => hk.2)⟩, ⟨by (with_reducible repeat (first | apply Kd.R_alloc | apply Kd.R_drewN | apply Kd.R_drew)); exact HO191.out⟩, ⟨bk_⟩, ⟨bb_⟩⟩
               ·rw [if_neg c86] at H
                exact absurd H (by simp)
              ·rw [if_neg c85] at H
               exact absurd H (by simp)
             ·rw [if_neg c84] at H
              exact absurd H (by simp)
            ·rw [if_neg c83] at H
             exact absurd H (by simp)
           ·rw [if_neg c82] at H
            exact absurd H (by simp)
   ·replace c10 := Bool.eq_false_iff.mpr c10
    subst c10
    have H1 : (some (([] : List Int), ([] : List Int), 8)) = some (r1, r2, r3) := by rw [if_neg (show ¬ (false = true) by decide)] at H; exact H
    clear H
    have H := H1
    clear H1
    simp only [Option.some.injEq, Prod.mk.injEq] at H
    obtain ⟨rfl, rfl, rfl⟩ := H
    go_enter Try.func59, Try.ntmps59
    try go_wp2_with (first | ((with_reducible refine zgL (f := 92) rfl ?_); refine zqQ (some 18) rfl rfl Try.func92 (by kernel_rfl) rfl #[.slice A0 l0.length c0] rfl (by (try simp only [List.map_toArray, List.map_cons, List.map_nil]); first | done | rfl | (simp only [List.length_drop, List.length_take]; rfl)) ?_; (with_reducible refine (zpB.calls k _ _ l0 t142 _ ?side1 ?side2 A3.out).mono ?_); (case side1 => repeat (first | exact HR0.out | (with_reducible refine Kd.C_alloc ?_ _) | (with_reducible refine Kd.C_drewN ?_ _) | (with_reducible refine Kd.C_drew ?_))); (case side2 => exact HC0.out); rintro e w90 ⟨v143, rfl, ho0, hb⟩; refine ⟨_, rfl, ?_⟩; have n0_ := zpS (Kd.R_lower ho0 (zuA bb_)); have n1_ := (ns_ hb); clear HB; have HO144 := n0_; have HB := n1_; clear n0_ n1_; (try clear hb); (try clear hb2); (try clear ho0); obtain ⟨Ao91, co91, eo91⟩ := Kd.R_slice HO144.out; subst eo91))
    have n0_ := zpS (Kd.R_drew HO144.out)
    have n1_ := zpS (zvF HB.out)
    clear HO144
    clear HB
    have HO144 := n0_
    have HB := n1_
    clear n0_ n1_
    have p145 : 0 ≤ (0 : Int) := (by omega)
    have q145 : 0 < (t142.length : Int) := of_decide_eq_true (by first | (with_reducible assumption) | assumption)
    obtain ⟨ad145, e145, hx145_0, hx145_1, hx145_2⟩ := at_T87 (Kd.R_reads' HO144.out).2.2 0 p145 q145
    cases e145
    have qi145 : (0 < t142.length) = True := eq_true (by omega)
    (try rw [show ((0 : Int)).toNat = 0 from rfl] at hx145_0)
    (try rw [show 0 * 3 = 0 from rfl] at hx145_0)
    (try rw [Addr.add_zero'] at hx145_0)
    (try rw [show ((0 : Int)).toNat = 0 from rfl] at hx145_1)
    (try rw [show 0 * 3 = 0 from rfl] at hx145_1)
    (try rw [Addr.add_zero'] at hx145_1)
    (try rw [show ((0 : Int)).toNat = 0 from rfl] at hx145_2)
    (try rw [show 0 * 3 = 0 from rfl] at hx145_2)
    (try rw [Addr.add_zero'] at hx145_2)
    replace p145 := eq_true p145
    replace q145 := eq_true q145
    refine start_ (n := 8) (S := fun w' => w'.cell? ad145 = some (.int .i64 ((zwR t142 0).f0)) ∧ w'.cell? ⟨ad145.block, ad145.off + 1, none⟩ = some (.int .i64 ((zwR t142 0).f1)) ∧ w'.cell? ⟨ad145.block, ad145.off + 2, none⟩ = some (.int .i64 ((zwR t142 0).f2))) (ds := []) #[false, false, false, false, false, false, false, false] (by kernel_rfl) rfl rfl ⟨hx145_0, hx145_1, hx145_2⟩ (fun hHeld => ?_); refine with_tabW zzB.tab4 zzB.bits4 (fun HT_ HW_ => ?_)
    generalize w90.drew = w92 at HO144 HB hx145_0 hx145_1 hx145_2 hHeld ⊢
    refine pu_ 0 (some 22) (bl_ 8 1) ?_
    refine pu_ 1 (some 23) (bl_ 8 3) ?_
    refine pu_ 3 (some 25) (bl_ 8 11) ?_
    refine tk3_ 2 (some 24) (bl_ 8 15) hHeld ?_
    refine join_ (σ := Nat) 2 #[true, true, true, true, true, true, false, false] (fun s_ => [(26, .int .i64 t146), (8, .pointer (some ⟨s_, 0, none⟩))]) (fun s_ w' => (w'.cell? ad145 = some (.int .i64 ((zwR t142 0).f0)) ∧ w'.cell? ⟨ad145.block, ad145.off + 1, none⟩ = some (.int .i64 ((zwR t142 0).f1)) ∧ w'.cell? ⟨ad145.block, ad145.off + 2, none⟩ = some (.int .i64 ((zwR t142 0).f2))) ∧ (Kd.R k87 87 w' w.heap.size (fun k_ => k_ ≠ s_) (.slice (some ad145) t142.length co91) t142) ∧ (w'.heap[s_]? = some (.cells #[.int .i64 0, .int .i64 0, .int .i64 0] 87 (0, 0))) ∧ (w.heap.size ≤ s_) ∧ (w.heap.size ≤ s_) ∧ (Below w.heap.size w w')) ?_ ?_
    rotate_left
    ·intro hCont
     refine two_ (i := 4) (j := 5) (Ni := some 26) (Nj := some 8) (bl_ 8 31) (bl_ 8 47) rfl rfl rfl rfl (two_of HT_.out (by kernel_rfl)) (by decide) (by decide) (fun K hK => ?_) (fun K hK => ?_)
     ·skip
      refine goes_ Try.func61 (by kernel_rfl) rfl #[.slice A0 l0.length c0] (by rfl) rfl rfl (by (try simp only [List.map_toArray, List.map_cons, List.map_nil]); first | done | rfl | (simp only [List.length_drop, List.length_take]; rfl)) ?_
      with_reducible refine (zfN.calls _ _ l0 t146 _ ?side1 ?side2 A8.out).mono ?_
      (case side1 => repeat (first | exact (Kd.C_below HR0.out HB.out) | (with_reducible refine Kd.C_alloc ?_ _) | (with_reducible refine Kd.C_drewN ?_ _) | (with_reducible refine Kd.C_drew ?_)))
      (case side2 => exact HC0.out)
      rintro e w' ⟨rfl, ⟨nd, rfl⟩⟩
      refine ⟨_, rfl, ?_⟩
      refine hK.out _ _ ⟨hHeld.1, hHeld.2.1, hHeld.2.2⟩ (fun hHeld => ?_)
      clear hK K
      refine norm_ (a' := ?_) ?_ ?_
      rotate_left
      ·show Act.put _ (some 26) _ = _
       simp only [Act.put, List.setIfInBounds_toArray, List.set_cons_zero, List.set_cons_succ, zcO, i32_w]
       rfl
      refine one_ (i := 5) (N := some 8) (bl_ 8 63) rfl rfl (one_of HT_.out (by kernel_rfl)) (by decide) (fun K hK => ?_)
      refine box_step ?hg (N := 8) ?hd (cs := #[.int .i64 0, .int .i64 0, .int .i64 0]) (t := 87) ?hr ?_; (case hd => rfl); (case hg => rfl); (case hr => first | (go_simp; done) | (go_simp; rfl))
      intro gb147 hg w93 hbox hb
      have HS0_ := (hb.cell (World.block_lt_of_cell? _ _ (hHeld.1))).trans (hHeld.1)
      have HS1_ := (hb.cell (World.block_lt_of_cell? _ _ (hHeld.2.1))).trans (hHeld.2.1)
      have HS2_ := (hb.cell (World.block_lt_of_cell? _ _ (hHeld.2.2))).trans (hHeld.2.2)
      have n0_ := zpS (Kd.R_below (Kd.R_elderB (by (with_reducible repeat (first | apply Kd.R_alloc | apply Kd.R_drewN | apply Kd.R_drew)); exact HO144.out) gb147 (Nat.le_of_eq hg.symm)) hb)
      have n1_ := (ns_ hb)
      have n2_ := zpS (hbox)
      have n3_ := (ng_ hg)
      have n4_ := (ng_ hg)
      clear HO144
      clear HB
      have HO144 := n0_
      have HB := n1_
      have BK147 := n2_
      have GW147 := n3_
      have GE147 := n4_
      clear n0_ n1_ n2_ n3_ n4_
      clear hb hbox hg
      refine hK.out _ _ ⟨HS0_, HS1_, HS2_⟩ (fun hHeld => ?_)
      clear hK K
      refine norm_ (a' := ?_) ?_ ?_
      rotate_left
      ·show Act.put _ (some 8) _ = _
       simp only [Act.put, List.setIfInBounds_toArray, List.set_cons_zero, List.set_cons_succ, zcO, i32_w]
       rfl
      exact norm_ (by simp only [putAll, Act.put, List.setIfInBounds_toArray, List.set_cons_zero, List.set_cons_succ]) (hCont (gb147) _ ⟨hHeld, (by (with_reducible repeat (first | apply Kd.R_alloc | apply Kd.R_drewN | apply Kd.R_drew)); exact Kd.R_mono HO144.out (fun _ hk => hk.2)), bk_, GW147.out, GE147.out, bb_⟩)
     ·skip
      refine box_step ?hg (N := 8) ?hd (cs := #[.int .i64 0, .int .i64 0, .int .i64 0]) (t := 87) ?hr ?_; (case hd => rfl); (case hg => rfl); (case hr => first | (go_simp; done) | (go_simp; rfl))
      intro gb147 hg w93 hbox hb
      have HS0_ := (hb.cell (World.block_lt_of_cell? _ _ (hHeld.1))).trans (hHeld.1)
      have HS1_ := (hb.cell (World.block_lt_of_cell? _ _ (hHeld.2.1))).trans (hHeld.2.1)
      have HS2_ := (hb.cell (World.block_lt_of_cell? _ _ (hHeld.2.2))).trans (hHeld.2.2)
      have n0_ := zpS (Kd.R_below (Kd.R_elderB (by (with_reducible repeat (first | apply Kd.R_alloc | apply Kd.R_drewN | apply Kd.R_drew)); exact HO144.out) gb147 (Nat.le_of_eq hg.symm)) hb)
      have n1_ := (ns_ hb)
      have n2_ := zpS (hbox)
      have n3_ := (ng_ hg)
      have n4_ := (ng_ hg)
      clear HO144
      clear HB
      have HO144 := n0_
      have HB := n1_
      have BK147 := n2_
      have GW147 := n3_
      have GE147 := n4_
      clear n0_ n1_ n2_ n3_ n4_
      clear hb hbox hg
      refine hK.out _ _ ⟨HS0_, HS1_, HS2_⟩ (fun hHeld => ?_)
      clear hK K
      refine norm_ (a' := ?_) ?_ ?_
      rotate_left
      ·show Act.put _ (some 8) _ = _
       simp only [Act.put, List.setIfInBounds_toArray, List.set_cons_zero, List.set_cons_succ, zcO, i32_w]
       rfl
      refine one_ (i := 4) (N := some 26) (bl_ 8 63) rfl rfl (one_of HT_.out (by kernel_rfl)) (by decide) (fun K hK => ?_)
      refine goes_ Try.func61 (by kernel_rfl) rfl #[.slice A0 l0.length c0] (by rfl) rfl rfl (by (try simp only [List.map_toArray, List.map_cons, List.map_nil]); first | done | rfl | (simp only [List.length_drop, List.length_take]; rfl)) ?_
      with_reducible refine (zfN.calls _ _ l0 t146 _ ?side1 ?side2 A8.out).mono ?_
      (case side1 => repeat (first | exact (Kd.C_below HR0.out HB.out) | (with_reducible refine Kd.C_alloc ?_ _) | (with_reducible refine Kd.C_drewN ?_ _) | (with_reducible refine Kd.C_drew ?_)))
      (case side2 => exact HC0.out)
      rintro e w' ⟨rfl, ⟨nd, rfl⟩⟩
      refine ⟨_, rfl, ?_⟩
      refine hK.out _ _ ⟨hHeld.1, hHeld.2.1, hHeld.2.2⟩ (fun hHeld => ?_)
      clear hK K
      refine norm_ (a' := ?_) ?_ ?_
      rotate_left
      ·show Act.put _ (some 26) _ = _
       simp only [Act.put, List.setIfInBounds_toArray, List.set_cons_zero, List.set_cons_succ, zcO, i32_w]
       rfl
      exact norm_ (by simp only [putAll, Act.put, List.setIfInBounds_toArray, List.set_cons_zero, List.set_cons_succ]) (hCont (gb147) _ ⟨hHeld, (by (with_reducible repeat (first | apply Kd.R_alloc | apply Kd.R_drewN | apply Kd.R_drew)); exact Kd.R_mono HO144.out (fun _ hk => hk.2)), bk_, GW147.out, GE147.out, bb_⟩)
    rintro gb147 w94 ⟨hS_, h0_, h1_, h2_, h3_, h4_⟩
    have n0_ : Aside0 (Kd.R k87 87 w94 w.heap.size (fun k_ => k_ ≠ gb147) (.slice (some ad145) t142.length co91) t142) := ⟨h0_⟩
    have n1_ : Aside0 (w94.heap[gb147]? = some (.cells #[.int .i64 0, .int .i64 0, .int .i64 0] 87 (0, 0))) := ⟨h1_⟩
    have n2_ : Aside0 (w.heap.size ≤ gb147) := ⟨h2_⟩
    have n3_ : Aside0 (w.heap.size ≤ gb147) := ⟨h3_⟩
    have n4_ : Aside0 (Below w.heap.size w w94) := ⟨h4_⟩
    clear HO144
    clear HB
    clear h0_ h1_ h2_ h3_ h4_
    have HO144 := n0_
    have BK147 := n1_
    have GW147 := n2_
    have GE147 := n3_
    have HB := n4_
    clear n0_ n1_ n2_ n3_ n4_
    have hHeld : w94.cell? ad145 = some (.int .i64 ((zwR t142 0).f0)) ∧ w94.cell? ⟨ad145.block, ad145.off + 1, none⟩ = some (.int .i64 ((zwR t142 0).f1)) ∧ w94.cell? ⟨ad145.block, ad145.off + 2, none⟩ = some (.int .i64 ((zwR t142 0).f2)) := hS_
    refine norm_ (a' := ?_) ?_ ?_
    rotate_left
    ·simp only [putAll, Act.put, List.setIfInBounds_toArray, List.set_cons_zero, List.set_cons_succ]
     rfl
    refine one_ (i := 6) (N := none) (bl_ 8 127) rfl rfl (one_of HT_.out (by kernel_rfl)) (by decide) (fun K hK => ?_)
    have hs95 : w94.cell? ⟨gb147, 0, none⟩ = some (.int .i64 0) := (zzS BK147.out 0).trans rfl
    have hfs95 := zjG BK147.out 0
    have hs96 : w94.cell? ⟨gb147, 1, none⟩ = some (.int .i64 0) := (zzS BK147.out 1).trans rfl
    have hfs96 := zjG BK147.out 1
    have hs97 : w94.cell? ⟨gb147, 2, none⟩ = some (.int .i64 0) := (zzS BK147.out 2).trans rfl
    have hfs97 := zjG BK147.out 2
    refine skip_ (w1 := ?_) (by rfl) rfl ?_ ?_
    rotate_left
    ·go_simp
     rfl
    refine hK.out _ _ ⟨((zgQ (p := ⟨gb147, _, none⟩) (by first | exact Kd.own_blk (Kd.R_away HO144.out (fun _ hk => hk)) | (rw [zhT]; exact Kd.own_blk (Kd.R_away HO144.out (fun _ hk => hk))) | (show (Addr.add _ _).block ≠ _; rw [zhT]; exact Kd.own_blk (Kd.R_away HO144.out (fun _ hk => hk))) | (dsimp only; exact Kd.own_blk (Kd.R_away HO144.out (fun _ hk => hk)))) _).trans (((zgQ (p := ⟨gb147, _, none⟩) (by first | exact Kd.own_blk (Kd.R_away HO144.out (fun _ hk => hk)) | (rw [zhT]; exact Kd.own_blk (Kd.R_away HO144.out (fun _ hk => hk))) | (show (Addr.add _ _).block ≠ _; rw [zhT]; exact Kd.own_blk (Kd.R_away HO144.out (fun _ hk => hk))) | (dsimp only; exact Kd.own_blk (Kd.R_away HO144.out (fun _ hk => hk)))) _).trans (((zgQ (p := ⟨gb147, _, none⟩) (by first | exact Kd.own_blk (Kd.R_away HO144.out (fun _ hk => hk)) | (rw [zhT]; exact Kd.own_blk (Kd.R_away HO144.out (fun _ hk => hk))) | (show (Addr.add _ _).block ≠ _; rw [zhT]; exact Kd.own_blk (Kd.R_away HO144.out (fun _ hk => hk))) | (dsimp only; exact Kd.own_blk (Kd.R_away HO144.out (fun _ hk => hk)))) _).trans (hHeld.1)))))), ((zgQ (p := ⟨gb147, _, none⟩) (by first | exact Kd.own_blk (Kd.R_away HO144.out (fun _ hk => hk)) | (rw [zhT]; exact Kd.own_blk (Kd.R_away HO144.out (fun _ hk => hk))) | (show (Addr.add _ _).block ≠ _; rw [zhT]; exact Kd.own_blk (Kd.R_away HO144.out (fun _ hk => hk))) | (dsimp only; exact Kd.own_blk (Kd.R_away HO144.out (fun _ hk => hk)))) _).trans (((zgQ (p := ⟨gb147, _, none⟩) (by first | exact Kd.own_blk (Kd.R_away HO144.out (fun _ hk => hk)) | (rw [zhT]; exact Kd.own_blk (Kd.R_away HO144.out (fun _ hk => hk))) | (show (Addr.add _ _).block ≠ _; rw [zhT]; exact Kd.own_blk (Kd.R_away HO144.out (fun _ hk => hk))) | (dsimp only; exact Kd.own_blk (Kd.R_away HO144.out (fun _ hk => hk)))) _).trans (((zgQ (p := ⟨gb147, _, none⟩) (by first | exact Kd.own_blk (Kd.R_away HO144.out (fun _ hk => hk)) | (rw [zhT]; exact Kd.own_blk (Kd.R_away HO144.out (fun _ hk => hk))) | (show (Addr.add _ _).block ≠ _; rw [zhT]; exact Kd.own_blk (Kd.R_away HO144.out (fun _ hk => hk))) | (dsimp only; exact Kd.own_blk (Kd.R_away HO144.out (fun _ hk => hk)))) _).trans (hHeld.2.1)))))), ((zgQ (p := ⟨gb147, _, none⟩) (by first | exact Kd.own_blk (Kd.R_away HO144.out (fun _ hk => hk)) | (rw [zhT]; exact Kd.own_blk (Kd.R_away HO144.out (fun _ hk => hk))) | (show (Addr.add _ _).block ≠ _; rw [zhT]; exact Kd.own_blk (Kd.R_away HO144.out (fun _ hk => hk))) | (dsimp only; exact Kd.own_blk (Kd.R_away HO144.out (fun _ hk => hk)))) _).trans (((zgQ (p := ⟨gb147, _, none⟩) (by first | exact Kd.own_blk (Kd.R_away HO144.out (fun _ hk => hk)) | (rw [zhT]; exact Kd.own_blk (Kd.R_away HO144.out (fun _ hk => hk))) | (show (Addr.add _ _).block ≠ _; rw [zhT]; exact Kd.own_blk (Kd.R_away HO144.out (fun _ hk => hk))) | (dsimp only; exact Kd.own_blk (Kd.R_away HO144.out (fun _ hk => hk)))) _).trans (((zgQ (p := ⟨gb147, _, none⟩) (by first | exact Kd.own_blk (Kd.R_away HO144.out (fun _ hk => hk)) | (rw [zhT]; exact Kd.own_blk (Kd.R_away HO144.out (fun _ hk => hk))) | (show (Addr.add _ _).block ≠ _; rw [zhT]; exact Kd.own_blk (Kd.R_away HO144.out (fun _ hk => hk))) | (dsimp only; exact Kd.own_blk (Kd.R_away HO144.out (fun _ hk => hk)))) _).trans (hHeld.2.2))))))⟩ (fun hHeld => ?_)
    clear hK K
    refine pu_ 7 (some 9) (bl_ 8 255) ?_
    refine done_ (done_of HT_.out (by kernel_rfl)) ?_
    obtain ⟨hcz98_0, hcz98_1, hcz98_2⟩ := cz3_ BK147.out
    obtain ⟨hfz98_0, hfz98_1, hfz98_2⟩ := fz3_ BK147.out
    try go_wp2_with (first | ((with_reducible refine zgL (f := 93) rfl ?_); refine zqQ (some 29) rfl rfl Try.func93 (by kernel_rfl) rfl #[.agg #[.int .i64 ((zwR t142 0).f0), .int .i64 ((zwR t142 0).f1), .int .i64 ((zwR t142 0).f2)], .slice A1 l1.length c1] rfl (by (try simp only [List.map_toArray, List.map_cons, List.map_nil]); first | done | rfl | (simp only [List.length_drop, List.length_take]; rfl)) ?_; (with_reducible refine (zbF.calls k ((zwR t142 0).f0) ((zwR t142 0).f1) ((zwR t142 0).f2) _ _ l1 false _ ?side1 ?side2 A9.out).mono ?_); (case side1 => exact Kd.C_below HR1.out bb_); (case side2 => exact HC1.out); rintro e w99 ⟨rfl, hb⟩; refine ⟨_, rfl, ?_⟩; have n0_ := zpS (Kd.R_below (by (with_reducible repeat (first | apply Kd.R_alloc | apply Kd.R_drewN | apply Kd.R_drew)); exact (Kd.R_mono (Kd.R_far (p := ⟨gb147, 2, none⟩) (Kd.R_far (p := ⟨gb147, 1, none⟩) (Kd.R_far (p := ⟨gb147, 0, none⟩) (Kd.R_mono HO144.out (fun k_ hk => (⟨hk, hk⟩ : _ ∧ k_ ≠ gb147))) (fun _ hk => hk.2) (.int .i64 ((zwR t142 0).f0))) (fun _ hk => hk.2) (.int .i64 ((zwR t142 0).f1))) (fun _ hk => hk.2) (.int .i64 ((zwR t142 0).f2))) (fun _ h_ => h_.1))) hb); have n1_ := zpS (zgM (g := gb147) (o := .cells #[.int .i64 ((zwR t142 0).f0), .int .i64 ((zwR t142 0).f1), .int .i64 ((zwR t142 0).f2)] 87 (0, 0)) (by (with_reducible repeat (first | apply zuW | apply ztN | apply zqY)); refine blk_put (cs := #[.int .i64 ((zwR t142 0).f0), .int .i64 ((zwR t142 0).f1), .int .i64 0]) ?_ 2 _ rfl; (with_reducible repeat (first | apply zuW | apply ztN | apply zqY)); refine blk_put (cs := #[.int .i64 ((zwR t142 0).f0), .int .i64 0, .int .i64 0]) ?_ 1 _ rfl; (with_reducible repeat (first | apply zuW | apply ztN | apply zqY)); refine blk_put (cs := #[.int .i64 0, .int .i64 0, .int .i64 0]) ?_ 0 _ rfl; (with_reducible repeat (first | apply zuW | apply ztN | apply zqY)); exact BK147.out) hb); have n2_ := (ns_ hb); clear HO144; clear BK147; clear HB; have HO144 := n0_; have BK147 := n1_; have HB := n2_; clear n0_ n1_ n2_; (try clear hb); (try clear hb2)))
    go_ret3
    exact ⟨_, _, by first | rfl | (simp [ziS, znJ] <;> rfl) | (simp [*, ziS, znJ] <;> rfl), by first | exact Kd.R_nil _ _ _ _ _ | exact Kd.N_nil _ _ _ _ _ | exact Kd.V_nil _ _ _ _ _ | exact Kd.Q_nil _ _ _ _ _ | exact Kd.S_nil _ _ _ _ _, by first | exact Kd.R_nil _ _ _ _ _ | exact Kd.N_nil _ _ _ _ _ | exact Kd.V_nil _ _ _ _ _ | exact Kd.Q_nil _ _ _ _ _ | exact Kd.S_nil _ _ _ _ _, bb_⟩
  ·rw [if_neg c7] at H
   exact absurd H (by simp)

end Go.Proofs.Ytbpkbllokmplnaa.PFnVertexCount
