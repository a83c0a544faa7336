-- Printed for this claim by this session's program pp.py, which drives the kit's print with additions. Not trusted: Lean checks it.
import Derived.Test.YtdnblakbegjohaaV1PFnCrimpsx0
import Derived.Test.YtdnblakbegjohaaV1PFnCrimpsx1
import Derived.Test.YtdnblakbegjohaaV1PFnCrimpsx2
import Derived.Test.YtdnblakbegjohaaV1PFnCrimpsx3
namespace Go.Proofs.Ytdnblakbegjohaa.PFnCrimps
open Go.RowKit Go.Proofs.YtdnblakbegjohaaW.PrintWords Go.Proofs.YtdnblakbegjohaaW.PrintLast Go.Proofs.YtdnblakbegjohaaW.PrintMore
attribute [local go_sem] max2_int min2_int max_two min_two znE zuB max_four min_four   -- for this text's walks alone
set_option linter.unusedVariables false
set_option linter.unusedSimpArgs false

mutual
def zgL.j0 : Nat → Int → List Int → List Int → Int → Int → Option (List Int × List Int × Int)
 | 0, _, _, _, _, _ => none
 | k + 1, x8, x11, x12, x13, x14 => if x13 = 1 then (zgL.j1 k x8 x11 x12 x14 false) else (zgL.j1 k x8 x11 x12 x14 (x13 != (-1)))
def zgL.j1 : Nat → Int → List Int → List Int → Int → Bool → Option (List Int × List Int × Int)
 | 0, _, _, _, _, _ => none
 | k + 1, x8, x11, x12, x14, x81 => if x81 = true then (some (([] : List Int), ([] : List Int), 8)) else (if 0 < (x11.length : Int) then ((some (([rd x11 0] : List Int) : List Int)).bind fun y241 => (if 0 ≤ (wrap64 (x8 + 1)) then (if (wrap64 (x8 + 1)) ≤ (x11.length : Int) then ((some (x11.drop ((wrap64 (x8 + 1)) : Int).toNat : List Int)).bind fun y244 => (if y241.length + y244.length < 17592186044416 then (if 0 < (x12.length : Int) then ((some (([rd x12 0, x14] : List Int) : List Int)).bind fun y252 => (if 0 ≤ (wrap64 (x8 + 2)) then (if (wrap64 (x8 + 2)) ≤ (x12.length : Int) then ((some (x12.drop ((wrap64 (x8 + 2)) : Int).toNat : List Int)).bind fun y255 => (if y252.length + y255.length < 17592186044416 then (some ((y241 ++ y244), (y252 ++ y255), 0)) else (none))) else (none)) else (none))) else (none)) else (none))) else (none)) else (none))) else (none))
end
def zgL.f (k : Nat) (l0 : List Int) (l1 : List Int) : Option (List Int × List Int × Int) := (zgR.f k l0).bind fun bt203 => (if bt203.1 < 0 then (some (([] : List Int), ([] : List Int), 6)) else (if (l0.length : Int) = 0 then (none) else ((zrU.f l0 (Int.tmod (wrap64 ((wrap64 (bt203.1 + (l0.length : Int))) - 1)) (l0.length : Int))).bind fun t205 => ((zrU.f l1 (Int.tmod (wrap64 ((wrap64 (bt203.1 + (l0.length : Int))) - 1)) (l0.length : Int))).bind fun t208 => (if 1 ≤ (wrap64 (bt203.2 + 2)) then (if (wrap64 (bt203.2 + 2)) ≤ (t208.length : Int) then ((ziN.f k ((t208.take ((wrap64 (bt203.2 + 2)) : Int).toNat).drop 1)).bind fun t215 => (if (Int.tmod bt203.2 2) = 1 then (if t215 = 0 then (if 0 < (t205.length : Int) then (if 1 < (t205.length : Int) then (if 0 ≤ (wrap64 (bt203.2 + 1)) then (if (wrap64 (bt203.2 + 1)) < (t205.length : Int) then ((some (([wrap64 ((wrap64 ((rd t205 0) - (rd t205 1))) + (rd t205 (wrap64 (bt203.2 + 1))))] : List Int) : List Int)).bind fun y219 => (if 0 ≤ (wrap64 (bt203.2 + 2)) then (if (wrap64 (bt203.2 + 2)) ≤ (t205.length : Int) then ((some (t205.drop ((wrap64 (bt203.2 + 2)) : Int).toNat : List Int)).bind fun y222 => (if y219.length + y222.length < 17592186044416 then (if 0 < (t208.length : Int) then ((some (([rd t208 0] : List Int) : List Int)).bind fun y230 => ((some (t208.drop ((wrap64 (bt203.2 + 2)) : Int).toNat : List Int)).bind fun y233 => (if y230.length + y233.length < 17592186044416 then (some ((y219 ++ y222), (y230 ++ y233), 0)) else (none)))) else (none)) else (none))) else (none)) else (none))) else (none)) else (none)) else (none)) else (none)) else (some (([] : List Int), ([] : List Int), 8))) else (if t215 < 0 then (zgL.j0 k bt203.2 t205 t208 t215 3) else (zgL.j0 k bt203.2 t205 t208 t215 2)))) else (none)) else (none))))))
theorem zgL.mono_l : ∀ k, (∀ y0 y1 y2 y3 y4, LeO (zgL.j0 k y0 y1 y2 y3 y4) (zgL.j0 (k + 1) y0 y1 y2 y3 y4)) ∧ (∀ y0 y1 y2 y3 y4, LeO (zgL.j1 k y0 y1 y2 y3 y4) (zgL.j1 (k + 1) y0 y1 y2 y3 y4))
 | 0 => ⟨fun _ _ _ _ _ r h => by simp [zgL.j0] at h, fun _ _ _ _ _ r h => by simp [zgL.j1] at h⟩
 | k + 1 => by
  obtain ⟨ih0, ih1⟩ := zgL.mono_l k
  refine ⟨?_, ?_⟩
  ·intro y0 y1 y2 y3 y4
   unfold zgL.j0
   repeat' first
   | (with_reducible exact ih0 _ _ _ _ _)
   | (with_reducible exact ih1 _ _ _ _ _)
   | (with_reducible exact zgR.mono _ _)
   | (with_reducible exact ziN.mono _ _)
   | (with_reducible exact LeO.refl _)
   | (with_reducible exact LeO.none _)
   | (with_reducible refine LeO.ite ?_ ?_)
   | (with_reducible refine LeO.bind ?_ (fun _ => ?_))
   | exact ih0 _ _ _ _ _
   | exact ih1 _ _ _ _ _
   | exact zgR.mono _ _
   | exact ziN.mono _ _
   | exact LeO.none _
   | refine LeO.ite ?_ ?_
   | refine LeO.bind ?_ (fun _ => ?_)
  ·intro y0 y1 y2 y3 y4
   unfold zgL.j1
   repeat' first
   | (with_reducible exact ih0 _ _ _ _ _)
   | (with_reducible exact ih1 _ _ _ _ _)
   | (with_reducible exact zgR.mono _ _)
   | (with_reducible exact ziN.mono _ _)
   | (with_reducible exact LeO.refl _)
   | (with_reducible exact LeO.none _)
   | (with_reducible refine LeO.ite ?_ ?_)
   | (with_reducible refine LeO.bind ?_ (fun _ => ?_))
   | exact ih0 _ _ _ _ _
   | exact ih1 _ _ _ _ _
   | exact zgR.mono _ _
   | exact ziN.mono _ _
   | exact LeO.none _
   | refine LeO.ite ?_ ?_
   | refine LeO.bind ?_ (fun _ => ?_)
theorem zgL.mono : ∀ a0 a1 k, LeO (zgL.f k a0 a1) (zgL.f (k + 1) a0 a1) := by
 intro a0 a1 k
 obtain ⟨ih0, ih1⟩ := zgL.mono_l k
 unfold zgL.f
 repeat' first
   | (with_reducible exact ih0 _ _ _ _ _)
   | (with_reducible exact ih1 _ _ _ _ _)
   | (with_reducible exact zgR.mono _ _)
   | (with_reducible exact ziN.mono _ _)
   | (with_reducible exact LeO.refl _)
   | (with_reducible exact LeO.none _)
   | (with_reducible refine LeO.ite ?_ ?_)
   | (with_reducible refine LeO.bind ?_ (fun _ => ?_))
   | exact ih0 _ _ _ _ _
   | exact ih1 _ _ _ _ _
   | exact zgR.mono _ _
   | exact ziN.mono _ _
   | exact LeO.none _
   | refine LeO.ite ?_ ?_
   | refine LeO.bind ?_ (fun _ => ?_)
def zgL.T12 : Bool × List (List Nat × List Nat) := (true, [([], []), ([0], [0]), ([1], [1]), ([], []), ([3], [3]), ([4], [4]), ([2, 5], [2, 5]), ([], []), ([], []), ([8], [8]), ([7, 9], [7, 9]), ([10], [10]), ([6, 11], [6, 11]), ([12], [12]), ([], []), ([], []), ([15], [15]), ([14, 16], [14, 16]), ([13, 17], [13, 17]), ([], []), ([19], [19]), ([20], [20]), ([21], [21]), ([], []), ([], []), ([24], [24]), ([23, 25], [23, 25]), ([22, 26, 18], [22, 26]), ([18, 27, 0, 1, 2, 3, 4, 5, 6, 7, 8, 9, 10, 11, 12, 13, 14, 15, 16, 17, 18], [18]), ([27, 28, 0, 1, 2, 3, 4, 5, 6, 7, 8, 9, 10, 11, 12, 13, 14, 15, 16, 17, 18, 19, 20, 21, 22, 23, 24, 25, 26, 27, 28], [27]), ([29, 0, 1, 2, 3, 4, 5, 6, 7, 8, 9, 10, 11, 12, 13, 14, 15, 16, 17, 18, 19, 20, 21, 22, 23, 24, 25, 26, 27, 28, 29], [])])
def zgL.B12 : List Nat := [0, 1, 3, 0, 8, 24, 63, 0, 0, 256, 896, 1920, 4095, 8191, 0, 0, 32768, 114688, 262143, 0, 524288, 1572864, 3670016, 0, 0, 16777216, 58720256, 134217727, 268435455, 536870911, 1073741823]
theorem zgL.tab12 : rtab .any (opsOf Try.f40 12) = zgL.T12 := by kernel_rfl
theorem zgL.bits12 : ztE zgL.T12.2 zgL.B12 = true := by kernel_rfl
def zgL.T18 : Bool × List (List Nat × List Nat) := (true, [([], []), ([0], [0]), ([1], [1]), ([2], [2]), ([], []), ([], []), ([5], [5]), ([4, 6], [4, 6]), ([3, 7], [3, 7]), ([], []), ([9], [9]), ([10], [10]), ([], []), ([11, 12], [11, 12]), ([], []), ([], []), ([15], [15]), ([14, 16], [14, 16]), ([13, 17, 8], [13, 17]), ([8, 18, 0, 1, 2, 3, 4, 5, 6, 7, 8], [8]), ([18, 19, 0, 1, 2, 3, 4, 5, 6, 7, 8, 9, 10, 11, 12, 13, 14, 15, 16, 17, 18, 19], [18]), ([20, 0, 1, 2, 3, 4, 5, 6, 7, 8, 9, 10, 11, 12, 13, 14, 15, 16, 17, 18, 19, 20], [])])
def zgL.B18 : List Nat := [0, 1, 3, 7, 0, 0, 32, 112, 255, 0, 512, 1536, 0, 7680, 0, 0, 32768, 114688, 262143, 524287, 1048575, 2097151]
theorem zgL.tab18 : rtab .any (opsOf Try.f40 18) = zgL.T18 := by kernel_rfl
theorem zgL.bits18 : ztE zgL.T18.2 zgL.B18 = true := by kernel_rfl
set_option maxHeartbeats 8000000 in
set_option maxRecDepth 100000 in
theorem zgL.calls (k : Nat) (A0 : Option Addr) (c0 : Nat) (l0 : List Int) (A1 : Option Addr) (c1 : Nat) (l1 : List Int) (r1 : List Int) (r2 : List Int) (r3 : Int) (w : World) (hr0 : Kd.C (Kd.int .i64) w A0 l0.length l0) (hc0 : l0.length ≤ c0) (hr1 : Kd.C (Kd.int .i64) w A1 l1.length l1) (hc1 : l1.length ≤ c1) (h : zgL.f k l0 l1 = some (r1, r2, r3)) :
  Calls Try.prog 40 #[.slice A0 l0.length c0, .slice A1 l1.length c1] w fun e w' => ∃ v0_ v1_ : Value, e = .returned (.tuple #[v0_, v1_, .int .i64 r3]) ∧ Kd.R (Kd.int .i64) 2 w' w.heap.size (fun k_ => some k_ ≠ (v1_ : Value).ownBlock) v0_ r1 ∧ Kd.R (Kd.int .i64) 2 w' w.heap.size (fun k_ => some k_ ≠ (v0_ : Value).ownBlock) v1_ r2 ∧ Below w.heap.size w w' := by
 have HR0 := zpS hr0
 have HC0 := zpS hc0
 clear hr0 hc0
 have HR1 := zpS hr1
 have HC1 := zpS hc1
 clear hr1 hc1
 have HB := zpS (Below.refl w.heap.size w)
 have H : ((zgR.f k l0).bind fun bt203 => (if bt203.1 < 0 then (some (([] : List Int), ([] : List Int), 6)) else (if (l0.length : Int) = 0 then (none) else ((zrU.f l0 (Int.tmod (wrap64 ((wrap64 (bt203.1 + (l0.length : Int))) - 1)) (l0.length : Int))).bind fun t205 => ((zrU.f l1 (Int.tmod (wrap64 ((wrap64 (bt203.1 + (l0.length : Int))) - 1)) (l0.length : Int))).bind fun t208 => (if 1 ≤ (wrap64 (bt203.2 + 2)) then (if (wrap64 (bt203.2 + 2)) ≤ (t208.length : Int) then ((ziN.f k ((t208.take ((wrap64 (bt203.2 + 2)) : Int).toNat).drop 1)).bind fun t215 => (if (Int.tmod bt203.2 2) = 1 then (if t215 = 0 then (if 0 < (t205.length : Int) then (if 1 < (t205.length : Int) then (if 0 ≤ (wrap64 (bt203.2 + 1)) then (if (wrap64 (bt203.2 + 1)) < (t205.length : Int) then ((some (([wrap64 ((wrap64 ((rd t205 0) - (rd t205 1))) + (rd t205 (wrap64 (bt203.2 + 1))))] : List Int) : List Int)).bind fun y219 => (if 0 ≤ (wrap64 (bt203.2 + 2)) then (if (wrap64 (bt203.2 + 2)) ≤ (t205.length : Int) then ((some (t205.drop ((wrap64 (bt203.2 + 2)) : Int).toNat : List Int)).bind fun y222 => (if y219.length + y222.length < 17592186044416 then (if 0 < (t208.length : Int) then ((some (([rd t208 0] : List Int) : List Int)).bind fun y230 => ((some (t208.drop ((wrap64 (bt203.2 + 2)) : Int).toNat : List Int)).bind fun y233 => (if y230.length + y233.length < 17592186044416 then (some ((y219 ++ y222), (y230 ++ y233), 0)) else (none)))) else (none)) else (none))) else (none)) else (none))) else (none)) else (none)) else (none)) else (none)) else (some (([] : List Int), ([] : List Int), 8))) else (if t215 < 0 then (zgL.j0 k bt203.2 t205 t208 t215 3) else (zgL.j0 k bt203.2 t205 t208 t215 2)))) else (none)) else (none))))))) = some (r1, r2, r3) := h
 clear h
 replace H := Option.bind_eq_some_iff.mp H
 obtain ⟨⟨t203, t204⟩, A30, H⟩ := H
 replace H : (if t203 < 0 then (some (([] : List Int), ([] : List Int), 6)) else (if (l0.length : Int) = 0 then (none) else ((zrU.f l0 (Int.tmod (wrap64 ((wrap64 (t203 + (l0.length : Int))) - 1)) (l0.length : Int))).bind fun t205 => ((zrU.f l1 (Int.tmod (wrap64 ((wrap64 (t203 + (l0.length : Int))) - 1)) (l0.length : Int))).bind fun t208 => (if 1 ≤ (wrap64 (t204 + 2)) then (if (wrap64 (t204 + 2)) ≤ (t208.length : Int) then ((ziN.f k ((t208.take ((wrap64 (t204 + 2)) : Int).toNat).drop 1)).bind fun t215 => (if (Int.tmod t204 2) = 1 then (if t215 = 0 then (if 0 < (t205.length : Int) then (if 1 < (t205.length : Int) then (if 0 ≤ (wrap64 (t204 + 1)) then (if (wrap64 (t204 + 1)) < (t205.length : Int) then ((some (([wrap64 ((wrap64 ((rd t205 0) - (rd t205 1))) + (rd t205 (wrap64 (t204 + 1))))] : List Int) : List Int)).bind fun y219 => (if 0 ≤ (wrap64 (t204 + 2)) then (if (wrap64 (t204 + 2)) ≤ (t205.length : Int) then ((some (t205.drop ((wrap64 (t204 + 2)) : Int).toNat : List Int)).bind fun y222 => (if y219.length + y222.length < 17592186044416 then (if 0 < (t208.length : Int) then ((some (([rd t208 0] : List Int) : List Int)).bind fun y230 => ((some (t208.drop ((wrap64 (t204 + 2)) : Int).toNat : List Int)).bind fun y233 => (if y230.length + y233.length < 17592186044416 then (some ((y219 ++ y222), (y230 ++ y233), 0)) else (none)))) else (none)) else (none))) else (none)) else (none))) else (none)) else (none)) else (none)) else (none)) else (some (([] : List Int), ([] : List Int), 8))) else (if t215 < 0 then (zgL.j0 k t204 t205 t208 t215 3) else (zgL.j0 k t204 t205 t208 t215 2)))) else (none)) else (none)))))) = some (r1, r2, r3) := H
 have A3 := zpS A30
 clear A30
 by_cases c4 : t203 < 0
 ·rw [if_pos c4] at H
  have c4b0 : decide (t203 < 0) = true := decide_eq_true c4
  clear c4
  simp only [Option.some.injEq, Prod.mk.injEq] at H
  obtain ⟨rfl, rfl, rfl⟩ := H
  go_enter Try.func40, Try.ntmps40
  go_wp2_with (first | ((with_reducible refine zgM (f := 43) rfl ?_); refine zqQ (some 17) rfl rfl Try.func43 (by kernel_rfl) rfl #[.slice A0 l0.length c0] rfl (by (try simp only [List.map_toArray, List.map_cons, List.map_nil]); first | done | rfl | (simp only [List.length_drop, List.length_take]; rfl)) ?_; (with_reducible refine (zgR.calls k _ _ l0 t203 t204 _ ?side1 ?side2 A3.out).mono ?_); (case side1 => repeat (first | exact HR0.out | (with_reducible refine Kd.C_alloc ?_ _) | (with_reducible refine Kd.C_drewN ?_ _) | (with_reducible refine Kd.C_drew ?_))); (case side2 => exact HC0.out); rintro e w' ⟨rfl, ⟨nd, rfl⟩⟩; refine ⟨_, rfl, ?_⟩))
  go_ret3
  exact ⟨_, _, by first | rfl | (simp [ziS, znJ] <;> rfl) | (simp [*, ziS, znJ] <;> rfl), by first | exact Kd.R_nil _ _ _ _ _ | exact Kd.N_nil _ _ _ _ _ | exact Kd.V_nil _ _ _ _ _ | exact Kd.Q_nil _ _ _ _ _ | exact Kd.S_nil _ _ _ _ _, by first | exact Kd.R_nil _ _ _ _ _ | exact Kd.N_nil _ _ _ _ _ | exact Kd.V_nil _ _ _ _ _ | exact Kd.Q_nil _ _ _ _ _ | exact Kd.S_nil _ _ _ _ _, bb_⟩
 ·rw [if_neg c4] at H
  have c4b0 : decide (t203 < 0) = false := decide_eq_false c4
  clear c4
  by_cases c5 : (l0.length : Int) = 0
  ·rw [if_pos c5] at H
   exact absurd H (by simp)
  ·rw [if_neg c5] at H
   have c5b0 : ((l0.length : Int) == 0) = false := beq_eq_false_iff_ne.mpr c5
   have c5b1 : ((l0.length : Int) != 0) = true := bne_iff_ne.mpr c5
   have c5b2 : ¬ (l0 = []) := fun h_ => c5 (by rw [h_]; rfl)
   replace H := Option.bind_eq_some_iff.mp H
   obtain ⟨t205, A60, H⟩ := H
   replace H : ((zrU.f l1 (Int.tmod (wrap64 ((wrap64 (t203 + (l0.length : Int))) - 1)) (l0.length : Int))).bind fun t208 => (if 1 ≤ (wrap64 (t204 + 2)) then (if (wrap64 (t204 + 2)) ≤ (t208.length : Int) then ((ziN.f k ((t208.take ((wrap64 (t204 + 2)) : Int).toNat).drop 1)).bind fun t215 => (if (Int.tmod t204 2) = 1 then (if t215 = 0 then (if 0 < (t205.length : Int) then (if 1 < (t205.length : Int) then (if 0 ≤ (wrap64 (t204 + 1)) then (if (wrap64 (t204 + 1)) < (t205.length : Int) then ((some (([wrap64 ((wrap64 ((rd t205 0) - (rd t205 1))) + (rd t205 (wrap64 (t204 + 1))))] : List Int) : List Int)).bind fun y219 => (if 0 ≤ (wrap64 (t204 + 2)) then (if (wrap64 (t204 + 2)) ≤ (t205.length : Int) then ((some (t205.drop ((wrap64 (t204 + 2)) : Int).toNat : List Int)).bind fun y222 => (if y219.length + y222.length < 17592186044416 then (if 0 < (t208.length : Int) then ((some (([rd t208 0] : List Int) : List Int)).bind fun y230 => ((some (t208.drop ((wrap64 (t204 + 2)) : Int).toNat : List Int)).bind fun y233 => (if y230.length + y233.length < 17592186044416 then (some ((y219 ++ y222), (y230 ++ y233), 0)) else (none)))) else (none)) else (none))) else (none)) else (none))) else (none)) else (none)) else (none)) else (none)) else (some (([] : List Int), ([] : List Int), 8))) else (if t215 < 0 then (zgL.j0 k t204 t205 t208 t215 3) else (zgL.j0 k t204 t205 t208 t215 2)))) else (none)) else (none))) = some (r1, r2, r3) := H
   have A6 := zpS A60
   clear A60
   replace H := Option.bind_eq_some_iff.mp H
   obtain ⟨t208, A70, H⟩ := H
   replace H : (if 1 ≤ (wrap64 (t204 + 2)) then (if (wrap64 (t204 + 2)) ≤ (t208.length : Int) then ((ziN.f k ((t208.take ((wrap64 (t204 + 2)) : Int).toNat).drop 1)).bind fun t215 => (if (Int.tmod t204 2) = 1 then (if t215 = 0 then (if 0 < (t205.length : Int) then (if 1 < (t205.length : Int) then (if 0 ≤ (wrap64 (t204 + 1)) then (if (wrap64 (t204 + 1)) < (t205.length : Int) then ((some (([wrap64 ((wrap64 ((rd t205 0) - (rd t205 1))) + (rd t205 (wrap64 (t204 + 1))))] : List Int) : List Int)).bind fun y219 => (if 0 ≤ (wrap64 (t204 + 2)) then (if (wrap64 (t204 + 2)) ≤ (t205.length : Int) then ((some (t205.drop ((wrap64 (t204 + 2)) : Int).toNat : List Int)).bind fun y222 => (if y219.length + y222.length < 17592186044416 then (if 0 < (t208.length : Int) then ((some (([rd t208 0] : List Int) : List Int)).bind fun y230 => ((some (t208.drop ((wrap64 (t204 + 2)) : Int).toNat : List Int)).bind fun y233 => (if y230.length + y233.length < 17592186044416 then (some ((y219 ++ y222), (y230 ++ y233), 0)) else (none)))) else (none)) else (none))) else (none)) else (none))) else (none)) else (none)) else (none)) else (none)) else (some (([] : List Int), ([] : List Int), 8))) else (if t215 < 0 then (zgL.j0 k t204 t205 t208 t215 3) else (zgL.j0 k t204 t205 t208 t215 2)))) else (none)) else (none)) = some (r1, r2, r3) := H
   have A7 := zpS A70
   clear A70
   by_cases c8 : 1 ≤ (wrap64 (t204 + 2))
   ·rw [if_pos c8] at H
    have c8b0 := eq_true c8
    have c8b1 : decide (1 ≤ (wrap64 (t204 + 2))) = true := decide_eq_true c8
    by_cases c9 : (wrap64 (t204 + 2)) ≤ (t208.length : Int)
    ·rw [if_pos c9] at H
     have c9b0 := eq_true c9
     have c9b1 : decide ((wrap64 (t204 + 2)) ≤ (t208.length : Int)) = true := decide_eq_true c9
     obtain ⟨y211, hy211⟩ : ∃ y_ : List Int, y_ = ((t208.take ((wrap64 (t204 + 2)) : Int).toNat).drop 1) := ⟨_, rfl⟩
     replace H : ((ziN.f k y211).bind fun t215 => (if (Int.tmod t204 2) = 1 then (if t215 = 0 then (if 0 < (t205.length : Int) then (if 1 < (t205.length : Int) then (if 0 ≤ (wrap64 (t204 + 1)) then (if (wrap64 (t204 + 1)) < (t205.length : Int) then ((some (([wrap64 ((wrap64 ((rd t205 0) - (rd t205 1))) + (rd t205 (wrap64 (t204 + 1))))] : List Int) : List Int)).bind fun y219 => (if 0 ≤ (wrap64 (t204 + 2)) then (if (wrap64 (t204 + 2)) ≤ (t205.length : Int) then ((some (t205.drop ((wrap64 (t204 + 2)) : Int).toNat : List Int)).bind fun y222 => (if y219.length + y222.length < 17592186044416 then (if 0 < (t208.length : Int) then ((some (([rd t208 0] : List Int) : List Int)).bind fun y230 => ((some (t208.drop ((wrap64 (t204 + 2)) : Int).toNat : List Int)).bind fun y233 => (if y230.length + y233.length < 17592186044416 then (some ((y219 ++ y222), (y230 ++ y233), 0)) else (none)))) else (none)) else (none))) else (none)) else (none))) else (none)) else (none)) else (none)) else (none)) else (some (([] : List Int), ([] : List Int), 8))) else (if t215 < 0 then (zgL.j0 k t204 t205 t208 t215 3) else (zgL.j0 k t204 t205 t208 t215 2)))) = some (r1, r2, r3) := by first | (rw [hy211]; with_reducible exact H) | (have H2_ := (Option.bind_some _ _).symm.trans H; rw [hy211]; with_reducible exact H2_) | (have H2_ := (Option.bind_some _ _).symm.trans H; with_reducible exact H2_) | with_reducible exact H | (rw [hy211]; exact H) | exact H
     have Ny211 := zpS hy211
     clear hy211
     replace H := Option.bind_eq_some_iff.mp H
     obtain ⟨t215, A100, H⟩ := H
     replace H : (if (Int.tmod t204 2) = 1 then (if t215 = 0 then (if 0 < (t205.length : Int) then (if 1 < (t205.length : Int) then (if 0 ≤ (wrap64 (t204 + 1)) then (if (wrap64 (t204 + 1)) < (t205.length : Int) then ((some (([wrap64 ((wrap64 ((rd t205 0) - (rd t205 1))) + (rd t205 (wrap64 (t204 + 1))))] : List Int) : List Int)).bind fun y219 => (if 0 ≤ (wrap64 (t204 + 2)) then (if (wrap64 (t204 + 2)) ≤ (t205.length : Int) then ((some (t205.drop ((wrap64 (t204 + 2)) : Int).toNat : List Int)).bind fun y222 => (if y219.length + y222.length < 17592186044416 then (if 0 < (t208.length : Int) then ((some (([rd t208 0] : List Int) : List Int)).bind fun y230 => ((some (t208.drop ((wrap64 (t204 + 2)) : Int).toNat : List Int)).bind fun y233 => (if y230.length + y233.length < 17592186044416 then (some ((y219 ++ y222), (y230 ++ y233), 0)) else (none)))) else (none)) else (none))) else (none)) else (none))) else (none)) else (none)) else (none)) else (none)) else (some (([] : List Int), ([] : List Int), 8))) else (if t215 < 0 then (zgL.j0 k t204 t205 t208 t215 3) else (zgL.j0 k t204 t205 t208 t215 2))) = some (r1, r2, r3) := H
     have A10 := zpS A100
     clear A100
     by_cases c11 : (Int.tmod t204 2) = 1
     ·rw [if_pos c11] at H
      have c11b0 : ((Int.tmod t204 2) == 1) = true := beq_iff_eq.mpr c11
      have c11b1 : ((Int.tmod t204 2) != 1) = false := bne_eq_false_iff_eq.mpr c11
      clear c11
      by_cases c12 : t215 = 0
      ·rw [if_pos c12] at H
       have c12b0 : (t215 == 0) = true := beq_iff_eq.mpr c12
       have c12b1 : (t215 != 0) = false := bne_eq_false_iff_eq.mpr c12
       clear c12
       by_cases c13 : 0 < (t205.length : Int)
       ·rw [if_pos c13] at H
        have c13b0 : decide (0 < (t205.length : Int)) = true := decide_eq_true c13
        have c13b1 : decide (0 < t205.length) = true := decide_eq_true (by omega)
        clear c13
        by_cases c14 : 1 < (t205.length : Int)
        ·rw [if_pos c14] at H
         have c14b0 : decide (1 < (t205.length : Int)) = true := decide_eq_true c14
         have c14b1 : decide (1 < t205.length) = true := decide_eq_true (by omega)
         clear c14
         obtain ⟨ji15, hji15⟩ : ∃ j_ : Int, (wrap64 (t204 + 1)) = j_ := ⟨_, rfl⟩
         replace H : (if 0 ≤ (ji15) then (if (ji15) < (t205.length : Int) then ((some (([wrap64 ((wrap64 ((rd t205 0) - (rd t205 1))) + (rd t205 (ji15)))] : List Int) : List Int)).bind fun y219 => (if 0 ≤ (wrap64 (t204 + 2)) then (if (wrap64 (t204 + 2)) ≤ (t205.length : Int) then ((some (t205.drop ((wrap64 (t204 + 2)) : Int).toNat : List Int)).bind fun y222 => (if y219.length + y222.length < 17592186044416 then (if 0 < (t208.length : Int) then ((some (([rd t208 0] : List Int) : List Int)).bind fun y230 => ((some (t208.drop ((wrap64 (t204 + 2)) : Int).toNat : List Int)).bind fun y233 => (if y230.length + y233.length < 17592186044416 then (some ((y219 ++ y222), (y230 ++ y233), 0)) else (none)))) else (none)) else (none))) else (none)) else (none))) else (none)) else (none)) = some (r1, r2, r3) := by first | (rw [hji15] at H; exact H) | (simp only [hji15] at H ⊢; exact H)
         (try rw [hji15] at A3)
         (try rw [hji15] at A6)
         (try rw [hji15] at A7)
         (try rw [hji15] at A10)
         have hji15w : (IntKind.i64.wrap (t204 + 1)) = ji15 := (zcM _).trans hji15
         by_cases c16 : 0 ≤ (ji15)
         ·rw [if_pos c16] at H
          have c16b0 : decide (0 ≤ (ji15)) = true := decide_eq_true c16
          clear c16
          by_cases c17 : (ji15) < (t205.length : Int)
          ·rw [if_pos c17] at H
           have c17b0 : decide ((ji15) < (t205.length : Int)) = true := decide_eq_true c17
           clear c17
           obtain ⟨y219, hy219⟩ : ∃ y_ : List Int, y_ = (([wrap64 ((wrap64 ((rd t205 0) - (rd t205 1))) + (rd t205 (ji15)))] : List Int)) := ⟨_, rfl⟩
           replace H : (if 0 ≤ (wrap64 (t204 + 2)) then (if (wrap64 (t204 + 2)) ≤ (t205.length : Int) then ((some (t205.drop ((wrap64 (t204 + 2)) : Int).toNat : List Int)).bind fun y222 => (if y219.length + y222.length < 17592186044416 then (if 0 < (t208.length : Int) then ((some (([rd t208 0] : List Int) : List Int)).bind fun y230 => ((some (t208.drop ((wrap64 (t204 + 2)) : Int).toNat : List Int)).bind fun y233 => (if y230.length + y233.length < 17592186044416 then (some ((y219 ++ y222), (y230 ++ y233), 0)) else (none)))) else (none)) else (none))) else (none)) else (none)) = some (r1, r2, r3) := by first | (rw [hy219]; with_reducible exact H) | (have H2_ := (Option.bind_some _ _).symm.trans H; rw [hy219]; with_reducible exact H2_) | (have H2_ := (Option.bind_some _ _).symm.trans H; with_reducible exact H2_) | with_reducible exact H | (rw [hy219]; exact H) | exact H
           have Ny219 := zpS hy219
           clear hy219
           obtain ⟨ji18, hji18⟩ : ∃ j_ : Int, (wrap64 (t204 + 2)) = j_ := ⟨_, rfl⟩
           replace H : (if 0 ≤ (ji18) then (if (ji18) ≤ (t205.length : Int) then ((some (t205.drop ((ji18) : Int).toNat : List Int)).bind fun y222 => (if y219.length + y222.length < 17592186044416 then (if 0 < (t208.length : Int) then ((some (([rd t208 0] : List Int) : List Int)).bind fun y230 => ((some (t208.drop ((ji18) : Int).toNat : List Int)).bind fun y233 => (if y230.length + y233.length < 17592186044416 then (some ((y219 ++ y222), (y230 ++ y233), 0)) else (none)))) else (none)) else (none))) else (none)) else (none)) = some (r1, r2, r3) := by first | (rw [hji18] at H; exact H) | (simp only [hji18] at H ⊢; exact H)
           (try rw [hji18] at c8b0)
           (try rw [hji18] at c8b1)
           (try rw [hji18] at c8)
           (try rw [hji18] at c9b0)
           (try rw [hji18] at c9b1)
           (try rw [hji18] at c9)
           (try rw [hji18] at A3)
           (try rw [hji18] at A6)
           (try rw [hji18] at A7)
           (try rw [hji18] at Ny211)
           (try rw [hji18] at A10)
           have hji18w : (IntKind.i64.wrap (t204 + 2)) = ji18 := (zcM _).trans hji18
           by_cases c19 : 0 ≤ (ji18)
           ·rw [if_pos c19] at H
            have c19b0 := eq_true c19
            have c19b1 : decide (0 ≤ (ji18)) = true := decide_eq_true c19
            clear c19
            by_cases c20 : (ji18) ≤ (t205.length : Int)
            ·rw [if_pos c20] at H
             have c20b0 := eq_true c20
             have c20b1 : decide ((ji18) ≤ (t205.length : Int)) = true := decide_eq_true c20
             clear c20
             obtain ⟨y222, hy222⟩ : ∃ y_ : List Int, y_ = (t205.drop ((ji18) : Int).toNat) := ⟨_, rfl⟩
             replace H : (if y219.length + y222.length < 17592186044416 then (if 0 < (t208.length : Int) then ((some (([rd t208 0] : List Int) : List Int)).bind fun y230 => ((some (t208.drop ((ji18) : Int).toNat : List Int)).bind fun y233 => (if y230.length + y233.length < 17592186044416 then (some ((y219 ++ y222), (y230 ++ y233), 0)) else (none)))) else (none)) else (none)) = some (r1, r2, r3) := by first | (rw [hy222]; with_reducible exact H) | (have H2_ := (Option.bind_some _ _).symm.trans H; rw [hy222]; with_reducible exact H2_) | (have H2_ := (Option.bind_some _ _).symm.trans H; with_reducible exact H2_) | with_reducible exact H | (rw [hy222]; exact H) | exact H
             have Ny222 := zpS hy222
             clear hy222
             by_cases c21 : y219.length + y222.length < 17592186044416
             ·rw [if_pos c21] at H
              have LMc21 := zpS c21
              clear c21
              obtain ⟨y226, hy226⟩ : ∃ y_ : List Int, y_ = (y219 ++ y222) := ⟨_, rfl⟩
              replace H : (if 0 < (t208.length : Int) then ((some (([rd t208 0] : List Int) : List Int)).bind fun y230 => ((some (t208.drop ((ji18) : Int).toNat : List Int)).bind fun y233 => (if y230.length + y233.length < 17592186044416 then (some (y226, (y230 ++ y233), 0)) else (none)))) else (none)) = some (r1, r2, r3) := by first | (rw [hy226]; with_reducible exact H) | (have H2_ := (Option.bind_some _ _).symm.trans H; rw [hy226]; with_reducible exact H2_) | (have H2_ := (Option.bind_some _ _).symm.trans H; with_reducible exact H2_) | with_reducible exact H | (rw [hy226]; exact H) | exact H
              have Ny226 := zpS hy226
              clear hy226
              by_cases c22 : 0 < (t208.length : Int)
              ·rw [if_pos c22] at H
               have c22b0 : decide (0 < (t208.length : Int)) = true := decide_eq_true c22
               have c22b1 : decide (0 < t208.length) = true := decide_eq_true (by omega)
               clear c22
               obtain ⟨y230, hy230⟩ : ∃ y_ : List Int, y_ = (([rd t208 0] : List Int)) := ⟨_, rfl⟩
               replace H : ((some (t208.drop ((ji18) : Int).toNat : List Int)).bind fun y233 => (if y230.length + y233.length < 17592186044416 then (some (y226, (y230 ++ y233), 0)) else (none))) = some (r1, r2, r3) := by first | (rw [hy230]; with_reducible exact H) | (have H2_ := (Option.bind_some _ _).symm.trans H; rw [hy230]; with_reducible exact H2_) | (have H2_ := (Option.bind_some _ _).symm.trans H; with_reducible exact H2_) | with_reducible exact H | (rw [hy230]; exact H) | exact H
               have Ny230 := zpS hy230
               clear hy230
               have c23b0 := eq_true (of_decide_eq_true (by first | (with_reducible assumption) | assumption) : 0 ≤ (ji18))
               have c24b0 := eq_true (of_decide_eq_true (by first | (with_reducible assumption) | assumption) : (ji18) ≤ (t208.length : Int))
               obtain ⟨y233, hy233⟩ : ∃ y_ : List Int, y_ = (t208.drop ((ji18) : Int).toNat) := ⟨_, rfl⟩
               replace H : (if y230.length + y233.length < 17592186044416 then (some (y226, (y230 ++ y233), 0)) else (none)) = some (r1, r2, r3) := by first | (rw [hy233]; with_reducible exact H) | (have H2_ := (Option.bind_some _ _).symm.trans H; rw [hy233]; with_reducible exact H2_) | (have H2_ := (Option.bind_some _ _).symm.trans H; with_reducible exact H2_) | with_reducible exact H | (rw [hy233]; exact H) | exact H
               have Ny233 := zpS hy233
               clear hy233
               by_cases c25 : y230.length + y233.length < 17592186044416
               ·rw [if_pos c25] at H
                have LMc25 := zpS c25
                clear c25
                obtain ⟨y237, hy237⟩ : ∃ y_ : List Int, y_ = (y230 ++ y233) := ⟨_, rfl⟩
                replace H : (some (y226, y237, 0)) = some (r1, r2, r3) := by first | (rw [hy237]; with_reducible exact H) | (have H2_ := (Option.bind_some _ _).symm.trans H; rw [hy237]; with_reducible exact H2_) | (have H2_ := (Option.bind_some _ _).symm.trans H; with_reducible exact H2_) | with_reducible exact H | (rw [hy237]; exact H) | exact H
                have Ny237 := zpS hy237
                clear hy237
                simp only [Option.some.injEq, Prod.mk.injEq] at H
                obtain ⟨rfl, rfl, rfl⟩ := H
                go_enter Try.func40, Try.ntmps40
                try go_wp2_with (first | ((with_reducible refine zgM (f := 43) rfl ?_); refine zqQ (some 17) rfl rfl Try.func43 (by kernel_rfl) rfl #[.slice A0 l0.length c0] rfl (by (try simp only [List.map_toArray, List.map_cons, List.map_nil]); first | done | rfl | (simp only [List.length_drop, List.length_take]; rfl)) ?_; (with_reducible refine (zgR.calls k _ _ l0 t203 t204 _ ?side1 ?side2 A3.out).mono ?_); (case side1 => repeat (first | exact HR0.out | (with_reducible refine Kd.C_alloc ?_ _) | (with_reducible refine Kd.C_drewN ?_ _) | (with_reducible refine Kd.C_drew ?_))); (case side2 => exact HC0.out); rintro e w' ⟨rfl, ⟨nd, rfl⟩⟩; refine ⟨_, rfl, ?_⟩) | ((with_reducible refine zgM (f := 26) rfl ?_); refine zqQ (some 32) rfl rfl Try.func26 (by kernel_rfl) rfl #[.slice A0 l0.length c0, .int .i64 (Int.tmod (wrap64 ((wrap64 (t203 + (l0.length : Int))) - 1)) (l0.length : Int))] rfl (by (try simp only [List.map_toArray, List.map_cons, List.map_nil]); first | done | rfl | (simp only [List.length_drop, List.length_take]; rfl)) ?_; (with_reducible refine (zrU.calls _ _ l0 (Int.tmod (wrap64 ((wrap64 (t203 + (l0.length : Int))) - 1)) (l0.length : Int)) t205 _ ?side1 ?side2 A6.out).mono ?_); (case side1 => repeat (first | exact HR0.out | (with_reducible refine Kd.C_alloc ?_ _) | (with_reducible refine Kd.C_drewN ?_ _) | (with_reducible refine Kd.C_drew ?_))); (case side2 => exact HC0.out); rintro e w26 ⟨v206, rfl, ho0, hb⟩; refine ⟨_, rfl, ?_⟩; have n0_ := zpS (Kd.R_lower ho0 (zuA bb_)); have n1_ := (ns_ hb); clear HB; have HO207 := n0_; have HB := n1_; clear n0_ n1_; (try clear hb); (try clear hb2); (try clear ho0)) | ((with_reducible refine zgM (f := 26) rfl ?_); refine zqQ (some 35) rfl rfl Try.func26 (by kernel_rfl) rfl #[.slice A1 l1.length c1, .int .i64 (Int.tmod (wrap64 ((wrap64 (t203 + (l0.length : Int))) - 1)) (l0.length : Int))] rfl (by (try simp only [List.map_toArray, List.map_cons, List.map_nil]); first | done | rfl | (simp only [List.length_drop, List.length_take]; rfl)) ?_; (with_reducible refine (zrU.calls _ _ l1 (Int.tmod (wrap64 ((wrap64 (t203 + (l0.length : Int))) - 1)) (l0.length : Int)) t208 _ ?side1 ?side2 A7.out).mono ?_); (case side1 => repeat (first | exact (Kd.C_below HR1.out HB.out) | (with_reducible refine Kd.C_alloc ?_ _) | (with_reducible refine Kd.C_drewN ?_ _) | (with_reducible refine Kd.C_drew ?_))); (case side2 => exact HC1.out); rintro e w27 ⟨v209, rfl, ho0, hb⟩; refine ⟨_, rfl, ?_⟩; have n0_ := zpS (Kd.R_elder' (by (with_reducible repeat (first | apply Kd.R_alloc | apply Kd.R_drewN | apply Kd.R_drew)); exact HO207.out) (Kd.R_base ho0) hb); have n1_ := zpS (Kd.R_lower (Kd.R_new' ho0 (Kd.R_lt (by (with_reducible repeat (first | apply Kd.R_alloc | apply Kd.R_drewN | apply Kd.R_drew)); exact HO207.out))) (zuA bb_)); have n2_ := (ns_ hb); clear HO207; clear HB; have HO207 := n0_; have HO210 := n1_; have HB := n2_; clear n0_ n1_ n2_; (try clear hb); (try clear hb2); (try clear ho0); obtain ⟨Ao29, co29, eo29⟩ := Kd.R_slice HO210.out; subst eo29; have q28 : ((ji18) : Int) ≤ ((t208.length : Int) : Int) := of_decide_eq_true (by first | (with_reducible assumption) | assumption); obtain ⟨i028, hi028, _, hsz28, _⟩ := info_parts info2; have hroom28 : t208.length ≤ co29 := (Kd.R_reads' HO210.out).2.1; have hC28 : Kd.C (Kd.int .i64) _ Ao29 t208.length t208 := (Kd.R_reads' HO210.out).2.2; have ql28 : (1 : Int) ≤ ((ji18) : Int) := of_decide_eq_true (by first | (with_reducible assumption) | assumption); have hcut28 := cut_mid (P := Try.prog) 24 2 .i64 .i64 Try.underlying24 hi028 1 hsz28 Ao29 t208.length co29 1 (ji18) (by omega) ql28 q28 hroom28; have hr28 := Kd.C_mid (lo := (1 : Int).toNat) (hi := ((ji18) : Int).toNat) (c := co29) hC28 (by omega) (by omega) hroom28; obtain ⟨A28, hA28⟩ : ∃ A1, A1 = (if co29 = (1 : Int).toNat then Ao29 else (Ao29 : Option Addr).map (·.add ((1 : Int).toNat * 1))) := ⟨_, rfl⟩; obtain ⟨c28, hc28⟩ : ∃ c1, c1 = co29 - (1 : Int).toNat := ⟨_, rfl⟩; have hy28 : y211.length = ((ji18) : Int).toNat - (1 : Int).toNat := (by rw [Ny211.out, List.length_drop, List.length_take] <;> omega); rw [show ((t208).take ((ji18) : Int).toNat).drop (1 : Int).toNat = y211 from Ny211.out.symm] at hr28; replace hr28 : Kd.C (Kd.int .i64) _ A28 y211.length y211 := (by rw [hA28]; exact hr28); rw [← hy28, ← hA28, ← hc28] at hcut28; have HR214 := zpS hr28; have HC214 := zpS (show y211.length ≤ c28 from by rw [hy28, hc28]; exact Nat.sub_le_sub_right (Nat.le_trans (by omega) hroom28) _); clear hr28 hC28 hroom28 hi028 hsz28 hc28; have KY28 := zpS hy28; have KA28 := zpS hA28; clear hy28 hA28; have KL28 := zpS (show ((ji18) : Int).toNat ≤ t208.length from by omega); have KM28 := zpS (show 1 ≤ ((ji18) : Int).toNat from by omega); replace q28 := eq_true q28) | ((with_reducible refine zgM (f := 41) rfl ?_); refine zqQ (some 40) rfl rfl Try.func41 (by kernel_rfl) rfl #[.slice A28 y211.length c28] rfl (by (try simp only [List.map_toArray, List.map_cons, List.map_nil]); first | done | rfl | (simp only [List.length_drop, List.length_take]; rfl)) ?_; (with_reducible refine (ziN.calls k _ _ y211 t215 _ ?side1 ?side2 A10.out).mono ?_); (case side1 => repeat (first | exact (by repeat (first | (with_reducible exact HR214.out) | (with_reducible refine Kd.C_alloc ?_ _) | (with_reducible refine Kd.C_drewN ?_ _) | (with_reducible refine Kd.C_drew ?_) | exact HR214.out)) | (with_reducible refine Kd.C_alloc ?_ _) | (with_reducible refine Kd.C_drewN ?_ _) | (with_reducible refine Kd.C_drew ?_))); (case side2 => exact HC214.out); rintro e w' ⟨rfl, ⟨nd, rfl⟩⟩; refine ⟨_, rfl, ?_⟩))
                (try (rw [drewN_self w27]; generalize hq_ : World.drewN w27 _ = w27; have n0_ : Aside0 (Kd.R (Kd.int .i64) 2 w27 w.heap.size (fun k_ => (True ∧ some k_ ≠ (.slice Ao29 t208.length co29 : Value).ownBlock)) v206 t205) := ⟨by rw [← hq_]; exact (by (with_reducible repeat (first | apply Kd.R_alloc | apply Kd.R_drewN | apply Kd.R_drew)); exact HO207.out)⟩; have n1_ : Aside0 (Kd.R (Kd.int .i64) 2 w27 w.heap.size (fun k_ => (True ∧ some k_ ≠ (v206 : Value).ownBlock)) (.slice Ao29 t208.length co29) t208) := ⟨by rw [← hq_]; exact (by (with_reducible repeat (first | apply Kd.R_alloc | apply Kd.R_drewN | apply Kd.R_drew)); exact HO210.out)⟩; have n2_ : Aside0 (Below w.heap.size w w27) := ⟨by rw [← hq_]; exact bb_⟩; have n3_ : Aside0 (Kd.C (Kd.int .i64) w27 A28 y211.length y211) := ⟨by rw [← hq_]; exact (by repeat (first | (with_reducible exact HR214.out) | (with_reducible refine Kd.C_alloc ?_ _) | (with_reducible refine Kd.C_drewN ?_ _) | (with_reducible refine Kd.C_drew ?_) | exact HR214.out))⟩; clear HO207 HO210 HB HR214 hq_; have HO207 := n0_; have HO210 := n1_; have HB := n2_; have HR214 := n3_; clear n0_ n1_ n2_ n3_))
                have n0_ := zpS (Kd.R_drew HO207.out)
                have n1_ := zpS (Kd.R_drew HO210.out)
                have n2_ := zpS (Kd.C_drew HR214.out)
                have n3_ := zpS (zvF HB.out)
                clear HO207
                clear HO210
                clear HR214
                clear HB
                have HO207 := n0_
                have HO210 := n1_
                have HR214 := n2_
                have HB := n3_
                clear n0_ n1_ n2_ n3_
                obtain ⟨Ao31, co31, eo31⟩ := Kd.R_slice HO207.out
                (first | subst eo31 | (injection eo31 with f1_ f2_ f3_; have f4_ := f1_.symm; have f5_ := f3_.symm; clear f1_ f2_ f3_; subst f4_; subst f5_))
                have p216 : 0 ≤ (0 : Int) := (by omega)
                have q216 : 0 < (t205.length : Int) := of_decide_eq_true (by first | (with_reducible assumption) | assumption)
                obtain ⟨ad216, e216, hx216_0⟩ := Kd.at_int (Kd.R_reads' HO207.out).2.2 0 p216 q216
                cases e216
                have qi216 : (0 < t205.length) = True := eq_true (by omega)
                (try rw [show ((0 : Int)).toNat = 0 from rfl] at hx216_0)
                (try rw [Addr.add_zero'] at hx216_0)
                replace p216 := eq_true p216
                replace q216 := eq_true q216
                have p217 : 0 ≤ (1 : Int) := (by omega)
                have q217 : 1 < (t205.length : Int) := of_decide_eq_true (by first | (with_reducible assumption) | assumption)
                obtain ⟨ad217, e217, hx217_0⟩ := Kd.at_int (Kd.R_reads' HO207.out).2.2 1 p217 q217
                obtain rfl : ad216 = ad217 := (by injection e217)
                (try simp only [show (1 : Int).toNat = 1 from rfl, Nat.reduceMul, Nat.reduceEqDiff, Go.Addr.add, ↓reduceIte] at hx217_0)
                have qi217 : (1 < t205.length) = True := eq_true (by omega)
                (try rw [show ((1 : Int)).toNat = 1 from rfl] at hx217_0)
                replace p217 := eq_true p217
                replace q217 := eq_true q217
                have p218 : 0 ≤ ((ji15) : Int) := of_decide_eq_true (by first | (with_reducible assumption) | assumption)
                have q218 : (ji15) < (t205.length : Int) := of_decide_eq_true (by first | (with_reducible assumption) | assumption)
                obtain ⟨ad218, e218, hx218_0⟩ := Kd.at_int (Kd.R_reads' HO207.out).2.2 (ji15) p218 q218
                obtain rfl : ad216 = ad218 := (by injection e218)
                replace p218 := eq_true p218
                replace q218 := eq_true q218
                have q32 : ((ji18) : Int) ≤ ((t205.length : Int) : Int) := of_decide_eq_true (by first | (with_reducible assumption) | assumption)
                obtain ⟨i032, hi032, _, hsz32, _⟩ := info_parts info2
                have hroom32 : t205.length ≤ co31 := (Kd.R_reads' HO207.out).2.1
                have hC32 : Kd.C (Kd.int .i64) _ (some ad216) t205.length t205 := (Kd.R_reads' HO207.out).2.2
                have q032 : (0 : Int) ≤ ((ji18) : Int) := of_decide_eq_true (by first | (with_reducible assumption) | assumption)
                have hcut32 := cut_from (P := Try.prog) 24 2 .i64 Try.underlying24 hi032 1 hsz32 (some ad216) t205.length co31 (ji18) q032 q32
                have hr32 := Kd.C_drop (m := ((ji18) : Int).toNat) (c := co31) hC32 (by omega) hroom32
                obtain ⟨A32, hA32⟩ : ∃ A1, A1 = (if co31 = ((ji18) : Int).toNat then (some ad216) else ((some ad216) : Option Addr).map (·.add (((ji18) : Int).toNat * 1))) := ⟨_, rfl⟩
                obtain ⟨c32, hc32⟩ : ∃ c1, c1 = co31 - ((ji18) : Int).toNat := ⟨_, rfl⟩
                have hy32 : y222.length = t205.length - ((ji18) : Int).toNat := (by rw [Ny222.out, List.length_drop] <;> omega)
                rw [show (t205).drop ((ji18) : Int).toNat = y222 from Ny222.out.symm] at hr32
                replace hr32 : Kd.C (Kd.int .i64) _ A32 y222.length y222 := (by rw [hA32]; exact hr32)
                rw [← hy32, ← hA32, ← hc32] at hcut32
                have HR225 := zpS hr32
                have HC225 := zpS (show y222.length ≤ c32 from by rw [hy32, hc32]; exact Nat.sub_le_sub_right hroom32 _)
                clear hr32 hC32 hroom32 hi032 hsz32 hc32
                have KY32 := zpS hy32
                have KA32 := zpS hA32
                clear hy32 hA32
                have KL32 := zpS (show ((ji18) : Int).toNat ≤ t205.length from by omega)
                replace q32 := eq_true q32
                have p229 : 0 ≤ (0 : Int) := (by omega)
                have q229 : 0 < (t208.length : Int) := of_decide_eq_true (by first | (with_reducible assumption) | assumption)
                obtain ⟨ad229, e229, hx229_0⟩ := Kd.at_int (Kd.R_reads' HO210.out).2.2 0 p229 q229
                cases e229
                have qi229 : (0 < t208.length) = True := eq_true (by omega)
                (try rw [show ((0 : Int)).toNat = 0 from rfl] at hx229_0)
                (try rw [Addr.add_zero'] at hx229_0)
                replace p229 := eq_true p229
                replace q229 := eq_true q229
                have q33 : ((ji18) : Int) ≤ ((t208.length : Int) : Int) := of_decide_eq_true (by first | (with_reducible assumption) | assumption)
                obtain ⟨i033, hi033, _, hsz33, _⟩ := info_parts info2
                have hroom33 : t208.length ≤ co29 := (Kd.R_reads' HO210.out).2.1
                have hC33 : Kd.C (Kd.int .i64) _ (some ad229) t208.length t208 := (Kd.R_reads' HO210.out).2.2
                have q033 : (0 : Int) ≤ ((ji18) : Int) := of_decide_eq_true (by first | (with_reducible assumption) | assumption)
                have hcut33 := cut_from (P := Try.prog) 24 2 .i64 Try.underlying24 hi033 1 hsz33 (some ad229) t208.length co29 (ji18) q033 q33
                have hr33 := Kd.C_drop (m := ((ji18) : Int).toNat) (c := co29) hC33 (by omega) hroom33
                obtain ⟨A33, hA33⟩ : ∃ A1, A1 = (if co29 = ((ji18) : Int).toNat then (some ad229) else ((some ad229) : Option Addr).map (·.add (((ji18) : Int).toNat * 1))) := ⟨_, rfl⟩
                obtain ⟨c33, hc33⟩ : ∃ c1, c1 = co29 - ((ji18) : Int).toNat := ⟨_, rfl⟩
                have hy33 : y233.length = t208.length - ((ji18) : Int).toNat := (by rw [Ny233.out, List.length_drop] <;> omega)
                rw [show (t208).drop ((ji18) : Int).toNat = y233 from Ny233.out.symm] at hr33
                replace hr33 : Kd.C (Kd.int .i64) _ A33 y233.length y233 := (by rw [hA33]; exact hr33)
                rw [← hy33, ← hA33, ← hc33] at hcut33
                have HR236 := zpS hr33
                have HC236 := zpS (show y233.length ≤ c33 from by rw [hy33, hc33]; exact Nat.sub_le_sub_right hroom33 _)
                clear hr33 hC33 hroom33 hi033 hsz33 hc33
                have KY33 := zpS hy33
                have KA33 := zpS hA33
                clear hy33 hA33
                have KL33 := zpS (show ((ji18) : Int).toNat ≤ t208.length from by omega)
                replace q33 := eq_true q33
                refine start_ (n := 31) (S := fun w' => w'.cell? ad216 = some (.int .i64 (rd t205 0)) ∧ w'.cell? ⟨ad216.block, ad216.off + 1, none⟩ = some (.int .i64 (rd t205 1)) ∧ w'.cell? (ad216.add ((ji15)).toNat) = some (.int .i64 (rd t205 (ji15))) ∧ w'.cell? ad229 = some (.int .i64 (rd t208 0))) (ds := []) #[false, false, false, false, false, false, false, false, false, false, false, false, false, false, false, false, false, false, false, false, false, false, false, false, false, false, false, false, false, false, false] (by kernel_rfl) rfl rfl ⟨hx216_0, hx217_0, hx218_0, hx229_0⟩ (fun hHeld => ?_); refine zwI zgL.tab12 zgL.bits12 (fun HT_ HW_ => ?_)
                generalize w27.drew = w30 at HO207 HO210 HR214 HB HR225 HR236 hx216_0 hx217_0 hx218_0 hx229_0 hHeld ⊢
                refine pu_ 0 (some 46) (bl_ 31 1) ?_
                refine pu_ 1 (some 47) (bl_ 31 3) ?_
                refine pu_ 3 (some 49) (bl_ 31 11) ?_
                refine pu_ 4 (some 50) (bl_ 31 27) ?_
                refine pu_ 7 (some 53) (bl_ 31 155) ?_
                refine pu_ 8 (some 54) (bl_ 31 411) ?_
                refine pu_ 9 (some 55) (bl_ 31 923) ?_
                refine pu_ 10 (some 56) (bl_ 31 1947) ?_
                refine pu_ 14 (some 60) (bl_ 31 18331) ?_
                refine pu_ 15 (some 61) (bl_ 31 51099) ?_
                refine pu_ 16 (some 62) (bl_ 31 116635) ?_
                refine pu_ 17 (some 63) (bl_ 31 247707) ?_
                refine pu_ 19 (some 65) (bl_ 31 771995) ?_
                refine pu_ 20 (some 66) (bl_ 31 1820571) ?_
                refine pu_ 23 (some 69) (bl_ 31 10209179) ?_
                refine pu_ 24 (some 70) (bl_ 31 26986395) ?_
                refine pu_ 25 (some 71) (bl_ 31 60540827) ?_
                refine pu_ 26 (some 72) (bl_ 31 127649691) ?_
                refine tk4_ 2 (some 48) (bl_ 31 127649695) hHeld ?_
                refine tk4_ 5 (some 51) (bl_ 31 127649727) hHeld ?_
                refine pu_ 6 (some 52) (bl_ 31 127649791) ?_
                refine tk4_ 11 (some 57) (bl_ 31 127651839) hHeld ?_
                refine pu_ 12 (some 58) (bl_ 31 127655935) ?_
                refine tk4_ 21 (some 67) (bl_ 31 129753087) hHeld ?_
                refine join_ (σ := Value × Value × Value) 4 #[true, true, true, true, true, true, true, true, true, true, true, true, true, true, true, true, true, true, true, true, true, true, true, true, true, true, true, false, false, false, false] (fun s_ => [(59, s_.1), (64, s_.2.1), (68, s_.2.2)]) (fun s_ w' => (w'.cell? ad216 = some (.int .i64 (rd t205 0)) ∧ w'.cell? ⟨ad216.block, ad216.off + 1, none⟩ = some (.int .i64 (rd t205 1)) ∧ w'.cell? (ad216.add ((ji15)).toNat) = some (.int .i64 (rd t205 (ji15))) ∧ w'.cell? ad229 = some (.int .i64 (rd t208 0))) ∧ (Kd.R (Kd.int .i64) 2 w' w.heap.size (fun k_ => some k_ ≠ (.slice (some ad229) t208.length co29 : Value).ownBlock ∧ some k_ ≠ (s_.2.1 : Value).ownBlock ∧ some k_ ≠ (s_.2.2 : Value).ownBlock) (.slice (some ad216) t205.length co31) t205) ∧ (Kd.R (Kd.int .i64) 2 w' w.heap.size (fun k_ => some k_ ≠ (.slice (some ad216) t205.length co31 : Value).ownBlock ∧ some k_ ≠ (s_.2.1 : Value).ownBlock ∧ some k_ ≠ (s_.2.2 : Value).ownBlock) (.slice (some ad229) t208.length co29) t208) ∧ (Kd.R (Kd.int .i64) 2 w' w.heap.size (fun k_ => some k_ ≠ (.slice (some ad216) t205.length co31 : Value).ownBlock ∧ some k_ ≠ (.slice (some ad229) t208.length co29 : Value).ownBlock ∧ some k_ ≠ (s_.2.2 : Value).ownBlock) s_.2.1 y226) ∧ (Kd.R (Kd.int .i64) 2 w' w.heap.size (fun k_ => some k_ ≠ (.slice (some ad216) t205.length co31 : Value).ownBlock ∧ some k_ ≠ (.slice (some ad229) t208.length co29 : Value).ownBlock ∧ some k_ ≠ (s_.2.1 : Value).ownBlock) s_.2.2 y230) ∧ (Kd.C (Kd.int .i64) w' A32 y222.length y222) ∧ (Kd.C (Kd.int .i64) w' A33 y233.length y233) ∧ (Below w.heap.size w w')) ?_ ?_
                rotate_left
                ·intro hCont
                 refine two_ (i := 13) (j := 22) (Ni := some 59) (Nj := some 68) (bl_ 31 129761279) (bl_ 31 133947391) rfl rfl rfl rfl (two_of HT_.out (by kernel_rfl)) (by decide) (by decide) (fun K hK => ?_) (fun K hK => ?_)
                 ·skip
                  refine Kd.R_lit_step (Kd.int .i64) _ 2 ?hg (N := 59) ?hd (xs := ([wrap64 ((wrap64 ((rd t205 0) - (rd t205 1))) + (rd t205 (ji15)))] : List Int)) (zlR := [.int .i64 (wrap64 ((wrap64 ((rd t205 0) - (rd t205 1))) + (rd t205 (ji15))))]) (ok := fun _ => True) (okp := fun _ => True) ?hr ?hp (fun _ hk => hk) trivial (Below.refl _ _) (Nat.le_refl _) (by simp) ?_; (case hd => rfl); (case hg => rfl); (case hr => first | (go_simp; done) | (go_simp; rfl)); (case hp => exact (zfH.one (show Kd.M (Kd.int .i64) _ _ _ (wrap64 ((wrap64 ((rd t205 0) - (rd t205 1))) + (rd t205 (ji15)))) [.int .i64 (wrap64 ((wrap64 ((rd t205 0) - (rd t205 1))) + (rd t205 (ji15))))] from rfl) (zfH.none _ _)))
                  intro v220 w34 ho35 hb hg_ hnew_
                  have HS0_ := (hb.cell (World.block_lt_of_cell? _ _ (hHeld.1))).trans (hHeld.1)
                  have HS1_ := (hb.cell (World.block_lt_of_cell? _ _ (hHeld.2.1))).trans (hHeld.2.1)
                  have HS2_ := (hb.cell (World.block_lt_of_cell? _ _ (hHeld.2.2.1))).trans (hHeld.2.2.1)
                  have HS3_ := (hb.cell (World.block_lt_of_cell? _ _ (hHeld.2.2.2))).trans (hHeld.2.2.2)
                  clear hg_ hnew_
                  (first | rw [← Ny219.out] at ho35 | (simp only [Int.reduceToNat] at ho35; rw [← Ny219.out] at ho35))
                  have n0_ := zpS (Kd.R_elder' (by (with_reducible repeat (first | apply Kd.R_alloc | apply Kd.R_drewN | apply Kd.R_drew)); exact HO207.out) (Kd.R_base ho35) hb)
                  have n1_ := zpS (Kd.R_elder' (by (with_reducible repeat (first | apply Kd.R_alloc | apply Kd.R_drewN | apply Kd.R_drew)); exact HO210.out) (Kd.R_base ho35) hb)
                  have n2_ := zpS (Kd.R_lower (Kd.R_new' (Kd.R_new' ho35 (Kd.R_lt (by (with_reducible repeat (first | apply Kd.R_alloc | apply Kd.R_drewN | apply Kd.R_drew)); exact HO207.out))) (Kd.R_lt (by (with_reducible repeat (first | apply Kd.R_alloc | apply Kd.R_drewN | apply Kd.R_drew)); exact HO210.out))) (zuA bb_))
                  have n3_ := zpS (Kd.C_below (by repeat (first | (with_reducible exact HR214.out) | (with_reducible refine Kd.C_alloc ?_ _) | (with_reducible refine Kd.C_drewN ?_ _) | (with_reducible refine Kd.C_drew ?_) | exact HR214.out)) hb)
                  have n4_ := zpS (Kd.C_below (by repeat (first | (with_reducible exact HR225.out) | (with_reducible refine Kd.C_alloc ?_ _) | (with_reducible refine Kd.C_drewN ?_ _) | (with_reducible refine Kd.C_drew ?_) | exact HR225.out)) hb)
                  have n5_ := zpS (Kd.C_below (by repeat (first | (with_reducible exact HR236.out) | (with_reducible refine Kd.C_alloc ?_ _) | (with_reducible refine Kd.C_drewN ?_ _) | (with_reducible refine Kd.C_drew ?_) | exact HR236.out)) hb)
                  have n6_ := (ns_ hb)
                  clear HO207
                  clear HO210
                  clear HR214
                  clear HR225
                  clear HR236
                  clear HB
                  have HO207 := n0_
                  have HO210 := n1_
                  have HO221 := n2_
                  have HR214 := n3_
                  have HR225 := n4_
                  have HR236 := n5_
                  have HB := n6_
                  clear n0_ n1_ n2_ n3_ n4_ n5_ n6_
                  clear hb ho35
                  refine hK.out _ _ ⟨HS0_, HS1_, HS2_, HS3_⟩ (fun hHeld => ?_)
                  clear hK K
                  refine zaN (a' := ?_) ?_ ?_
                  rotate_left
                  ·show Act.put _ (some 59) _ = _
                   simp only [Act.put, List.setIfInBounds_toArray, List.set_cons_zero, List.set_cons_succ, zcM, ziJ]
                   rfl
                  refine two_ (i := 18) (j := 22) (Ni := some 64) (Nj := some 68) (bl_ 31 130023423) (bl_ 31 133955583) rfl rfl rfl rfl (two_of HT_.out (by kernel_rfl)) (by decide) (by decide) (fun K hK => ?_) (fun K hK => ?_)
                  ·skip
                   refine Kd.R_append_rows_step (Kd.int .i64) (w0 := w) w.heap.size (by rfl) (.tmp 59) (.tmp 63) 24 2 (.int .i64 0) 8 rfl Try.underlying24 info2 rfl (by decide) (by omega) v220 y219 y222 _ _ _ (fun k_ => some k_ ≠ (.slice (some ad216) t205.length co31 : Value).ownBlock ∧ some k_ ≠ (.slice (some ad229) t208.length co29 : Value).ownBlock) (fun _ => False) rfl rfl ?aO ?aR (fun _ _ h => h) (fun _ h => h.elim) ?aF ?aB ?aS ?aL ?_
                   (case aR => repeat (first | exact (by repeat (first | (with_reducible exact HR225.out) | (with_reducible refine Kd.C_alloc ?_ _) | (with_reducible refine Kd.C_drewN ?_ _) | (with_reducible refine Kd.C_drew ?_) | exact HR225.out)) | (with_reducible refine Kd.C_alloc ?_ _) | (with_reducible refine Kd.C_drewN ?_ _) | (with_reducible refine Kd.C_drew ?_)))
                   (case aB => exact bb_)
                   (case aF => exact (fun k_ hk => ⟨Kd.fresh' (Kd.R_lt (by (with_reducible repeat (first | apply Kd.R_alloc | apply Kd.R_drewN | apply Kd.R_drew)); exact HO207.out)) k_ hk, Kd.fresh' (Kd.R_lt (by (with_reducible repeat (first | apply Kd.R_alloc | apply Kd.R_drewN | apply Kd.R_drew)); exact HO210.out)) k_ hk⟩))
                   (case aO => exact (by (with_reducible repeat (first | apply Kd.R_alloc | apply Kd.R_drewN | apply Kd.R_drew)); exact Kd.R_mono HO221.out (fun _ hk => ⟨hk.1.2, hk.2⟩)))
                   (case aS => exact (zuA bb_))
                   (case aL => have := LMc21.out; omega)
                   intro v227 w36 ho hb hg hat
                   have HS0_ := zmX hg (hHeld.1) (by (first | rw [zhT] | (show some (Addr.add _ _).block ≠ _; rw [zhT]) | skip); have h_ := HO207.out.1 _ rfl; revert h_; (try simp only [and_imp]); intros; assumption)
                   have HS1_ := zmX hg (hHeld.2.1) (by (first | rw [zhT] | (show some (Addr.add _ _).block ≠ _; rw [zhT]) | skip); have h_ := HO207.out.1 _ rfl; revert h_; (try simp only [and_imp]); intros; assumption)
                   have HS2_ := zmX hg (hHeld.2.2.1) (by (first | rw [zhT] | (show some (Addr.add _ _).block ≠ _; rw [zhT]) | skip); have h_ := HO207.out.1 _ rfl; revert h_; (try simp only [and_imp]); intros; assumption)
                   have HS3_ := zmX hg (hHeld.2.2.2) (by (first | rw [zhT] | (show some (Addr.add _ _).block ≠ _; rw [zhT]) | skip); have h_ := HO210.out.1 _ rfl; revert h_; (try simp only [and_imp]); intros; assumption)
                   rw [← Ny226.out] at ho
                   have n0_ := zpS (Kd.R_after (ok := (fun k_ => some k_ ≠ (.slice (some ad229) t208.length co29 : Value).ownBlock)) (by (with_reducible repeat (first | apply Kd.R_alloc | apply Kd.R_drewN | apply Kd.R_drew)); exact Kd.R_mono HO207.out (fun _ hk => ⟨hk.1.2, hk.2⟩)) hg hat)
                   have n1_ := zpS (Kd.R_after (ok := (fun k_ => some k_ ≠ (.slice (some ad216) t205.length co31 : Value).ownBlock)) (by (with_reducible repeat (first | apply Kd.R_alloc | apply Kd.R_drewN | apply Kd.R_drew)); exact Kd.R_mono HO210.out (fun _ hk => ⟨hk.1.2, hk.2⟩)) hg hat)
                   have n2_ := zpS (hb)
                   have n3_ := zpS ((show Kd.C (Kd.int .i64) w36 A28 y211.length y211 from by rw [Ny211.out, KA28.out]; exact Kd.C_mid (lo := 1) (hi := ((ji18) : Int).toNat) (c := co29) ((Kd.R_reads' (Kd.R_after (ok := (fun k_ => some k_ ≠ (.slice (some ad216) t205.length co31 : Value).ownBlock)) (by (with_reducible repeat (first | apply Kd.R_alloc | apply Kd.R_drewN | apply Kd.R_drew)); exact Kd.R_mono HO210.out (fun _ hk => ⟨hk.1.2, hk.2⟩)) hg hat)).2.2) KM28.out KL28.out ((Kd.R_reads' (Kd.R_after (ok := (fun k_ => some k_ ≠ (.slice (some ad216) t205.length co31 : Value).ownBlock)) (by (with_reducible repeat (first | apply Kd.R_alloc | apply Kd.R_drewN | apply Kd.R_drew)); exact Kd.R_mono HO210.out (fun _ hk => ⟨hk.1.2, hk.2⟩)) hg hat)).2.1)))
                   have n4_ := zpS ((show Kd.C (Kd.int .i64) w36 A32 y222.length y222 from by rw [Ny222.out, KA32.out]; exact Kd.C_drop (m := ((ji18) : Int).toNat) (c := co31) ((Kd.R_reads' (Kd.R_after (ok := (fun k_ => some k_ ≠ (.slice (some ad229) t208.length co29 : Value).ownBlock)) (by (with_reducible repeat (first | apply Kd.R_alloc | apply Kd.R_drewN | apply Kd.R_drew)); exact Kd.R_mono HO207.out (fun _ hk => ⟨hk.1.2, hk.2⟩)) hg hat)).2.2) KL32.out ((Kd.R_reads' (Kd.R_after (ok := (fun k_ => some k_ ≠ (.slice (some ad229) t208.length co29 : Value).ownBlock)) (by (with_reducible repeat (first | apply Kd.R_alloc | apply Kd.R_drewN | apply Kd.R_drew)); exact Kd.R_mono HO207.out (fun _ hk => ⟨hk.1.2, hk.2⟩)) hg hat)).2.1)))
                   have n5_ := zpS ((show Kd.C (Kd.int .i64) w36 A33 y233.length y233 from by rw [Ny233.out, KA33.out]; exact Kd.C_drop (m := ((ji18) : Int).toNat) (c := co29) ((Kd.R_reads' (Kd.R_after (ok := (fun k_ => some k_ ≠ (.slice (some ad216) t205.length co31 : Value).ownBlock)) (by (with_reducible repeat (first | apply Kd.R_alloc | apply Kd.R_drewN | apply Kd.R_drew)); exact Kd.R_mono HO210.out (fun _ hk => ⟨hk.1.2, hk.2⟩)) hg hat)).2.2) KL33.out ((Kd.R_reads' (Kd.R_after (ok := (fun k_ => some k_ ≠ (.slice (some ad216) t205.length co31 : Value).ownBlock)) (by (with_reducible repeat (first | apply Kd.R_alloc | apply Kd.R_drewN | apply Kd.R_drew)); exact Kd.R_mono HO210.out (fun _ hk => ⟨hk.1.2, hk.2⟩)) hg hat)).2.1)))
                   have n6_ := zpS (ho)
                   clear HO207
                   clear HO210
                   clear HB
                   clear HR214
                   clear HR225
                   clear HR236
                   clear HO221
                   have HO207 := n0_
                   have HO210 := n1_
                   have HB := n2_
                   have HR214 := n3_
                   have HR225 := n4_
                   have HR236 := n5_
                   have HO228 := n6_
                   clear n0_ n1_ n2_ n3_ n4_ n5_ n6_
                   clear ho hb hg hat
                   refine hK.out _ _ ⟨HS0_, HS1_, HS2_, HS3_⟩ (fun hHeld => ?_)
                   clear hK K
                   refine zaN (a' := ?_) ?_ ?_
                   rotate_left
                   ·show Act.put _ (some 64) _ = _
                    simp only [Act.put, List.setIfInBounds_toArray, List.set_cons_zero, List.set_cons_succ, zcM, ziJ]
                    rfl
                   refine one_ (i := 22) (N := some 68) (bl_ 31 134217727) rfl rfl (zeO HT_.out (by kernel_rfl)) (by decide) (fun K hK => ?_)
                   refine Kd.R_lit_step (Kd.int .i64) _ 2 ?hg (N := 68) ?hd (xs := ([rd t208 0] : List Int)) (zlR := [.int .i64 (rd t208 0)]) (ok := fun _ => True) (okp := fun _ => True) ?hr ?hp (fun _ hk => hk) trivial (Below.refl _ _) (Nat.le_refl _) (by simp) ?_; (case hd => rfl); (case hg => rfl); (case hr => first | (go_simp; done) | (go_simp; rfl)); (case hp => exact (zfH.one (show Kd.M (Kd.int .i64) _ _ _ (rd t208 0) [.int .i64 (rd t208 0)] from rfl) (zfH.none _ _)))
                   intro v231 w37 ho38 hb hg_ hnew_
                   have HS0_ := (hb.cell (World.block_lt_of_cell? _ _ (hHeld.1))).trans (hHeld.1)
                   have HS1_ := (hb.cell (World.block_lt_of_cell? _ _ (hHeld.2.1))).trans (hHeld.2.1)
                   have HS2_ := (hb.cell (World.block_lt_of_cell? _ _ (hHeld.2.2.1))).trans (hHeld.2.2.1)
                   have HS3_ := (hb.cell (World.block_lt_of_cell? _ _ (hHeld.2.2.2))).trans (hHeld.2.2.2)
                   clear hg_ hnew_
                   (first | rw [← Ny230.out] at ho38 | (simp only [Int.reduceToNat] at ho38; rw [← Ny230.out] at ho38))
                   have n0_ := zpS (Kd.R_elder' (by (with_reducible repeat (first | apply Kd.R_alloc | apply Kd.R_drewN | apply Kd.R_drew)); exact HO207.out) (Kd.R_base ho38) hb)
                   have n1_ := zpS (Kd.R_elder' (by (with_reducible repeat (first | apply Kd.R_alloc | apply Kd.R_drewN | apply Kd.R_drew)); exact HO210.out) (Kd.R_base ho38) hb)
                   have n2_ := zpS (Kd.R_elder' (by (with_reducible repeat (first | apply Kd.R_alloc | apply Kd.R_drewN | apply Kd.R_drew)); exact HO228.out) (Kd.R_base ho38) hb)
                   have n3_ := zpS (Kd.R_lower (Kd.R_new' (Kd.R_new' (Kd.R_new' ho38 (Kd.R_lt (by (with_reducible repeat (first | apply Kd.R_alloc | apply Kd.R_drewN | apply Kd.R_drew)); exact HO207.out))) (Kd.R_lt (by (with_reducible repeat (first | apply Kd.R_alloc | apply Kd.R_drewN | apply Kd.R_drew)); exact HO210.out))) (Kd.R_lt (by (with_reducible repeat (first | apply Kd.R_alloc | apply Kd.R_drewN | apply Kd.R_drew)); exact HO228.out))) (zuA bb_))
                   have n4_ := zpS (Kd.C_below (by repeat (first | (with_reducible exact HR214.out) | (with_reducible refine Kd.C_alloc ?_ _) | (with_reducible refine Kd.C_drewN ?_ _) | (with_reducible refine Kd.C_drew ?_) | exact HR214.out)) hb)
                   have n5_ := zpS (Kd.C_below (by repeat (first | (with_reducible exact HR225.out) | (with_reducible refine Kd.C_alloc ?_ _) | (with_reducible refine Kd.C_drewN ?_ _) | (with_reducible refine Kd.C_drew ?_) | exact HR225.out)) hb)
                   have n6_ := zpS (Kd.C_below (by repeat (first | (with_reducible exact HR236.out) | (with_reducible refine Kd.C_alloc ?_ _) | (with_reducible refine Kd.C_drewN ?_ _) | (with_reducible refine Kd.C_drew ?_) | exact HR236.out)) hb)
                   have n7_ := (ns_ hb)
                   clear HO207
                   clear HO210
                   clear HO228
                   clear HR214
                   clear HR225
                   clear HR236
                   clear HB
                   have HO207 := n0_
                   have HO210 := n1_
                   have HO228 := n2_
                   have HO232 := n3_
                   have HR214 := n4_
                   have HR225 := n5_
                   have HR236 := n6_
                   have HB := n7_
                   clear n0_ n1_ n2_ n3_ n4_ n5_ n6_ n7_
                   clear hb ho38
                   refine hK.out _ _ ⟨HS0_, HS1_, HS2_, HS3_⟩ (fun hHeld => ?_)
                   clear hK K
                   refine zaN (a' := ?_) ?_ ?_
                   rotate_left
                   ·show Act.put _ (some 68) _ = _
                    simp only [Act.put, List.setIfInBounds_toArray, List.set_cons_zero, List.set_cons_succ, zcM, ziJ]
                    rfl
                   exact zaN (by simp only [putAll, Act.put, List.setIfInBounds_toArray, List.set_cons_zero, List.set_cons_succ]) (hCont (v220, v227, v231) _ ⟨hHeld, (by (with_reducible repeat (first | apply Kd.R_alloc | apply Kd.R_drewN | apply Kd.R_drew)); exact Kd.R_mono HO207.out (fun _ hk => ⟨hk.1.1, ⟨hk.1.2, hk.2⟩⟩)), (by (with_reducible repeat (first | apply Kd.R_alloc | apply Kd.R_drewN | apply Kd.R_drew)); exact Kd.R_mono HO210.out (fun _ hk => ⟨hk.1.1, ⟨hk.1.2, hk.2⟩⟩)), (by (with_reducible repeat (first | apply Kd.R_alloc | apply Kd.R_drewN | apply Kd.R_drew)); exact Kd.R_mono HO228.out (fun _ hk => ⟨hk.1.1, ⟨hk.1.2, hk.2⟩⟩)), (by (with_reducible repeat (first | apply Kd.R_alloc | apply Kd.R_drewN | apply Kd.R_drew)); exact Kd.R_mono HO232.out (fun _ hk => ⟨hk.1.1.2, ⟨hk.1.2, hk.2⟩⟩)), (by repeat (first | (with_reducible exact HR225.out) | (with_reducible refine Kd.C_alloc ?_ _) | (with_reducible refine Kd.C_drewN ?_ _) | (with_reducible refine Kd.C_drew ?_) | exact HR225.out)), (by repeat (first | (with_reducible exact HR236.out) | (with_reducible refine Kd.C_alloc ?_ _) | (with_reducible refine Kd.C_drewN ?_ _) | (with_reducible refine Kd.C_drew ?_) | exact HR236.out)), bb_⟩)
                  ·skip
                   refine Kd.R_lit_step (Kd.int .i64) _ 2 ?hg (N := 68) ?hd (xs := ([rd t208 0] : List Int)) (zlR := [.int .i64 (rd t208 0)]) (ok := fun _ => True) (okp := fun _ => True) ?hr ?hp (fun _ hk => hk) trivial (Below.refl _ _) (Nat.le_refl _) (by simp) ?_; (case hd => rfl); (case hg => rfl); (case hr => first | (go_simp; done) | (go_simp; rfl)); (case hp => exact (zfH.one (show Kd.M (Kd.int .i64) _ _ _ (rd t208 0) [.int .i64 (rd t208 0)] from rfl) (zfH.none _ _)))
                   intro v231 w36 ho37 hb hg_ hnew_
                   have HS0_ := (hb.cell (World.block_lt_of_cell? _ _ (hHeld.1))).trans (hHeld.1)
                   have HS1_ := (hb.cell (World.block_lt_of_cell? _ _ (hHeld.2.1))).trans (hHeld.2.1)
                   have HS2_ := (hb.cell (World.block_lt_of_cell? _ _ (hHeld.2.2.1))).trans (hHeld.2.2.1)
                   have HS3_ := (hb.cell (World.block_lt_of_cell? _ _ (hHeld.2.2.2))).trans (hHeld.2.2.2)
                   clear hg_ hnew_
                   (first | rw [← Ny230.out] at ho37 | (simp only [Int.reduceToNat] at ho37; rw [← Ny230.out] at ho37))
                   have n0_ := zpS (Kd.R_elder' (by (with_reducible repeat (first | apply Kd.R_alloc | apply Kd.R_drewN | apply Kd.R_drew)); exact HO207.out) (Kd.R_base ho37) hb)
                   have n1_ := zpS (Kd.R_elder' (by (with_reducible repeat (first | apply Kd.R_alloc | apply Kd.R_drewN | apply Kd.R_drew)); exact HO210.out) (Kd.R_base ho37) hb)
                   have n2_ := zpS (Kd.R_elder' (by (with_reducible repeat (first | apply Kd.R_alloc | apply Kd.R_drewN | apply Kd.R_drew)); exact HO221.out) (Kd.R_base ho37) hb)
                   have n3_ := zpS (Kd.R_lower (Kd.R_new' (Kd.R_new' (Kd.R_new' ho37 (Kd.R_lt (by (with_reducible repeat (first | apply Kd.R_alloc | apply Kd.R_drewN | apply Kd.R_drew)); exact HO207.out))) (Kd.R_lt (by (with_reducible repeat (first | apply Kd.R_alloc | apply Kd.R_drewN | apply Kd.R_drew)); exact HO210.out))) (Kd.R_lt (by (with_reducible repeat (first | apply Kd.R_alloc | apply Kd.R_drewN | apply Kd.R_drew)); exact HO221.out))) (zuA bb_))
                   have n4_ := zpS (Kd.C_below (by repeat (first | (with_reducible exact HR214.out) | (with_reducible refine Kd.C_alloc ?_ _) | (with_reducible refine Kd.C_drewN ?_ _) | (with_reducible refine Kd.C_drew ?_) | exact HR214.out)) hb)
                   have n5_ := zpS (Kd.C_below (by repeat (first | (with_reducible exact HR225.out) | (with_reducible refine Kd.C_alloc ?_ _) | (with_reducible refine Kd.C_drewN ?_ _) | (with_reducible refine Kd.C_drew ?_) | exact HR225.out)) hb)
                   have n6_ := zpS (Kd.C_below (by repeat (first | (with_reducible exact HR236.out) | (with_reducible refine Kd.C_alloc ?_ _) | (with_reducible refine Kd.C_drewN ?_ _) | (with_reducible refine Kd.C_drew ?_) | exact HR236.out)) hb)
                   have n7_ := (ns_ hb)
                   clear HO207
                   clear HO210
                   clear HO221
                   clear HR214
                   clear HR225
                   clear HR236
                   clear HB
                   have HO207 := n0_
                   have HO210 := n1_
                   have HO221 := n2_
                   have HO232 := n3_
                   have HR214 := n4_
                   have HR225 := n5_
                   have HR236 := n6_
                   have HB := n7_
                   clear n0_ n1_ n2_ n3_ n4_ n5_ n6_ n7_
                   clear hb ho37
                   refine hK.out _ _ ⟨HS0_, HS1_, HS2_, HS3_⟩ (fun hHeld => ?_)
                   clear hK K
                   refine zaN (a' := ?_) ?_ ?_
                   rotate_left
                   ·show Act.put _ (some 68) _ = _
                    simp only [Act.put, List.setIfInBounds_toArray, List.set_cons_zero, List.set_cons_succ, zcM, ziJ]
                    rfl
                   refine one_ (i := 18) (N := some 64) (bl_ 31 134217727) rfl rfl (zeO HT_.out (by kernel_rfl)) (by decide) (fun K hK => ?_)
                   refine Kd.R_append_rows_step (Kd.int .i64) (w0 := w) w.heap.size (by rfl) (.tmp 59) (.tmp 63) 24 2 (.int .i64 0) 8 rfl Try.underlying24 info2 rfl (by decide) (by omega) v220 y219 y222 _ _ _ (fun k_ => some k_ ≠ (.slice (some ad216) t205.length co31 : Value).ownBlock ∧ some k_ ≠ (.slice (some ad229) t208.length co29 : Value).ownBlock ∧ some k_ ≠ (v231 : Value).ownBlock) (fun _ => False) rfl rfl ?aO ?aR (fun _ _ h => h) (fun _ h => h.elim) ?aF ?aB ?aS ?aL ?_
                   (case aR => repeat (first | exact (by repeat (first | (with_reducible exact HR225.out) | (with_reducible refine Kd.C_alloc ?_ _) | (with_reducible refine Kd.C_drewN ?_ _) | (with_reducible refine Kd.C_drew ?_) | exact HR225.out)) | (with_reducible refine Kd.C_alloc ?_ _) | (with_reducible refine Kd.C_drewN ?_ _) | (with_reducible refine Kd.C_drew ?_)))
                   (case aB => exact bb_)
                   (case aF => exact (fun k_ hk => ⟨Kd.fresh' (Kd.R_lt (by (with_reducible repeat (first | apply Kd.R_alloc | apply Kd.R_drewN | apply Kd.R_drew)); exact HO207.out)) k_ hk, Kd.fresh' (Kd.R_lt (by (with_reducible repeat (first | apply Kd.R_alloc | apply Kd.R_drewN | apply Kd.R_drew)); exact HO210.out)) k_ hk, Kd.fresh' (Kd.R_lt (by (with_reducible repeat (first | apply Kd.R_alloc | apply Kd.R_drewN | apply Kd.R_drew)); exact HO232.out)) k_ hk⟩))
                   (case aO => exact (by (with_reducible repeat (first | apply Kd.R_alloc | apply Kd.R_drewN | apply Kd.R_drew)); exact Kd.R_mono HO221.out (fun _ hk => ⟨hk.1.1.2, ⟨hk.1.2, hk.2⟩⟩)))
                   (case aS => exact (zuA bb_))
                   (case aL => have := LMc21.out; omega)
                   intro v227 w38 ho hb hg hat
                   have HS0_ := zmX hg (hHeld.1) (by (first | rw [zhT] | (show some (Addr.add _ _).block ≠ _; rw [zhT]) | skip); have h_ := HO207.out.1 _ rfl; revert h_; (try simp only [and_imp]); intros; assumption)
                   have HS1_ := zmX hg (hHeld.2.1) (by (first | rw [zhT] | (show some (Addr.add _ _).block ≠ _; rw [zhT]) | skip); have h_ := HO207.out.1 _ rfl; revert h_; (try simp only [and_imp]); intros; assumption)
                   have HS2_ := zmX hg (hHeld.2.2.1) (by (first | rw [zhT] | (show some (Addr.add _ _).block ≠ _; rw [zhT]) | skip); have h_ := HO207.out.1 _ rfl; revert h_; (try simp only [and_imp]); intros; assumption)
                   have HS3_ := zmX hg (hHeld.2.2.2) (by (first | rw [zhT] | (show some (Addr.add _ _).block ≠ _; rw [zhT]) | skip); have h_ := HO210.out.1 _ rfl; revert h_; (try simp only [and_imp]); intros; assumption)
                   rw [← Ny226.out] at ho
                   have n0_ := zpS (Kd.R_after (ok := (fun k_ => some k_ ≠ (.slice (some ad229) t208.length co29 : Value).ownBlock ∧ some k_ ≠ (v231 : Value).ownBlock)) (by (with_reducible repeat (first | apply Kd.R_alloc | apply Kd.R_drewN | apply Kd.R_drew)); exact Kd.R_mono HO207.out (fun _ hk => ⟨⟨hk.1.1.2, hk.2⟩, hk.1.2⟩)) hg hat)
                   have n1_ := zpS (Kd.R_after (ok := (fun k_ => some k_ ≠ (.slice (some ad216) t205.length co31 : Value).ownBlock ∧ some k_ ≠ (v231 : Value).ownBlock)) (by (with_reducible repeat (first | apply Kd.R_alloc | apply Kd.R_drewN | apply Kd.R_drew)); exact Kd.R_mono HO210.out (fun _ hk => ⟨⟨hk.1.1.2, hk.2⟩, hk.1.2⟩)) hg hat)
                   have n2_ := zpS (Kd.R_after (ok := (fun k_ => some k_ ≠ (.slice (some ad216) t205.length co31 : Value).ownBlock ∧ some k_ ≠ (.slice (some ad229) t208.length co29 : Value).ownBlock)) (by (with_reducible repeat (first | apply Kd.R_alloc | apply Kd.R_drewN | apply Kd.R_drew)); exact Kd.R_mono HO232.out (fun _ hk => ⟨⟨hk.1.1.2, hk.1.2⟩, hk.2⟩)) hg hat)
                   have n3_ := zpS (hb)
                   have n4_ := zpS ((show Kd.C (Kd.int .i64) w38 A28 y211.length y211 from by rw [Ny211.out, KA28.out]; exact Kd.C_mid (lo := 1) (hi := ((ji18) : Int).toNat) (c := co29) ((Kd.R_reads' (Kd.R_after (ok := (fun k_ => some k_ ≠ (.slice (some ad216) t205.length co31 : Value).ownBlock ∧ some k_ ≠ (v231 : Value).ownBlock)) (by (with_reducible repeat (first | apply Kd.R_alloc | apply Kd.R_drewN | apply Kd.R_drew)); exact Kd.R_mono HO210.out (fun _ hk => ⟨⟨hk.1.1.2, hk.2⟩, hk.1.2⟩)) hg hat)).2.2) KM28.out KL28.out ((Kd.R_reads' (Kd.R_after (ok := (fun k_ => some k_ ≠ (.slice (some ad216) t205.length co31 : Value).ownBlock ∧ some k_ ≠ (v231 : Value).ownBlock)) (by (with_reducible repeat (first | apply Kd.R_alloc | apply Kd.R_drewN | apply Kd.R_drew)); exact Kd.R_mono HO210.out (fun _ hk => ⟨⟨hk.1.1.2, hk.2⟩, hk.1.2⟩)) hg hat)).2.1)))
                   have n5_ := zpS ((show Kd.C (Kd.int .i64) w38 A32 y222.length y222 from by rw [Ny222.out, KA32.out]; exact Kd.C_drop (m := ((ji18) : Int).toNat) (c := co31) ((Kd.R_reads' (Kd.R_after (ok := (fun k_ => some k_ ≠ (.slice (some ad229) t208.length co29 : Value).ownBlock ∧ some k_ ≠ (v231 : Value).ownBlock)) (by (with_reducible repeat (first | apply Kd.R_alloc | apply Kd.R_drewN | apply Kd.R_drew)); exact Kd.R_mono HO207.out (fun _ hk => ⟨⟨hk.1.1.2, hk.2⟩, hk.1.2⟩)) hg hat)).2.2) KL32.out ((Kd.R_reads' (Kd.R_after (ok := (fun k_ => some k_ ≠ (.slice (some ad229) t208.length co29 : Value).ownBlock ∧ some k_ ≠ (v231 : Value).ownBlock)) (by (with_reducible repeat (first | apply Kd.R_alloc | apply Kd.R_drewN | apply Kd.R_drew)); exact Kd.R_mono HO207.out (fun _ hk => ⟨⟨hk.1.1.2, hk.2⟩, hk.1.2⟩)) hg hat)).2.1)))
                   have n6_ := zpS ((show Kd.C (Kd.int .i64) w38 A33 y233.length y233 from by rw [Ny233.out, KA33.out]; exact Kd.C_drop (m := ((ji18) : Int).toNat) (c := co29) ((Kd.R_reads' (Kd.R_after (ok := (fun k_ => some k_ ≠ (.slice (some ad216) t205.length co31 : Value).ownBlock ∧ some k_ ≠ (v231 : Value).ownBlock)) (by (with_reducible repeat (first | apply Kd.R_alloc | apply Kd.R_drewN | apply Kd.R_drew)); exact Kd.R_mono HO210.out (fun _ hk => ⟨⟨hk.1.1.2, hk.2⟩, hk.1.2⟩)) hg hat)).2.2) KL33.out ((Kd.R_reads' (Kd.R_after (ok := (fun k_ => some k_ ≠ (.slice (some ad216) t205.length co31 : Value).ownBlock ∧ some k_ ≠ (v231 : Value).ownBlock)) (by (with_reducible repeat (first | apply Kd.R_alloc | apply Kd.R_drewN | apply Kd.R_drew)); exact Kd.R_mono HO210.out (fun _ hk => ⟨⟨hk.1.1.2, hk.2⟩, hk.1.2⟩)) hg hat)).2.1)))
                   have n7_ := zpS (ho)
                   clear HO207
                   clear HO210
                   clear HO232
                   clear HB
                   clear HR214
                   clear HR225
                   clear HR236
                   clear HO221
                   have HO207 := n0_
                   have HO210 := n1_
                   have HO232 := n2_
                   have HB := n3_
                   have HR214 := n4_
                   have HR225 := n5_
                   have HR236 := n6_
                   have HO228 := n7_
                   clear n0_ n1_ n2_ n3_ n4_ n5_ n6_ n7_
                   clear ho hb hg hat
                   refine hK.out _ _ ⟨HS0_, HS1_, HS2_, HS3_⟩ (fun hHeld => ?_)
                   clear hK K
                   refine zaN (a' := ?_) ?_ ?_
                   rotate_left
                   ·show Act.put _ (some 64) _ = _
                    simp only [Act.put, List.setIfInBounds_toArray, List.set_cons_zero, List.set_cons_succ, zcM, ziJ]
                    rfl
                   exact zaN (by simp only [putAll, Act.put, List.setIfInBounds_toArray, List.set_cons_zero, List.set_cons_succ]) (hCont (v220, v227, v231) _ ⟨hHeld, (by (with_reducible repeat (first | apply Kd.R_alloc | apply Kd.R_drewN | apply Kd.R_drew)); exact Kd.R_mono HO207.out (fun _ hk => ⟨hk.1.1, ⟨hk.2, hk.1.2⟩⟩)), (by (with_reducible repeat (first | apply Kd.R_alloc | apply Kd.R_drewN | apply Kd.R_drew)); exact Kd.R_mono HO210.out (fun _ hk => ⟨hk.1.1, ⟨hk.2, hk.1.2⟩⟩)), (by (with_reducible repeat (first | apply Kd.R_alloc | apply Kd.R_drewN | apply Kd.R_drew)); exact HO228.out), (by (with_reducible repeat (first | apply Kd.R_alloc | apply Kd.R_drewN | apply Kd.R_drew)); exact Kd.R_mono HO232.out (fun _ hk => ⟨hk.1.1, ⟨hk.1.2, hk.2⟩⟩)), (by repeat (first | (with_reducible exact HR225.out) | (with_reducible refine Kd.C_alloc ?_ _) | (with_reducible refine Kd.C_drewN ?_ _) | (with_reducible refine Kd.C_drew ?_) | exact HR225.out)), (by repeat (first | (with_reducible exact HR236.out) | (with_reducible refine Kd.C_alloc ?_ _) | (with_reducible refine Kd.C_drewN ?_ _) | (with_reducible refine Kd.C_drew ?_) | exact HR236.out)), bb_⟩)
                 ·skip
                  refine Kd.R_lit_step (Kd.int .i64) _ 2 ?hg (N := 68) ?hd (xs := ([rd t208 0] : List Int)) (zlR := [.int .i64 (rd t208 0)]) (ok := fun _ => True) (okp := fun _ => True) ?hr ?hp (fun _ hk => hk) trivial (Below.refl _ _) (Nat.le_refl _) (by simp) ?_; (case hd => rfl); (case hg => rfl); (case hr => first | (go_simp; done) | (go_simp; rfl)); (case hp => exact (zfH.one (show Kd.M (Kd.int .i64) _ _ _ (rd t208 0) [.int .i64 (rd t208 0)] from rfl) (zfH.none _ _)))
                  intro v231 w34 ho35 hb hg_ hnew_
                  have HS0_ := (hb.cell (World.block_lt_of_cell? _ _ (hHeld.1))).trans (hHeld.1)
                  have HS1_ := (hb.cell (World.block_lt_of_cell? _ _ (hHeld.2.1))).trans (hHeld.2.1)
                  have HS2_ := (hb.cell (World.block_lt_of_cell? _ _ (hHeld.2.2.1))).trans (hHeld.2.2.1)
                  have HS3_ := (hb.cell (World.block_lt_of_cell? _ _ (hHeld.2.2.2))).trans (hHeld.2.2.2)
                  clear hg_ hnew_
                  (first | rw [← Ny230.out] at ho35 | (simp only [Int.reduceToNat] at ho35; rw [← Ny230.out] at ho35))
                  have n0_ := zpS (Kd.R_elder' (by (with_reducible repeat (first | apply Kd.R_alloc | apply Kd.R_drewN | apply Kd.R_drew)); exact HO207.out) (Kd.R_base ho35) hb)
                  have n1_ := zpS (Kd.R_elder' (by (with_reducible repeat (first | apply Kd.R_alloc | apply Kd.R_drewN | apply Kd.R_drew)); exact HO210.out) (Kd.R_base ho35) hb)
                  have n2_ := zpS (Kd.R_lower (Kd.R_new' (Kd.R_new' ho35 (Kd.R_lt (by (with_reducible repeat (first | apply Kd.R_alloc | apply Kd.R_drewN | apply Kd.R_drew)); exact HO207.out))) (Kd.R_lt (by (with_reducible repeat (first | apply Kd.R_alloc | apply Kd.R_drewN | apply Kd.R_drew)); exact HO210.out))) (zuA bb_))
                  have n3_ := zpS (Kd.C_below (by repeat (first | (with_reducible exact HR214.out) | (with_reducible refine Kd.C_alloc ?_ _) | (with_reducible refine Kd.C_drewN ?_ _) | (with_reducible refine Kd.C_drew ?_) | exact HR214.out)) hb)
                  have n4_ := zpS (Kd.C_below (by repeat (first | (with_reducible exact HR225.out) | (with_reducible refine Kd.C_alloc ?_ _) | (with_reducible refine Kd.C_drewN ?_ _) | (with_reducible refine Kd.C_drew ?_) | exact HR225.out)) hb)
                  have n5_ := zpS (Kd.C_below (by repeat (first | (with_reducible exact HR236.out) | (with_reducible refine Kd.C_alloc ?_ _) | (with_reducible refine Kd.C_drewN ?_ _) | (with_reducible refine Kd.C_drew ?_) | exact HR236.out)) hb)
                  have n6_ := (ns_ hb)
                  clear HO207
                  clear HO210
                  clear HR214
                  clear HR225
                  clear HR236
                  clear HB
                  have HO207 := n0_
                  have HO210 := n1_
                  have HO232 := n2_
                  have HR214 := n3_
                  have HR225 := n4_
                  have HR236 := n5_
                  have HB := n6_
                  clear n0_ n1_ n2_ n3_ n4_ n5_ n6_
                  clear hb ho35
                  refine hK.out _ _ ⟨HS0_, HS1_, HS2_, HS3_⟩ (fun hHeld => ?_)
                  clear hK K
                  refine zaN (a' := ?_) ?_ ?_
                  rotate_left
                  ·show Act.put _ (some 68) _ = _
                   simp only [Act.put, List.setIfInBounds_toArray, List.set_cons_zero, List.set_cons_succ, zcM, ziJ]
                   rfl
                  refine one_ (i := 13) (N := some 59) (bl_ 31 133955583) rfl rfl (zeO HT_.out (by kernel_rfl)) (by decide) (fun K hK => ?_)
                  refine Kd.R_lit_step (Kd.int .i64) _ 2 ?hg (N := 59) ?hd (xs := ([wrap64 ((wrap64 ((rd t205 0) - (rd t205 1))) + (rd t205 (ji15)))] : List Int)) (zlR := [.int .i64 (wrap64 ((wrap64 ((rd t205 0) - (rd t205 1))) + (rd t205 (ji15))))]) (ok := fun _ => True) (okp := fun _ => True) ?hr ?hp (fun _ hk => hk) trivial (Below.refl _ _) (Nat.le_refl _) (by simp) ?_; (case hd => rfl); (case hg => rfl); (case hr => first | (go_simp; done) | (go_simp; rfl)); (case hp => exact (zfH.one (show Kd.M (Kd.int .i64) _ _ _ (wrap64 ((wrap64 ((rd t205 0) - (rd t205 1))) + (rd t205 (ji15)))) [.int .i64 (wrap64 ((wrap64 ((rd t205 0) - (rd t205 1))) + (rd t205 (ji15))))] from rfl) (zfH.none _ _)))
                  intro v220 w36 ho37 hb hg_ hnew_
                  have HS0_ := (hb.cell (World.block_lt_of_cell? _ _ (hHeld.1))).trans (hHeld.1)
                  have HS1_ := (hb.cell (World.block_lt_of_cell? _ _ (hHeld.2.1))).trans (hHeld.2.1)
                  have HS2_ := (hb.cell (World.block_lt_of_cell? _ _ (hHeld.2.2.1))).trans (hHeld.2.2.1)
                  have HS3_ := (hb.cell (World.block_lt_of_cell? _ _ (hHeld.2.2.2))).trans (hHeld.2.2.2)
                  clear hg_ hnew_
                  (first | rw [← Ny219.out] at ho37 | (simp only [Int.reduceToNat] at ho37; rw [← Ny219.out] at ho37))
                  have n0_ := zpS (Kd.R_elder' (by (with_reducible repeat (first | apply Kd.R_alloc | apply Kd.R_drewN | apply Kd.R_drew)); exact HO207.out) (Kd.R_base ho37) hb)
                  have n1_ := zpS (Kd.R_elder' (by (with_reducible repeat (first | apply Kd.R_alloc | apply Kd.R_drewN | apply Kd.R_drew)); exact HO210.out) (Kd.R_base ho37) hb)
                  have n2_ := zpS (Kd.R_elder' (by (with_reducible repeat (first | apply Kd.R_alloc | apply Kd.R_drewN | apply Kd.R_drew)); exact HO232.out) (Kd.R_base ho37) hb)
                  have n3_ := zpS (Kd.R_lower (Kd.R_new' (Kd.R_new' (Kd.R_new' ho37 (Kd.R_lt (by (with_reducible repeat (first | apply Kd.R_alloc | apply Kd.R_drewN | apply Kd.R_drew)); exact HO207.out))) (Kd.R_lt (by (with_reducible repeat (first | apply Kd.R_alloc | apply Kd.R_drewN | apply Kd.R_drew)); exact HO210.out))) (Kd.R_lt (by (with_reducible repeat (first | apply Kd.R_alloc | apply Kd.R_drewN | apply Kd.R_drew)); exact HO232.out))) (zuA bb_))
                  have n4_ := zpS (Kd.C_below (by repeat (first | (with_reducible exact HR214.out) | (with_reducible refine Kd.C_alloc ?_ _) | (with_reducible refine Kd.C_drewN ?_ _) | (with_reducible refine Kd.C_drew ?_) | exact HR214.out)) hb)
                  have n5_ := zpS (Kd.C_below (by repeat (first | (with_reducible exact HR225.out) | (with_reducible refine Kd.C_alloc ?_ _) | (with_reducible refine Kd.C_drewN ?_ _) | (with_reducible refine Kd.C_drew ?_) | exact HR225.out)) hb)
                  have n6_ := zpS (Kd.C_below (by repeat (first | (with_reducible exact HR236.out) | (with_reducible refine Kd.C_alloc ?_ _) | (with_reducible refine Kd.C_drewN ?_ _) | (with_reducible refine Kd.C_drew ?_) | exact HR236.out)) hb)
                  have n7_ := (ns_ hb)
                  clear HO207
                  clear HO210
                  clear HO232
                  clear HR214
                  clear HR225
                  clear HR236
                  clear HB
                  have HO207 := n0_
                  have HO210 := n1_
                  have HO232 := n2_
                  have HO221 := n3_
                  have HR214 := n4_
                  have HR225 := n5_
                  have HR236 := n6_
                  have HB := n7_
                  clear n0_ n1_ n2_ n3_ n4_ n5_ n6_ n7_
                  clear hb ho37
                  refine hK.out _ _ ⟨HS0_, HS1_, HS2_, HS3_⟩ (fun hHeld => ?_)
                  clear hK K
                  refine zaN (a' := ?_) ?_ ?_
                  rotate_left
                  ·show Act.put _ (some 59) _ = _
                   simp only [Act.put, List.setIfInBounds_toArray, List.set_cons_zero, List.set_cons_succ, zcM, ziJ]
                   rfl
                  refine one_ (i := 18) (N := some 64) (bl_ 31 134217727) rfl rfl (zeO HT_.out (by kernel_rfl)) (by decide) (fun K hK => ?_)
                  refine Kd.R_append_rows_step (Kd.int .i64) (w0 := w) w.heap.size (by rfl) (.tmp 59) (.tmp 63) 24 2 (.int .i64 0) 8 rfl Try.underlying24 info2 rfl (by decide) (by omega) v220 y219 y222 _ _ _ (fun k_ => some k_ ≠ (.slice (some ad216) t205.length co31 : Value).ownBlock ∧ some k_ ≠ (.slice (some ad229) t208.length co29 : Value).ownBlock ∧ some k_ ≠ (v231 : Value).ownBlock) (fun _ => False) rfl rfl ?aO ?aR (fun _ _ h => h) (fun _ h => h.elim) ?aF ?aB ?aS ?aL ?_
                  (case aR => repeat (first | exact (by repeat (first | (with_reducible exact HR225.out) | (with_reducible refine Kd.C_alloc ?_ _) | (with_reducible refine Kd.C_drewN ?_ _) | (with_reducible refine Kd.C_drew ?_) | exact HR225.out)) | (with_reducible refine Kd.C_alloc ?_ _) | (with_reducible refine Kd.C_drewN ?_ _) | (with_reducible refine Kd.C_drew ?_)))
                  (case aB => exact bb_)
                  (case aF => exact (fun k_ hk => ⟨Kd.fresh' (Kd.R_lt (by (with_reducible repeat (first | apply Kd.R_alloc | apply Kd.R_drewN | apply Kd.R_drew)); exact HO207.out)) k_ hk, Kd.fresh' (Kd.R_lt (by (with_reducible repeat (first | apply Kd.R_alloc | apply Kd.R_drewN | apply Kd.R_drew)); exact HO210.out)) k_ hk, Kd.fresh' (Kd.R_lt (by (with_reducible repeat (first | apply Kd.R_alloc | apply Kd.R_drewN | apply Kd.R_drew)); exact HO232.out)) k_ hk⟩))
                  (case aO => exact (by (with_reducible repeat (first | apply Kd.R_alloc | apply Kd.R_drewN | apply Kd.R_drew)); exact Kd.R_mono HO221.out (fun _ hk => ⟨hk.1.1.2, ⟨hk.1.2, hk.2⟩⟩)))
                  (case aS => exact (zuA bb_))
                  (case aL => have := LMc21.out; omega)
                  intro v227 w38 ho hb hg hat
                  have HS0_ := zmX hg (hHeld.1) (by (first | rw [zhT] | (show some (Addr.add _ _).block ≠ _; rw [zhT]) | skip); have h_ := HO207.out.1 _ rfl; revert h_; (try simp only [and_imp]); intros; assumption)
                  have HS1_ := zmX hg (hHeld.2.1) (by (first | rw [zhT] | (show some (Addr.add _ _).block ≠ _; rw [zhT]) | skip); have h_ := HO207.out.1 _ rfl; revert h_; (try simp only [and_imp]); intros; assumption)
                  have HS2_ := zmX hg (hHeld.2.2.1) (by (first | rw [zhT] | (show some (Addr.add _ _).block ≠ _; rw [zhT]) | skip); have h_ := HO207.out.1 _ rfl; revert h_; (try simp only [and_imp]); intros; assumption)
                  have HS3_ := zmX hg (hHeld.2.2.2) (by (first | rw [zhT] | (show some (Addr.add _ _).block ≠ _; rw [zhT]) | skip); have h_ := HO210.out.1 _ rfl; revert h_; (try simp only [and_imp]); intros; assumption)
                  rw [← Ny226.out] at ho
                  have n0_ := zpS (Kd.R_after (ok := (fun k_ => some k_ ≠ (.slice (some ad229) t208.length co29 : Value).ownBlock ∧ some k_ ≠ (v231 : Value).ownBlock)) (by (with_reducible repeat (first | apply Kd.R_alloc | apply Kd.R_drewN | apply Kd.R_drew)); exact Kd.R_mono HO207.out (fun _ hk => ⟨⟨hk.1.1.2, hk.1.2⟩, hk.2⟩)) hg hat)
                  have n1_ := zpS (Kd.R_after (ok := (fun k_ => some k_ ≠ (.slice (some ad216) t205.length co31 : Value).ownBlock ∧ some k_ ≠ (v231 : Value).ownBlock)) (by (with_reducible repeat (first | apply Kd.R_alloc | apply Kd.R_drewN | apply Kd.R_drew)); exact Kd.R_mono HO210.out (fun _ hk => ⟨⟨hk.1.1.2, hk.1.2⟩, hk.2⟩)) hg hat)
                  have n2_ := zpS (Kd.R_after (ok := (fun k_ => some k_ ≠ (.slice (some ad216) t205.length co31 : Value).ownBlock ∧ some k_ ≠ (.slice (some ad229) t208.length co29 : Value).ownBlock)) (by (with_reducible repeat (first | apply Kd.R_alloc | apply Kd.R_drewN | apply Kd.R_drew)); exact Kd.R_mono HO232.out (fun _ hk => ⟨⟨hk.1.1.2, hk.1.2⟩, hk.2⟩)) hg hat)
                  have n3_ := zpS (hb)
                  have n4_ := zpS ((show Kd.C (Kd.int .i64) w38 A28 y211.length y211 from by rw [Ny211.out, KA28.out]; exact Kd.C_mid (lo := 1) (hi := ((ji18) : Int).toNat) (c := co29) ((Kd.R_reads' (Kd.R_after (ok := (fun k_ => some k_ ≠ (.slice (some ad216) t205.length co31 : Value).ownBlock ∧ some k_ ≠ (v231 : Value).ownBlock)) (by (with_reducible repeat (first | apply Kd.R_alloc | apply Kd.R_drewN | apply Kd.R_drew)); exact Kd.R_mono HO210.out (fun _ hk => ⟨⟨hk.1.1.2, hk.1.2⟩, hk.2⟩)) hg hat)).2.2) KM28.out KL28.out ((Kd.R_reads' (Kd.R_after (ok := (fun k_ => some k_ ≠ (.slice (some ad216) t205.length co31 : Value).ownBlock ∧ some k_ ≠ (v231 : Value).ownBlock)) (by (with_reducible repeat (first | apply Kd.R_alloc | apply Kd.R_drewN | apply Kd.R_drew)); exact Kd.R_mono HO210.out (fun _ hk => ⟨⟨hk.1.1.2, hk.1.2⟩, hk.2⟩)) hg hat)).2.1)))
                  have n5_ := zpS ((show Kd.C (Kd.int .i64) w38 A32 y222.length y222 from by rw [Ny222.out, KA32.out]; exact Kd.C_drop (m := ((ji18) : Int).toNat) (c := co31) ((Kd.R_reads' (Kd.R_after (ok := (fun k_ => some k_ ≠ (.slice (some ad229) t208.length co29 : Value).ownBlock ∧ some k_ ≠ (v231 : Value).ownBlock)) (by (with_reducible repeat (first | apply Kd.R_alloc | apply Kd.R_drewN | apply Kd.R_drew)); exact Kd.R_mono HO207.out (fun _ hk => ⟨⟨hk.1.1.2, hk.1.2⟩, hk.2⟩)) hg hat)).2.2) KL32.out ((Kd.R_reads' (Kd.R_after (ok := (fun k_ => some k_ ≠ (.slice (some ad229) t208.length co29 : Value).ownBlock ∧ some k_ ≠ (v231 : Value).ownBlock)) (by (with_reducible repeat (first | apply Kd.R_alloc | apply Kd.R_drewN | apply Kd.R_drew)); exact Kd.R_mono HO207.out (fun _ hk => ⟨⟨hk.1.1.2, hk.1.2⟩, hk.2⟩)) hg hat)).2.1)))
                  have n6_ := zpS ((show Kd.C (Kd.int .i64) w38 A33 y233.length y233 from by rw [Ny233.out, KA33.out]; exact Kd.C_drop (m := ((ji18) : Int).toNat) (c := co29) ((Kd.R_reads' (Kd.R_after (ok := (fun k_ => some k_ ≠ (.slice (some ad216) t205.length co31 : Value).ownBlock ∧ some k_ ≠ (v231 : Value).ownBlock)) (by (with_reducible repeat (first | apply Kd.R_alloc | apply Kd.R_drewN | apply Kd.R_drew)); exact Kd.R_mono HO210.out (fun _ hk => ⟨⟨hk.1.1.2, hk.1.2⟩, hk.2⟩)) hg hat)).2.2) KL33.out ((Kd.R_reads' (Kd.R_after (ok := (fun k_ => some k_ ≠ (.slice (some ad216) t205.length co31 : Value).ownBlock ∧ some k_ ≠ (v231 : Value).ownBlock)) (by (with_reducible repeat (first | apply Kd.R_alloc | apply Kd.R_drewN | apply Kd.R_drew)); exact Kd.R_mono HO210.out (fun _ hk => ⟨⟨hk.1.1.2, hk.1.2⟩, hk.2⟩)) hg hat)).2.1)))
                  have n7_ := zpS (ho)
                  clear HO207
                  clear HO210
                  clear HO232
                  clear HB
                  clear HR214
                  clear HR225
                  clear HR236
                  clear HO221
                  have HO207 := n0_
                  have HO210 := n1_
                  have HO232 := n2_
                  have HB := n3_
                  have HR214 := n4_
                  have HR225 := n5_
                  have HR236 := n6_
                  have HO228 := n7_
                  clear n0_ n1_ n2_ n3_ n4_ n5_ n6_ n7_
                  clear ho hb hg hat
                  refine hK.out _ _ ⟨HS0_, HS1_, HS2_, HS3_⟩ (fun hHeld => ?_)
                  clear hK K
                  refine zaN (a' := ?_) ?_ ?_
                  rotate_left
                  ·show Act.put _ (some 64) _ = _
                   simp only [Act.put, List.setIfInBounds_toArray, List.set_cons_zero, List.set_cons_succ, zcM, ziJ]
                   rfl
                  exact zaN (by simp only [putAll, Act.put, List.setIfInBounds_toArray, List.set_cons_zero, List.set_cons_succ]) (hCont (v220, v227, v231) _ ⟨hHeld, (by (with_reducible repeat (first | apply Kd.R_alloc | apply Kd.R_drewN | apply Kd.R_drew)); exact Kd.R_mono HO207.out (fun _ hk => ⟨hk.1.1, ⟨hk.2, hk.1.2⟩⟩)), (by (with_reducible repeat (first | apply Kd.R_alloc | apply Kd.R_drewN | apply Kd.R_drew)); exact Kd.R_mono HO210.out (fun _ hk => ⟨hk.1.1, ⟨hk.2, hk.1.2⟩⟩)), (by (with_reducible repeat (first | apply Kd.R_alloc | apply Kd.R_drewN | apply Kd.R_drew)); exact HO228.out), (by (with_reducible repeat (first | apply Kd.R_alloc | apply Kd.R_drewN | apply Kd.R_drew)); exact Kd.R_mono HO232.out (fun _ hk => ⟨hk.1.1, ⟨hk.1.2, hk.2⟩⟩)), (by repeat (first | (with_reducible exact HR225.out) | (with_reducible refine Kd.C_alloc ?_ _) | (with_reducible refine Kd.C_drewN ?_ _) | (with_reducible refine Kd.C_drew ?_) | exact HR225.out)), (by repeat (first | (with_reducible exact HR236.out) | (with_reducible refine Kd.C_alloc ?_ _) | (with_reducible refine Kd.C_drewN ?_ _) | (with_reducible refine Kd.C_drew ?_) | exact HR236.out)), bb_⟩)
                rintro ⟨v220, v227, v231⟩ w39 ⟨hS_, h0_, h1_, h2_, h3_, h4_, h5_, h6_⟩
                have n0_ : Aside0 (Kd.R (Kd.int .i64) 2 w39 w.heap.size (fun k_ => some k_ ≠ (.slice (some ad229) t208.length co29 : Value).ownBlock ∧ some k_ ≠ (v227 : Value).ownBlock ∧ some k_ ≠ (v231 : Value).ownBlock) (.slice (some ad216) t205.length co31) t205) := ⟨h0_⟩
                have n1_ : Aside0 (Kd.R (Kd.int .i64) 2 w39 w.heap.size (fun k_ => some k_ ≠ (.slice (some ad216) t205.length co31 : Value).ownBlock ∧ some k_ ≠ (v227 : Value).ownBlock ∧ some k_ ≠ (v231 : Value).ownBlock) (.slice (some ad229) t208.length co29) t208) := ⟨h1_⟩
                have n2_ : Aside0 (Kd.R (Kd.int .i64) 2 w39 w.heap.size (fun k_ => some k_ ≠ (.slice (some ad216) t205.length co31 : Value).ownBlock ∧ some k_ ≠ (.slice (some ad229) t208.length co29 : Value).ownBlock ∧ some k_ ≠ (v231 : Value).ownBlock) v227 y226) := ⟨h2_⟩
                have n3_ : Aside0 (Kd.R (Kd.int .i64) 2 w39 w.heap.size (fun k_ => some k_ ≠ (.slice (some ad216) t205.length co31 : Value).ownBlock ∧ some k_ ≠ (.slice (some ad229) t208.length co29 : Value).ownBlock ∧ some k_ ≠ (v227 : Value).ownBlock) v231 y230) := ⟨h3_⟩
                have n4_ : Aside0 (Kd.C (Kd.int .i64) w39 A32 y222.length y222) := ⟨h4_⟩
                have n5_ : Aside0 (Kd.C (Kd.int .i64) w39 A33 y233.length y233) := ⟨h5_⟩
                have n6_ : Aside0 (Below w.heap.size w w39) := ⟨h6_⟩
                clear HO207
                clear HO210
                clear HR214
                clear HB
                clear h0_ h1_ h2_ h3_ h4_ h5_ h6_
                have HO207 := n0_
                have HO210 := n1_
                have HO228 := n2_
                have HO232 := n3_
                have HR225 := n4_
                have HR236 := n5_
                have HB := n6_
                clear n0_ n1_ n2_ n3_ n4_ n5_ n6_
                have hHeld : w39.cell? ad216 = some (.int .i64 (rd t205 0)) ∧ w39.cell? ⟨ad216.block, ad216.off + 1, none⟩ = some (.int .i64 (rd t205 1)) ∧ w39.cell? (ad216.add ((ji15)).toNat) = some (.int .i64 (rd t205 (ji15))) ∧ w39.cell? ad229 = some (.int .i64 (rd t208 0)) := hS_
                refine zaN (a' := ?_) ?_ ?_
                rotate_left
                ·simp only [putAll, Act.put, List.setIfInBounds_toArray, List.set_cons_zero, List.set_cons_succ]
                 rfl
                refine one_ (i := 27) (N := some 73) (bl_ 31 268435455) rfl rfl (zeO HT_.out (by kernel_rfl)) (by decide) (fun K hK => ?_)
                refine Kd.R_append_rows_step (Kd.int .i64) (w0 := w) w.heap.size (by rfl) (.tmp 68) (.tmp 72) 24 2 (.int .i64 0) 8 rfl Try.underlying24 info2 rfl (by decide) (by omega) v231 y230 y233 _ _ _ (fun k_ => some k_ ≠ (.slice (some ad216) t205.length co31 : Value).ownBlock ∧ some k_ ≠ (.slice (some ad229) t208.length co29 : Value).ownBlock ∧ some k_ ≠ (v227 : Value).ownBlock) (fun _ => False) rfl rfl ?aO ?aR (fun _ _ h => h) (fun _ h => h.elim) ?aF ?aB ?aS ?aL ?_
                (case aR => repeat (first | exact (by repeat (first | (with_reducible exact HR236.out) | (with_reducible refine Kd.C_alloc ?_ _) | (with_reducible refine Kd.C_drewN ?_ _) | (with_reducible refine Kd.C_drew ?_) | exact HR236.out)) | (with_reducible refine Kd.C_alloc ?_ _) | (with_reducible refine Kd.C_drewN ?_ _) | (with_reducible refine Kd.C_drew ?_)))
                (case aB => exact bb_)
                (case aF => exact (fun k_ hk => ⟨Kd.fresh' (Kd.R_lt (by (with_reducible repeat (first | apply Kd.R_alloc | apply Kd.R_drewN | apply Kd.R_drew)); exact HO207.out)) k_ hk, Kd.fresh' (Kd.R_lt (by (with_reducible repeat (first | apply Kd.R_alloc | apply Kd.R_drewN | apply Kd.R_drew)); exact HO210.out)) k_ hk, Kd.fresh' (Kd.R_lt (by (with_reducible repeat (first | apply Kd.R_alloc | apply Kd.R_drewN | apply Kd.R_drew)); exact HO228.out)) k_ hk⟩))
                (case aO => exact (by (with_reducible repeat (first | apply Kd.R_alloc | apply Kd.R_drewN | apply Kd.R_drew)); exact HO232.out))
                (case aS => exact (zuA bb_))
                (case aL => have := LMc25.out; omega)
                intro v238 w40 ho hb hg hat
                have HS0_ := zmX hg (hHeld.1) (by (first | rw [zhT] | (show some (Addr.add _ _).block ≠ _; rw [zhT]) | skip); have h_ := HO207.out.1 _ rfl; revert h_; (try simp only [and_imp]); intros; assumption)
                have HS1_ := zmX hg (hHeld.2.1) (by (first | rw [zhT] | (show some (Addr.add _ _).block ≠ _; rw [zhT]) | skip); have h_ := HO207.out.1 _ rfl; revert h_; (try simp only [and_imp]); intros; assumption)
                have HS2_ := zmX hg (hHeld.2.2.1) (by (first | rw [zhT] | (show some (Addr.add _ _).block ≠ _; rw [zhT]) | skip); have h_ := HO207.out.1 _ rfl; revert h_; (try simp only [and_imp]); intros; assumption)
                have HS3_ := zmX hg (hHeld.2.2.2) (by (first | rw [zhT] | (show some (Addr.add _ _).block ≠ _; rw [zhT]) | skip); have h_ := HO210.out.1 _ rfl; revert h_; (try simp only [and_imp]); intros; assumption)
                rw [← Ny237.out] at ho
                have n0_ := zpS (Kd.R_after (ok := (fun k_ => some k_ ≠ (.slice (some ad229) t208.length co29 : Value).ownBlock ∧ some k_ ≠ (v227 : Value).ownBlock)) (by (with_reducible repeat (first | apply Kd.R_alloc | apply Kd.R_drewN | apply Kd.R_drew)); exact Kd.R_mono HO207.out (fun _ hk => ⟨⟨hk.1, hk.2.1⟩, hk.2.2⟩)) hg hat)
                have n1_ := zpS (Kd.R_after (ok := (fun k_ => some k_ ≠ (.slice (some ad216) t205.length co31 : Value).ownBlock ∧ some k_ ≠ (v227 : Value).ownBlock)) (by (with_reducible repeat (first | apply Kd.R_alloc | apply Kd.R_drewN | apply Kd.R_drew)); exact Kd.R_mono HO210.out (fun _ hk => ⟨⟨hk.1, hk.2.1⟩, hk.2.2⟩)) hg hat)
                have n2_ := zpS (Kd.R_after (ok := (fun k_ => some k_ ≠ (.slice (some ad216) t205.length co31 : Value).ownBlock ∧ some k_ ≠ (.slice (some ad229) t208.length co29 : Value).ownBlock)) (by (with_reducible repeat (first | apply Kd.R_alloc | apply Kd.R_drewN | apply Kd.R_drew)); exact Kd.R_mono HO228.out (fun _ hk => ⟨⟨hk.1, hk.2.1⟩, hk.2.2⟩)) hg hat)
                have n3_ := zpS (hb)
                have n4_ := zpS ((show Kd.C (Kd.int .i64) w40 A32 y222.length y222 from by rw [Ny222.out, KA32.out]; exact Kd.C_drop (m := ((ji18) : Int).toNat) (c := co31) ((Kd.R_reads' (Kd.R_after (ok := (fun k_ => some k_ ≠ (.slice (some ad229) t208.length co29 : Value).ownBlock ∧ some k_ ≠ (v227 : Value).ownBlock)) (by (with_reducible repeat (first | apply Kd.R_alloc | apply Kd.R_drewN | apply Kd.R_drew)); exact Kd.R_mono HO207.out (fun _ hk => ⟨⟨hk.1, hk.2.1⟩, hk.2.2⟩)) hg hat)).2.2) KL32.out ((Kd.R_reads' (Kd.R_after (ok := (fun k_ => some k_ ≠ (.slice (some ad229) t208.length co29 : Value).ownBlock ∧ some k_ ≠ (v227 : Value).ownBlock)) (by (with_reducible repeat (first | apply Kd.R_alloc | apply Kd.R_drewN | apply Kd.R_drew)); exact Kd.R_mono HO207.out (fun _ hk => ⟨⟨hk.1, hk.2.1⟩, hk.2.2⟩)) hg hat)).2.1)))
                have n5_ := zpS ((show Kd.C (Kd.int .i64) w40 A33 y233.length y233 from by rw [Ny233.out, KA33.out]; exact Kd.C_drop (m := ((ji18) : Int).toNat) (c := co29) ((Kd.R_reads' (Kd.R_after (ok := (fun k_ => some k_ ≠ (.slice (some ad216) t205.length co31 : Value).ownBlock ∧ some k_ ≠ (v227 : Value).ownBlock)) (by (with_reducible repeat (first | apply Kd.R_alloc | apply Kd.R_drewN | apply Kd.R_drew)); exact Kd.R_mono HO210.out (fun _ hk => ⟨⟨hk.1, hk.2.1⟩, hk.2.2⟩)) hg hat)).2.2) KL33.out ((Kd.R_reads' (Kd.R_after (ok := (fun k_ => some k_ ≠ (.slice (some ad216) t205.length co31 : Value).ownBlock ∧ some k_ ≠ (v227 : Value).ownBlock)) (by (with_reducible repeat (first | apply Kd.R_alloc | apply Kd.R_drewN | apply Kd.R_drew)); exact Kd.R_mono HO210.out (fun _ hk => ⟨⟨hk.1, hk.2.1⟩, hk.2.2⟩)) hg hat)).2.1)))
                have n6_ := zpS (ho)
                clear HO207
                clear HO210
                clear HO228
                clear HB
                clear HR225
                clear HR236
                clear HO232
                have HO207 := n0_
                have HO210 := n1_
                have HO228 := n2_
                have HB := n3_
                have HR225 := n4_
                have HR236 := n5_
                have HO239 := n6_
                clear n0_ n1_ n2_ n3_ n4_ n5_ n6_
                clear ho hb hg hat
                refine hK.out _ _ ⟨HS0_, HS1_, HS2_, HS3_⟩ (fun hHeld => ?_)
                clear hK K
                refine zaN (a' := ?_) ?_ ?_
                rotate_left
                ·show Act.put _ (some 73) _ = _
                 simp only [Act.put, List.setIfInBounds_toArray, List.set_cons_zero, List.set_cons_succ, zcM, ziJ]
                 rfl
                refine pu_ 28 (some 4) (bl_ 31 536870911) ?_
                refine pu_ 29 (some 5) (bl_ 31 1073741823) ?_
                refine pu_ 30 (some 6) (bl_ 31 2147483647) ?_
                refine done_ (done_of HT_.out (by kernel_rfl)) ?_
                try go_wp2
                go_ret3
                exact ⟨_, _, by first | rfl | (simp [ziS, znJ] <;> rfl) | (simp only [← hji15, ← hji18]; first | rfl | (simp [ziS, znJ] <;> rfl)) | (simp [*, ziS, znJ] <;> rfl), by (with_reducible repeat (first | apply Kd.R_alloc | apply Kd.R_drewN | apply Kd.R_drew)); exact Kd.R_mono HO228.out (fun _ hk => hk.2), by (with_reducible repeat (first | apply Kd.R_alloc | apply Kd.R_drewN | apply Kd.R_drew)); exact Kd.R_mono HO239.out (fun _ hk => hk.2.2), bb_⟩
               ·rw [if_neg c25] at H
                exact absurd H (by simp)
              ·rw [if_neg c22] at H
               exact absurd H (by simp)
             ·rw [if_neg c21] at H
              exact absurd H (by simp)
            ·rw [if_neg c20] at H
             exact absurd H (by simp)
           ·rw [if_neg c19] at H
            exact absurd H (by simp)
          ·rw [if_neg c17] at H
           exact absurd H (by simp)
         ·rw [if_neg c16] at H
          exact absurd H (by simp)
        ·rw [if_neg c14] at H
         exact absurd H (by simp)
       ·rw [if_neg c13] at H
        exact absurd H (by simp)
      ·rw [if_neg c12] at H
       have c12b0 : (t215 == 0) = false := beq_eq_false_iff_ne.mpr c12
       have c12b1 : (t215 != 0) = true := bne_iff_ne.mpr c12
       simp only [Option.some.injEq, Prod.mk.injEq] at H
       obtain ⟨rfl, rfl, rfl⟩ := H
       go_enter Try.func40, Try.ntmps40
       go_wp2_with (first | ((with_reducible refine zgM (f := 43) rfl ?_); refine zqQ (some 17) rfl rfl Try.func43 (by kernel_rfl) rfl #[.slice A0 l0.length c0] rfl (by (try simp only [List.map_toArray, List.map_cons, List.map_nil]); first | done | rfl | (simp only [List.length_drop, List.length_take]; rfl)) ?_; (with_reducible refine (zgR.calls k _ _ l0 t203 t204 _ ?side1 ?side2 A3.out).mono ?_); (case side1 => repeat (first | exact HR0.out | (with_reducible refine Kd.C_alloc ?_ _) | (with_reducible refine Kd.C_drewN ?_ _) | (with_reducible refine Kd.C_drew ?_))); (case side2 => exact HC0.out); rintro e w' ⟨rfl, ⟨nd, rfl⟩⟩; refine ⟨_, rfl, ?_⟩) | ((with_reducible refine zgM (f := 26) rfl ?_); refine zqQ (some 32) rfl rfl Try.func26 (by kernel_rfl) rfl #[.slice A0 l0.length c0, .int .i64 (Int.tmod (wrap64 ((wrap64 (t203 + (l0.length : Int))) - 1)) (l0.length : Int))] rfl (by (try simp only [List.map_toArray, List.map_cons, List.map_nil]); first | done | rfl | (simp only [List.length_drop, List.length_take]; rfl)) ?_; (with_reducible refine (zrU.calls _ _ l0 (Int.tmod (wrap64 ((wrap64 (t203 + (l0.length : Int))) - 1)) (l0.length : Int)) t205 _ ?side1 ?side2 A6.out).mono ?_); (case side1 => repeat (first | exact HR0.out | (with_reducible refine Kd.C_alloc ?_ _) | (with_reducible refine Kd.C_drewN ?_ _) | (with_reducible refine Kd.C_drew ?_))); (case side2 => exact HC0.out); rintro e w41 ⟨v206, rfl, ho0, hb⟩; refine ⟨_, rfl, ?_⟩; have n0_ := zpS (Kd.R_lower ho0 (zuA bb_)); have n1_ := (ns_ hb); clear HB; have HO207 := n0_; have HB := n1_; clear n0_ n1_; (try clear hb); (try clear hb2); (try clear ho0)) | ((with_reducible refine zgM (f := 26) rfl ?_); refine zqQ (some 35) rfl rfl Try.func26 (by kernel_rfl) rfl #[.slice A1 l1.length c1, .int .i64 (Int.tmod (wrap64 ((wrap64 (t203 + (l0.length : Int))) - 1)) (l0.length : Int))] rfl (by (try simp only [List.map_toArray, List.map_cons, List.map_nil]); first | done | rfl | (simp only [List.length_drop, List.length_take]; rfl)) ?_; (with_reducible refine (zrU.calls _ _ l1 (Int.tmod (wrap64 ((wrap64 (t203 + (l0.length : Int))) - 1)) (l0.length : Int)) t208 _ ?side1 ?side2 A7.out).mono ?_); (case side1 => repeat (first | exact (Kd.C_below HR1.out HB.out) | (with_reducible refine Kd.C_alloc ?_ _) | (with_reducible refine Kd.C_drewN ?_ _) | (with_reducible refine Kd.C_drew ?_))); (case side2 => exact HC1.out); rintro e w42 ⟨v209, rfl, ho0, hb⟩; refine ⟨_, rfl, ?_⟩; have n0_ := zpS (Kd.R_elder' (by (with_reducible repeat (first | apply Kd.R_alloc | apply Kd.R_drewN | apply Kd.R_drew)); exact HO207.out) (Kd.R_base ho0) hb); have n1_ := zpS (Kd.R_lower (Kd.R_new' ho0 (Kd.R_lt (by (with_reducible repeat (first | apply Kd.R_alloc | apply Kd.R_drewN | apply Kd.R_drew)); exact HO207.out))) (zuA bb_)); have n2_ := (ns_ hb); clear HO207; clear HB; have HO207 := n0_; have HO210 := n1_; have HB := n2_; clear n0_ n1_ n2_; (try clear hb); (try clear hb2); (try clear ho0); obtain ⟨Ao44, co44, eo44⟩ := Kd.R_slice HO210.out; subst eo44; have q43 : ((wrap64 (t204 + 2)) : Int) ≤ ((t208.length : Int) : Int) := of_decide_eq_true (by first | (with_reducible assumption) | assumption); obtain ⟨i043, hi043, _, hsz43, _⟩ := info_parts info2; have hroom43 : t208.length ≤ co44 := (Kd.R_reads' HO210.out).2.1; have hC43 : Kd.C (Kd.int .i64) _ Ao44 t208.length t208 := (Kd.R_reads' HO210.out).2.2; have ql43 : (1 : Int) ≤ ((wrap64 (t204 + 2)) : Int) := of_decide_eq_true (by first | (with_reducible assumption) | assumption); have hcut43 := cut_mid (P := Try.prog) 24 2 .i64 .i64 Try.underlying24 hi043 1 hsz43 Ao44 t208.length co44 1 (wrap64 (t204 + 2)) (by omega) ql43 q43 hroom43; have hr43 := Kd.C_mid (lo := (1 : Int).toNat) (hi := ((wrap64 (t204 + 2)) : Int).toNat) (c := co44) hC43 (by omega) (by omega) hroom43; obtain ⟨A43, hA43⟩ : ∃ A1, A1 = (if co44 = (1 : Int).toNat then Ao44 else (Ao44 : Option Addr).map (·.add ((1 : Int).toNat * 1))) := ⟨_, rfl⟩; obtain ⟨c43, hc43⟩ : ∃ c1, c1 = co44 - (1 : Int).toNat := ⟨_, rfl⟩; have hy43 : y211.length = ((wrap64 (t204 + 2)) : Int).toNat - (1 : Int).toNat := (by rw [Ny211.out, List.length_drop, List.length_take] <;> omega); rw [show ((t208).take ((wrap64 (t204 + 2)) : Int).toNat).drop (1 : Int).toNat = y211 from Ny211.out.symm] at hr43; replace hr43 : Kd.C (Kd.int .i64) _ A43 y211.length y211 := (by rw [hA43]; exact hr43); rw [← hy43, ← hA43, ← hc43] at hcut43; have HR214 := zpS hr43; have HC214 := zpS (show y211.length ≤ c43 from by rw [hy43, hc43]; exact Nat.sub_le_sub_right (Nat.le_trans (by omega) hroom43) _); clear hr43 hC43 hroom43 hi043 hsz43 hc43; have KY43 := zpS hy43; have KA43 := zpS hA43; clear hy43 hA43; have KL43 := zpS (show ((wrap64 (t204 + 2)) : Int).toNat ≤ t208.length from by omega); have KM43 := zpS (show 1 ≤ ((wrap64 (t204 + 2)) : Int).toNat from by omega); replace q43 := eq_true q43) | ((with_reducible refine zgM (f := 41) rfl ?_); refine zqQ (some 40) rfl rfl Try.func41 (by kernel_rfl) rfl #[.slice A43 y211.length c43] rfl (by (try simp only [List.map_toArray, List.map_cons, List.map_nil]); first | done | rfl | (simp only [List.length_drop, List.length_take]; rfl)) ?_; (with_reducible refine (ziN.calls k _ _ y211 t215 _ ?side1 ?side2 A10.out).mono ?_); (case side1 => repeat (first | exact (by repeat (first | (with_reducible exact HR214.out) | (with_reducible refine Kd.C_alloc ?_ _) | (with_reducible refine Kd.C_drewN ?_ _) | (with_reducible refine Kd.C_drew ?_) | exact HR214.out)) | (with_reducible refine Kd.C_alloc ?_ _) | (with_reducible refine Kd.C_drewN ?_ _) | (with_reducible refine Kd.C_drew ?_))); (case side2 => exact HC214.out); rintro e w' ⟨rfl, ⟨nd, rfl⟩⟩; refine ⟨_, rfl, ?_⟩))
       go_ret3
       exact ⟨_, _, by first | rfl | (simp [ziS, znJ] <;> rfl) | (simp [*, ziS, znJ] <;> rfl), by first | exact Kd.R_nil _ _ _ _ _ | exact Kd.N_nil _ _ _ _ _ | exact Kd.V_nil _ _ _ _ _ | exact Kd.Q_nil _ _ _ _ _ | exact Kd.S_nil _ _ _ _ _, by first | exact Kd.R_nil _ _ _ _ _ | exact Kd.N_nil _ _ _ _ _ | exact Kd.V_nil _ _ _ _ _ | exact Kd.Q_nil _ _ _ _ _ | exact Kd.S_nil _ _ _ _ _, bb_⟩
     ·rw [if_neg c11] at H
      have c11b0 : ((Int.tmod t204 2) == 1) = false := beq_eq_false_iff_ne.mpr c11
      have c11b1 : ((Int.tmod t204 2) != 1) = true := bne_iff_ne.mpr c11
      have HC45 := zpS H
      clear H
      go_enter Try.func40, Try.ntmps40
      go_upto_if 75 with (first | ((with_reducible refine zgM (f := 43) rfl ?_); refine zqQ (some 17) rfl rfl Try.func43 (by kernel_rfl) rfl #[.slice A0 l0.length c0] rfl (by (try simp only [List.map_toArray, List.map_cons, List.map_nil]); first | done | rfl | (simp only [List.length_drop, List.length_take]; rfl)) ?_; (with_reducible refine (zgR.calls k _ _ l0 t203 t204 _ ?side1 ?side2 A3.out).mono ?_); (case side1 => repeat (first | exact HR0.out | (with_reducible refine Kd.C_alloc ?_ _) | (with_reducible refine Kd.C_drewN ?_ _) | (with_reducible refine Kd.C_drew ?_))); (case side2 => exact HC0.out); rintro e w' ⟨rfl, ⟨nd, rfl⟩⟩; refine ⟨_, rfl, ?_⟩) | ((with_reducible refine zgM (f := 26) rfl ?_); refine zqQ (some 32) rfl rfl Try.func26 (by kernel_rfl) rfl #[.slice A0 l0.length c0, .int .i64 (Int.tmod (wrap64 ((wrap64 (t203 + (l0.length : Int))) - 1)) (l0.length : Int))] rfl (by (try simp only [List.map_toArray, List.map_cons, List.map_nil]); first | done | rfl | (simp only [List.length_drop, List.length_take]; rfl)) ?_; (with_reducible refine (zrU.calls _ _ l0 (Int.tmod (wrap64 ((wrap64 (t203 + (l0.length : Int))) - 1)) (l0.length : Int)) t205 _ ?side1 ?side2 A6.out).mono ?_); (case side1 => repeat (first | exact HR0.out | (with_reducible refine Kd.C_alloc ?_ _) | (with_reducible refine Kd.C_drewN ?_ _) | (with_reducible refine Kd.C_drew ?_))); (case side2 => exact HC0.out); rintro e w46 ⟨v206, rfl, ho0, hb⟩; refine ⟨_, rfl, ?_⟩; have n0_ := zpS (Kd.R_lower ho0 (zuA bb_)); have n1_ := (ns_ hb); clear HB; have HO207 := n0_; have HB := n1_; clear n0_ n1_; (try clear hb); (try clear hb2); (try clear ho0)) | ((with_reducible refine zgM (f := 26) rfl ?_); refine zqQ (some 35) rfl rfl Try.func26 (by kernel_rfl) rfl #[.slice A1 l1.length c1, .int .i64 (Int.tmod (wrap64 ((wrap64 (t203 + (l0.length : Int))) - 1)) (l0.length : Int))] rfl (by (try simp only [List.map_toArray, List.map_cons, List.map_nil]); first | done | rfl | (simp only [List.length_drop, List.length_take]; rfl)) ?_; (with_reducible refine (zrU.calls _ _ l1 (Int.tmod (wrap64 ((wrap64 (t203 + (l0.length : Int))) - 1)) (l0.length : Int)) t208 _ ?side1 ?side2 A7.out).mono ?_); (case side1 => repeat (first | exact (Kd.C_below HR1.out HB.out) | (with_reducible refine Kd.C_alloc ?_ _) | (with_reducible refine Kd.C_drewN ?_ _) | (with_reducible refine Kd.C_drew ?_))); (case side2 => exact HC1.out); rintro e w47 ⟨v209, rfl, ho0, hb⟩; refine ⟨_, rfl, ?_⟩; have n0_ := zpS (Kd.R_elder' (by (with_reducible repeat (first | apply Kd.R_alloc | apply Kd.R_drewN | apply Kd.R_drew)); exact HO207.out) (Kd.R_base ho0) hb); have n1_ := zpS (Kd.R_lower (Kd.R_new' ho0 (Kd.R_lt (by (with_reducible repeat (first | apply Kd.R_alloc | apply Kd.R_drewN | apply Kd.R_drew)); exact HO207.out))) (zuA bb_)); have n2_ := (ns_ hb); clear HO207; clear HB; have HO207 := n0_; have HO210 := n1_; have HB := n2_; clear n0_ n1_ n2_; (try clear hb); (try clear hb2); (try clear ho0); obtain ⟨Ao49, co49, eo49⟩ := Kd.R_slice HO210.out; subst eo49; have q48 : ((wrap64 (t204 + 2)) : Int) ≤ ((t208.length : Int) : Int) := of_decide_eq_true (by first | (with_reducible assumption) | assumption); obtain ⟨i048, hi048, _, hsz48, _⟩ := info_parts info2; have hroom48 : t208.length ≤ co49 := (Kd.R_reads' HO210.out).2.1; have hC48 : Kd.C (Kd.int .i64) _ Ao49 t208.length t208 := (Kd.R_reads' HO210.out).2.2; have ql48 : (1 : Int) ≤ ((wrap64 (t204 + 2)) : Int) := of_decide_eq_true (by first | (with_reducible assumption) | assumption); have hcut48 := cut_mid (P := Try.prog) 24 2 .i64 .i64 Try.underlying24 hi048 1 hsz48 Ao49 t208.length co49 1 (wrap64 (t204 + 2)) (by omega) ql48 q48 hroom48; have hr48 := Kd.C_mid (lo := (1 : Int).toNat) (hi := ((wrap64 (t204 + 2)) : Int).toNat) (c := co49) hC48 (by omega) (by omega) hroom48; obtain ⟨A48, hA48⟩ : ∃ A1, A1 = (if co49 = (1 : Int).toNat then Ao49 else (Ao49 : Option Addr).map (·.add ((1 : Int).toNat * 1))) := ⟨_, rfl⟩; obtain ⟨c48, hc48⟩ : ∃ c1, c1 = co49 - (1 : Int).toNat := ⟨_, rfl⟩; have hy48 : y211.length = ((wrap64 (t204 + 2)) : Int).toNat - (1 : Int).toNat := (by rw [Ny211.out, List.length_drop, List.length_take] <;> omega); rw [show ((t208).take ((wrap64 (t204 + 2)) : Int).toNat).drop (1 : Int).toNat = y211 from Ny211.out.symm] at hr48; replace hr48 : Kd.C (Kd.int .i64) _ A48 y211.length y211 := (by rw [hA48]; exact hr48); rw [← hy48, ← hA48, ← hc48] at hcut48; have HR214 := zpS hr48; have HC214 := zpS (show y211.length ≤ c48 from by rw [hy48, hc48]; exact Nat.sub_le_sub_right (Nat.le_trans (by omega) hroom48) _); clear hr48 hC48 hroom48 hi048 hsz48 hc48; have KY48 := zpS hy48; have KA48 := zpS hA48; clear hy48 hA48; have KL48 := zpS (show ((wrap64 (t204 + 2)) : Int).toNat ≤ t208.length from by omega); have KM48 := zpS (show 1 ≤ ((wrap64 (t204 + 2)) : Int).toNat from by omega); replace q48 := eq_true q48) | ((with_reducible refine zgM (f := 41) rfl ?_); refine zqQ (some 40) rfl rfl Try.func41 (by kernel_rfl) rfl #[.slice A48 y211.length c48] rfl (by (try simp only [List.map_toArray, List.map_cons, List.map_nil]); first | done | rfl | (simp only [List.length_drop, List.length_take]; rfl)) ?_; (with_reducible refine (ziN.calls k _ _ y211 t215 _ ?side1 ?side2 A10.out).mono ?_); (case side1 => repeat (first | exact (by repeat (first | (with_reducible exact HR214.out) | (with_reducible refine Kd.C_alloc ?_ _) | (with_reducible refine Kd.C_drewN ?_ _) | (with_reducible refine Kd.C_drew ?_) | exact HR214.out)) | (with_reducible refine Kd.C_alloc ?_ _) | (with_reducible refine Kd.C_drewN ?_ _) | (with_reducible refine Kd.C_drew ?_))); (case side2 => exact HC214.out); rintro e w' ⟨rfl, ⟨nd, rfl⟩⟩; refine ⟨_, rfl, ?_⟩))
      (try simp only [Act.put, set_a_, set_b_, set_c_])
      go_cut [14] (fun v14 wc => ∃ (kq : Nat) (x14_44 : Int), v14 = .int .i64 x14_44 ∧ Aside0 (zgL.j0 kq t204 t205 t208 t215 x14_44 = some (r1, r2, r3)) ∧ Aside0 (kq ≤ k) ∧ Aside0 (Kd.R (Kd.int .i64) 2 wc w.heap.size (fun k_ => some k_ ≠ ((.slice Ao49 t208.length co49) : Value).ownBlock) v206 t205) ∧ Aside0 (Kd.R (Kd.int .i64) 2 wc w.heap.size (fun k_ => some k_ ≠ (v206 : Value).ownBlock) (.slice Ao49 t208.length co49) t208) ∧ Aside0 (Below w.heap.size w wc))
      case first =>
       have H := HC45.out
       clear HC45
       by_cases c50 : t215 < 0
       ·rw [if_pos c50] at H
        have c50b0 : decide (t215 < 0) = true := decide_eq_true c50
        clear c50
        (first | rw [c50b0] | (simp only [zcM, ziJ]; rw [c50b0]) | skip)
        have H' := zpS H
        clear H
        go_wp2
        go_meet
        case rel => exact ⟨_, (3), (by first | rfl | (simp; done) | (simp [*]; done)), H', ⟨by first | omega | exact Nat.le_refl _⟩, ⟨by (with_reducible repeat (first | apply Kd.R_alloc | apply Kd.R_drewN | apply Kd.R_drew)); exact Kd.R_mono HO207.out (fun _ hk => hk.2)⟩, ⟨by (with_reducible repeat (first | apply Kd.R_alloc | apply Kd.R_drewN | apply Kd.R_drew)); exact Kd.R_mono HO210.out (fun _ hk => hk.2)⟩, ⟨bb_⟩⟩
       ·rw [if_neg c50] at H
        have c50b0 : decide (t215 < 0) = false := decide_eq_false c50
        clear c50
        (first | rw [c50b0] | (simp only [zcM, ziJ]; rw [c50b0]) | skip)
        have H' := zpS H
        clear H
        go_wp2
        go_meet
        case rel => exact ⟨_, (2), (by first | rfl | (simp; done) | (simp [*]; done)), H', ⟨by first | omega | exact Nat.le_refl _⟩, ⟨by (with_reducible repeat (first | apply Kd.R_alloc | apply Kd.R_drewN | apply Kd.R_drew)); exact Kd.R_mono HO207.out (fun _ hk => hk.2)⟩, ⟨by (with_reducible repeat (first | apply Kd.R_alloc | apply Kd.R_drewN | apply Kd.R_drew)); exact Kd.R_mono HO210.out (fun _ hk => hk.2)⟩, ⟨bb_⟩⟩
      case rest =>
       clear HC45
       try clear c1
       try clear c2
       try clear p2
       try clear c4
       try clear q4
       try clear c5
       try clear p6
       try clear c11
       try clear c11b0
       try clear c11b1
       try clear c12
       try clear c12b0
       try clear c12b1
       try clear c13
       try clear c14
       try clear c16
       try clear c17
       try clear c19
       try clear c20
       try clear c21
       try clear c22
       try clear c25
       try clear c26
       try clear c40
       try clear c41
       try clear c43
       try clear q43
       try clear c48
       try clear q48
       try clear c50
       try clear c50b0
       try clear q43
       try clear q48
       obtain ⟨kq, x14_44, rfl, HA, HJ44, HO_11, HO_12, HB⟩ := hcut
       cases kq with
       | zero => exact absurd HA.out (by simp [zgL.j0])
       | succ kj44 =>
        have H := HA.out
        clear HA
        simp only [zgL.j0] at H
        have HC51 := zpS H
        clear H
        go_upto_region 16 with (fail)
        go_cut [81] (fun v81 wc => ∃ (kq : Nat) (x81_50 : Bool), v81 = .bool x81_50 ∧ Aside0 (zgL.j1 kq t204 t205 t208 x14_44 x81_50 = some (r1, r2, r3)) ∧ Aside0 (kq ≤ kj44) ∧ Aside0 (Kd.R (Kd.int .i64) 2 wc w.heap.size (fun k_ => some k_ ≠ ((.slice Ao49 t208.length co49) : Value).ownBlock) v206 t205) ∧ Aside0 (Kd.R (Kd.int .i64) 2 wc w.heap.size (fun k_ => some k_ ≠ (v206 : Value).ownBlock) (.slice Ao49 t208.length co49) t208) ∧ Aside0 (Below w.heap.size w wc))
        case first =>
         have H := HC51.out
         clear HC51
         by_cases c52 : t215 = 1
         ·rw [if_pos c52] at H
          have c52b0 : (t215 == 1) = true := beq_iff_eq.mpr c52
          have c52b1 : (t215 != 1) = false := bne_eq_false_iff_eq.mpr c52
          clear c52
          (first | rw [c52b0] | (simp only [zcM, ziJ]; rw [c52b0]) | skip)
          have H' := zpS H
          clear H
          go_wp2
          go_meet
          case rel => exact ⟨_, (false), (by first | rfl | (simp; done) | (simp [*]; done)), H', ⟨by have := HJ44.out; first | omega | exact Nat.le_refl _⟩, ⟨by (with_reducible repeat (first | apply Kd.R_alloc | apply Kd.R_drewN | apply Kd.R_drew)); exact HO_11.out⟩, ⟨by (with_reducible repeat (first | apply Kd.R_alloc | apply Kd.R_drewN | apply Kd.R_drew)); exact HO_12.out⟩, ⟨bb_⟩⟩
         ·rw [if_neg c52] at H
          have c52b0 : (t215 == 1) = false := beq_eq_false_iff_ne.mpr c52
          have c52b1 : (t215 != 1) = true := bne_iff_ne.mpr c52
          (first | rw [c52b0] | (simp only [zcM, ziJ]; rw [c52b0]) | skip)
          have H' := zpS H
          clear H
          go_wp2
          go_meet
          case rel => exact ⟨_, ((t215 != (-1))), (by first | rfl | (simp; done) | (simp [*]; done)), H', ⟨by have := HJ44.out; first | omega | exact Nat.le_refl _⟩, ⟨by (with_reducible repeat (first | apply Kd.R_alloc | apply Kd.R_drewN | apply Kd.R_drew)); exact HO_11.out⟩, ⟨by (with_reducible repeat (first | apply Kd.R_alloc | apply Kd.R_drewN | apply Kd.R_drew)); exact HO_12.out⟩, ⟨bb_⟩⟩
        case rest =>
         clear HC51
         try clear c1
         try clear c2
         try clear p2
         try clear c4
         try clear q4
         try clear c5
         try clear p6
         try clear c11
         try clear c11b0
         try clear c11b1
         try clear c12
         try clear c12b0
         try clear c12b1
         try clear c13
         try clear c14
         try clear c16
         try clear c17
         try clear c19
         try clear c20
         try clear c21
         try clear c22
         try clear c25
         try clear c26
         try clear c40
         try clear c41
         try clear c43
         try clear q43
         try clear c48
         try clear q48
         try clear c50
         try clear c50b0
         try clear c52
         try clear c52b0
         try clear c52b1
         try clear p2
         try clear p6
         try clear q4
         try clear q43
         try clear q48
         obtain ⟨kq, x81_50, rfl, HA, HJ50, HO_11, HO_12, HB⟩ := hcut
         cases kq with
         | zero => exact absurd HA.out (by simp [zgL.j1])
         | succ kj50 =>
          have H := HA.out
          clear HA
          simp only [zgL.j1] at H
          by_cases c53 : x81_50 = true
          ·subst c53
           have H1 : (some (([] : List Int), ([] : List Int), 8)) = some (r1, r2, r3) := by rw [if_pos rfl] at H; exact H
           clear H
           have H := H1
           clear H1
           simp only [Option.some.injEq, Prod.mk.injEq] at H
           obtain ⟨rfl, rfl, rfl⟩ := H
           go_wp2
           go_ret3
           exact ⟨_, _, by first | rfl | (simp [ziS, znJ] <;> rfl) | (simp [*, ziS, znJ] <;> rfl), by first | exact Kd.R_nil _ _ _ _ _ | exact Kd.N_nil _ _ _ _ _ | exact Kd.V_nil _ _ _ _ _ | exact Kd.Q_nil _ _ _ _ _ | exact Kd.S_nil _ _ _ _ _, by first | exact Kd.R_nil _ _ _ _ _ | exact Kd.N_nil _ _ _ _ _ | exact Kd.V_nil _ _ _ _ _ | exact Kd.Q_nil _ _ _ _ _ | exact Kd.S_nil _ _ _ _ _, bb_⟩
          ·replace c53 := Bool.eq_false_iff.mpr c53
           subst c53
           have H1 : (if 0 < (t205.length : Int) then ((some (([rd t205 0] : List Int) : List Int)).bind fun y241 => (if 0 ≤ (wrap64 (t204 + 1)) then (if (wrap64 (t204 + 1)) ≤ (t205.length : Int) then ((some (t205.drop ((wrap64 (t204 + 1)) : Int).toNat : List Int)).bind fun y244 => (if y241.length + y244.length < 17592186044416 then (if 0 < (t208.length : Int) then ((some (([rd t208 0, x14_44] : List Int) : List Int)).bind fun y252 => (if 0 ≤ (wrap64 (t204 + 2)) then (if (wrap64 (t204 + 2)) ≤ (t208.length : Int) then ((some (t208.drop ((wrap64 (t204 + 2)) : Int).toNat : List Int)).bind fun y255 => (if y252.length + y255.length < 17592186044416 then (some ((y241 ++ y244), (y252 ++ y255), 0)) else (none))) else (none)) else (none))) else (none)) else (none))) else (none)) else (none))) else (none)) = some (r1, r2, r3) := by rw [if_neg (show ¬ (false = true) by decide)] at H; exact H
           clear H
           have H := H1
           clear H1
           by_cases c54 : 0 < (t205.length : Int)
           ·rw [if_pos c54] at H
            have c54b0 : decide (0 < (t205.length : Int)) = true := decide_eq_true c54
            have c54b1 : decide (0 < t205.length) = true := decide_eq_true (by omega)
            clear c54
            obtain ⟨y241, hy241⟩ : ∃ y_ : List Int, y_ = (([rd t205 0] : List Int)) := ⟨_, rfl⟩
            replace H : (if 0 ≤ (wrap64 (t204 + 1)) then (if (wrap64 (t204 + 1)) ≤ (t205.length : Int) then ((some (t205.drop ((wrap64 (t204 + 1)) : Int).toNat : List Int)).bind fun y244 => (if y241.length + y244.length < 17592186044416 then (if 0 < (t208.length : Int) then ((some (([rd t208 0, x14_44] : List Int) : List Int)).bind fun y252 => (if 0 ≤ (wrap64 (t204 + 2)) then (if (wrap64 (t204 + 2)) ≤ (t208.length : Int) then ((some (t208.drop ((wrap64 (t204 + 2)) : Int).toNat : List Int)).bind fun y255 => (if y252.length + y255.length < 17592186044416 then (some ((y241 ++ y244), (y252 ++ y255), 0)) else (none))) else (none)) else (none))) else (none)) else (none))) else (none)) else (none)) = some (r1, r2, r3) := by first | (rw [hy241]; with_reducible exact H) | (have H2_ := (Option.bind_some _ _).symm.trans H; rw [hy241]; with_reducible exact H2_) | (have H2_ := (Option.bind_some _ _).symm.trans H; with_reducible exact H2_) | with_reducible exact H | (rw [hy241]; exact H) | exact H
            have Ny241 := zpS hy241
            clear hy241
            obtain ⟨ji55, hji55⟩ : ∃ j_ : Int, (wrap64 (t204 + 1)) = j_ := ⟨_, rfl⟩
            replace H : (if 0 ≤ (ji55) then (if (ji55) ≤ (t205.length : Int) then ((some (t205.drop ((ji55) : Int).toNat : List Int)).bind fun y244 => (if y241.length + y244.length < 17592186044416 then (if 0 < (t208.length : Int) then ((some (([rd t208 0, x14_44] : List Int) : List Int)).bind fun y252 => (if 0 ≤ (wrap64 (t204 + 2)) then (if (wrap64 (t204 + 2)) ≤ (t208.length : Int) then ((some (t208.drop ((wrap64 (t204 + 2)) : Int).toNat : List Int)).bind fun y255 => (if y252.length + y255.length < 17592186044416 then (some ((y241 ++ y244), (y252 ++ y255), 0)) else (none))) else (none)) else (none))) else (none)) else (none))) else (none)) else (none)) = some (r1, r2, r3) := by first | (rw [hji55] at H; exact H) | (simp only [hji55] at H ⊢; exact H)
            have hji55w : (IntKind.i64.wrap (t204 + 1)) = ji55 := (zcM _).trans hji55
            by_cases c56 : 0 ≤ (ji55)
            ·rw [if_pos c56] at H
             have c56b0 := eq_true c56
             have c56b1 : decide (0 ≤ (ji55)) = true := decide_eq_true c56
             clear c56
             by_cases c57 : (ji55) ≤ (t205.length : Int)
             ·rw [if_pos c57] at H
              have c57b0 := eq_true c57
              have c57b1 : decide ((ji55) ≤ (t205.length : Int)) = true := decide_eq_true c57
              clear c57
              obtain ⟨y244, hy244⟩ : ∃ y_ : List Int, y_ = (t205.drop ((ji55) : Int).toNat) := ⟨_, rfl⟩
              replace H : (if y241.length + y244.length < 17592186044416 then (if 0 < (t208.length : Int) then ((some (([rd t208 0, x14_44] : List Int) : List Int)).bind fun y252 => (if 0 ≤ (wrap64 (t204 + 2)) then (if (wrap64 (t204 + 2)) ≤ (t208.length : Int) then ((some (t208.drop ((wrap64 (t204 + 2)) : Int).toNat : List Int)).bind fun y255 => (if y252.length + y255.length < 17592186044416 then (some ((y241 ++ y244), (y252 ++ y255), 0)) else (none))) else (none)) else (none))) else (none)) else (none)) = some (r1, r2, r3) := by first | (rw [hy244]; with_reducible exact H) | (have H2_ := (Option.bind_some _ _).symm.trans H; rw [hy244]; with_reducible exact H2_) | (have H2_ := (Option.bind_some _ _).symm.trans H; with_reducible exact H2_) | with_reducible exact H | (rw [hy244]; exact H) | exact H
              have Ny244 := zpS hy244
              clear hy244
              by_cases c58 : y241.length + y244.length < 17592186044416
              ·rw [if_pos c58] at H
               have LMc58 := zpS c58
               clear c58
               obtain ⟨y248, hy248⟩ : ∃ y_ : List Int, y_ = (y241 ++ y244) := ⟨_, rfl⟩
               replace H : (if 0 < (t208.length : Int) then ((some (([rd t208 0, x14_44] : List Int) : List Int)).bind fun y252 => (if 0 ≤ (wrap64 (t204 + 2)) then (if (wrap64 (t204 + 2)) ≤ (t208.length : Int) then ((some (t208.drop ((wrap64 (t204 + 2)) : Int).toNat : List Int)).bind fun y255 => (if y252.length + y255.length < 17592186044416 then (some (y248, (y252 ++ y255), 0)) else (none))) else (none)) else (none))) else (none)) = some (r1, r2, r3) := by first | (rw [hy248]; with_reducible exact H) | (have H2_ := (Option.bind_some _ _).symm.trans H; rw [hy248]; with_reducible exact H2_) | (have H2_ := (Option.bind_some _ _).symm.trans H; with_reducible exact H2_) | with_reducible exact H | (rw [hy248]; exact H) | exact H
               have Ny248 := zpS hy248
               clear hy248
               by_cases c59 : 0 < (t208.length : Int)
               ·rw [if_pos c59] at H
                have c59b0 : decide (0 < (t208.length : Int)) = true := decide_eq_true c59
                have c59b1 : decide (0 < t208.length) = true := decide_eq_true (by omega)
                clear c59
                obtain ⟨y252, hy252⟩ : ∃ y_ : List Int, y_ = (([rd t208 0, x14_44] : List Int)) := ⟨_, rfl⟩
                replace H : (if 0 ≤ (wrap64 (t204 + 2)) then (if (wrap64 (t204 + 2)) ≤ (t208.length : Int) then ((some (t208.drop ((wrap64 (t204 + 2)) : Int).toNat : List Int)).bind fun y255 => (if y252.length + y255.length < 17592186044416 then (some (y248, (y252 ++ y255), 0)) else (none))) else (none)) else (none)) = some (r1, r2, r3) := by first | (rw [hy252]; with_reducible exact H) | (have H2_ := (Option.bind_some _ _).symm.trans H; rw [hy252]; with_reducible exact H2_) | (have H2_ := (Option.bind_some _ _).symm.trans H; with_reducible exact H2_) | with_reducible exact H | (rw [hy252]; exact H) | exact H
                have Ny252 := zpS hy252
                clear hy252
                obtain ⟨ji60, hji60⟩ : ∃ j_ : Int, (wrap64 (t204 + 2)) = j_ := ⟨_, rfl⟩
                replace H : (if 0 ≤ (ji60) then (if (ji60) ≤ (t208.length : Int) then ((some (t208.drop ((ji60) : Int).toNat : List Int)).bind fun y255 => (if y252.length + y255.length < 17592186044416 then (some (y248, (y252 ++ y255), 0)) else (none))) else (none)) else (none)) = some (r1, r2, r3) := by first | (rw [hji60] at H; exact H) | (simp only [hji60] at H ⊢; exact H)
                (try rw [hji60] at c8b0)
                (try rw [hji60] at c8b1)
                (try rw [hji60] at c8)
                (try rw [hji60] at c9b0)
                (try rw [hji60] at c9b1)
                (try rw [hji60] at c9)
                have hji60w : (IntKind.i64.wrap (t204 + 2)) = ji60 := (zcM _).trans hji60
                by_cases c61 : 0 ≤ (ji60)
                ·rw [if_pos c61] at H
                 have c61b0 := eq_true c61
                 have c61b1 : decide (0 ≤ (ji60)) = true := decide_eq_true c61
                 clear c61
                 by_cases c62 : (ji60) ≤ (t208.length : Int)
                 ·rw [if_pos c62] at H
                  have c62b0 := eq_true c62
                  have c62b1 : decide ((ji60) ≤ (t208.length : Int)) = true := decide_eq_true c62
                  clear c62
                  obtain ⟨y255, hy255⟩ : ∃ y_ : List Int, y_ = (t208.drop ((ji60) : Int).toNat) := ⟨_, rfl⟩
                  replace H : (if y252.length + y255.length < 17592186044416 then (some (y248, (y252 ++ y255), 0)) else (none)) = some (r1, r2, r3) := by first | (rw [hy255]; with_reducible exact H) | (have H2_ := (Option.bind_some _ _).symm.trans H; rw [hy255]; with_reducible exact H2_) | (have H2_ := (Option.bind_some _ _).symm.trans H; with_reducible exact H2_) | with_reducible exact H | (rw [hy255]; exact H) | exact H
                  have Ny255 := zpS hy255
                  clear hy255
                  by_cases c63 : y252.length + y255.length < 17592186044416
                  ·rw [if_pos c63] at H
                   have LMc63 := zpS c63
                   clear c63
                   obtain ⟨y259, hy259⟩ : ∃ y_ : List Int, y_ = (y252 ++ y255) := ⟨_, rfl⟩
                   replace H : (some (y248, y259, 0)) = some (r1, r2, r3) := by first | (rw [hy259]; with_reducible exact H) | (have H2_ := (Option.bind_some _ _).symm.trans H; rw [hy259]; with_reducible exact H2_) | (have H2_ := (Option.bind_some _ _).symm.trans H; with_reducible exact H2_) | with_reducible exact H | (rw [hy259]; exact H) | exact H
                   have Ny259 := zpS hy259
                   clear hy259
                   simp only [Option.some.injEq, Prod.mk.injEq] at H
                   obtain ⟨rfl, rfl, rfl⟩ := H
                   try go_wp2
                   have n0_ := zpS (Kd.R_drew HO_11.out)
                   have n1_ := zpS (Kd.R_drew HO_12.out)
                   have n2_ := zpS (zvF HB.out)
                   clear HO_11
                   clear HO_12
                   clear HB
                   have HO_11 := n0_
                   have HO_12 := n1_
                   have HB := n2_
                   clear n0_ n1_ n2_
                   obtain ⟨Ao65, co65, eo65⟩ := Kd.R_slice HO_11.out
                   (first | subst eo65 | (injection eo65 with f1_ f2_ f3_; have f4_ := f1_.symm; have f5_ := f3_.symm; clear f1_ f2_ f3_; subst f4_; subst f5_))
                   have p240 : 0 ≤ (0 : Int) := (by omega)
                   have q240 : 0 < (t205.length : Int) := of_decide_eq_true (by first | (with_reducible assumption) | assumption)
                   obtain ⟨ad240, e240, hx240_0⟩ := Kd.at_int (Kd.R_reads' HO_11.out).2.2 0 p240 q240
                   cases e240
                   have qi240 : (0 < t205.length) = True := eq_true (by omega)
                   (try rw [show ((0 : Int)).toNat = 0 from rfl] at hx240_0)
                   (try rw [Addr.add_zero'] at hx240_0)
                   replace p240 := eq_true p240
                   replace q240 := eq_true q240
                   have q66 : ((ji55) : Int) ≤ ((t205.length : Int) : Int) := of_decide_eq_true (by first | (with_reducible assumption) | assumption)
                   obtain ⟨i066, hi066, _, hsz66, _⟩ := info_parts info2
                   have hroom66 : t205.length ≤ co65 := (Kd.R_reads' HO_11.out).2.1
                   have hC66 : Kd.C (Kd.int .i64) _ (some ad240) t205.length t205 := (Kd.R_reads' HO_11.out).2.2
                   have q066 : (0 : Int) ≤ ((ji55) : Int) := of_decide_eq_true (by first | (with_reducible assumption) | assumption)
                   have hcut66 := cut_from (P := Try.prog) 24 2 .i64 Try.underlying24 hi066 1 hsz66 (some ad240) t205.length co65 (ji55) q066 q66
                   have hr66 := Kd.C_drop (m := ((ji55) : Int).toNat) (c := co65) hC66 (by omega) hroom66
                   obtain ⟨A66, hA66⟩ : ∃ A1, A1 = (if co65 = ((ji55) : Int).toNat then (some ad240) else ((some ad240) : Option Addr).map (·.add (((ji55) : Int).toNat * 1))) := ⟨_, rfl⟩
                   obtain ⟨c66, hc66⟩ : ∃ c1, c1 = co65 - ((ji55) : Int).toNat := ⟨_, rfl⟩
                   have hy66 : y244.length = t205.length - ((ji55) : Int).toNat := (by rw [Ny244.out, List.length_drop] <;> omega)
                   rw [show (t205).drop ((ji55) : Int).toNat = y244 from Ny244.out.symm] at hr66
                   replace hr66 : Kd.C (Kd.int .i64) _ A66 y244.length y244 := (by rw [hA66]; exact hr66)
                   rw [← hy66, ← hA66, ← hc66] at hcut66
                   have HR247 := zpS hr66
                   have HC247 := zpS (show y244.length ≤ c66 from by rw [hy66, hc66]; exact Nat.sub_le_sub_right hroom66 _)
                   clear hr66 hC66 hroom66 hi066 hsz66 hc66
                   have KY66 := zpS hy66
                   have KA66 := zpS hA66
                   clear hy66 hA66
                   have KL66 := zpS (show ((ji55) : Int).toNat ≤ t205.length from by omega)
                   replace q66 := eq_true q66
                   have p251 : 0 ≤ (0 : Int) := (by omega)
                   have q251 : 0 < (t208.length : Int) := of_decide_eq_true (by first | (with_reducible assumption) | assumption)
                   obtain ⟨ad251, e251, hx251_0⟩ := Kd.at_int (Kd.R_reads' HO_12.out).2.2 0 p251 q251
                   cases e251
                   have qi251 : (0 < t208.length) = True := eq_true (by omega)
                   (try rw [show ((0 : Int)).toNat = 0 from rfl] at hx251_0)
                   (try rw [Addr.add_zero'] at hx251_0)
                   replace p251 := eq_true p251
                   replace q251 := eq_true q251
                   have q67 : ((ji60) : Int) ≤ ((t208.length : Int) : Int) := of_decide_eq_true (by first | (with_reducible assumption) | assumption)
                   obtain ⟨i067, hi067, _, hsz67, _⟩ := info_parts info2
                   have hroom67 : t208.length ≤ co49 := (Kd.R_reads' HO_12.out).2.1
                   have hC67 : Kd.C (Kd.int .i64) _ (some ad251) t208.length t208 := (Kd.R_reads' HO_12.out).2.2
                   have q067 : (0 : Int) ≤ ((ji60) : Int) := of_decide_eq_true (by first | (with_reducible assumption) | assumption)
                   have hcut67 := cut_from (P := Try.prog) 24 2 .i64 Try.underlying24 hi067 1 hsz67 (some ad251) t208.length co49 (ji60) q067 q67
                   have hr67 := Kd.C_drop (m := ((ji60) : Int).toNat) (c := co49) hC67 (by omega) hroom67
                   obtain ⟨A67, hA67⟩ : ∃ A1, A1 = (if co49 = ((ji60) : Int).toNat then (some ad251) else ((some ad251) : Option Addr).map (·.add (((ji60) : Int).toNat * 1))) := ⟨_, rfl⟩
                   obtain ⟨c67, hc67⟩ : ∃ c1, c1 = co49 - ((ji60) : Int).toNat := ⟨_, rfl⟩
                   have hy67 : y255.length = t208.length - ((ji60) : Int).toNat := (by rw [Ny255.out, List.length_drop] <;> omega)
                   rw [show (t208).drop ((ji60) : Int).toNat = y255 from Ny255.out.symm] at hr67
                   replace hr67 : Kd.C (Kd.int .i64) _ A67 y255.length y255 := (by rw [hA67]; exact hr67)
                   rw [← hy67, ← hA67, ← hc67] at hcut67
                   have HR258 := zpS hr67
                   have HC258 := zpS (show y255.length ≤ c67 from by rw [hy67, hc67]; exact Nat.sub_le_sub_right hroom67 _)
                   clear hr67 hC67 hroom67 hi067 hsz67 hc67
                   have KY67 := zpS hy67
                   have KA67 := zpS hA67
                   clear hy67 hA67
                   have KL67 := zpS (show ((ji60) : Int).toNat ≤ t208.length from by omega)
                   replace q67 := eq_true q67
                   refine start_ (n := 22) (S := fun w' => w'.cell? ad240 = some (.int .i64 (rd t205 0)) ∧ w'.cell? ad251 = some (.int .i64 (rd t208 0))) (ds := []) #[false, false, false, false, false, false, false, false, false, false, false, false, false, false, false, false, false, false, false, false, false, false] (by kernel_rfl) rfl rfl ⟨hx240_0, hx251_0⟩ (fun hHeld => ?_); refine zwI zgL.tab18 zgL.bits18 (fun HT_ HW_ => ?_)
                   generalize wc.drew = w64 at HO_11 HO_12 HB HR247 HR258 hx240_0 hx251_0 hHeld ⊢
                   refine pu_ 0 (some 82) (bl_ 22 1) ?_
                   refine pu_ 1 (some 83) (bl_ 22 3) ?_
                   refine pu_ 4 (some 86) (bl_ 22 19) ?_
                   refine pu_ 5 (some 87) (bl_ 22 51) ?_
                   refine pu_ 6 (some 88) (bl_ 22 115) ?_
                   refine pu_ 7 (some 89) (bl_ 22 243) ?_
                   refine pu_ 9 (some 91) (bl_ 22 755) ?_
                   refine pu_ 10 (some 92) (bl_ 22 1779) ?_
                   refine pu_ 12 (some 94) (bl_ 22 5875) ?_
                   refine pu_ 14 (some 96) (bl_ 22 22259) ?_
                   refine pu_ 15 (some 97) (bl_ 22 55027) ?_
                   refine pu_ 16 (some 98) (bl_ 22 120563) ?_
                   refine pu_ 17 (some 99) (bl_ 22 251635) ?_
                   refine tk2_ 2 (some 84) (bl_ 22 251639) hHeld ?_
                   refine tk2_ 11 (some 93) (bl_ 22 253687) hHeld ?_
                   refine join_ (σ := Value × Value × Value) 4 #[true, true, true, true, true, true, true, true, true, true, true, true, true, true, true, true, true, true, false, false, false, false] (fun s_ => [(85, s_.1), (90, s_.2.1), (95, s_.2.2)]) (fun s_ w' => (w'.cell? ad240 = some (.int .i64 (rd t205 0)) ∧ w'.cell? ad251 = some (.int .i64 (rd t208 0))) ∧ (Kd.R (Kd.int .i64) 2 w' w.heap.size (fun k_ => some k_ ≠ (s_.2.2 : Value).ownBlock ∧ some k_ ≠ (.slice (some ad240) t205.length co65 : Value).ownBlock ∧ some k_ ≠ (.slice (some ad251) t208.length co49 : Value).ownBlock) s_.2.1 y248) ∧ (Kd.R (Kd.int .i64) 2 w' w.heap.size (fun k_ => some k_ ≠ (s_.2.1 : Value).ownBlock ∧ some k_ ≠ (.slice (some ad240) t205.length co65 : Value).ownBlock ∧ some k_ ≠ (.slice (some ad251) t208.length co49 : Value).ownBlock) s_.2.2 y252) ∧ (Kd.R (Kd.int .i64) 2 w' w.heap.size (fun k_ => some k_ ≠ (s_.2.1 : Value).ownBlock ∧ some k_ ≠ (s_.2.2 : Value).ownBlock ∧ some k_ ≠ (.slice (some ad251) t208.length co49 : Value).ownBlock) (.slice (some ad240) t205.length co65) t205) ∧ (Kd.R (Kd.int .i64) 2 w' w.heap.size (fun k_ => some k_ ≠ (s_.2.1 : Value).ownBlock ∧ some k_ ≠ (s_.2.2 : Value).ownBlock ∧ some k_ ≠ (.slice (some ad240) t205.length co65 : Value).ownBlock) (.slice (some ad251) t208.length co49) t208) ∧ (Kd.C (Kd.int .i64) w' A66 y244.length y244) ∧ (Kd.C (Kd.int .i64) w' A67 y255.length y255) ∧ (Below w.heap.size w w')) ?_ ?_
                   rotate_left
                   ·intro hCont
                    refine two_ (i := 3) (j := 13) (Ni := some 85) (Nj := some 95) (bl_ 22 253695) (bl_ 22 261879) rfl rfl rfl rfl (two_of HT_.out (by kernel_rfl)) (by decide) (by decide) (fun K hK => ?_) (fun K hK => ?_)
                    ·skip
                     refine Kd.R_lit_step (Kd.int .i64) _ 2 ?hg (N := 85) ?hd (xs := ([rd t205 0] : List Int)) (zlR := [.int .i64 (rd t205 0)]) (ok := fun _ => True) (okp := fun _ => True) ?hr ?hp (fun _ hk => hk) trivial (Below.refl _ _) (Nat.le_refl _) (by simp) ?_; (case hd => rfl); (case hg => rfl); (case hr => first | (go_simp; done) | (go_simp; rfl)); (case hp => exact (zfH.one (show Kd.M (Kd.int .i64) _ _ _ (rd t205 0) [.int .i64 (rd t205 0)] from rfl) (zfH.none _ _)))
                     intro v242 w68 ho69 hb hg_ hnew_
                     have HS0_ := (hb.cell (World.block_lt_of_cell? _ _ (hHeld.1))).trans (hHeld.1)
                     have HS1_ := (hb.cell (World.block_lt_of_cell? _ _ (hHeld.2))).trans (hHeld.2)
                     clear hg_ hnew_
                     (first | rw [← Ny241.out] at ho69 | (simp only [Int.reduceToNat] at ho69; rw [← Ny241.out] at ho69))
                     have n0_ := zpS (Kd.R_elder' (by (with_reducible repeat (first | apply Kd.R_alloc | apply Kd.R_drewN | apply Kd.R_drew)); exact HO_11.out) (Kd.R_base ho69) hb)
                     have n1_ := zpS (Kd.R_elder' (by (with_reducible repeat (first | apply Kd.R_alloc | apply Kd.R_drewN | apply Kd.R_drew)); exact HO_12.out) (Kd.R_base ho69) hb)
                     have n2_ := zpS (Kd.R_lower (Kd.R_new' (Kd.R_new' ho69 (Kd.R_lt (by (with_reducible repeat (first | apply Kd.R_alloc | apply Kd.R_drewN | apply Kd.R_drew)); exact HO_11.out))) (Kd.R_lt (by (with_reducible repeat (first | apply Kd.R_alloc | apply Kd.R_drewN | apply Kd.R_drew)); exact HO_12.out))) (zuA bb_))
                     have n3_ := zpS (Kd.C_below (by repeat (first | (with_reducible exact HR247.out) | (with_reducible refine Kd.C_alloc ?_ _) | (with_reducible refine Kd.C_drewN ?_ _) | (with_reducible refine Kd.C_drew ?_) | exact HR247.out)) hb)
                     have n4_ := zpS (Kd.C_below (by repeat (first | (with_reducible exact HR258.out) | (with_reducible refine Kd.C_alloc ?_ _) | (with_reducible refine Kd.C_drewN ?_ _) | (with_reducible refine Kd.C_drew ?_) | exact HR258.out)) hb)
                     have n5_ := (ns_ hb)
                     clear HO_11
                     clear HO_12
                     clear HR247
                     clear HR258
                     clear HB
                     have HO_11 := n0_
                     have HO_12 := n1_
                     have HO243 := n2_
                     have HR247 := n3_
                     have HR258 := n4_
                     have HB := n5_
                     clear n0_ n1_ n2_ n3_ n4_ n5_
                     clear hb ho69
                     refine hK.out _ _ ⟨HS0_, HS1_⟩ (fun hHeld => ?_)
                     clear hK K
                     refine zaN (a' := ?_) ?_ ?_
                     rotate_left
                     ·show Act.put _ (some 85) _ = _
                      simp only [Act.put, List.setIfInBounds_toArray, List.set_cons_zero, List.set_cons_succ, zcM, ziJ]
                      rfl
                     refine two_ (i := 8) (j := 13) (Ni := some 90) (Nj := some 95) (bl_ 22 253951) (bl_ 22 261887) rfl rfl rfl rfl (two_of HT_.out (by kernel_rfl)) (by decide) (by decide) (fun K hK => ?_) (fun K hK => ?_)
                     ·skip
                      refine Kd.R_append_rows_step (Kd.int .i64) (w0 := w) w.heap.size (by rfl) (.tmp 85) (.tmp 89) 24 2 (.int .i64 0) 8 rfl Try.underlying24 info2 rfl (by decide) (by omega) v242 y241 y244 _ _ _ (fun k_ => some k_ ≠ (.slice (some ad240) t205.length co65 : Value).ownBlock ∧ some k_ ≠ (.slice (some ad251) t208.length co49 : Value).ownBlock) (fun _ => False) rfl rfl ?aO ?aR (fun _ _ h => h) (fun _ h => h.elim) ?aF ?aB ?aS ?aL ?_
                      (case aR => repeat (first | exact (by repeat (first | (with_reducible exact HR247.out) | (with_reducible refine Kd.C_alloc ?_ _) | (with_reducible refine Kd.C_drewN ?_ _) | (with_reducible refine Kd.C_drew ?_) | exact HR247.out)) | (with_reducible refine Kd.C_alloc ?_ _) | (with_reducible refine Kd.C_drewN ?_ _) | (with_reducible refine Kd.C_drew ?_)))
                      (case aB => exact bb_)
                      (case aF => exact (fun k_ hk => ⟨Kd.fresh' (Kd.R_lt (by (with_reducible repeat (first | apply Kd.R_alloc | apply Kd.R_drewN | apply Kd.R_drew)); exact HO_11.out)) k_ hk, Kd.fresh' (Kd.R_lt (by (with_reducible repeat (first | apply Kd.R_alloc | apply Kd.R_drewN | apply Kd.R_drew)); exact HO_12.out)) k_ hk⟩))
                      (case aO => exact (by (with_reducible repeat (first | apply Kd.R_alloc | apply Kd.R_drewN | apply Kd.R_drew)); exact Kd.R_mono HO243.out (fun _ hk => ⟨hk.1.2, hk.2⟩)))
                      (case aS => exact (zuA bb_))
                      (case aL => have := LMc58.out; omega)
                      intro v249 w70 ho hb hg hat
                      have HS0_ := zmX hg (hHeld.1) (by (first | rw [zhT] | (show some (Addr.add _ _).block ≠ _; rw [zhT]) | skip); have h_ := HO_11.out.1 _ rfl; revert h_; (try simp only [and_imp]); intros; assumption)
                      have HS1_ := zmX hg (hHeld.2) (by (first | rw [zhT] | (show some (Addr.add _ _).block ≠ _; rw [zhT]) | skip); have h_ := HO_12.out.1 _ rfl; revert h_; (try simp only [and_imp]); intros; assumption)
                      rw [← Ny248.out] at ho
                      have n0_ := zpS (Kd.R_after (ok := (fun k_ => some k_ ≠ (.slice (some ad251) t208.length co49 : Value).ownBlock)) (by (with_reducible repeat (first | apply Kd.R_alloc | apply Kd.R_drewN | apply Kd.R_drew)); exact HO_11.out) hg hat)
                      have n1_ := zpS (Kd.R_after (ok := (fun k_ => some k_ ≠ (.slice (some ad240) t205.length co65 : Value).ownBlock)) (by (with_reducible repeat (first | apply Kd.R_alloc | apply Kd.R_drewN | apply Kd.R_drew)); exact HO_12.out) hg hat)
                      have n2_ := zpS (hb)
                      have n3_ := zpS ((show Kd.C (Kd.int .i64) w70 A66 y244.length y244 from by rw [Ny244.out, KA66.out]; exact Kd.C_drop (m := ((ji55) : Int).toNat) (c := co65) ((Kd.R_reads' (Kd.R_after (ok := (fun k_ => some k_ ≠ (.slice (some ad251) t208.length co49 : Value).ownBlock)) (by (with_reducible repeat (first | apply Kd.R_alloc | apply Kd.R_drewN | apply Kd.R_drew)); exact HO_11.out) hg hat)).2.2) KL66.out ((Kd.R_reads' (Kd.R_after (ok := (fun k_ => some k_ ≠ (.slice (some ad251) t208.length co49 : Value).ownBlock)) (by (with_reducible repeat (first | apply Kd.R_alloc | apply Kd.R_drewN | apply Kd.R_drew)); exact HO_11.out) hg hat)).2.1)))
                      have n4_ := zpS ((show Kd.C (Kd.int .i64) w70 A67 y255.length y255 from by rw [Ny255.out, KA67.out]; exact Kd.C_drop (m := ((ji60) : Int).toNat) (c := co49) ((Kd.R_reads' (Kd.R_after (ok := (fun k_ => some k_ ≠ (.slice (some ad240) t205.length co65 : Value).ownBlock)) (by (with_reducible repeat (first | apply Kd.R_alloc | apply Kd.R_drewN | apply Kd.R_drew)); exact HO_12.out) hg hat)).2.2) KL67.out ((Kd.R_reads' (Kd.R_after (ok := (fun k_ => some k_ ≠ (.slice (some ad240) t205.length co65 : Value).ownBlock)) (by (with_reducible repeat (first | apply Kd.R_alloc | apply Kd.R_drewN | apply Kd.R_drew)); exact HO_12.out) hg hat)).2.1)))
                      have n5_ := zpS (ho)
                      clear HO_11
                      clear HO_12
                      clear HB
                      clear HR247
                      clear HR258
                      clear HO243
                      have HO_11 := n0_
                      have HO_12 := n1_
                      have HB := n2_
                      have HR247 := n3_
                      have HR258 := n4_
                      have HO250 := n5_
                      clear n0_ n1_ n2_ n3_ n4_ n5_
                      clear ho hb hg hat
                      refine hK.out _ _ ⟨HS0_, HS1_⟩ (fun hHeld => ?_)
                      clear hK K
                      refine zaN (a' := ?_) ?_ ?_
                      rotate_left
                      ·show Act.put _ (some 90) _ = _
                       simp only [Act.put, List.setIfInBounds_toArray, List.set_cons_zero, List.set_cons_succ, zcM, ziJ]
                       rfl
                      refine one_ (i := 13) (N := some 95) (bl_ 22 262143) rfl rfl (zeO HT_.out (by kernel_rfl)) (by decide) (fun K hK => ?_)
                      refine Kd.R_lit_step (Kd.int .i64) _ 2 ?hg (N := 95) ?hd (xs := ([rd t208 0, x14_44] : List Int)) (zlR := [.int .i64 (rd t208 0), .int .i64 x14_44]) (ok := fun _ => True) (okp := fun _ => True) ?hr ?hp (fun _ hk => hk) trivial (Below.refl _ _) (Nat.le_refl _) (by simp) ?_; (case hd => rfl); (case hg => rfl); (case hr => first | (go_simp; done) | (go_simp; rfl)); (case hp => exact (zfH.one (show Kd.M (Kd.int .i64) _ _ _ (rd t208 0) [.int .i64 (rd t208 0)] from rfl) (zfH.one (show Kd.M (Kd.int .i64) _ _ _ x14_44 [.int .i64 x14_44] from rfl) (zfH.none _ _))))
                      intro v253 w71 ho72 hb hg_ hnew_
                      have HS0_ := (hb.cell (World.block_lt_of_cell? _ _ (hHeld.1))).trans (hHeld.1)
                      have HS1_ := (hb.cell (World.block_lt_of_cell? _ _ (hHeld.2))).trans (hHeld.2)
                      clear hg_ hnew_
                      (first | rw [← Ny252.out] at ho72 | (simp only [Int.reduceToNat] at ho72; rw [← Ny252.out] at ho72))
                      have n0_ := zpS (Kd.R_elder' (by (with_reducible repeat (first | apply Kd.R_alloc | apply Kd.R_drewN | apply Kd.R_drew)); exact HO_11.out) (Kd.R_base ho72) hb)
                      have n1_ := zpS (Kd.R_elder' (by (with_reducible repeat (first | apply Kd.R_alloc | apply Kd.R_drewN | apply Kd.R_drew)); exact HO_12.out) (Kd.R_base ho72) hb)
                      have n2_ := zpS (Kd.R_elder' (by (with_reducible repeat (first | apply Kd.R_alloc | apply Kd.R_drewN | apply Kd.R_drew)); exact HO250.out) (Kd.R_base ho72) hb)
                      have n3_ := zpS (Kd.R_lower (Kd.R_new' (Kd.R_new' (Kd.R_new' ho72 (Kd.R_lt (by (with_reducible repeat (first | apply Kd.R_alloc | apply Kd.R_drewN | apply Kd.R_drew)); exact HO_11.out))) (Kd.R_lt (by (with_reducible repeat (first | apply Kd.R_alloc | apply Kd.R_drewN | apply Kd.R_drew)); exact HO_12.out))) (Kd.R_lt (by (with_reducible repeat (first | apply Kd.R_alloc | apply Kd.R_drewN | apply Kd.R_drew)); exact HO250.out))) (zuA bb_))
                      have n4_ := zpS (Kd.C_below (by repeat (first | (with_reducible exact HR247.out) | (with_reducible refine Kd.C_alloc ?_ _) | (with_reducible refine Kd.C_drewN ?_ _) | (with_reducible refine Kd.C_drew ?_) | exact HR247.out)) hb)
                      have n5_ := zpS (Kd.C_below (by repeat (first | (with_reducible exact HR258.out) | (with_reducible refine Kd.C_alloc ?_ _) | (with_reducible refine Kd.C_drewN ?_ _) | (with_reducible refine Kd.C_drew ?_) | exact HR258.out)) hb)
                      have n6_ := (ns_ hb)
                      clear HO_11
                      clear HO_12
                      clear HO250
                      clear HR247
                      clear HR258
                      clear HB
                      have HO_11 := n0_
                      have HO_12 := n1_
                      have HO250 := n2_
                      have HO254 := n3_
                      have HR247 := n4_
                      have HR258 := n5_
                      have HB := n6_
                      clear n0_ n1_ n2_ n3_ n4_ n5_ n6_
                      clear hb ho72
                      refine hK.out _ _ ⟨HS0_, HS1_⟩ (fun hHeld => ?_)
                      clear hK K
                      refine zaN (a' := ?_) ?_ ?_
                      rotate_left
                      ·show Act.put _ (some 95) _ = _
                       simp only [Act.put, List.setIfInBounds_toArray, List.set_cons_zero, List.set_cons_succ, zcM, ziJ]
                       rfl
                      exact zaN (by simp only [putAll, Act.put, List.setIfInBounds_toArray, List.set_cons_zero, List.set_cons_succ]) (hCont (v242, v249, v253) _ ⟨hHeld, (by (with_reducible repeat (first | apply Kd.R_alloc | apply Kd.R_drewN | apply Kd.R_drew)); exact Kd.R_mono HO250.out (fun _ hk => ⟨hk.2, ⟨hk.1.1, hk.1.2⟩⟩)), (by (with_reducible repeat (first | apply Kd.R_alloc | apply Kd.R_drewN | apply Kd.R_drew)); exact Kd.R_mono HO254.out (fun _ hk => ⟨hk.2, ⟨hk.1.1.2, hk.1.2⟩⟩)), (by (with_reducible repeat (first | apply Kd.R_alloc | apply Kd.R_drewN | apply Kd.R_drew)); exact Kd.R_mono HO_11.out (fun _ hk => ⟨hk.1.2, ⟨hk.2, hk.1.1⟩⟩)), (by (with_reducible repeat (first | apply Kd.R_alloc | apply Kd.R_drewN | apply Kd.R_drew)); exact Kd.R_mono HO_12.out (fun _ hk => ⟨hk.1.2, ⟨hk.2, hk.1.1⟩⟩)), (by repeat (first | (with_reducible exact HR247.out) | (with_reducible refine Kd.C_alloc ?_ _) | (with_reducible refine Kd.C_drewN ?_ _) | (with_reducible refine Kd.C_drew ?_) | exact HR247.out)), (by repeat (first | (with_reducible exact HR258.out) | (with_reducible refine Kd.C_alloc ?_ _) | (with_reducible refine Kd.C_drewN ?_ _) | (with_reducible refine Kd.C_drew ?_) | exact HR258.out)), bb_⟩)
                     ·skip
                      refine Kd.R_lit_step (Kd.int .i64) _ 2 ?hg (N := 95) ?hd (xs := ([rd t208 0, x14_44] : List Int)) (zlR := [.int .i64 (rd t208 0), .int .i64 x14_44]) (ok := fun _ => True) (okp := fun _ => True) ?hr ?hp (fun _ hk => hk) trivial (Below.refl _ _) (Nat.le_refl _) (by simp) ?_; (case hd => rfl); (case hg => rfl); (case hr => first | (go_simp; done) | (go_simp; rfl)); (case hp => exact (zfH.one (show Kd.M (Kd.int .i64) _ _ _ (rd t208 0) [.int .i64 (rd t208 0)] from rfl) (zfH.one (show Kd.M (Kd.int .i64) _ _ _ x14_44 [.int .i64 x14_44] from rfl) (zfH.none _ _))))
                      intro v253 w70 ho71 hb hg_ hnew_
                      have HS0_ := (hb.cell (World.block_lt_of_cell? _ _ (hHeld.1))).trans (hHeld.1)
                      have HS1_ := (hb.cell (World.block_lt_of_cell? _ _ (hHeld.2))).trans (hHeld.2)
                      clear hg_ hnew_
                      (first | rw [← Ny252.out] at ho71 | (simp only [Int.reduceToNat] at ho71; rw [← Ny252.out] at ho71))
                      have n0_ := zpS (Kd.R_elder' (by (with_reducible repeat (first | apply Kd.R_alloc | apply Kd.R_drewN | apply Kd.R_drew)); exact HO_11.out) (Kd.R_base ho71) hb)
                      have n1_ := zpS (Kd.R_elder' (by (with_reducible repeat (first | apply Kd.R_alloc | apply Kd.R_drewN | apply Kd.R_drew)); exact HO_12.out) (Kd.R_base ho71) hb)
                      have n2_ := zpS (Kd.R_elder' (by (with_reducible repeat (first | apply Kd.R_alloc | apply Kd.R_drewN | apply Kd.R_drew)); exact HO243.out) (Kd.R_base ho71) hb)
                      have n3_ := zpS (Kd.R_lower (Kd.R_new' (Kd.R_new' (Kd.R_new' ho71 (Kd.R_lt (by (with_reducible repeat (first | apply Kd.R_alloc | apply Kd.R_drewN | apply Kd.R_drew)); exact HO_11.out))) (Kd.R_lt (by (with_reducible repeat (first | apply Kd.R_alloc | apply Kd.R_drewN | apply Kd.R_drew)); exact HO_12.out))) (Kd.R_lt (by (with_reducible repeat (first | apply Kd.R_alloc | apply Kd.R_drewN | apply Kd.R_drew)); exact HO243.out))) (zuA bb_))
                      have n4_ := zpS (Kd.C_below (by repeat (first | (with_reducible exact HR247.out) | (with_reducible refine Kd.C_alloc ?_ _) | (with_reducible refine Kd.C_drewN ?_ _) | (with_reducible refine Kd.C_drew ?_) | exact HR247.out)) hb)
                      have n5_ := zpS (Kd.C_below (by repeat (first | (with_reducible exact HR258.out) | (with_reducible refine Kd.C_alloc ?_ _) | (with_reducible refine Kd.C_drewN ?_ _) | (with_reducible refine Kd.C_drew ?_) | exact HR258.out)) hb)
                      have n6_ := (ns_ hb)
                      clear HO_11
                      clear HO_12
                      clear HO243
                      clear HR247
                      clear HR258
                      clear HB
                      have HO_11 := n0_
                      have HO_12 := n1_
                      have HO243 := n2_
                      have HO254 := n3_
                      have HR247 := n4_
                      have HR258 := n5_
                      have HB := n6_
                      clear n0_ n1_ n2_ n3_ n4_ n5_ n6_
                      clear hb ho71
                      refine hK.out _ _ ⟨HS0_, HS1_⟩ (fun hHeld => ?_)
                      clear hK K
                      refine zaN (a' := ?_) ?_ ?_
                      rotate_left
                      ·show Act.put _ (some 95) _ = _
                       simp only [Act.put, List.setIfInBounds_toArray, List.set_cons_zero, List.set_cons_succ, zcM, ziJ]
                       rfl
                      refine one_ (i := 8) (N := some 90) (bl_ 22 262143) rfl rfl (zeO HT_.out (by kernel_rfl)) (by decide) (fun K hK => ?_)
                      refine Kd.R_append_rows_step (Kd.int .i64) (w0 := w) w.heap.size (by rfl) (.tmp 85) (.tmp 89) 24 2 (.int .i64 0) 8 rfl Try.underlying24 info2 rfl (by decide) (by omega) v242 y241 y244 _ _ _ (fun k_ => some k_ ≠ (.slice (some ad240) t205.length co65 : Value).ownBlock ∧ some k_ ≠ (.slice (some ad251) t208.length co49 : Value).ownBlock ∧ some k_ ≠ (v253 : Value).ownBlock) (fun _ => False) rfl rfl ?aO ?aR (fun _ _ h => h) (fun _ h => h.elim) ?aF ?aB ?aS ?aL ?_
                      (case aR => repeat (first | exact (by repeat (first | (with_reducible exact HR247.out) | (with_reducible refine Kd.C_alloc ?_ _) | (with_reducible refine Kd.C_drewN ?_ _) | (with_reducible refine Kd.C_drew ?_) | exact HR247.out)) | (with_reducible refine Kd.C_alloc ?_ _) | (with_reducible refine Kd.C_drewN ?_ _) | (with_reducible refine Kd.C_drew ?_)))
                      (case aB => exact bb_)
                      (case aF => exact (fun k_ hk => ⟨Kd.fresh' (Kd.R_lt (by (with_reducible repeat (first | apply Kd.R_alloc | apply Kd.R_drewN | apply Kd.R_drew)); exact HO_11.out)) k_ hk, Kd.fresh' (Kd.R_lt (by (with_reducible repeat (first | apply Kd.R_alloc | apply Kd.R_drewN | apply Kd.R_drew)); exact HO_12.out)) k_ hk, Kd.fresh' (Kd.R_lt (by (with_reducible repeat (first | apply Kd.R_alloc | apply Kd.R_drewN | apply Kd.R_drew)); exact HO254.out)) k_ hk⟩))
                      (case aO => exact (by (with_reducible repeat (first | apply Kd.R_alloc | apply Kd.R_drewN | apply Kd.R_drew)); exact Kd.R_mono HO243.out (fun _ hk => ⟨hk.1.1.2, ⟨hk.1.2, hk.2⟩⟩)))
                      (case aS => exact (zuA bb_))
                      (case aL => have := LMc58.out; omega)
                      intro v249 w72 ho hb hg hat
                      have HS0_ := zmX hg (hHeld.1) (by (first | rw [zhT] | (show some (Addr.add _ _).block ≠ _; rw [zhT]) | skip); have h_ := HO_11.out.1 _ rfl; revert h_; (try simp only [and_imp]); intros; assumption)
                      have HS1_ := zmX hg (hHeld.2) (by (first | rw [zhT] | (show some (Addr.add _ _).block ≠ _; rw [zhT]) | skip); have h_ := HO_12.out.1 _ rfl; revert h_; (try simp only [and_imp]); intros; assumption)
                      rw [← Ny248.out] at ho
                      have n0_ := zpS (Kd.R_after (ok := (fun k_ => some k_ ≠ (.slice (some ad251) t208.length co49 : Value).ownBlock ∧ some k_ ≠ (v253 : Value).ownBlock)) (by (with_reducible repeat (first | apply Kd.R_alloc | apply Kd.R_drewN | apply Kd.R_drew)); exact Kd.R_mono HO_11.out (fun _ hk => ⟨⟨hk.1.1, hk.2⟩, hk.1.2⟩)) hg hat)
                      have n1_ := zpS (Kd.R_after (ok := (fun k_ => some k_ ≠ (.slice (some ad240) t205.length co65 : Value).ownBlock ∧ some k_ ≠ (v253 : Value).ownBlock)) (by (with_reducible repeat (first | apply Kd.R_alloc | apply Kd.R_drewN | apply Kd.R_drew)); exact Kd.R_mono HO_12.out (fun _ hk => ⟨⟨hk.1.1, hk.2⟩, hk.1.2⟩)) hg hat)
                      have n2_ := zpS (Kd.R_after (ok := (fun k_ => some k_ ≠ (.slice (some ad240) t205.length co65 : Value).ownBlock ∧ some k_ ≠ (.slice (some ad251) t208.length co49 : Value).ownBlock)) (by (with_reducible repeat (first | apply Kd.R_alloc | apply Kd.R_drewN | apply Kd.R_drew)); exact Kd.R_mono HO254.out (fun _ hk => ⟨⟨hk.1.1.2, hk.1.2⟩, hk.2⟩)) hg hat)
                      have n3_ := zpS (hb)
                      have n4_ := zpS ((show Kd.C (Kd.int .i64) w72 A66 y244.length y244 from by rw [Ny244.out, KA66.out]; exact Kd.C_drop (m := ((ji55) : Int).toNat) (c := co65) ((Kd.R_reads' (Kd.R_after (ok := (fun k_ => some k_ ≠ (.slice (some ad251) t208.length co49 : Value).ownBlock ∧ some k_ ≠ (v253 : Value).ownBlock)) (by (with_reducible repeat (first | apply Kd.R_alloc | apply Kd.R_drewN | apply Kd.R_drew)); exact Kd.R_mono HO_11.out (fun _ hk => ⟨⟨hk.1.1, hk.2⟩, hk.1.2⟩)) hg hat)).2.2) KL66.out ((Kd.R_reads' (Kd.R_after (ok := (fun k_ => some k_ ≠ (.slice (some ad251) t208.length co49 : Value).ownBlock ∧ some k_ ≠ (v253 : Value).ownBlock)) (by (with_reducible repeat (first | apply Kd.R_alloc | apply Kd.R_drewN | apply Kd.R_drew)); exact Kd.R_mono HO_11.out (fun _ hk => ⟨⟨hk.1.1, hk.2⟩, hk.1.2⟩)) hg hat)).2.1)))
                      have n5_ := zpS ((show Kd.C (Kd.int .i64) w72 A67 y255.length y255 from by rw [Ny255.out, KA67.out]; exact Kd.C_drop (m := ((ji60) : Int).toNat) (c := co49) ((Kd.R_reads' (Kd.R_after (ok := (fun k_ => some k_ ≠ (.slice (some ad240) t205.length co65 : Value).ownBlock ∧ some k_ ≠ (v253 : Value).ownBlock)) (by (with_reducible repeat (first | apply Kd.R_alloc | apply Kd.R_drewN | apply Kd.R_drew)); exact Kd.R_mono HO_12.out (fun _ hk => ⟨⟨hk.1.1, hk.2⟩, hk.1.2⟩)) hg hat)).2.2) KL67.out ((Kd.R_reads' (Kd.R_after (ok := (fun k_ => some k_ ≠ (.slice (some ad240) t205.length co65 : Value).ownBlock ∧ some k_ ≠ (v253 : Value).ownBlock)) (by (with_reducible repeat (first | apply Kd.R_alloc | apply Kd.R_drewN | apply Kd.R_drew)); exact Kd.R_mono HO_12.out (fun _ hk => ⟨⟨hk.1.1, hk.2⟩, hk.1.2⟩)) hg hat)).2.1)))
                      have n6_ := zpS (ho)
                      clear HO_11
                      clear HO_12
                      clear HO254
                      clear HB
                      clear HR247
                      clear HR258
                      clear HO243
                      have HO_11 := n0_
                      have HO_12 := n1_
                      have HO254 := n2_
                      have HB := n3_
                      have HR247 := n4_
                      have HR258 := n5_
                      have HO250 := n6_
                      clear n0_ n1_ n2_ n3_ n4_ n5_ n6_
                      clear ho hb hg hat
                      refine hK.out _ _ ⟨HS0_, HS1_⟩ (fun hHeld => ?_)
                      clear hK K
                      refine zaN (a' := ?_) ?_ ?_
                      rotate_left
                      ·show Act.put _ (some 90) _ = _
                       simp only [Act.put, List.setIfInBounds_toArray, List.set_cons_zero, List.set_cons_succ, zcM, ziJ]
                       rfl
                      exact zaN (by simp only [putAll, Act.put, List.setIfInBounds_toArray, List.set_cons_zero, List.set_cons_succ]) (hCont (v242, v249, v253) _ ⟨hHeld, (by (with_reducible repeat (first | apply Kd.R_alloc | apply Kd.R_drewN | apply Kd.R_drew)); exact Kd.R_mono HO250.out (fun _ hk => ⟨hk.2.2, ⟨hk.1, hk.2.1⟩⟩)), (by (with_reducible repeat (first | apply Kd.R_alloc | apply Kd.R_drewN | apply Kd.R_drew)); exact Kd.R_mono HO254.out (fun _ hk => ⟨hk.2, ⟨hk.1.1, hk.1.2⟩⟩)), (by (with_reducible repeat (first | apply Kd.R_alloc | apply Kd.R_drewN | apply Kd.R_drew)); exact Kd.R_mono HO_11.out (fun _ hk => ⟨hk.2, ⟨hk.1.2, hk.1.1⟩⟩)), (by (with_reducible repeat (first | apply Kd.R_alloc | apply Kd.R_drewN | apply Kd.R_drew)); exact Kd.R_mono HO_12.out (fun _ hk => ⟨hk.2, ⟨hk.1.2, hk.1.1⟩⟩)), (by repeat (first | (with_reducible exact HR247.out) | (with_reducible refine Kd.C_alloc ?_ _) | (with_reducible refine Kd.C_drewN ?_ _) | (with_reducible refine Kd.C_drew ?_) | exact HR247.out)), (by repeat (first | (with_reducible exact HR258.out) | (with_reducible refine Kd.C_alloc ?_ _) | (with_reducible refine Kd.C_drewN ?_ _) | (with_reducible refine Kd.C_drew ?_) | exact HR258.out)), bb_⟩)
                    ·skip
                     refine Kd.R_lit_step (Kd.int .i64) _ 2 ?hg (N := 95) ?hd (xs := ([rd t208 0, x14_44] : List Int)) (zlR := [.int .i64 (rd t208 0), .int .i64 x14_44]) (ok := fun _ => True) (okp := fun _ => True) ?hr ?hp (fun _ hk => hk) trivial (Below.refl _ _) (Nat.le_refl _) (by simp) ?_; (case hd => rfl); (case hg => rfl); (case hr => first | (go_simp; done) | (go_simp; rfl)); (case hp => exact (zfH.one (show Kd.M (Kd.int .i64) _ _ _ (rd t208 0) [.int .i64 (rd t208 0)] from rfl) (zfH.one (show Kd.M (Kd.int .i64) _ _ _ x14_44 [.int .i64 x14_44] from rfl) (zfH.none _ _))))
                     intro v253 w68 ho69 hb hg_ hnew_
                     have HS0_ := (hb.cell (World.block_lt_of_cell? _ _ (hHeld.1))).trans (hHeld.1)
                     have HS1_ := (hb.cell (World.block_lt_of_cell? _ _ (hHeld.2))).trans (hHeld.2)
                     clear hg_ hnew_
                     (first | rw [← Ny252.out] at ho69 | (simp only [Int.reduceToNat] at ho69; rw [← Ny252.out] at ho69))
                     have n0_ := zpS (Kd.R_elder' (by (with_reducible repeat (first | apply Kd.R_alloc | apply Kd.R_drewN | apply Kd.R_drew)); exact HO_11.out) (Kd.R_base ho69) hb)
                     have n1_ := zpS (Kd.R_elder' (by (with_reducible repeat (first | apply Kd.R_alloc | apply Kd.R_drewN | apply Kd.R_drew)); exact HO_12.out) (Kd.R_base ho69) hb)
                     have n2_ := zpS (Kd.R_lower (Kd.R_new' (Kd.R_new' ho69 (Kd.R_lt (by (with_reducible repeat (first | apply Kd.R_alloc | apply Kd.R_drewN | apply Kd.R_drew)); exact HO_11.out))) (Kd.R_lt (by (with_reducible repeat (first | apply Kd.R_alloc | apply Kd.R_drewN | apply Kd.R_drew)); exact HO_12.out))) (zuA bb_))
                     have n3_ := zpS (Kd.C_below (by repeat (first | (with_reducible exact HR247.out) | (with_reducible refine Kd.C_alloc ?_ _) | (with_reducible refine Kd.C_drewN ?_ _) | (with_reducible refine Kd.C_drew ?_) | exact HR247.out)) hb)
                     have n4_ := zpS (Kd.C_below (by repeat (first | (with_reducible exact HR258.out) | (with_reducible refine Kd.C_alloc ?_ _) | (with_reducible refine Kd.C_drewN ?_ _) | (with_reducible refine Kd.C_drew ?_) | exact HR258.out)) hb)
                     have n5_ := (ns_ hb)
                     clear HO_11
                     clear HO_12
                     clear HR247
                     clear HR258
                     clear HB
                     have HO_11 := n0_
                     have HO_12 := n1_
                     have HO254 := n2_
                     have HR247 := n3_
                     have HR258 := n4_
                     have HB := n5_
                     clear n0_ n1_ n2_ n3_ n4_ n5_
                     clear hb ho69
                     refine hK.out _ _ ⟨HS0_, HS1_⟩ (fun hHeld => ?_)
                     clear hK K
                     refine zaN (a' := ?_) ?_ ?_
                     rotate_left
                     ·show Act.put _ (some 95) _ = _
                      simp only [Act.put, List.setIfInBounds_toArray, List.set_cons_zero, List.set_cons_succ, zcM, ziJ]
                      rfl
                     refine one_ (i := 3) (N := some 85) (bl_ 22 261887) rfl rfl (zeO HT_.out (by kernel_rfl)) (by decide) (fun K hK => ?_)
                     refine Kd.R_lit_step (Kd.int .i64) _ 2 ?hg (N := 85) ?hd (xs := ([rd t205 0] : List Int)) (zlR := [.int .i64 (rd t205 0)]) (ok := fun _ => True) (okp := fun _ => True) ?hr ?hp (fun _ hk => hk) trivial (Below.refl _ _) (Nat.le_refl _) (by simp) ?_; (case hd => rfl); (case hg => rfl); (case hr => first | (go_simp; done) | (go_simp; rfl)); (case hp => exact (zfH.one (show Kd.M (Kd.int .i64) _ _ _ (rd t205 0) [.int .i64 (rd t205 0)] from rfl) (zfH.none _ _)))
                     intro v242 w70 ho71 hb hg_ hnew_
                     have HS0_ := (hb.cell (World.block_lt_of_cell? _ _ (hHeld.1))).trans (hHeld.1)
                     have HS1_ := (hb.cell (World.block_lt_of_cell? _ _ (hHeld.2))).trans (hHeld.2)
                     clear hg_ hnew_
                     (first | rw [← Ny241.out] at ho71 | (simp only [Int.reduceToNat] at ho71; rw [← Ny241.out] at ho71))
                     have n0_ := zpS (Kd.R_elder' (by (with_reducible repeat (first | apply Kd.R_alloc | apply Kd.R_drewN | apply Kd.R_drew)); exact HO_11.out) (Kd.R_base ho71) hb)
                     have n1_ := zpS (Kd.R_elder' (by (with_reducible repeat (first | apply Kd.R_alloc | apply Kd.R_drewN | apply Kd.R_drew)); exact HO_12.out) (Kd.R_base ho71) hb)
                     have n2_ := zpS (Kd.R_elder' (by (with_reducible repeat (first | apply Kd.R_alloc | apply Kd.R_drewN | apply Kd.R_drew)); exact HO254.out) (Kd.R_base ho71) hb)
                     have n3_ := zpS (Kd.R_lower (Kd.R_new' (Kd.R_new' (Kd.R_new' ho71 (Kd.R_lt (by (with_reducible repeat (first | apply Kd.R_alloc | apply Kd.R_drewN | apply Kd.R_drew)); exact HO_11.out))) (Kd.R_lt (by (with_reducible repeat (first | apply Kd.R_alloc | apply Kd.R_drewN | apply Kd.R_drew)); exact HO_12.out))) (Kd.R_lt (by (with_reducible repeat (first | apply Kd.R_alloc | apply Kd.R_drewN | apply Kd.R_drew)); exact HO254.out))) (zuA bb_))
                     have n4_ := zpS (Kd.C_below (by repeat (first | (with_reducible exact HR247.out) | (with_reducible refine Kd.C_alloc ?_ _) | (with_reducible refine Kd.C_drewN ?_ _) | (with_reducible refine Kd.C_drew ?_) | exact HR247.out)) hb)
                     have n5_ := zpS (Kd.C_below (by repeat (first | (with_reducible exact HR258.out) | (with_reducible refine Kd.C_alloc ?_ _) | (with_reducible refine Kd.C_drewN ?_ _) | (with_reducible refine Kd.C_drew ?_) | exact HR258.out)) hb)
                     have n6_ := (ns_ hb)
                     clear HO_11
                     clear HO_12
                     clear HO254
                     clear HR247
                     clear HR258
                     clear HB
                     have HO_11 := n0_
                     have HO_12 := n1_
                     have HO254 := n2_
                     have HO243 := n3_
                     have HR247 := n4_
                     have HR258 := n5_
                     have HB := n6_
                     clear n0_ n1_ n2_ n3_ n4_ n5_ n6_
                     clear hb ho71
                     refine hK.out _ _ ⟨HS0_, HS1_⟩ (fun hHeld => ?_)
                     clear hK K
                     refine zaN (a' := ?_) ?_ ?_
                     rotate_left
                     ·show Act.put _ (some 85) _ = _
                      simp only [Act.put, List.setIfInBounds_toArray, List.set_cons_zero, List.set_cons_succ, zcM, ziJ]
                      rfl
                     refine one_ (i := 8) (N := some 90) (bl_ 22 262143) rfl rfl (zeO HT_.out (by kernel_rfl)) (by decide) (fun K hK => ?_)
                     refine Kd.R_append_rows_step (Kd.int .i64) (w0 := w) w.heap.size (by rfl) (.tmp 85) (.tmp 89) 24 2 (.int .i64 0) 8 rfl Try.underlying24 info2 rfl (by decide) (by omega) v242 y241 y244 _ _ _ (fun k_ => some k_ ≠ (.slice (some ad240) t205.length co65 : Value).ownBlock ∧ some k_ ≠ (.slice (some ad251) t208.length co49 : Value).ownBlock ∧ some k_ ≠ (v253 : Value).ownBlock) (fun _ => False) rfl rfl ?aO ?aR (fun _ _ h => h) (fun _ h => h.elim) ?aF ?aB ?aS ?aL ?_
                     (case aR => repeat (first | exact (by repeat (first | (with_reducible exact HR247.out) | (with_reducible refine Kd.C_alloc ?_ _) | (with_reducible refine Kd.C_drewN ?_ _) | (with_reducible refine Kd.C_drew ?_) | exact HR247.out)) | (with_reducible refine Kd.C_alloc ?_ _) | (with_reducible refine Kd.C_drewN ?_ _) | (with_reducible refine Kd.C_drew ?_)))
                     (case aB => exact bb_)
                     (case aF => exact (fun k_ hk => ⟨Kd.fresh' (Kd.R_lt (by (with_reducible repeat (first | apply Kd.R_alloc | apply Kd.R_drewN | apply Kd.R_drew)); exact HO_11.out)) k_ hk, Kd.fresh' (Kd.R_lt (by (with_reducible repeat (first | apply Kd.R_alloc | apply Kd.R_drewN | apply Kd.R_drew)); exact HO_12.out)) k_ hk, Kd.fresh' (Kd.R_lt (by (with_reducible repeat (first | apply Kd.R_alloc | apply Kd.R_drewN | apply Kd.R_drew)); exact HO254.out)) k_ hk⟩))
                     (case aO => exact (by (with_reducible repeat (first | apply Kd.R_alloc | apply Kd.R_drewN | apply Kd.R_drew)); exact Kd.R_mono HO243.out (fun _ hk => ⟨hk.1.1.2, ⟨hk.1.2, hk.2⟩⟩)))
                     (case aS => exact (zuA bb_))
                     (case aL => have := LMc58.out; omega)
                     intro v249 w72 ho hb hg hat
                     have HS0_ := zmX hg (hHeld.1) (by (first | rw [zhT] | (show some (Addr.add _ _).block ≠ _; rw [zhT]) | skip); have h_ := HO_11.out.1 _ rfl; revert h_; (try simp only [and_imp]); intros; assumption)
                     have HS1_ := zmX hg (hHeld.2) (by (first | rw [zhT] | (show some (Addr.add _ _).block ≠ _; rw [zhT]) | skip); have h_ := HO_12.out.1 _ rfl; revert h_; (try simp only [and_imp]); intros; assumption)
                     rw [← Ny248.out] at ho
                     have n0_ := zpS (Kd.R_after (ok := (fun k_ => some k_ ≠ (.slice (some ad251) t208.length co49 : Value).ownBlock ∧ some k_ ≠ (v253 : Value).ownBlock)) (by (with_reducible repeat (first | apply Kd.R_alloc | apply Kd.R_drewN | apply Kd.R_drew)); exact HO_11.out) hg hat)
                     have n1_ := zpS (Kd.R_after (ok := (fun k_ => some k_ ≠ (.slice (some ad240) t205.length co65 : Value).ownBlock ∧ some k_ ≠ (v253 : Value).ownBlock)) (by (with_reducible repeat (first | apply Kd.R_alloc | apply Kd.R_drewN | apply Kd.R_drew)); exact HO_12.out) hg hat)
                     have n2_ := zpS (Kd.R_after (ok := (fun k_ => some k_ ≠ (.slice (some ad240) t205.length co65 : Value).ownBlock ∧ some k_ ≠ (.slice (some ad251) t208.length co49 : Value).ownBlock)) (by (with_reducible repeat (first | apply Kd.R_alloc | apply Kd.R_drewN | apply Kd.R_drew)); exact Kd.R_mono HO254.out (fun _ hk => ⟨⟨hk.1.1.2, hk.1.2⟩, hk.2⟩)) hg hat)
                     have n3_ := zpS (hb)
                     have n4_ := zpS ((show Kd.C (Kd.int .i64) w72 A66 y244.length y244 from by rw [Ny244.out, KA66.out]; exact Kd.C_drop (m := ((ji55) : Int).toNat) (c := co65) ((Kd.R_reads' (Kd.R_after (ok := (fun k_ => some k_ ≠ (.slice (some ad251) t208.length co49 : Value).ownBlock ∧ some k_ ≠ (v253 : Value).ownBlock)) (by (with_reducible repeat (first | apply Kd.R_alloc | apply Kd.R_drewN | apply Kd.R_drew)); exact HO_11.out) hg hat)).2.2) KL66.out ((Kd.R_reads' (Kd.R_after (ok := (fun k_ => some k_ ≠ (.slice (some ad251) t208.length co49 : Value).ownBlock ∧ some k_ ≠ (v253 : Value).ownBlock)) (by (with_reducible repeat (first | apply Kd.R_alloc | apply Kd.R_drewN | apply Kd.R_drew)); exact HO_11.out) hg hat)).2.1)))
                     have n5_ := zpS ((show Kd.C (Kd.int .i64) w72 A67 y255.length y255 from by rw [Ny255.out, KA67.out]; exact Kd.C_drop (m := ((ji60) : Int).toNat) (c := co49) ((Kd.R_reads' (Kd.R_after (ok := (fun k_ => some k_ ≠ (.slice (some ad240) t205.length co65 : Value).ownBlock ∧ some k_ ≠ (v253 : Value).ownBlock)) (by (with_reducible repeat (first | apply Kd.R_alloc | apply Kd.R_drewN | apply Kd.R_drew)); exact HO_12.out) hg hat)).2.2) KL67.out ((Kd.R_reads' (Kd.R_after (ok := (fun k_ => some k_ ≠ (.slice (some ad240) t205.length co65 : Value).ownBlock ∧ some k_ ≠ (v253 : Value).ownBlock)) (by (with_reducible repeat (first | apply Kd.R_alloc | apply Kd.R_drewN | apply Kd.R_drew)); exact HO_12.out) hg hat)).2.1)))
                     have n6_ := zpS (ho)
                     clear HO_11
                     clear HO_12
                     clear HO254
                     clear HB
                     clear HR247
                     clear HR258
                     clear HO243
                     have HO_11 := n0_
                     have HO_12 := n1_
                     have HO254 := n2_
                     have HB := n3_
                     have HR247 := n4_
                     have HR258 := n5_
                     have HO250 := n6_
                     clear n0_ n1_ n2_ n3_ n4_ n5_ n6_
                     clear ho hb hg hat
                     refine hK.out _ _ ⟨HS0_, HS1_⟩ (fun hHeld => ?_)
                     clear hK K
                     refine zaN (a' := ?_) ?_ ?_
                     rotate_left
                     ·show Act.put _ (some 90) _ = _
                      simp only [Act.put, List.setIfInBounds_toArray, List.set_cons_zero, List.set_cons_succ, zcM, ziJ]
                      rfl
                     exact zaN (by simp only [putAll, Act.put, List.setIfInBounds_toArray, List.set_cons_zero, List.set_cons_succ]) (hCont (v242, v249, v253) _ ⟨hHeld, (by (with_reducible repeat (first | apply Kd.R_alloc | apply Kd.R_drewN | apply Kd.R_drew)); exact Kd.R_mono HO250.out (fun _ hk => ⟨hk.2.2, ⟨hk.1, hk.2.1⟩⟩)), (by (with_reducible repeat (first | apply Kd.R_alloc | apply Kd.R_drewN | apply Kd.R_drew)); exact Kd.R_mono HO254.out (fun _ hk => ⟨hk.2, ⟨hk.1.1, hk.1.2⟩⟩)), (by (with_reducible repeat (first | apply Kd.R_alloc | apply Kd.R_drewN | apply Kd.R_drew)); exact Kd.R_mono HO_11.out (fun _ hk => ⟨hk.2, ⟨hk.1.2, hk.1.1⟩⟩)), (by (with_reducible repeat (first | apply Kd.R_alloc | apply Kd.R_drewN | apply Kd.R_drew)); exact Kd.R_mono HO_12.out (fun _ hk => ⟨hk.2, ⟨hk.1.2, hk.1.1⟩⟩)), (by repeat (first | (with_reducible exact HR247.out) | (with_reducible refine Kd.C_alloc ?_ _) | (with_reducible refine Kd.C_drewN ?_ _) | (with_reducible refine Kd.C_drew ?_) | exact HR247.out)), (by repeat (first | (with_reducible exact HR258.out) | (with_reducible refine Kd.C_alloc ?_ _) | (with_reducible refine Kd.C_drewN ?_ _) | (with_reducible refine Kd.C_drew ?_) | exact HR258.out)), bb_⟩)
                   rintro ⟨v242, v249, v253⟩ w73 ⟨hS_, h0_, h1_, h2_, h3_, h4_, h5_, h6_⟩
                   have n0_ : Aside0 (Kd.R (Kd.int .i64) 2 w73 w.heap.size (fun k_ => some k_ ≠ (v253 : Value).ownBlock ∧ some k_ ≠ (.slice (some ad240) t205.length co65 : Value).ownBlock ∧ some k_ ≠ (.slice (some ad251) t208.length co49 : Value).ownBlock) v249 y248) := ⟨h0_⟩
                   have n1_ : Aside0 (Kd.R (Kd.int .i64) 2 w73 w.heap.size (fun k_ => some k_ ≠ (v249 : Value).ownBlock ∧ some k_ ≠ (.slice (some ad240) t205.length co65 : Value).ownBlock ∧ some k_ ≠ (.slice (some ad251) t208.length co49 : Value).ownBlock) v253 y252) := ⟨h1_⟩
                   have n2_ : Aside0 (Kd.R (Kd.int .i64) 2 w73 w.heap.size (fun k_ => some k_ ≠ (v249 : Value).ownBlock ∧ some k_ ≠ (v253 : Value).ownBlock ∧ some k_ ≠ (.slice (some ad251) t208.length co49 : Value).ownBlock) (.slice (some ad240) t205.length co65) t205) := ⟨h2_⟩
                   have n3_ : Aside0 (Kd.R (Kd.int .i64) 2 w73 w.heap.size (fun k_ => some k_ ≠ (v249 : Value).ownBlock ∧ some k_ ≠ (v253 : Value).ownBlock ∧ some k_ ≠ (.slice (some ad240) t205.length co65 : Value).ownBlock) (.slice (some ad251) t208.length co49) t208) := ⟨h3_⟩
                   have n4_ : Aside0 (Kd.C (Kd.int .i64) w73 A66 y244.length y244) := ⟨h4_⟩
                   have n5_ : Aside0 (Kd.C (Kd.int .i64) w73 A67 y255.length y255) := ⟨h5_⟩
                   have n6_ : Aside0 (Below w.heap.size w w73) := ⟨h6_⟩
                   clear HO_11
                   clear HO_12
                   clear HB
                   clear h0_ h1_ h2_ h3_ h4_ h5_ h6_
                   have HO250 := n0_
                   have HO254 := n1_
                   have HO_11 := n2_
                   have HO_12 := n3_
                   have HR247 := n4_
                   have HR258 := n5_
                   have HB := n6_
                   clear n0_ n1_ n2_ n3_ n4_ n5_ n6_
                   have hHeld : w73.cell? ad240 = some (.int .i64 (rd t205 0)) ∧ w73.cell? ad251 = some (.int .i64 (rd t208 0)) := hS_
                   refine zaN (a' := ?_) ?_ ?_
                   rotate_left
                   ·simp only [putAll, Act.put, List.setIfInBounds_toArray, List.set_cons_zero, List.set_cons_succ]
                    rfl
                   refine one_ (i := 18) (N := some 100) (bl_ 22 524287) rfl rfl (zeO HT_.out (by kernel_rfl)) (by decide) (fun K hK => ?_)
                   refine Kd.R_append_rows_step (Kd.int .i64) (w0 := w) w.heap.size (by rfl) (.tmp 95) (.tmp 99) 24 2 (.int .i64 0) 8 rfl Try.underlying24 info2 rfl (by decide) (by omega) v253 y252 y255 _ _ _ (fun k_ => some k_ ≠ (.slice (some ad240) t205.length co65 : Value).ownBlock ∧ some k_ ≠ (.slice (some ad251) t208.length co49 : Value).ownBlock ∧ some k_ ≠ (v249 : Value).ownBlock) (fun _ => False) rfl rfl ?aO ?aR (fun _ _ h => h) (fun _ h => h.elim) ?aF ?aB ?aS ?aL ?_
                   (case aR => repeat (first | exact (by repeat (first | (with_reducible exact HR258.out) | (with_reducible refine Kd.C_alloc ?_ _) | (with_reducible refine Kd.C_drewN ?_ _) | (with_reducible refine Kd.C_drew ?_) | exact HR258.out)) | (with_reducible refine Kd.C_alloc ?_ _) | (with_reducible refine Kd.C_drewN ?_ _) | (with_reducible refine Kd.C_drew ?_)))
                   (case aB => exact bb_)
                   (case aF => exact (fun k_ hk => ⟨Kd.fresh' (Kd.R_lt (by (with_reducible repeat (first | apply Kd.R_alloc | apply Kd.R_drewN | apply Kd.R_drew)); exact HO_11.out)) k_ hk, Kd.fresh' (Kd.R_lt (by (with_reducible repeat (first | apply Kd.R_alloc | apply Kd.R_drewN | apply Kd.R_drew)); exact HO_12.out)) k_ hk, Kd.fresh' (Kd.R_lt (by (with_reducible repeat (first | apply Kd.R_alloc | apply Kd.R_drewN | apply Kd.R_drew)); exact HO250.out)) k_ hk⟩))
                   (case aO => exact (by (with_reducible repeat (first | apply Kd.R_alloc | apply Kd.R_drewN | apply Kd.R_drew)); exact Kd.R_mono HO254.out (fun _ hk => ⟨hk.2.1, ⟨hk.2.2, hk.1⟩⟩)))
                   (case aS => exact (zuA bb_))
                   (case aL => have := LMc63.out; omega)
                   intro v260 w74 ho hb hg hat
                   have HS0_ := zmX hg (hHeld.1) (by (first | rw [zhT] | (show some (Addr.add _ _).block ≠ _; rw [zhT]) | skip); have h_ := HO_11.out.1 _ rfl; revert h_; (try simp only [and_imp]); intros; assumption)
                   have HS1_ := zmX hg (hHeld.2) (by (first | rw [zhT] | (show some (Addr.add _ _).block ≠ _; rw [zhT]) | skip); have h_ := HO_12.out.1 _ rfl; revert h_; (try simp only [and_imp]); intros; assumption)
                   rw [← Ny259.out] at ho
                   have n0_ := zpS (Kd.R_after (ok := (fun k_ => some k_ ≠ (.slice (some ad251) t208.length co49 : Value).ownBlock ∧ some k_ ≠ (v249 : Value).ownBlock)) (by (with_reducible repeat (first | apply Kd.R_alloc | apply Kd.R_drewN | apply Kd.R_drew)); exact Kd.R_mono HO_11.out (fun _ hk => ⟨⟨hk.2.2, hk.1⟩, hk.2.1⟩)) hg hat)
                   have n1_ := zpS (Kd.R_after (ok := (fun k_ => some k_ ≠ (.slice (some ad240) t205.length co65 : Value).ownBlock ∧ some k_ ≠ (v249 : Value).ownBlock)) (by (with_reducible repeat (first | apply Kd.R_alloc | apply Kd.R_drewN | apply Kd.R_drew)); exact Kd.R_mono HO_12.out (fun _ hk => ⟨⟨hk.2.2, hk.1⟩, hk.2.1⟩)) hg hat)
                   have n2_ := zpS (Kd.R_after (ok := (fun k_ => some k_ ≠ (.slice (some ad240) t205.length co65 : Value).ownBlock ∧ some k_ ≠ (.slice (some ad251) t208.length co49 : Value).ownBlock)) (by (with_reducible repeat (first | apply Kd.R_alloc | apply Kd.R_drewN | apply Kd.R_drew)); exact Kd.R_mono HO250.out (fun _ hk => ⟨⟨hk.2.1, hk.2.2⟩, hk.1⟩)) hg hat)
                   have n3_ := zpS (hb)
                   have n4_ := zpS ((show Kd.C (Kd.int .i64) w74 A66 y244.length y244 from by rw [Ny244.out, KA66.out]; exact Kd.C_drop (m := ((ji55) : Int).toNat) (c := co65) ((Kd.R_reads' (Kd.R_after (ok := (fun k_ => some k_ ≠ (.slice (some ad251) t208.length co49 : Value).ownBlock ∧ some k_ ≠ (v249 : Value).ownBlock)) (by (with_reducible repeat (first | apply Kd.R_alloc | apply Kd.R_drewN | apply Kd.R_drew)); exact Kd.R_mono HO_11.out (fun _ hk => ⟨⟨hk.2.2, hk.1⟩, hk.2.1⟩)) hg hat)).2.2) KL66.out ((Kd.R_reads' (Kd.R_after (ok := (fun k_ => some k_ ≠ (.slice (some ad251) t208.length co49 : Value).ownBlock ∧ some k_ ≠ (v249 : Value).ownBlock)) (by (with_reducible repeat (first | apply Kd.R_alloc | apply Kd.R_drewN | apply Kd.R_drew)); exact Kd.R_mono HO_11.out (fun _ hk => ⟨⟨hk.2.2, hk.1⟩, hk.2.1⟩)) hg hat)).2.1)))
                   have n5_ := zpS ((show Kd.C (Kd.int .i64) w74 A67 y255.length y255 from by rw [Ny255.out, KA67.out]; exact Kd.C_drop (m := ((ji60) : Int).toNat) (c := co49) ((Kd.R_reads' (Kd.R_after (ok := (fun k_ => some k_ ≠ (.slice (some ad240) t205.length co65 : Value).ownBlock ∧ some k_ ≠ (v249 : Value).ownBlock)) (by (with_reducible repeat (first | apply Kd.R_alloc | apply Kd.R_drewN | apply Kd.R_drew)); exact Kd.R_mono HO_12.out (fun _ hk => ⟨⟨hk.2.2, hk.1⟩, hk.2.1⟩)) hg hat)).2.2) KL67.out ((Kd.R_reads' (Kd.R_after (ok := (fun k_ => some k_ ≠ (.slice (some ad240) t205.length co65 : Value).ownBlock ∧ some k_ ≠ (v249 : Value).ownBlock)) (by (with_reducible repeat (first | apply Kd.R_alloc | apply Kd.R_drewN | apply Kd.R_drew)); exact Kd.R_mono HO_12.out (fun _ hk => ⟨⟨hk.2.2, hk.1⟩, hk.2.1⟩)) hg hat)).2.1)))
                   have n6_ := zpS (ho)
                   clear HO_11
                   clear HO_12
                   clear HO250
                   clear HB
                   clear HR247
                   clear HR258
                   clear HO254
                   have HO_11 := n0_
                   have HO_12 := n1_
                   have HO250 := n2_
                   have HB := n3_
                   have HR247 := n4_
                   have HR258 := n5_
                   have HO261 := n6_
                   clear n0_ n1_ n2_ n3_ n4_ n5_ n6_
                   clear ho hb hg hat
                   refine hK.out _ _ ⟨HS0_, HS1_⟩ (fun hHeld => ?_)
                   clear hK K
                   refine zaN (a' := ?_) ?_ ?_
                   rotate_left
                   ·show Act.put _ (some 100) _ = _
                    simp only [Act.put, List.setIfInBounds_toArray, List.set_cons_zero, List.set_cons_succ, zcM, ziJ]
                    rfl
                   refine pu_ 19 (some 4) (bl_ 22 1048575) ?_
                   refine pu_ 20 (some 5) (bl_ 22 2097151) ?_
                   refine pu_ 21 (some 6) (bl_ 22 4194303) ?_
                   refine done_ (done_of HT_.out (by kernel_rfl)) ?_
                   try go_wp2
                   go_ret3
                   exact ⟨_, _, by first | rfl | (simp [ziS, znJ] <;> rfl) | (simp only [← hji55, ← hji60]; first | rfl | (simp [ziS, znJ] <;> rfl)) | (simp [*, ziS, znJ] <;> rfl), by (with_reducible repeat (first | apply Kd.R_alloc | apply Kd.R_drewN | apply Kd.R_drew)); exact Kd.R_mono HO250.out (fun _ hk => hk.2), by (with_reducible repeat (first | apply Kd.R_alloc | apply Kd.R_drewN | apply Kd.R_drew)); exact Kd.R_mono HO261.out (fun _ hk => hk.2.2), bb_⟩
                  ·rw [if_neg c63] at H
                   exact absurd H (by simp)
                 ·rw [if_neg c62] at H
                  exact absurd H (by simp)
                ·rw [if_neg c61] at H
                 exact absurd H (by simp)
               ·rw [if_neg c59] at H
                exact absurd H (by simp)
              ·rw [if_neg c58] at H
               exact absurd H (by simp)
             ·rw [if_neg c57] at H
              exact absurd H (by simp)
            ·rw [if_neg c56] at H
             exact absurd H (by simp)
           ·rw [if_neg c54] at H
            exact absurd H (by simp)
    ·rw [if_neg c9] at H
     exact absurd H (by simp)
   ·rw [if_neg c8] at H
    exact absurd H (by simp)

end Go.Proofs.Ytdnblakbegjohaa.PFnCrimps
