-- Printed for this claim by this session's program pp.py, which drives the kit's print with additions. Not trusted: Lean checks it.
import Derived.Test.YtjldcnibdddioaaPFnLittleRunsx0
import Derived.Test.YtjldcnibdddioaaPFnLittleRunsx1
import Derived.Test.YtjldcnibdddioaaPFnLittleRunsx2
import Derived.Test.YtjldcnibdddioaaPFnLittleRunsx3
namespace Go.Proofs.Ytjldcnibdddioaa.PFnLittleRuns
open Go.RowKit Go.Proofs.YtjldcnibdddioaaW.PrintWords Go.Proofs.YtjldcnibdddioaaW.PrintLast Go.Proofs.YtjldcnibdddioaaW.PrintMore
attribute [local go_sem] max2_int min2_int max_two min_two max_three min_three max_four min_four   -- for this text's walks alone
set_option linter.unusedVariables false
set_option linter.unusedSimpArgs false

/-! ### laws_FnLittleRuns: function 4 -/
mutual
def laws_FnLittleRuns.l0 : Nat → List Int → Int → List (S34) → Int → Int → Option (Bool)
  | 0, _, _, _, _, _ => none
  | k + 1, x3, x4, x5, x6, x7 => if x7 < (x5.length : Int) then (if 0 ≤ x7 then (if ((rd_T34 x5 x7).f0) < 0 then (laws_FnLittleRuns.j1 k x3 x4 x5 x6 x7 true ((rd_T34 x5 x7).f0) ((rd_T34 x5 x7).f1) ((rd_T34 x5 x7).f2)) else (if ((rd_T34 x5 x7).f0) ≥ x4 then (laws_FnLittleRuns.j1 k x3 x4 x5 x6 x7 true ((rd_T34 x5 x7).f0) ((rd_T34 x5 x7).f1) ((rd_T34 x5 x7).f2)) else (if ((rd_T34 x5 x7).f1) < 1 then (laws_FnLittleRuns.j1 k x3 x4 x5 x6 x7 true ((rd_T34 x5 x7).f0) ((rd_T34 x5 x7).f1) ((rd_T34 x5 x7).f2)) else (if ((rd_T34 x5 x7).f1) ≥ x4 then (laws_FnLittleRuns.j1 k x3 x4 x5 x6 x7 true ((rd_T34 x5 x7).f0) ((rd_T34 x5 x7).f1) ((rd_T34 x5 x7).f2)) else (if x7 > 0 then (if 0 ≤ (wrap64 (x7 - 1)) then (if (wrap64 (x7 - 1)) < (x5.length : Int) then (laws_FnLittleRuns.j1 k x3 x4 x5 x6 x7 (decide (((rd_T34 x5 (wrap64 (x7 - 1))).f0) ≥ ((rd_T34 x5 x7).f0))) ((rd_T34 x5 x7).f0) ((rd_T34 x5 x7).f1) ((rd_T34 x5 x7).f2)) else (none)) else (none)) else (laws_FnLittleRuns.j1 k x3 x4 x5 x6 x7 false ((rd_T34 x5 x7).f0) ((rd_T34 x5 x7).f1) ((rd_T34 x5 x7).f2))))))) else (none)) else (laws_FnLittleRuns.l2 k x3 x4 x6 0)
def laws_FnLittleRuns.j1 : Nat → List Int → Int → List (S34) → Int → Int → Bool → Int → Int → Int → Option (Bool)
  | 0, _, _, _, _, _, _, _, _, _ => none
  | k + 1, x3, x4, x5, x6, x7, x63, x258000, x258001, x258002 => if x63 = true then (some false) else (laws_FnLittleRuns.l1 k x3 x4 x5 x6 x7 0 x258000 x258001 x258002)
def laws_FnLittleRuns.l1 : Nat → List Int → Int → List (S34) → Int → Int → Int → Int → Int → Int → Option (Bool)
  | 0, _, _, _, _, _, _, _, _, _ => none
  | k + 1, x3, x4, x5, x6, x7, x9, x258000, x258001, x258002 => if x9 < x258001 then (if x4 = 0 then (none) else (if 0 ≤ (Int.tmod (wrap64 (x258000 + x9)) x4) then (if (Int.tmod (wrap64 (x258000 + x9)) x4) < (x3.length : Int) then (if (rd x3 (Int.tmod (wrap64 (x258000 + x9)) x4)) = x258002 then (laws_FnLittleRuns.l1 k x3 x4 x5 x6 x7 (wrap64 (x9 + 1)) x258000 x258001 x258002) else (some false)) else (none)) else (none))) else (if x4 = 0 then (none) else (if 0 ≤ (Int.tmod (wrap64 ((wrap64 (x258000 + x4)) - 1)) x4) then (if (Int.tmod (wrap64 ((wrap64 (x258000 + x4)) - 1)) x4) < (x3.length : Int) then (if (rd x3 (Int.tmod (wrap64 ((wrap64 (x258000 + x4)) - 1)) x4)) ≤ x258002 then (laws_FnLittleRuns.j3 k x3 x4 x5 x6 x7 true x258000 x258001 x258002) else (if 0 ≤ (Int.tmod (wrap64 (x258000 + x258001)) x4) then (if (Int.tmod (wrap64 (x258000 + x258001)) x4) < (x3.length : Int) then (laws_FnLittleRuns.j3 k x3 x4 x5 x6 x7 (decide ((rd x3 (Int.tmod (wrap64 (x258000 + x258001)) x4)) ≤ x258002)) x258000 x258001 x258002) else (none)) else (none))) else (none)) else (none)))
def laws_FnLittleRuns.j3 : Nat → List Int → Int → List (S34) → Int → Int → Bool → Int → Int → Int → Option (Bool)
  | 0, _, _, _, _, _, _, _, _, _ => none
  | k + 1, x3, x4, x5, x6, x7, x109, x258000, x258001, x258002 => if x109 = true then (some false) else (if x258001 = 1 then (laws_FnLittleRuns.l0 k x3 x4 x5 (wrap64 (x6 + 1)) (wrap64 (x7 + 1))) else (laws_FnLittleRuns.l0 k x3 x4 x5 x6 (wrap64 (x7 + 1))))
def laws_FnLittleRuns.l2 : Nat → List Int → Int → Int → Int → Option (Bool)
  | 0, _, _, _, _ => none
  | k + 1, x3, x4, x6, x10 => if x10 < x4 then (if x4 = 0 then (none) else (if 0 ≤ (Int.tmod (wrap64 ((wrap64 (x10 + x4)) - 1)) x4) then (if (Int.tmod (wrap64 ((wrap64 (x10 + x4)) - 1)) x4) < (x3.length : Int) then (if 0 ≤ x10 then (if x10 < (x3.length : Int) then (if (rd x3 (Int.tmod (wrap64 ((wrap64 (x10 + x4)) - 1)) x4)) > (rd x3 x10) then (if 0 ≤ (Int.tmod (wrap64 (x10 + 1)) x4) then (if (Int.tmod (wrap64 (x10 + 1)) x4) < (x3.length : Int) then (if (rd x3 (Int.tmod (wrap64 (x10 + 1)) x4)) > (rd x3 x10) then (laws_FnLittleRuns.l2 k x3 x4 (wrap64 (x6 - 1)) (wrap64 (x10 + 1))) else (laws_FnLittleRuns.l2 k x3 x4 x6 (wrap64 (x10 + 1)))) else (none)) else (none)) else (laws_FnLittleRuns.l2 k x3 x4 x6 (wrap64 (x10 + 1)))) else (none)) else (none)) else (none)) else (none))) else (some (x6 == 0))
end
def laws_FnLittleRuns.f (k : Nat) (l0 : List Int) : Option (Bool) := (laws_a2Long.f l0 ([] : List Int)).bind fun t249 => (if t249 = true then (some true) else ((spec_A2Sectors.f k l0).bind fun t250 => ((impl_LittleRuns.f k t250).bind fun t253 => (laws_FnLittleRuns.l0 k t250 (t250.length : Int) t253 0 0))))
theorem laws_FnLittleRuns.mono_l : ∀ k, (∀ y0 y1 y2 y3 y4, LeO (laws_FnLittleRuns.l0 k y0 y1 y2 y3 y4) (laws_FnLittleRuns.l0 (k + 1) y0 y1 y2 y3 y4)) ∧ (∀ y0 y1 y2 y3 y4 y5 y6 y7 y8, LeO (laws_FnLittleRuns.j1 k y0 y1 y2 y3 y4 y5 y6 y7 y8) (laws_FnLittleRuns.j1 (k + 1) y0 y1 y2 y3 y4 y5 y6 y7 y8)) ∧ (∀ y0 y1 y2 y3 y4 y5 y6 y7 y8, LeO (laws_FnLittleRuns.l1 k y0 y1 y2 y3 y4 y5 y6 y7 y8) (laws_FnLittleRuns.l1 (k + 1) y0 y1 y2 y3 y4 y5 y6 y7 y8)) ∧ (∀ y0 y1 y2 y3 y4 y5 y6 y7 y8, LeO (laws_FnLittleRuns.j3 k y0 y1 y2 y3 y4 y5 y6 y7 y8) (laws_FnLittleRuns.j3 (k + 1) y0 y1 y2 y3 y4 y5 y6 y7 y8)) ∧ (∀ y0 y1 y2 y3, LeO (laws_FnLittleRuns.l2 k y0 y1 y2 y3) (laws_FnLittleRuns.l2 (k + 1) y0 y1 y2 y3))
  | 0 => ⟨fun _ _ _ _ _ r h => by simp [laws_FnLittleRuns.l0] at h, fun _ _ _ _ _ _ _ _ _ r h => by simp [laws_FnLittleRuns.j1] at h, fun _ _ _ _ _ _ _ _ _ r h => by simp [laws_FnLittleRuns.l1] at h, fun _ _ _ _ _ _ _ _ _ r h => by simp [laws_FnLittleRuns.j3] at h, fun _ _ _ _ r h => by simp [laws_FnLittleRuns.l2] at h⟩
  | k + 1 => by
    obtain ⟨ih0, ih1, ih2, ih3, ih4⟩ := laws_FnLittleRuns.mono_l k
    refine ⟨?_, ?_, ?_, ?_, ?_⟩
    · intro y0 y1 y2 y3 y4
      unfold laws_FnLittleRuns.l0
      repeat' first
      | (with_reducible exact ih0 _ _ _ _ _)
      | (with_reducible exact ih1 _ _ _ _ _ _ _ _ _)
      | (with_reducible exact ih2 _ _ _ _ _ _ _ _ _)
      | (with_reducible exact ih3 _ _ _ _ _ _ _ _ _)
      | (with_reducible exact ih4 _ _ _ _)
      | (with_reducible exact impl_LittleRuns.mono _ _)
      | (with_reducible exact spec_A2Sectors.mono _ _)
      | (with_reducible exact LeO.refl _)
      | (with_reducible exact LeO.none _)
      | (with_reducible refine LeO.ite ?_ ?_)
      | (with_reducible refine LeO.bind ?_ (fun _ => ?_))
      | exact ih0 _ _ _ _ _
      | exact ih1 _ _ _ _ _ _ _ _ _
      | exact ih2 _ _ _ _ _ _ _ _ _
      | exact ih3 _ _ _ _ _ _ _ _ _
      | exact ih4 _ _ _ _
      | exact impl_LittleRuns.mono _ _
      | exact spec_A2Sectors.mono _ _
      | exact LeO.none _
      | refine LeO.ite ?_ ?_
      | refine LeO.bind ?_ (fun _ => ?_)
    · intro y0 y1 y2 y3 y4 y5 y6 y7 y8
      unfold laws_FnLittleRuns.j1
      repeat' first
      | (with_reducible exact ih0 _ _ _ _ _)
      | (with_reducible exact ih1 _ _ _ _ _ _ _ _ _)
      | (with_reducible exact ih2 _ _ _ _ _ _ _ _ _)
      | (with_reducible exact ih3 _ _ _ _ _ _ _ _ _)
      | (with_reducible exact ih4 _ _ _ _)
      | (with_reducible exact impl_LittleRuns.mono _ _)
      | (with_reducible exact spec_A2Sectors.mono _ _)
      | (with_reducible exact LeO.refl _)
      | (with_reducible exact LeO.none _)
      | (with_reducible refine LeO.ite ?_ ?_)
      | (with_reducible refine LeO.bind ?_ (fun _ => ?_))
      | exact ih0 _ _ _ _ _
      | exact ih1 _ _ _ _ _ _ _ _ _
      | exact ih2 _ _ _ _ _ _ _ _ _
      | exact ih3 _ _ _ _ _ _ _ _ _
      | exact ih4 _ _ _ _
      | exact impl_LittleRuns.mono _ _
      | exact spec_A2Sectors.mono _ _
      | exact LeO.none _
      | refine LeO.ite ?_ ?_
      | refine LeO.bind ?_ (fun _ => ?_)
    · intro y0 y1 y2 y3 y4 y5 y6 y7 y8
      unfold laws_FnLittleRuns.l1
      repeat' first
      | (with_reducible exact ih0 _ _ _ _ _)
      | (with_reducible exact ih1 _ _ _ _ _ _ _ _ _)
      | (with_reducible exact ih2 _ _ _ _ _ _ _ _ _)
      | (with_reducible exact ih3 _ _ _ _ _ _ _ _ _)
      | (with_reducible exact ih4 _ _ _ _)
      | (with_reducible exact impl_LittleRuns.mono _ _)
      | (with_reducible exact spec_A2Sectors.mono _ _)
      | (with_reducible exact LeO.refl _)
      | (with_reducible exact LeO.none _)
      | (with_reducible refine LeO.ite ?_ ?_)
      | (with_reducible refine LeO.bind ?_ (fun _ => ?_))
      | exact ih0 _ _ _ _ _
      | exact ih1 _ _ _ _ _ _ _ _ _
      | exact ih2 _ _ _ _ _ _ _ _ _
      | exact ih3 _ _ _ _ _ _ _ _ _
      | exact ih4 _ _ _ _
      | exact impl_LittleRuns.mono _ _
      | exact spec_A2Sectors.mono _ _
      | exact LeO.none _
      | refine LeO.ite ?_ ?_
      | refine LeO.bind ?_ (fun _ => ?_)
    · intro y0 y1 y2 y3 y4 y5 y6 y7 y8
      unfold laws_FnLittleRuns.j3
      repeat' first
      | (with_reducible exact ih0 _ _ _ _ _)
      | (with_reducible exact ih1 _ _ _ _ _ _ _ _ _)
      | (with_reducible exact ih2 _ _ _ _ _ _ _ _ _)
      | (with_reducible exact ih3 _ _ _ _ _ _ _ _ _)
      | (with_reducible exact ih4 _ _ _ _)
      | (with_reducible exact impl_LittleRuns.mono _ _)
      | (with_reducible exact spec_A2Sectors.mono _ _)
      | (with_reducible exact LeO.refl _)
      | (with_reducible exact LeO.none _)
      | (with_reducible refine LeO.ite ?_ ?_)
      | (with_reducible refine LeO.bind ?_ (fun _ => ?_))
      | exact ih0 _ _ _ _ _
      | exact ih1 _ _ _ _ _ _ _ _ _
      | exact ih2 _ _ _ _ _ _ _ _ _
      | exact ih3 _ _ _ _ _ _ _ _ _
      | exact ih4 _ _ _ _
      | exact impl_LittleRuns.mono _ _
      | exact spec_A2Sectors.mono _ _
      | exact LeO.none _
      | refine LeO.ite ?_ ?_
      | refine LeO.bind ?_ (fun _ => ?_)
    · intro y0 y1 y2 y3
      unfold laws_FnLittleRuns.l2
      repeat' first
      | (with_reducible exact ih0 _ _ _ _ _)
      | (with_reducible exact ih1 _ _ _ _ _ _ _ _ _)
      | (with_reducible exact ih2 _ _ _ _ _ _ _ _ _)
      | (with_reducible exact ih3 _ _ _ _ _ _ _ _ _)
      | (with_reducible exact ih4 _ _ _ _)
      | (with_reducible exact impl_LittleRuns.mono _ _)
      | (with_reducible exact spec_A2Sectors.mono _ _)
      | (with_reducible exact LeO.refl _)
      | (with_reducible exact LeO.none _)
      | (with_reducible refine LeO.ite ?_ ?_)
      | (with_reducible refine LeO.bind ?_ (fun _ => ?_))
      | exact ih0 _ _ _ _ _
      | exact ih1 _ _ _ _ _ _ _ _ _
      | exact ih2 _ _ _ _ _ _ _ _ _
      | exact ih3 _ _ _ _ _ _ _ _ _
      | exact ih4 _ _ _ _
      | exact impl_LittleRuns.mono _ _
      | exact spec_A2Sectors.mono _ _
      | exact LeO.none _
      | refine LeO.ite ?_ ?_
      | refine LeO.bind ?_ (fun _ => ?_)
theorem laws_FnLittleRuns.mono : ∀ a0 k, LeO (laws_FnLittleRuns.f k a0) (laws_FnLittleRuns.f (k + 1) a0) := by
  intro a0 k
  obtain ⟨ih0, ih1, ih2, ih3, ih4⟩ := laws_FnLittleRuns.mono_l k
  unfold laws_FnLittleRuns.f
  repeat' first
      | (with_reducible exact ih0 _ _ _ _ _)
      | (with_reducible exact ih1 _ _ _ _ _ _ _ _ _)
      | (with_reducible exact ih2 _ _ _ _ _ _ _ _ _)
      | (with_reducible exact ih3 _ _ _ _ _ _ _ _ _)
      | (with_reducible exact ih4 _ _ _ _)
      | (with_reducible exact impl_LittleRuns.mono _ _)
      | (with_reducible exact spec_A2Sectors.mono _ _)
      | (with_reducible exact LeO.refl _)
      | (with_reducible exact LeO.none _)
      | (with_reducible refine LeO.ite ?_ ?_)
      | (with_reducible refine LeO.bind ?_ (fun _ => ?_))
      | exact ih0 _ _ _ _ _
      | exact ih1 _ _ _ _ _ _ _ _ _
      | exact ih2 _ _ _ _ _ _ _ _ _
      | exact ih3 _ _ _ _ _ _ _ _ _
      | exact ih4 _ _ _ _
      | exact impl_LittleRuns.mono _ _
      | exact spec_A2Sectors.mono _ _
      | exact LeO.none _
      | refine LeO.ite ?_ ?_
      | refine LeO.bind ?_ (fun _ => ?_)
set_option maxHeartbeats 8000000 in
set_option maxRecDepth 100000 in
theorem laws_FnLittleRuns.calls (k : Nat) (A0 : Option Addr) (c0 : Nat) (l0 : List Int) (r : Bool) (w : World) (hr0 : Kd.C (Kd.int .u8) w A0 l0.length l0) (hc0 : l0.length ≤ c0) (h : laws_FnLittleRuns.f k l0 = some r) :
    Calls Try.prog 4 #[.slice A0 l0.length c0] w fun e w' => e = .returned (.bool r) ∧ Below w.heap.size w w' := by
  have hu34 := Try.underlying34
  have HR0 := Aside0.mk hr0
  have HC0 := Aside0.mk hc0
  clear hr0 hc0
  have HB := Aside0.mk (Below.refl w.heap.size w)
  have H : ((laws_a2Long.f l0 ([] : List Int)).bind fun t249 => (if t249 = true then (some true) else ((spec_A2Sectors.f k l0).bind fun t250 => ((impl_LittleRuns.f k t250).bind fun t253 => (laws_FnLittleRuns.l0 k t250 (t250.length : Int) t253 0 0))))) = some r := h
  clear h
  replace H := Option.bind_eq_some_iff.mp H
  obtain ⟨t249, A20, H⟩ := H
  replace H : (if t249 = true then (some true) else ((spec_A2Sectors.f k l0).bind fun t250 => ((impl_LittleRuns.f k t250).bind fun t253 => (laws_FnLittleRuns.l0 k t250 (t250.length : Int) t253 0 0)))) = some r := H
  have A2 := Aside0.mk A20
  clear A20
  by_cases c3 : t249 = true
  · subst c3
    have H1 : (some true) = some r := by rw [if_pos rfl] at H; exact H
    clear H
    have H := H1
    clear H1
    obtain rfl := Option.some.inj H
    go_enter Try.func4, Try.ntmps4
    go_wp2_with (first | (go_at_call 19; (refine (laws_a2Long.calls _ _ l0 _ _ ([] : List Int) true _ ?side1 ?side2 ?side3 ?side4 A2.out).mono ?_); (case side1 => repeat (first | exact HR0.out | (with_reducible refine Kd.C_alloc ?_ _) | (with_reducible refine Kd.C_drewN ?_ _) | (with_reducible refine Kd.C_drew ?_))); (case side2 => exact HC0.out); (case side3 => exact Kd.C_nil _ _); (case side4 => exact Nat.le_refl _); rintro e w' ⟨rfl, ⟨nd, rfl⟩⟩; (try first | exact ⟨rfl, _, World.drewN_drewN _ _ _⟩ | exact ⟨rfl, _, Eq.trans (World.drewN_drewN _ _ _) (congrArg (World.drewN _) (Nat.add_assoc _ _ _))⟩)))
    repeat (go_quiet (first | (go_at_call 19; (refine (laws_a2Long.calls _ _ l0 _ _ ([] : List Int) true _ ?side1 ?side2 ?side3 ?side4 A2.out).mono ?_); (case side1 => repeat (first | exact HR0.out | (with_reducible refine Kd.C_alloc ?_ _) | (with_reducible refine Kd.C_drewN ?_ _) | (with_reducible refine Kd.C_drew ?_))); (case side2 => exact HC0.out); (case side3 => exact Kd.C_nil _ _); (case side4 => exact Nat.le_refl _); rintro e w' ⟨rfl, ⟨nd, rfl⟩⟩; (try first | exact ⟨rfl, _, World.drewN_drewN _ _ _⟩ | exact ⟨rfl, _, Eq.trans (World.drewN_drewN _ _ _) (congrArg (World.drewN _) (Nat.add_assoc _ _ _))⟩))); try go_wp2_with (first | (go_at_call 19; (refine (laws_a2Long.calls _ _ l0 _ _ ([] : List Int) true _ ?side1 ?side2 ?side3 ?side4 A2.out).mono ?_); (case side1 => repeat (first | exact HR0.out | (with_reducible refine Kd.C_alloc ?_ _) | (with_reducible refine Kd.C_drewN ?_ _) | (with_reducible refine Kd.C_drew ?_))); (case side2 => exact HC0.out); (case side3 => exact Kd.C_nil _ _); (case side4 => exact Nat.le_refl _); rintro e w' ⟨rfl, ⟨nd, rfl⟩⟩; (try first | exact ⟨rfl, _, World.drewN_drewN _ _ _⟩ | exact ⟨rfl, _, Eq.trans (World.drewN_drewN _ _ _) (congrArg (World.drewN _) (Nat.add_assoc _ _ _))⟩))))
    go_ret
    exact ⟨by first | rfl | (simp [errW_none, errW_some] <;> rfl) | (simp [*, errW_none, errW_some] <;> rfl), by repeat (first | (with_reducible first | exact HB.out | apply below_alloc | apply pw_below_drewN | apply below_drew1) | exact HB.out)⟩
  · replace c3 := Bool.eq_false_iff.mpr c3
    subst c3
    have H1 : ((spec_A2Sectors.f k l0).bind fun t250 => ((impl_LittleRuns.f k t250).bind fun t253 => (laws_FnLittleRuns.l0 k t250 (t250.length : Int) t253 0 0))) = some r := by rw [if_neg (show ¬ (false = true) by decide)] at H; exact H
    clear H
    have H := H1
    clear H1
    replace H := Option.bind_eq_some_iff.mp H
    obtain ⟨t250, A40, H⟩ := H
    replace H : ((impl_LittleRuns.f k t250).bind fun t253 => (laws_FnLittleRuns.l0 k t250 (t250.length : Int) t253 0 0)) = some r := H
    have A4 := Aside0.mk A40
    clear A40
    replace H := Option.bind_eq_some_iff.mp H
    obtain ⟨t253, A50, H⟩ := H
    replace H : (laws_FnLittleRuns.l0 k t250 (t250.length : Int) t253 0 0) = some r := H
    have A5 := Aside0.mk A50
    clear A50
    have H' := Aside0.mk H
    clear H
    go_enter Try.func4, Try.ntmps4
    go_wp2_with (first | (go_at_call 19; (refine (laws_a2Long.calls _ _ l0 _ _ ([] : List Int) false _ ?side1 ?side2 ?side3 ?side4 A2.out).mono ?_); (case side1 => repeat (first | exact HR0.out | (with_reducible refine Kd.C_alloc ?_ _) | (with_reducible refine Kd.C_drewN ?_ _) | (with_reducible refine Kd.C_drew ?_))); (case side2 => exact HC0.out); (case side3 => exact Kd.C_nil _ _); (case side4 => exact Nat.le_refl _); rintro e w' ⟨rfl, ⟨nd, rfl⟩⟩; (try first | exact ⟨rfl, _, World.drewN_drewN _ _ _⟩ | exact ⟨rfl, _, Eq.trans (World.drewN_drewN _ _ _) (congrArg (World.drewN _) (Nat.add_assoc _ _ _))⟩)) | (go_at_call 20; (with_reducible refine (spec_A2Sectors.calls k _ _ l0 t250 _ ?side1 ?side2 A4.out).mono ?_); (case side1 => repeat (first | exact HR0.out | (with_reducible refine Kd.C_alloc ?_ _) | (with_reducible refine Kd.C_drewN ?_ _) | (with_reducible refine Kd.C_drew ?_))); (case side2 => exact HC0.out); rintro e w6 ⟨v251, rfl, ho0, hb⟩; have n0_ := Aside0.mk (Kd.R_lower ho0 (below_size (by repeat (first | (with_reducible first | exact HB.out | apply below_alloc | apply pw_below_drewN | apply below_drew1) | exact HB.out)))); have n1_ := Aside0.mk (below_step (by repeat (first | (with_reducible first | exact HB.out | apply below_alloc | apply pw_below_drewN | apply below_drew1) | exact HB.out)) hb); clear HB; have HO252 := n0_; have HB := n1_; clear n0_ n1_; (try clear hb); (try clear hb2); (try clear hk); (try clear hi); (try clear ho0); obtain ⟨Ao7, co7, eo7⟩ := Kd.R_slice HO252.out; subst eo7) | (go_at_call 21; (with_reducible refine (impl_LittleRuns.calls k _ _ t250 t253 _ ?side1 ?side2 A5.out).mono ?_); (case side1 => repeat (first | exact (Kd.R_reads' HO252.out).2.2 | (with_reducible refine Kd.C_alloc ?_ _) | (with_reducible refine Kd.C_drewN ?_ _) | (with_reducible refine Kd.C_drew ?_))); (case side2 => exact (Kd.R_reads' HO252.out).2.1); rintro e w8 ⟨v254, rfl, ho0, hb⟩; have n0_ := Aside0.mk (Kd.R_below (by (with_reducible repeat (first | apply Kd.R_alloc | apply Kd.R_drewN | apply Kd.R_drew)); exact HO252.out) hb); have n1_ := Aside0.mk (Kd.R_lower ho0 (below_size (by repeat (first | (with_reducible first | exact HB.out | apply below_alloc | apply pw_below_drewN | apply below_drew1) | exact HB.out)))); have n2_ := Aside0.mk (below_step (by repeat (first | (with_reducible first | exact HB.out | apply below_alloc | apply pw_below_drewN | apply below_drew1) | exact HB.out)) hb); clear HO252; clear HB; have HO252 := n0_; have HO255 := n1_; have HB := n2_; clear n0_ n1_ n2_; (try clear hb); (try clear hb2); (try clear hk); (try clear hi); (try clear ho0)))
    repeat (go_quiet (first | (go_at_call 19; (refine (laws_a2Long.calls _ _ l0 _ _ ([] : List Int) false _ ?side1 ?side2 ?side3 ?side4 A2.out).mono ?_); (case side1 => repeat (first | exact HR0.out | (with_reducible refine Kd.C_alloc ?_ _) | (with_reducible refine Kd.C_drewN ?_ _) | (with_reducible refine Kd.C_drew ?_))); (case side2 => exact HC0.out); (case side3 => exact Kd.C_nil _ _); (case side4 => exact Nat.le_refl _); rintro e w' ⟨rfl, ⟨nd, rfl⟩⟩; (try first | exact ⟨rfl, _, World.drewN_drewN _ _ _⟩ | exact ⟨rfl, _, Eq.trans (World.drewN_drewN _ _ _) (congrArg (World.drewN _) (Nat.add_assoc _ _ _))⟩)) | (go_at_call 20; (with_reducible refine (spec_A2Sectors.calls k _ _ l0 t250 _ ?side1 ?side2 A4.out).mono ?_); (case side1 => repeat (first | exact HR0.out | (with_reducible refine Kd.C_alloc ?_ _) | (with_reducible refine Kd.C_drewN ?_ _) | (with_reducible refine Kd.C_drew ?_))); (case side2 => exact HC0.out); rintro e w6 ⟨v251, rfl, ho0, hb⟩; have n0_ := Aside0.mk (Kd.R_lower ho0 (below_size (by repeat (first | (with_reducible first | exact HB.out | apply below_alloc | apply pw_below_drewN | apply below_drew1) | exact HB.out)))); have n1_ := Aside0.mk (below_step (by repeat (first | (with_reducible first | exact HB.out | apply below_alloc | apply pw_below_drewN | apply below_drew1) | exact HB.out)) hb); clear HB; have HO252 := n0_; have HB := n1_; clear n0_ n1_; (try clear hb); (try clear hb2); (try clear hk); (try clear hi); (try clear ho0); obtain ⟨Ao7, co7, eo7⟩ := Kd.R_slice HO252.out; subst eo7) | (go_at_call 21; (with_reducible refine (impl_LittleRuns.calls k _ _ t250 t253 _ ?side1 ?side2 A5.out).mono ?_); (case side1 => repeat (first | exact (Kd.R_reads' HO252.out).2.2 | (with_reducible refine Kd.C_alloc ?_ _) | (with_reducible refine Kd.C_drewN ?_ _) | (with_reducible refine Kd.C_drew ?_))); (case side2 => exact (Kd.R_reads' HO252.out).2.1); rintro e w8 ⟨v254, rfl, ho0, hb⟩; have n0_ := Aside0.mk (Kd.R_below (by (with_reducible repeat (first | apply Kd.R_alloc | apply Kd.R_drewN | apply Kd.R_drew)); exact HO252.out) hb); have n1_ := Aside0.mk (Kd.R_lower ho0 (below_size (by repeat (first | (with_reducible first | exact HB.out | apply below_alloc | apply pw_below_drewN | apply below_drew1) | exact HB.out)))); have n2_ := Aside0.mk (below_step (by repeat (first | (with_reducible first | exact HB.out | apply below_alloc | apply pw_below_drewN | apply below_drew1) | exact HB.out)) hb); clear HO252; clear HB; have HO252 := n0_; have HO255 := n1_; have HB := n2_; clear n0_ n1_ n2_; (try clear hb); (try clear hb2); (try clear hk); (try clear hi); (try clear ho0))); try go_wp2_with (first | (go_at_call 19; (refine (laws_a2Long.calls _ _ l0 _ _ ([] : List Int) false _ ?side1 ?side2 ?side3 ?side4 A2.out).mono ?_); (case side1 => repeat (first | exact HR0.out | (with_reducible refine Kd.C_alloc ?_ _) | (with_reducible refine Kd.C_drewN ?_ _) | (with_reducible refine Kd.C_drew ?_))); (case side2 => exact HC0.out); (case side3 => exact Kd.C_nil _ _); (case side4 => exact Nat.le_refl _); rintro e w' ⟨rfl, ⟨nd, rfl⟩⟩; (try first | exact ⟨rfl, _, World.drewN_drewN _ _ _⟩ | exact ⟨rfl, _, Eq.trans (World.drewN_drewN _ _ _) (congrArg (World.drewN _) (Nat.add_assoc _ _ _))⟩)) | (go_at_call 20; (with_reducible refine (spec_A2Sectors.calls k _ _ l0 t250 _ ?side1 ?side2 A4.out).mono ?_); (case side1 => repeat (first | exact HR0.out | (with_reducible refine Kd.C_alloc ?_ _) | (with_reducible refine Kd.C_drewN ?_ _) | (with_reducible refine Kd.C_drew ?_))); (case side2 => exact HC0.out); rintro e w6 ⟨v251, rfl, ho0, hb⟩; have n0_ := Aside0.mk (Kd.R_lower ho0 (below_size (by repeat (first | (with_reducible first | exact HB.out | apply below_alloc | apply pw_below_drewN | apply below_drew1) | exact HB.out)))); have n1_ := Aside0.mk (below_step (by repeat (first | (with_reducible first | exact HB.out | apply below_alloc | apply pw_below_drewN | apply below_drew1) | exact HB.out)) hb); clear HB; have HO252 := n0_; have HB := n1_; clear n0_ n1_; (try clear hb); (try clear hb2); (try clear hk); (try clear hi); (try clear ho0); obtain ⟨Ao7, co7, eo7⟩ := Kd.R_slice HO252.out; subst eo7) | (go_at_call 21; (with_reducible refine (impl_LittleRuns.calls k _ _ t250 t253 _ ?side1 ?side2 A5.out).mono ?_); (case side1 => repeat (first | exact (Kd.R_reads' HO252.out).2.2 | (with_reducible refine Kd.C_alloc ?_ _) | (with_reducible refine Kd.C_drewN ?_ _) | (with_reducible refine Kd.C_drew ?_))); (case side2 => exact (Kd.R_reads' HO252.out).2.1); rintro e w8 ⟨v254, rfl, ho0, hb⟩; have n0_ := Aside0.mk (Kd.R_below (by (with_reducible repeat (first | apply Kd.R_alloc | apply Kd.R_drewN | apply Kd.R_drew)); exact HO252.out) hb); have n1_ := Aside0.mk (Kd.R_lower ho0 (below_size (by repeat (first | (with_reducible first | exact HB.out | apply below_alloc | apply pw_below_drewN | apply below_drew1) | exact HB.out)))); have n2_ := Aside0.mk (below_step (by repeat (first | (with_reducible first | exact HB.out | apply below_alloc | apply pw_below_drewN | apply below_drew1) | exact HB.out)) hb); clear HO252; clear HB; have HO252 := n0_; have HO255 := n1_; have HB := n2_; clear n0_ n1_ n2_; (try clear hb); (try clear hb2); (try clear hk); (try clear hi); (try clear ho0))))
    (try go_simp)
    go_loopg [6, 7] k (fun kq v6 v7 w' => ∃ (x6_1 : Int) (x7_1 : Int), v6 = .int .i64 x6_1 ∧ v7 = .int .i64 x7_1 ∧ Aside0 (laws_FnLittleRuns.l0 kq t250 (t250.length : Int) t253 x6_1 x7_1 = some r) ∧ Aside0 (kq ≤ k) ∧ Aside0 (Kd.R (Kd.int .i64) 2 w' w.heap.size (fun _ => True) (.slice Ao7 t250.length co7) t250) ∧ Aside0 (Kd.R k34 34 w' w.heap.size (fun _ => True) v254 t253) ∧ Aside0 (Below w.heap.size w w'))
    case atStart => exact ⟨(0), (0), (by first | rfl | (simp; done) | (simp [*]; done)), (by first | rfl | (simp; done) | (simp [*]; done)), H', ⟨Nat.le_refl _⟩, ⟨by (with_reducible repeat (first | apply Kd.R_alloc | apply Kd.R_drewN | apply Kd.R_drew)); exact HO252.out⟩, ⟨by (with_reducible repeat (first | apply Kd.R_alloc | apply Kd.R_drewN | apply Kd.R_drew)); exact HO255.out⟩, ⟨by repeat (first | (with_reducible first | exact HB.out | apply below_alloc | apply pw_below_drewN | apply below_drew1) | exact HB.out)⟩⟩
    case round =>
      clear H'
      try clear p2
      try clear c3
      try clear c4
      obtain ⟨x6_1, x7_1, rfl, rfl, HA, HK1, HO_3, HO_5, HB⟩ := hrel
      cases gk with
      | zero => exact absurd HA.out (by simp [laws_FnLittleRuns.l0])
      | succ k1 =>
        have H := HA.out
        clear HA
        simp only [laws_FnLittleRuns.l0] at H
        by_cases c9 : x7_1 < (t253.length : Int)
        · rw [if_pos c9] at H
          have c9b0 : decide (x7_1 < (t253.length : Int)) = true := decide_eq_true c9
          clear c9
          by_cases c10 : 0 ≤ x7_1
          · rw [if_pos c10] at H
            have c10b0 : decide (0 ≤ x7_1) = true := decide_eq_true c10
            clear c10
            have HC11 := Aside0.mk H
            clear H
            obtain ⟨Ao12, co12, eo12⟩ := Kd.R_slice HO_5.out
            subst eo12
            have p256 : 0 ≤ (x7_1 : Int) := of_decide_eq_true (by first | (with_reducible assumption) | assumption)
            have q256 : x7_1 < (t253.length : Int) := of_decide_eq_true (by first | (with_reducible assumption) | assumption)
            obtain ⟨ad256, e256, hx256_0, hx256_1, hx256_2⟩ := at_T34 (Kd.R_reads' HO_5.out).2.2 x7_1 p256 q256
            cases e256
            replace p256 := eq_true p256
            replace q256 := eq_true q256
            go_upto_region 11 with (first | ((with_reducible refine gate_dst (N := 8) rfl ?_); refine box_event ?hg (N := 8) ?hd (cs := #[.int .i64 0, .int .i64 0, .int .i64 0]) (t := 34) ?hr ?_; (case hd => rfl); (case hg => rfl); (case hr => first | (go_simp; done) | (go_simp; rfl)); intro gb257 hg w13 hbox hb; have n0_ := Aside0.mk (Kd.R_below (by (with_reducible repeat (first | apply Kd.R_alloc | apply Kd.R_drewN | apply Kd.R_drew)); exact HO_3.out) hb); have n1_ := Aside0.mk (Kd.R_below (Kd.R_elderB (by (with_reducible repeat (first | apply Kd.R_alloc | apply Kd.R_drewN | apply Kd.R_drew)); exact HO_5.out) gb257 (Nat.le_of_eq hg.symm)) hb); have n2_ := Aside0.mk (below_step (by repeat (first | (with_reducible first | exact HB.out | apply below_alloc | apply pw_below_drewN | apply below_drew1) | exact HB.out)) hb); have n3_ := Aside0.mk (hbox); have n4_ := Aside0.mk ((by rw [hg]; exact (below_size (by repeat (first | (with_reducible first | exact HB.out | apply below_alloc | apply pw_below_drewN | apply below_drew1) | exact HB.out))) : w.heap.size ≤ gb257)); have n5_ := Aside0.mk ((by rw [hg]; exact (below_size (by repeat (first | (with_reducible first | exact HB.out | apply below_alloc | apply pw_below_drewN | apply below_drew1) | exact HB.out))) : w.heap.size ≤ gb257)); clear HO_3; clear HO_5; clear HB; have HO_3 := n0_; have HO_5 := n1_; have HB := n2_; have BK257 := n3_; have GW257 := n4_; have GE257 := n5_; clear n0_ n1_ n2_ n3_ n4_ n5_; clear hb hbox hg; have hcz14_0 : w13.cell? ⟨gb257, 0, none⟩ = some (.int .i64 0) := (blk_cell BK257.out 0).trans rfl; have hcz14_1 : w13.cell? ⟨gb257, 1, none⟩ = some (.int .i64 0) := (blk_cell BK257.out 1).trans rfl; have hcz14_2 : w13.cell? ⟨gb257, 2, none⟩ = some (.int .i64 0) := (blk_cell BK257.out 2).trans rfl; have hfz14_0 := blk_frozen BK257.out 0; have hfz14_1 := blk_frozen BK257.out 1; have hfz14_2 := blk_frozen BK257.out 2))
            repeat (go_quiet (first | ((with_reducible refine gate_dst (N := 8) rfl ?_); refine box_event ?hg (N := 8) ?hd (cs := #[.int .i64 0, .int .i64 0, .int .i64 0]) (t := 34) ?hr ?_; (case hd => rfl); (case hg => rfl); (case hr => first | (go_simp; done) | (go_simp; rfl)); intro gb257 hg w13 hbox hb; have n0_ := Aside0.mk (Kd.R_below (by (with_reducible repeat (first | apply Kd.R_alloc | apply Kd.R_drewN | apply Kd.R_drew)); exact HO_3.out) hb); have n1_ := Aside0.mk (Kd.R_below (Kd.R_elderB (by (with_reducible repeat (first | apply Kd.R_alloc | apply Kd.R_drewN | apply Kd.R_drew)); exact HO_5.out) gb257 (Nat.le_of_eq hg.symm)) hb); have n2_ := Aside0.mk (below_step (by repeat (first | (with_reducible first | exact HB.out | apply below_alloc | apply pw_below_drewN | apply below_drew1) | exact HB.out)) hb); have n3_ := Aside0.mk (hbox); have n4_ := Aside0.mk ((by rw [hg]; exact (below_size (by repeat (first | (with_reducible first | exact HB.out | apply below_alloc | apply pw_below_drewN | apply below_drew1) | exact HB.out))) : w.heap.size ≤ gb257)); have n5_ := Aside0.mk ((by rw [hg]; exact (below_size (by repeat (first | (with_reducible first | exact HB.out | apply below_alloc | apply pw_below_drewN | apply below_drew1) | exact HB.out))) : w.heap.size ≤ gb257)); clear HO_3; clear HO_5; clear HB; have HO_3 := n0_; have HO_5 := n1_; have HB := n2_; have BK257 := n3_; have GW257 := n4_; have GE257 := n5_; clear n0_ n1_ n2_ n3_ n4_ n5_; clear hb hbox hg; have hcz14_0 : w13.cell? ⟨gb257, 0, none⟩ = some (.int .i64 0) := (blk_cell BK257.out 0).trans rfl; have hcz14_1 : w13.cell? ⟨gb257, 1, none⟩ = some (.int .i64 0) := (blk_cell BK257.out 1).trans rfl; have hcz14_2 : w13.cell? ⟨gb257, 2, none⟩ = some (.int .i64 0) := (blk_cell BK257.out 2).trans rfl; have hfz14_0 := blk_frozen BK257.out 0; have hfz14_1 := blk_frozen BK257.out 1; have hfz14_2 := blk_frozen BK257.out 2)); go_upto_region 11 with (first | ((with_reducible refine gate_dst (N := 8) rfl ?_); refine box_event ?hg (N := 8) ?hd (cs := #[.int .i64 0, .int .i64 0, .int .i64 0]) (t := 34) ?hr ?_; (case hd => rfl); (case hg => rfl); (case hr => first | (go_simp; done) | (go_simp; rfl)); intro gb257 hg w13 hbox hb; have n0_ := Aside0.mk (Kd.R_below (by (with_reducible repeat (first | apply Kd.R_alloc | apply Kd.R_drewN | apply Kd.R_drew)); exact HO_3.out) hb); have n1_ := Aside0.mk (Kd.R_below (Kd.R_elderB (by (with_reducible repeat (first | apply Kd.R_alloc | apply Kd.R_drewN | apply Kd.R_drew)); exact HO_5.out) gb257 (Nat.le_of_eq hg.symm)) hb); have n2_ := Aside0.mk (below_step (by repeat (first | (with_reducible first | exact HB.out | apply below_alloc | apply pw_below_drewN | apply below_drew1) | exact HB.out)) hb); have n3_ := Aside0.mk (hbox); have n4_ := Aside0.mk ((by rw [hg]; exact (below_size (by repeat (first | (with_reducible first | exact HB.out | apply below_alloc | apply pw_below_drewN | apply below_drew1) | exact HB.out))) : w.heap.size ≤ gb257)); have n5_ := Aside0.mk ((by rw [hg]; exact (below_size (by repeat (first | (with_reducible first | exact HB.out | apply below_alloc | apply pw_below_drewN | apply below_drew1) | exact HB.out))) : w.heap.size ≤ gb257)); clear HO_3; clear HO_5; clear HB; have HO_3 := n0_; have HO_5 := n1_; have HB := n2_; have BK257 := n3_; have GW257 := n4_; have GE257 := n5_; clear n0_ n1_ n2_ n3_ n4_ n5_; clear hb hbox hg; have hcz14_0 : w13.cell? ⟨gb257, 0, none⟩ = some (.int .i64 0) := (blk_cell BK257.out 0).trans rfl; have hcz14_1 : w13.cell? ⟨gb257, 1, none⟩ = some (.int .i64 0) := (blk_cell BK257.out 1).trans rfl; have hcz14_2 : w13.cell? ⟨gb257, 2, none⟩ = some (.int .i64 0) := (blk_cell BK257.out 2).trans rfl; have hfz14_0 := blk_frozen BK257.out 0; have hfz14_1 := blk_frozen BK257.out 1; have hfz14_2 := blk_frozen BK257.out 2)))
            (try simp only [Act.put, List.setIfInBounds_toArray, List.set_cons_zero, List.set_cons_succ])
            go_cut [63] (fun v63 wc => ∃ (kq : Nat) (x63_10 : Bool), v63 = .bool x63_10 ∧ Aside0 (laws_FnLittleRuns.j1 kq t250 (t250.length : Int) t253 x6_1 x7_1 x63_10 ((rd_T34 t253 x7_1).f0) ((rd_T34 t253 x7_1).f1) ((rd_T34 t253 x7_1).f2) = some r) ∧ Aside0 (kq ≤ k1) ∧ Aside0 (Kd.R (Kd.int .i64) 2 wc w.heap.size (fun _ => True) (.slice Ao7 t250.length co7) t250) ∧ Aside0 (Kd.R k34 34 wc w.heap.size (fun k_ => k_ ≠ gb257) (.slice (some ad256) t253.length co12) t253) ∧ Aside0 (wc.heap[gb257]? = some (.cells #[.int .i64 ((rd_T34 t253 x7_1).f0), .int .i64 ((rd_T34 t253 x7_1).f1), .int .i64 ((rd_T34 t253 x7_1).f2)] 34 (0, 0))) ∧ Aside0 (Below w.heap.size w wc))
            case first =>
              have H := HC11.out
              clear HC11
              by_cases c15 : ((rd_T34 t253 x7_1).f0) < 0
              · rw [if_pos c15] at H
                have c15b0 : decide (((rd_T34 t253 x7_1).f0) < 0) = true := decide_eq_true c15
                clear c15
                (first | rw [c15b0] | (simp only [i64_w, i32_w]; rw [c15b0]) | skip)
                have H' := Aside0.mk H
                clear H
                have hcz16_0 : w13.cell? ⟨gb257, 0, none⟩ = some (.int .i64 0) := (blk_cell BK257.out 0).trans rfl
                have hcz16_1 : w13.cell? ⟨gb257, 1, none⟩ = some (.int .i64 0) := (blk_cell BK257.out 1).trans rfl
                have hcz16_2 : w13.cell? ⟨gb257, 2, none⟩ = some (.int .i64 0) := (blk_cell BK257.out 2).trans rfl
                have hfz16_0 := blk_frozen BK257.out 0
                have hfz16_1 := blk_frozen BK257.out 1
                have hfz16_2 := blk_frozen BK257.out 2
                go_wp2
                repeat (go_quiet (fail); try go_wp2)
                go_meet
                case rel => exact ⟨_, (true), (by first | rfl | (simp; done) | (simp [*]; done)), H', ⟨by have := HK1.out; first | omega | exact Nat.le_refl _⟩, ⟨by (with_reducible repeat (first | apply Kd.R_alloc | apply Kd.R_drewN | apply Kd.R_drew)); exact Kd.R_mono (Kd.R_far (p := ⟨gb257, 2, none⟩) (Kd.R_far (p := ⟨gb257, 1, none⟩) (Kd.R_far (p := ⟨gb257, 0, none⟩) (Kd.R_types HO_3.out BK257.out (by decide)) (fun _ hk => hk.2) (.int .i64 ((rd_T34 t253 x7_1).f0))) (fun _ hk => hk.2) (.int .i64 ((rd_T34 t253 x7_1).f1))) (fun _ hk => hk.2) (.int .i64 ((rd_T34 t253 x7_1).f2))) (fun _ hk => trivial)⟩, ⟨by (with_reducible repeat (first | apply Kd.R_alloc | apply Kd.R_drewN | apply Kd.R_drew)); exact Kd.R_mono (Kd.R_far (p := ⟨gb257, 2, none⟩) (Kd.R_far (p := ⟨gb257, 1, none⟩) (Kd.R_far (p := ⟨gb257, 0, none⟩) (Kd.R_mono HO_5.out (fun k_ hk => (⟨hk, hk.2⟩ : _ ∧ k_ ≠ gb257))) (fun _ hk => hk.2) (.int .i64 ((rd_T34 t253 x7_1).f0))) (fun _ hk => hk.2) (.int .i64 ((rd_T34 t253 x7_1).f1))) (fun _ hk => hk.2) (.int .i64 ((rd_T34 t253 x7_1).f2))) (fun _ hk => hk.1.2)⟩, ⟨by (with_reducible repeat (first | refine blk_drewN ?_ _ | refine blk_drew ?_ | refine blk_alloc ?_ _)); refine blk_put (cs := #[.int .i64 ((rd_T34 t253 x7_1).f0), .int .i64 ((rd_T34 t253 x7_1).f1), .int .i64 0]) ?_ 2 _ rfl; (with_reducible repeat (first | refine blk_drewN ?_ _ | refine blk_drew ?_ | refine blk_alloc ?_ _)); refine blk_put (cs := #[.int .i64 ((rd_T34 t253 x7_1).f0), .int .i64 0, .int .i64 0]) ?_ 1 _ rfl; (with_reducible repeat (first | refine blk_drewN ?_ _ | refine blk_drew ?_ | refine blk_alloc ?_ _)); refine blk_put (cs := #[.int .i64 0, .int .i64 0, .int .i64 0]) ?_ 0 _ rfl; (with_reducible repeat (first | refine blk_drewN ?_ _ | refine blk_drew ?_ | refine blk_alloc ?_ _)); exact BK257.out⟩, ⟨by repeat (first | (with_reducible first | exact HB.out | apply below_alloc | apply pw_below_drewN | apply below_drew1 | refine below_set ?_ GE257.out) | exact HB.out)⟩⟩
              · rw [if_neg c15] at H
                have c15b0 : decide (((rd_T34 t253 x7_1).f0) < 0) = false := decide_eq_false c15
                clear c15
                (first | rw [c15b0] | (simp only [i64_w, i32_w]; rw [c15b0]) | skip)
                by_cases c17 : ((rd_T34 t253 x7_1).f0) ≥ (t250.length : Int)
                · rw [if_pos c17] at H
                  have c17b0 : decide ((t250.length : Int) ≤ ((rd_T34 t253 x7_1).f0)) = true := decide_eq_true c17
                  clear c17
                  have H' := Aside0.mk H
                  clear H
                  have hcz18_0 : w13.cell? ⟨gb257, 0, none⟩ = some (.int .i64 0) := (blk_cell BK257.out 0).trans rfl
                  have hcz18_1 : w13.cell? ⟨gb257, 1, none⟩ = some (.int .i64 0) := (blk_cell BK257.out 1).trans rfl
                  have hcz18_2 : w13.cell? ⟨gb257, 2, none⟩ = some (.int .i64 0) := (blk_cell BK257.out 2).trans rfl
                  have hfz18_0 := blk_frozen BK257.out 0
                  have hfz18_1 := blk_frozen BK257.out 1
                  have hfz18_2 := blk_frozen BK257.out 2
                  go_wp2
                  repeat (go_quiet (fail); try go_wp2)
                  go_meet
                  case rel => exact ⟨_, (true), (by first | rfl | (simp; done) | (simp [*]; done)), H', ⟨by have := HK1.out; first | omega | exact Nat.le_refl _⟩, ⟨by (with_reducible repeat (first | apply Kd.R_alloc | apply Kd.R_drewN | apply Kd.R_drew)); exact Kd.R_mono (Kd.R_far (p := ⟨gb257, 2, none⟩) (Kd.R_far (p := ⟨gb257, 1, none⟩) (Kd.R_far (p := ⟨gb257, 0, none⟩) (Kd.R_types HO_3.out BK257.out (by decide)) (fun _ hk => hk.2) (.int .i64 ((rd_T34 t253 x7_1).f0))) (fun _ hk => hk.2) (.int .i64 ((rd_T34 t253 x7_1).f1))) (fun _ hk => hk.2) (.int .i64 ((rd_T34 t253 x7_1).f2))) (fun _ hk => trivial)⟩, ⟨by (with_reducible repeat (first | apply Kd.R_alloc | apply Kd.R_drewN | apply Kd.R_drew)); exact Kd.R_mono (Kd.R_far (p := ⟨gb257, 2, none⟩) (Kd.R_far (p := ⟨gb257, 1, none⟩) (Kd.R_far (p := ⟨gb257, 0, none⟩) (Kd.R_mono HO_5.out (fun k_ hk => (⟨hk, hk.2⟩ : _ ∧ k_ ≠ gb257))) (fun _ hk => hk.2) (.int .i64 ((rd_T34 t253 x7_1).f0))) (fun _ hk => hk.2) (.int .i64 ((rd_T34 t253 x7_1).f1))) (fun _ hk => hk.2) (.int .i64 ((rd_T34 t253 x7_1).f2))) (fun _ hk => hk.1.2)⟩, ⟨by (with_reducible repeat (first | refine blk_drewN ?_ _ | refine blk_drew ?_ | refine blk_alloc ?_ _)); refine blk_put (cs := #[.int .i64 ((rd_T34 t253 x7_1).f0), .int .i64 ((rd_T34 t253 x7_1).f1), .int .i64 0]) ?_ 2 _ rfl; (with_reducible repeat (first | refine blk_drewN ?_ _ | refine blk_drew ?_ | refine blk_alloc ?_ _)); refine blk_put (cs := #[.int .i64 ((rd_T34 t253 x7_1).f0), .int .i64 0, .int .i64 0]) ?_ 1 _ rfl; (with_reducible repeat (first | refine blk_drewN ?_ _ | refine blk_drew ?_ | refine blk_alloc ?_ _)); refine blk_put (cs := #[.int .i64 0, .int .i64 0, .int .i64 0]) ?_ 0 _ rfl; (with_reducible repeat (first | refine blk_drewN ?_ _ | refine blk_drew ?_ | refine blk_alloc ?_ _)); exact BK257.out⟩, ⟨by repeat (first | (with_reducible first | exact HB.out | apply below_alloc | apply pw_below_drewN | apply below_drew1 | refine below_set ?_ GE257.out) | exact HB.out)⟩⟩
                · rw [if_neg c17] at H
                  have c17b0 : decide ((t250.length : Int) ≤ ((rd_T34 t253 x7_1).f0)) = false := decide_eq_false c17
                  clear c17
                  by_cases c19 : ((rd_T34 t253 x7_1).f1) < 1
                  · rw [if_pos c19] at H
                    have c19b0 : decide (((rd_T34 t253 x7_1).f1) < 1) = true := decide_eq_true c19
                    clear c19
                    have H' := Aside0.mk H
                    clear H
                    have hcz20_0 : w13.cell? ⟨gb257, 0, none⟩ = some (.int .i64 0) := (blk_cell BK257.out 0).trans rfl
                    have hcz20_1 : w13.cell? ⟨gb257, 1, none⟩ = some (.int .i64 0) := (blk_cell BK257.out 1).trans rfl
                    have hcz20_2 : w13.cell? ⟨gb257, 2, none⟩ = some (.int .i64 0) := (blk_cell BK257.out 2).trans rfl
                    have hfz20_0 := blk_frozen BK257.out 0
                    have hfz20_1 := blk_frozen BK257.out 1
                    have hfz20_2 := blk_frozen BK257.out 2
                    go_wp2
                    repeat (go_quiet (fail); try go_wp2)
                    go_meet
                    case rel => exact ⟨_, (true), (by first | rfl | (simp; done) | (simp [*]; done)), H', ⟨by have := HK1.out; first | omega | exact Nat.le_refl _⟩, ⟨by (with_reducible repeat (first | apply Kd.R_alloc | apply Kd.R_drewN | apply Kd.R_drew)); exact Kd.R_mono (Kd.R_far (p := ⟨gb257, 2, none⟩) (Kd.R_far (p := ⟨gb257, 1, none⟩) (Kd.R_far (p := ⟨gb257, 0, none⟩) (Kd.R_types HO_3.out BK257.out (by decide)) (fun _ hk => hk.2) (.int .i64 ((rd_T34 t253 x7_1).f0))) (fun _ hk => hk.2) (.int .i64 ((rd_T34 t253 x7_1).f1))) (fun _ hk => hk.2) (.int .i64 ((rd_T34 t253 x7_1).f2))) (fun _ hk => trivial)⟩, ⟨by (with_reducible repeat (first | apply Kd.R_alloc | apply Kd.R_drewN | apply Kd.R_drew)); exact Kd.R_mono (Kd.R_far (p := ⟨gb257, 2, none⟩) (Kd.R_far (p := ⟨gb257, 1, none⟩) (Kd.R_far (p := ⟨gb257, 0, none⟩) (Kd.R_mono HO_5.out (fun k_ hk => (⟨hk, hk.2⟩ : _ ∧ k_ ≠ gb257))) (fun _ hk => hk.2) (.int .i64 ((rd_T34 t253 x7_1).f0))) (fun _ hk => hk.2) (.int .i64 ((rd_T34 t253 x7_1).f1))) (fun _ hk => hk.2) (.int .i64 ((rd_T34 t253 x7_1).f2))) (fun _ hk => hk.1.2)⟩, ⟨by (with_reducible repeat (first | refine blk_drewN ?_ _ | refine blk_drew ?_ | refine blk_alloc ?_ _)); refine blk_put (cs := #[.int .i64 ((rd_T34 t253 x7_1).f0), .int .i64 ((rd_T34 t253 x7_1).f1), .int .i64 0]) ?_ 2 _ rfl; (with_reducible repeat (first | refine blk_drewN ?_ _ | refine blk_drew ?_ | refine blk_alloc ?_ _)); refine blk_put (cs := #[.int .i64 ((rd_T34 t253 x7_1).f0), .int .i64 0, .int .i64 0]) ?_ 1 _ rfl; (with_reducible repeat (first | refine blk_drewN ?_ _ | refine blk_drew ?_ | refine blk_alloc ?_ _)); refine blk_put (cs := #[.int .i64 0, .int .i64 0, .int .i64 0]) ?_ 0 _ rfl; (with_reducible repeat (first | refine blk_drewN ?_ _ | refine blk_drew ?_ | refine blk_alloc ?_ _)); exact BK257.out⟩, ⟨by repeat (first | (with_reducible first | exact HB.out | apply below_alloc | apply pw_below_drewN | apply below_drew1 | refine below_set ?_ GE257.out) | exact HB.out)⟩⟩
                  · rw [if_neg c19] at H
                    have c19b0 : decide (((rd_T34 t253 x7_1).f1) < 1) = false := decide_eq_false c19
                    clear c19
                    by_cases c21 : ((rd_T34 t253 x7_1).f1) ≥ (t250.length : Int)
                    · rw [if_pos c21] at H
                      have c21b0 : decide ((t250.length : Int) ≤ ((rd_T34 t253 x7_1).f1)) = true := decide_eq_true c21
                      clear c21
                      have H' := Aside0.mk H
                      clear H
                      have hcz22_0 : w13.cell? ⟨gb257, 0, none⟩ = some (.int .i64 0) := (blk_cell BK257.out 0).trans rfl
                      have hcz22_1 : w13.cell? ⟨gb257, 1, none⟩ = some (.int .i64 0) := (blk_cell BK257.out 1).trans rfl
                      have hcz22_2 : w13.cell? ⟨gb257, 2, none⟩ = some (.int .i64 0) := (blk_cell BK257.out 2).trans rfl
                      have hfz22_0 := blk_frozen BK257.out 0
                      have hfz22_1 := blk_frozen BK257.out 1
                      have hfz22_2 := blk_frozen BK257.out 2
                      go_wp2
                      repeat (go_quiet (fail); try go_wp2)
                      go_meet
                      case rel => exact ⟨_, (true), (by first | rfl | (simp; done) | (simp [*]; done)), H', ⟨by have := HK1.out; first | omega | exact Nat.le_refl _⟩, ⟨by (with_reducible repeat (first | apply Kd.R_alloc | apply Kd.R_drewN | apply Kd.R_drew)); exact Kd.R_mono (Kd.R_far (p := ⟨gb257, 2, none⟩) (Kd.R_far (p := ⟨gb257, 1, none⟩) (Kd.R_far (p := ⟨gb257, 0, none⟩) (Kd.R_types HO_3.out BK257.out (by decide)) (fun _ hk => hk.2) (.int .i64 ((rd_T34 t253 x7_1).f0))) (fun _ hk => hk.2) (.int .i64 ((rd_T34 t253 x7_1).f1))) (fun _ hk => hk.2) (.int .i64 ((rd_T34 t253 x7_1).f2))) (fun _ hk => trivial)⟩, ⟨by (with_reducible repeat (first | apply Kd.R_alloc | apply Kd.R_drewN | apply Kd.R_drew)); exact Kd.R_mono (Kd.R_far (p := ⟨gb257, 2, none⟩) (Kd.R_far (p := ⟨gb257, 1, none⟩) (Kd.R_far (p := ⟨gb257, 0, none⟩) (Kd.R_mono HO_5.out (fun k_ hk => (⟨hk, hk.2⟩ : _ ∧ k_ ≠ gb257))) (fun _ hk => hk.2) (.int .i64 ((rd_T34 t253 x7_1).f0))) (fun _ hk => hk.2) (.int .i64 ((rd_T34 t253 x7_1).f1))) (fun _ hk => hk.2) (.int .i64 ((rd_T34 t253 x7_1).f2))) (fun _ hk => hk.1.2)⟩, ⟨by (with_reducible repeat (first | refine blk_drewN ?_ _ | refine blk_drew ?_ | refine blk_alloc ?_ _)); refine blk_put (cs := #[.int .i64 ((rd_T34 t253 x7_1).f0), .int .i64 ((rd_T34 t253 x7_1).f1), .int .i64 0]) ?_ 2 _ rfl; (with_reducible repeat (first | refine blk_drewN ?_ _ | refine blk_drew ?_ | refine blk_alloc ?_ _)); refine blk_put (cs := #[.int .i64 ((rd_T34 t253 x7_1).f0), .int .i64 0, .int .i64 0]) ?_ 1 _ rfl; (with_reducible repeat (first | refine blk_drewN ?_ _ | refine blk_drew ?_ | refine blk_alloc ?_ _)); refine blk_put (cs := #[.int .i64 0, .int .i64 0, .int .i64 0]) ?_ 0 _ rfl; (with_reducible repeat (first | refine blk_drewN ?_ _ | refine blk_drew ?_ | refine blk_alloc ?_ _)); exact BK257.out⟩, ⟨by repeat (first | (with_reducible first | exact HB.out | apply below_alloc | apply pw_below_drewN | apply below_drew1 | refine below_set ?_ GE257.out) | exact HB.out)⟩⟩
                    · rw [if_neg c21] at H
                      have c21b0 : decide ((t250.length : Int) ≤ ((rd_T34 t253 x7_1).f1)) = false := decide_eq_false c21
                      clear c21
                      by_cases c23 : x7_1 > 0
                      · rw [if_pos c23] at H
                        have c23b0 : decide (0 < x7_1) = true := decide_eq_true c23
                        clear c23
                        obtain ⟨ji24, hji24⟩ : ∃ j_ : Int, (wrap64 (x7_1 - 1)) = j_ := ⟨_, rfl⟩
                        replace H : (if 0 ≤ (ji24) then (if (ji24) < (t253.length : Int) then (laws_FnLittleRuns.j1 k1 t250 (t250.length : Int) t253 x6_1 x7_1 (decide (((rd_T34 t253 (ji24)).f0) ≥ ((rd_T34 t253 x7_1).f0))) ((rd_T34 t253 x7_1).f0) ((rd_T34 t253 x7_1).f1) ((rd_T34 t253 x7_1).f2)) else (none)) else (none)) = some r := by first | (rw [hji24] at H; exact H) | (simp only [hji24] at H ⊢; exact H)
                        have hji24w : (IntKind.i64.wrap (x7_1 - 1)) = ji24 := (i64_w _).trans hji24
                        by_cases c25 : 0 ≤ (ji24)
                        · rw [if_pos c25] at H
                          have c25b0 : decide (0 ≤ (ji24)) = true := decide_eq_true c25
                          clear c25
                          by_cases c26 : (ji24) < (t253.length : Int)
                          · rw [if_pos c26] at H
                            have c26b0 : decide ((ji24) < (t253.length : Int)) = true := decide_eq_true c26
                            clear c26
                            have H' := Aside0.mk H
                            clear H
                            have hcz27_0 : w13.cell? ⟨gb257, 0, none⟩ = some (.int .i64 0) := (blk_cell BK257.out 0).trans rfl
                            have hcz27_1 : w13.cell? ⟨gb257, 1, none⟩ = some (.int .i64 0) := (blk_cell BK257.out 1).trans rfl
                            have hcz27_2 : w13.cell? ⟨gb257, 2, none⟩ = some (.int .i64 0) := (blk_cell BK257.out 2).trans rfl
                            have hfz27_0 := blk_frozen BK257.out 0
                            have hfz27_1 := blk_frozen BK257.out 1
                            have hfz27_2 := blk_frozen BK257.out 2
                            have p258 : 0 ≤ ((ji24) : Int) := of_decide_eq_true (by first | (with_reducible assumption) | assumption)
                            have q258 : (ji24) < (t253.length : Int) := of_decide_eq_true (by first | (with_reducible assumption) | assumption)
                            obtain ⟨ad258, e258, hx258_0, hx258_1, hx258_2⟩ := at_T34 (Kd.R_reads' HO_5.out).2.2 (ji24) p258 q258
                            obtain rfl : ad256 = ad258 := (by injection e258)
                            have hn258_0 : ad256.block ≠ gb257 := Kd.own_blk (Kd.R_away HO_5.out (fun _ hk => hk.2))
                            have hn258_1 : ad256.block ≠ gb257 := Kd.own_blk (Kd.R_away HO_5.out (fun _ hk => hk.2))
                            have hn258_2 : ad256.block ≠ gb257 := Kd.own_blk (Kd.R_away HO_5.out (fun _ hk => hk.2))
                            replace hx258_0 := (cell_far (p := ⟨gb257, 0, none⟩) (by first | (rw [add_block]; exact hn258_0) | (show (Addr.add _ _).block ≠ _; rw [add_block]; exact hn258_0) | exact hn258_0) (.int .i64 ((rd_T34 t253 x7_1).f0))).trans hx258_0
                            replace hx258_1 := (cell_far (p := ⟨gb257, 0, none⟩) (by first | (rw [add_block]; exact hn258_0) | (show (Addr.add _ _).block ≠ _; rw [add_block]; exact hn258_0) | exact hn258_0) (.int .i64 ((rd_T34 t253 x7_1).f0))).trans hx258_1
                            replace hx258_2 := (cell_far (p := ⟨gb257, 0, none⟩) (by first | (rw [add_block]; exact hn258_0) | (show (Addr.add _ _).block ≠ _; rw [add_block]; exact hn258_0) | exact hn258_0) (.int .i64 ((rd_T34 t253 x7_1).f0))).trans hx258_2
                            replace hx258_0 := (cell_far (p := ⟨gb257, 1, none⟩) (by first | (rw [add_block]; exact hn258_1) | (show (Addr.add _ _).block ≠ _; rw [add_block]; exact hn258_1) | exact hn258_1) (.int .i64 ((rd_T34 t253 x7_1).f1))).trans hx258_0
                            replace hx258_1 := (cell_far (p := ⟨gb257, 1, none⟩) (by first | (rw [add_block]; exact hn258_1) | (show (Addr.add _ _).block ≠ _; rw [add_block]; exact hn258_1) | exact hn258_1) (.int .i64 ((rd_T34 t253 x7_1).f1))).trans hx258_1
                            replace hx258_2 := (cell_far (p := ⟨gb257, 1, none⟩) (by first | (rw [add_block]; exact hn258_1) | (show (Addr.add _ _).block ≠ _; rw [add_block]; exact hn258_1) | exact hn258_1) (.int .i64 ((rd_T34 t253 x7_1).f1))).trans hx258_2
                            replace hx258_0 := (cell_far (p := ⟨gb257, 2, none⟩) (by first | (rw [add_block]; exact hn258_2) | (show (Addr.add _ _).block ≠ _; rw [add_block]; exact hn258_2) | exact hn258_2) (.int .i64 ((rd_T34 t253 x7_1).f2))).trans hx258_0
                            replace hx258_1 := (cell_far (p := ⟨gb257, 2, none⟩) (by first | (rw [add_block]; exact hn258_2) | (show (Addr.add _ _).block ≠ _; rw [add_block]; exact hn258_2) | exact hn258_2) (.int .i64 ((rd_T34 t253 x7_1).f2))).trans hx258_1
                            replace hx258_2 := (cell_far (p := ⟨gb257, 2, none⟩) (by first | (rw [add_block]; exact hn258_2) | (show (Addr.add _ _).block ≠ _; rw [add_block]; exact hn258_2) | exact hn258_2) (.int .i64 ((rd_T34 t253 x7_1).f2))).trans hx258_2
                            (try have hy258_0 := fun (n_ : Nat) => (show (((((w13.drewN n_).setCell ⟨gb257, 0, none⟩ (.int .i64 ((rd_T34 t253 x7_1).f0))).setCell ⟨gb257, 1, none⟩ (.int .i64 ((rd_T34 t253 x7_1).f1))).setCell ⟨gb257, 2, none⟩ (.int .i64 ((rd_T34 t253 x7_1).f2)))).cell? _ = some _ from hx258_0))
                            (try have hy258_1 := fun (n_ : Nat) => (show (((((w13.drewN n_).setCell ⟨gb257, 0, none⟩ (.int .i64 ((rd_T34 t253 x7_1).f0))).setCell ⟨gb257, 1, none⟩ (.int .i64 ((rd_T34 t253 x7_1).f1))).setCell ⟨gb257, 2, none⟩ (.int .i64 ((rd_T34 t253 x7_1).f2)))).cell? _ = some _ from hx258_1))
                            (try have hy258_2 := fun (n_ : Nat) => (show (((((w13.drewN n_).setCell ⟨gb257, 0, none⟩ (.int .i64 ((rd_T34 t253 x7_1).f0))).setCell ⟨gb257, 1, none⟩ (.int .i64 ((rd_T34 t253 x7_1).f1))).setCell ⟨gb257, 2, none⟩ (.int .i64 ((rd_T34 t253 x7_1).f2)))).cell? _ = some _ from hx258_2))
                            clear hn258_0
                            clear hn258_1
                            clear hn258_2
                            replace p258 := eq_true p258
                            replace q258 := eq_true q258
                            go_wp2
                            repeat (go_quiet (fail); try go_wp2)
                            go_meet
                            case rel => exact ⟨_, (decide (((rd_T34 t253 (ji24)).f0) ≥ ((rd_T34 t253 x7_1).f0))), (by first | rfl | (simp; done) | (simp only [← hji24] <;> (first | rfl | simp)) | (simp [*]; done)), H', ⟨by have := HK1.out; first | omega | exact Nat.le_refl _⟩, ⟨by (with_reducible repeat (first | apply Kd.R_alloc | apply Kd.R_drewN | apply Kd.R_drew)); exact Kd.R_mono (Kd.R_far (p := ⟨gb257, 2, none⟩) (Kd.R_far (p := ⟨gb257, 1, none⟩) (Kd.R_far (p := ⟨gb257, 0, none⟩) (Kd.R_types HO_3.out BK257.out (by decide)) (fun _ hk => hk.2) (.int .i64 ((rd_T34 t253 x7_1).f0))) (fun _ hk => hk.2) (.int .i64 ((rd_T34 t253 x7_1).f1))) (fun _ hk => hk.2) (.int .i64 ((rd_T34 t253 x7_1).f2))) (fun _ hk => trivial)⟩, ⟨by (with_reducible repeat (first | apply Kd.R_alloc | apply Kd.R_drewN | apply Kd.R_drew)); exact Kd.R_mono (Kd.R_far (p := ⟨gb257, 2, none⟩) (Kd.R_far (p := ⟨gb257, 1, none⟩) (Kd.R_far (p := ⟨gb257, 0, none⟩) (Kd.R_mono HO_5.out (fun k_ hk => (⟨hk, hk.2⟩ : _ ∧ k_ ≠ gb257))) (fun _ hk => hk.2) (.int .i64 ((rd_T34 t253 x7_1).f0))) (fun _ hk => hk.2) (.int .i64 ((rd_T34 t253 x7_1).f1))) (fun _ hk => hk.2) (.int .i64 ((rd_T34 t253 x7_1).f2))) (fun _ hk => hk.1.2)⟩, ⟨by (with_reducible repeat (first | refine blk_drewN ?_ _ | refine blk_drew ?_ | refine blk_alloc ?_ _)); refine blk_put (cs := #[.int .i64 ((rd_T34 t253 x7_1).f0), .int .i64 ((rd_T34 t253 x7_1).f1), .int .i64 0]) ?_ 2 _ rfl; (with_reducible repeat (first | refine blk_drewN ?_ _ | refine blk_drew ?_ | refine blk_alloc ?_ _)); refine blk_put (cs := #[.int .i64 ((rd_T34 t253 x7_1).f0), .int .i64 0, .int .i64 0]) ?_ 1 _ rfl; (with_reducible repeat (first | refine blk_drewN ?_ _ | refine blk_drew ?_ | refine blk_alloc ?_ _)); refine blk_put (cs := #[.int .i64 0, .int .i64 0, .int .i64 0]) ?_ 0 _ rfl; (with_reducible repeat (first | refine blk_drewN ?_ _ | refine blk_drew ?_ | refine blk_alloc ?_ _)); exact BK257.out⟩, ⟨by repeat (first | (with_reducible first | exact HB.out | apply below_alloc | apply pw_below_drewN | apply below_drew1 | refine below_set ?_ GE257.out) | exact HB.out)⟩⟩
                          · rw [if_neg c26] at H
                            exact absurd H (by simp)
                        · rw [if_neg c25] at H
                          exact absurd H (by simp)
                      · rw [if_neg c23] at H
                        have c23b0 : decide (0 < x7_1) = false := decide_eq_false c23
                        clear c23
                        have H' := Aside0.mk H
                        clear H
                        have hcz28_0 : w13.cell? ⟨gb257, 0, none⟩ = some (.int .i64 0) := (blk_cell BK257.out 0).trans rfl
                        have hcz28_1 : w13.cell? ⟨gb257, 1, none⟩ = some (.int .i64 0) := (blk_cell BK257.out 1).trans rfl
                        have hcz28_2 : w13.cell? ⟨gb257, 2, none⟩ = some (.int .i64 0) := (blk_cell BK257.out 2).trans rfl
                        have hfz28_0 := blk_frozen BK257.out 0
                        have hfz28_1 := blk_frozen BK257.out 1
                        have hfz28_2 := blk_frozen BK257.out 2
                        go_wp2
                        repeat (go_quiet (fail); try go_wp2)
                        go_meet
                        case rel => exact ⟨_, (false), (by first | rfl | (simp; done) | (simp [*]; done)), H', ⟨by have := HK1.out; first | omega | exact Nat.le_refl _⟩, ⟨by (with_reducible repeat (first | apply Kd.R_alloc | apply Kd.R_drewN | apply Kd.R_drew)); exact Kd.R_mono (Kd.R_far (p := ⟨gb257, 2, none⟩) (Kd.R_far (p := ⟨gb257, 1, none⟩) (Kd.R_far (p := ⟨gb257, 0, none⟩) (Kd.R_types HO_3.out BK257.out (by decide)) (fun _ hk => hk.2) (.int .i64 ((rd_T34 t253 x7_1).f0))) (fun _ hk => hk.2) (.int .i64 ((rd_T34 t253 x7_1).f1))) (fun _ hk => hk.2) (.int .i64 ((rd_T34 t253 x7_1).f2))) (fun _ hk => trivial)⟩, ⟨by (with_reducible repeat (first | apply Kd.R_alloc | apply Kd.R_drewN | apply Kd.R_drew)); exact Kd.R_mono (Kd.R_far (p := ⟨gb257, 2, none⟩) (Kd.R_far (p := ⟨gb257, 1, none⟩) (Kd.R_far (p := ⟨gb257, 0, none⟩) (Kd.R_mono HO_5.out (fun k_ hk => (⟨hk, hk.2⟩ : _ ∧ k_ ≠ gb257))) (fun _ hk => hk.2) (.int .i64 ((rd_T34 t253 x7_1).f0))) (fun _ hk => hk.2) (.int .i64 ((rd_T34 t253 x7_1).f1))) (fun _ hk => hk.2) (.int .i64 ((rd_T34 t253 x7_1).f2))) (fun _ hk => hk.1.2)⟩, ⟨by (with_reducible repeat (first | refine blk_drewN ?_ _ | refine blk_drew ?_ | refine blk_alloc ?_ _)); refine blk_put (cs := #[.int .i64 ((rd_T34 t253 x7_1).f0), .int .i64 ((rd_T34 t253 x7_1).f1), .int .i64 0]) ?_ 2 _ rfl; (with_reducible repeat (first | refine blk_drewN ?_ _ | refine blk_drew ?_ | refine blk_alloc ?_ _)); refine blk_put (cs := #[.int .i64 ((rd_T34 t253 x7_1).f0), .int .i64 0, .int .i64 0]) ?_ 1 _ rfl; (with_reducible repeat (first | refine blk_drewN ?_ _ | refine blk_drew ?_ | refine blk_alloc ?_ _)); refine blk_put (cs := #[.int .i64 0, .int .i64 0, .int .i64 0]) ?_ 0 _ rfl; (with_reducible repeat (first | refine blk_drewN ?_ _ | refine blk_drew ?_ | refine blk_alloc ?_ _)); exact BK257.out⟩, ⟨by repeat (first | (with_reducible first | exact HB.out | apply below_alloc | apply pw_below_drewN | apply below_drew1 | refine below_set ?_ GE257.out) | exact HB.out)⟩⟩
            case rest =>
              clear HC11
              try clear c1
              try clear c2
              try clear p2
              try clear q2
              try clear hx2
              try clear c3
              try clear c4
              try clear p6
              try clear c9
              try clear c9b0
              try clear c10
              try clear c10b0
              try clear c15
              try clear c15b0
              try clear c17
              try clear c17b0
              try clear c19
              try clear c19b0
              try clear c21
              try clear c21b0
              try clear c23
              try clear c23b0
              try clear c25
              try clear c25b0
              try clear p25
              try clear q25
              try clear hx25
              try clear c26
              try clear c26b0
              try clear hcz14_0
              try clear hcz14_1
              try clear hcz14_2
              try clear hcz16_0
              try clear hcz16_1
              try clear hcz16_2
              try clear hcz18_0
              try clear hcz18_1
              try clear hcz18_2
              try clear hcz20_0
              try clear hcz20_1
              try clear hcz20_2
              try clear hcz22_0
              try clear hcz22_1
              try clear hcz22_2
              try clear hcz27_0
              try clear hcz27_1
              try clear hcz27_2
              try clear hcz28_0
              try clear hcz28_1
              try clear hcz28_2
              try clear hfz14_0
              try clear hfz14_1
              try clear hfz14_2
              try clear hfz16_0
              try clear hfz16_1
              try clear hfz16_2
              try clear hfz18_0
              try clear hfz18_1
              try clear hfz18_2
              try clear hfz20_0
              try clear hfz20_1
              try clear hfz20_2
              try clear hfz22_0
              try clear hfz22_1
              try clear hfz22_2
              try clear hfz27_0
              try clear hfz27_1
              try clear hfz27_2
              try clear hfz28_0
              try clear hfz28_1
              try clear hfz28_2
              try clear hx256_0
              try clear hx256_1
              try clear hx256_2
              try clear hx258_0
              try clear hx258_1
              try clear hx258_2
              try clear p2
              try clear p256
              try clear p258
              try clear q256
              try clear q258
              obtain ⟨kq, x63_10, rfl, HA, HJ10, HO_3, HO_5, BK257, HB⟩ := hcut
              cases kq with
              | zero => exact absurd HA.out (by simp [laws_FnLittleRuns.j1])
              | succ kj10 =>
                have H := HA.out
                clear HA
                simp only [laws_FnLittleRuns.j1] at H
                by_cases c29 : x63_10 = true
                · subst c29
                  have H1 : (some false) = some r := by rw [if_pos rfl] at H; exact H
                  clear H
                  have H := H1
                  clear H1
                  obtain rfl := Option.some.inj H
                  go_wp2
                  repeat (go_quiet (fail); try go_wp2)
                  go_ret
                  exact ⟨by first | rfl | (simp [errW_none, errW_some] <;> rfl) | (simp [*, errW_none, errW_some] <;> rfl), by repeat (first | (with_reducible first | exact HB.out | apply below_alloc | apply pw_below_drewN | apply below_drew1 | refine below_set ?_ GE257.out) | exact HB.out)⟩
                · replace c29 := Bool.eq_false_iff.mpr c29
                  subst c29
                  have H1 : (laws_FnLittleRuns.l1 kj10 t250 (t250.length : Int) t253 x6_1 x7_1 0 ((rd_T34 t253 x7_1).f0) ((rd_T34 t253 x7_1).f1) ((rd_T34 t253 x7_1).f2)) = some r := by rw [if_neg (show ¬ (false = true) by decide)] at H; exact H
                  clear H
                  have H := H1
                  clear H1
                  have H' := Aside0.mk H
                  clear H
                  go_wp2
                  repeat (go_quiet (fail); try go_wp2)
                  (try go_simp)
                  go_loopg [9] kj10 (fun kq v9 w' => ∃ (x9_3 : Int), v9 = .int .i64 x9_3 ∧ Aside0 (laws_FnLittleRuns.l1 kq t250 (t250.length : Int) t253 x6_1 x7_1 x9_3 ((rd_T34 t253 x7_1).f0) ((rd_T34 t253 x7_1).f1) ((rd_T34 t253 x7_1).f2) = some r) ∧ Aside0 (kq ≤ kj10) ∧ Aside0 (Kd.R (Kd.int .i64) 2 w' w.heap.size (fun _ => True) (.slice Ao7 t250.length co7) t250) ∧ Aside0 (Kd.R k34 34 w' w.heap.size (fun k_ => k_ ≠ gb257) (.slice (some ad256) t253.length co12) t253) ∧ Aside0 (w'.heap[gb257]? = some (.cells #[.int .i64 ((rd_T34 t253 x7_1).f0), .int .i64 ((rd_T34 t253 x7_1).f1), .int .i64 ((rd_T34 t253 x7_1).f2)] 34 (0, 0))) ∧ Aside0 (Below w.heap.size w w'))
                  case atStart => exact ⟨(0), (by first | rfl | (simp; done) | (simp [*]; done)), H', ⟨Nat.le_refl _⟩, ⟨by (with_reducible repeat (first | apply Kd.R_alloc | apply Kd.R_drewN | apply Kd.R_drew)); exact HO_3.out⟩, ⟨by (with_reducible repeat (first | apply Kd.R_alloc | apply Kd.R_drewN | apply Kd.R_drew)); exact HO_5.out⟩, ⟨by (with_reducible repeat (first | refine blk_drewN ?_ _ | refine blk_drew ?_ | refine blk_alloc ?_ _)); exact BK257.out⟩, ⟨by repeat (first | (with_reducible first | exact HB.out | apply below_alloc | apply pw_below_drewN | apply below_drew1 | refine below_set ?_ GE257.out) | exact HB.out)⟩⟩
                  case round =>
                    clear H'
                    try clear c1
                    try clear c2
                    try clear p2
                    try clear q2
                    try clear hx2
                    try clear c3
                    try clear c4
                    try clear p6
                    try clear c9
                    try clear c9b0
                    try clear c10
                    try clear c10b0
                    try clear c15
                    try clear c15b0
                    try clear c17
                    try clear c17b0
                    try clear c19
                    try clear c19b0
                    try clear c21
                    try clear c21b0
                    try clear c23
                    try clear c23b0
                    try clear c25
                    try clear c25b0
                    try clear p25
                    try clear q25
                    try clear hx25
                    try clear c26
                    try clear c26b0
                    try clear c29
                    try clear hcz14_0
                    try clear hcz14_1
                    try clear hcz14_2
                    try clear hcz16_0
                    try clear hcz16_1
                    try clear hcz16_2
                    try clear hcz18_0
                    try clear hcz18_1
                    try clear hcz18_2
                    try clear hcz20_0
                    try clear hcz20_1
                    try clear hcz20_2
                    try clear hcz22_0
                    try clear hcz22_1
                    try clear hcz22_2
                    try clear hcz27_0
                    try clear hcz27_1
                    try clear hcz27_2
                    try clear hcz28_0
                    try clear hcz28_1
                    try clear hcz28_2
                    try clear hfz14_0
                    try clear hfz14_1
                    try clear hfz14_2
                    try clear hfz16_0
                    try clear hfz16_1
                    try clear hfz16_2
                    try clear hfz18_0
                    try clear hfz18_1
                    try clear hfz18_2
                    try clear hfz20_0
                    try clear hfz20_1
                    try clear hfz20_2
                    try clear hfz22_0
                    try clear hfz22_1
                    try clear hfz22_2
                    try clear hfz27_0
                    try clear hfz27_1
                    try clear hfz27_2
                    try clear hfz28_0
                    try clear hfz28_1
                    try clear hfz28_2
                    try clear hx256_0
                    try clear hx256_1
                    try clear hx256_2
                    try clear hx258_0
                    try clear hx258_1
                    try clear hx258_2
                    try clear p2
                    try clear p25
                    try clear p256
                    try clear p258
                    try clear p6
                    try clear q2
                    try clear q25
                    try clear q256
                    try clear q258
                    obtain ⟨x9_3, rfl, HA, HK3, HO_3, HO_5, BK257, HB⟩ := hrel
                    cases gk with
                    | zero => exact absurd HA.out (by simp [laws_FnLittleRuns.l1])
                    | succ k3 =>
                      have H := HA.out
                      clear HA
                      simp only [laws_FnLittleRuns.l1] at H
                      by_cases c30 : x9_3 < ((rd_T34 t253 x7_1).f1)
                      · rw [if_pos c30] at H
                        have c30b0 : decide (x9_3 < ((rd_T34 t253 x7_1).f1)) = true := decide_eq_true c30
                        clear c30
                        by_cases c31 : (t250.length : Int) = 0
                        · rw [if_pos c31] at H
                          exact absurd H (by simp)
                        · rw [if_neg c31] at H
                          have c31b0 : ((t250.length : Int) == 0) = false := beq_eq_false_iff_ne.mpr c31
                          have c31b1 : ((t250.length : Int) != 0) = true := bne_iff_ne.mpr c31
                          have c31b2 : ¬ (t250 = []) := fun h_ => c31 (by rw [h_]; rfl)
                          obtain ⟨ji32, hji32⟩ : ∃ j_ : Int, (Int.tmod (wrap64 (((rd_T34 t253 x7_1).f0) + x9_3)) (t250.length : Int)) = j_ := ⟨_, rfl⟩
                          replace H : (if 0 ≤ (ji32) then (if (ji32) < (t250.length : Int) then (if (rd t250 (ji32)) = ((rd_T34 t253 x7_1).f2) then (laws_FnLittleRuns.l1 k3 t250 (t250.length : Int) t253 x6_1 x7_1 (wrap64 (x9_3 + 1)) ((rd_T34 t253 x7_1).f0) ((rd_T34 t253 x7_1).f1) ((rd_T34 t253 x7_1).f2)) else (some false)) else (none)) else (none)) = some r := by first | (rw [hji32] at H; exact H) | (simp only [hji32] at H ⊢; exact H)
                          by_cases c33 : 0 ≤ (ji32)
                          · rw [if_pos c33] at H
                            have c33b0 : decide (0 ≤ (ji32)) = true := decide_eq_true c33
                            clear c33
                            by_cases c34 : (ji32) < (t250.length : Int)
                            · rw [if_pos c34] at H
                              have c34b0 : decide ((ji32) < (t250.length : Int)) = true := decide_eq_true c34
                              clear c34
                              by_cases c35 : (rd t250 (ji32)) = ((rd_T34 t253 x7_1).f2)
                              · rw [if_pos c35] at H
                                have c35b0 : ((rd t250 (ji32)) == ((rd_T34 t253 x7_1).f2)) = true := beq_iff_eq.mpr c35
                                have c35b1 : ((rd t250 (ji32)) != ((rd_T34 t253 x7_1).f2)) = false := bne_eq_false_iff_eq.mpr c35
                                clear c35
                                have H' := Aside0.mk H
                                clear H
                                have hcz36_0 : wr.cell? ⟨gb257, 0, none⟩ = some (.int .i64 ((rd_T34 t253 x7_1).f0)) := (blk_cell BK257.out 0).trans rfl
                                have hcz36_1 : wr.cell? ⟨gb257, 1, none⟩ = some (.int .i64 ((rd_T34 t253 x7_1).f1)) := (blk_cell BK257.out 1).trans rfl
                                have hcz36_2 : wr.cell? ⟨gb257, 2, none⟩ = some (.int .i64 ((rd_T34 t253 x7_1).f2)) := (blk_cell BK257.out 2).trans rfl
                                have hfz36_0 := blk_frozen BK257.out 0
                                have hfz36_1 := blk_frozen BK257.out 1
                                have hfz36_2 := blk_frozen BK257.out 2
                                have p259 : 0 ≤ ((ji32) : Int) := of_decide_eq_true (by first | (with_reducible assumption) | assumption)
                                have q259 : (ji32) < (t250.length : Int) := of_decide_eq_true (by first | (with_reducible assumption) | assumption)
                                obtain ⟨ad259, e259, hx259_0⟩ := Kd.at_int (Kd.R_reads' HO_3.out).2.2 (ji32) p259 q259
                                cases e259
                                replace p259 := eq_true p259
                                replace q259 := eq_true q259
                                go_wp2
                                repeat (go_quiet (fail); try go_wp2)
                                go_roundg k3
                                case measure => have := HK1.out; have := HJ10.out; have := HK3.out; omega
                                case rel => exact ⟨(wrap64 (x9_3 + 1)), (by first | rfl | (simp; done) | (simp [*]; done)), H', ⟨by have := HK1.out; have := HJ10.out; have := HK3.out; omega⟩, ⟨by (with_reducible repeat (first | apply Kd.R_alloc | apply Kd.R_drewN | apply Kd.R_drew)); exact HO_3.out⟩, ⟨by (with_reducible repeat (first | apply Kd.R_alloc | apply Kd.R_drewN | apply Kd.R_drew)); exact HO_5.out⟩, ⟨by (with_reducible repeat (first | refine blk_drewN ?_ _ | refine blk_drew ?_ | refine blk_alloc ?_ _)); exact BK257.out⟩, ⟨by repeat (first | (with_reducible first | exact HB.out | apply below_alloc | apply pw_below_drewN | apply below_drew1 | refine below_set ?_ GE257.out) | exact HB.out)⟩⟩
                              · rw [if_neg c35] at H
                                have c35b0 : ((rd t250 (ji32)) == ((rd_T34 t253 x7_1).f2)) = false := beq_eq_false_iff_ne.mpr c35
                                have c35b1 : ((rd t250 (ji32)) != ((rd_T34 t253 x7_1).f2)) = true := bne_iff_ne.mpr c35
                                obtain rfl := Option.some.inj H
                                have hcz37_0 : wr.cell? ⟨gb257, 0, none⟩ = some (.int .i64 ((rd_T34 t253 x7_1).f0)) := (blk_cell BK257.out 0).trans rfl
                                have hcz37_1 : wr.cell? ⟨gb257, 1, none⟩ = some (.int .i64 ((rd_T34 t253 x7_1).f1)) := (blk_cell BK257.out 1).trans rfl
                                have hcz37_2 : wr.cell? ⟨gb257, 2, none⟩ = some (.int .i64 ((rd_T34 t253 x7_1).f2)) := (blk_cell BK257.out 2).trans rfl
                                have hfz37_0 := blk_frozen BK257.out 0
                                have hfz37_1 := blk_frozen BK257.out 1
                                have hfz37_2 := blk_frozen BK257.out 2
                                have p259 : 0 ≤ ((ji32) : Int) := of_decide_eq_true (by first | (with_reducible assumption) | assumption)
                                have q259 : (ji32) < (t250.length : Int) := of_decide_eq_true (by first | (with_reducible assumption) | assumption)
                                obtain ⟨ad259, e259, hx259_0⟩ := Kd.at_int (Kd.R_reads' HO_3.out).2.2 (ji32) p259 q259
                                cases e259
                                replace p259 := eq_true p259
                                replace q259 := eq_true q259
                                go_wp2
                                repeat (go_quiet (fail); try go_wp2)
                                go_ret
                                exact ⟨by first | rfl | (simp [errW_none, errW_some] <;> rfl) | (simp only [← hji32]; first | rfl | (simp [errW_none, errW_some] <;> rfl)) | (simp [*, errW_none, errW_some] <;> rfl), by repeat (first | (with_reducible first | exact HB.out | apply below_alloc | apply pw_below_drewN | apply below_drew1 | refine below_set ?_ GE257.out) | exact HB.out)⟩
                            · rw [if_neg c34] at H
                              exact absurd H (by simp)
                          · rw [if_neg c33] at H
                            exact absurd H (by simp)
                      · rw [if_neg c30] at H
                        have c30b0 : decide (x9_3 < ((rd_T34 t253 x7_1).f1)) = false := decide_eq_false c30
                        clear c30
                        have HC38 := Aside0.mk H
                        clear H
                        have hcz39_0 : wr.cell? ⟨gb257, 0, none⟩ = some (.int .i64 ((rd_T34 t253 x7_1).f0)) := (blk_cell BK257.out 0).trans rfl
                        have hcz39_1 : wr.cell? ⟨gb257, 1, none⟩ = some (.int .i64 ((rd_T34 t253 x7_1).f1)) := (blk_cell BK257.out 1).trans rfl
                        have hcz39_2 : wr.cell? ⟨gb257, 2, none⟩ = some (.int .i64 ((rd_T34 t253 x7_1).f2)) := (blk_cell BK257.out 2).trans rfl
                        have hfz39_0 := blk_frozen BK257.out 0
                        have hfz39_1 := blk_frozen BK257.out 1
                        have hfz39_2 := blk_frozen BK257.out 2
                        go_upto_region 18 with (fail)
                        repeat (go_quiet (fail); go_upto_region 18 with (fail))
                        go_cut [109] (fun v109 wc => ∃ (kq : Nat) (x109_37 : Bool), v109 = .bool x109_37 ∧ Aside0 (laws_FnLittleRuns.j3 kq t250 (t250.length : Int) t253 x6_1 x7_1 x109_37 ((rd_T34 t253 x7_1).f0) ((rd_T34 t253 x7_1).f1) ((rd_T34 t253 x7_1).f2) = some r) ∧ Aside0 (kq ≤ k3) ∧ Aside0 (Kd.R (Kd.int .i64) 2 wc w.heap.size (fun _ => True) (.slice Ao7 t250.length co7) t250) ∧ Aside0 (Kd.R k34 34 wc w.heap.size (fun k_ => k_ ≠ gb257) (.slice (some ad256) t253.length co12) t253) ∧ Aside0 (wc.heap[gb257]? = some (.cells #[.int .i64 ((rd_T34 t253 x7_1).f0), .int .i64 ((rd_T34 t253 x7_1).f1), .int .i64 ((rd_T34 t253 x7_1).f2)] 34 (0, 0))) ∧ Aside0 (Below w.heap.size w wc))
                        case first =>
                          have H := HC38.out
                          clear HC38
                          by_cases c40 : (t250.length : Int) = 0
                          · rw [if_pos c40] at H
                            exact absurd H (by simp)
                          · rw [if_neg c40] at H
                            have c40b0 : ((t250.length : Int) == 0) = false := beq_eq_false_iff_ne.mpr c40
                            have c40b1 : ((t250.length : Int) != 0) = true := bne_iff_ne.mpr c40
                            have c40b2 : ¬ (t250 = []) := fun h_ => c40 (by rw [h_]; rfl)
                            (first | rw [c40b0] | (simp only [i64_w, i32_w]; rw [c40b0]) | skip)
                            obtain ⟨ji41, hji41⟩ : ∃ j_ : Int, (Int.tmod (wrap64 ((wrap64 (((rd_T34 t253 x7_1).f0) + (t250.length : Int))) - 1)) (t250.length : Int)) = j_ := ⟨_, rfl⟩
                            replace H : (if 0 ≤ (ji41) then (if (ji41) < (t250.length : Int) then (if (rd t250 (ji41)) ≤ ((rd_T34 t253 x7_1).f2) then (laws_FnLittleRuns.j3 k3 t250 (t250.length : Int) t253 x6_1 x7_1 true ((rd_T34 t253 x7_1).f0) ((rd_T34 t253 x7_1).f1) ((rd_T34 t253 x7_1).f2)) else (if 0 ≤ (Int.tmod (wrap64 (((rd_T34 t253 x7_1).f0) + ((rd_T34 t253 x7_1).f1))) (t250.length : Int)) then (if (Int.tmod (wrap64 (((rd_T34 t253 x7_1).f0) + ((rd_T34 t253 x7_1).f1))) (t250.length : Int)) < (t250.length : Int) then (laws_FnLittleRuns.j3 k3 t250 (t250.length : Int) t253 x6_1 x7_1 (decide ((rd t250 (Int.tmod (wrap64 (((rd_T34 t253 x7_1).f0) + ((rd_T34 t253 x7_1).f1))) (t250.length : Int))) ≤ ((rd_T34 t253 x7_1).f2))) ((rd_T34 t253 x7_1).f0) ((rd_T34 t253 x7_1).f1) ((rd_T34 t253 x7_1).f2)) else (none)) else (none))) else (none)) else (none)) = some r := by first | (rw [hji41] at H; exact H) | (simp only [hji41] at H ⊢; exact H)
                            by_cases c42 : 0 ≤ (ji41)
                            · rw [if_pos c42] at H
                              have c42b0 : decide (0 ≤ (ji41)) = true := decide_eq_true c42
                              clear c42
                              by_cases c43 : (ji41) < (t250.length : Int)
                              · rw [if_pos c43] at H
                                have c43b0 : decide ((ji41) < (t250.length : Int)) = true := decide_eq_true c43
                                clear c43
                                by_cases c44 : (rd t250 (ji41)) ≤ ((rd_T34 t253 x7_1).f2)
                                · rw [if_pos c44] at H
                                  have c44b0 : decide ((rd t250 (ji41)) ≤ ((rd_T34 t253 x7_1).f2)) = true := decide_eq_true c44
                                  clear c44
                                  have H' := Aside0.mk H
                                  clear H
                                  have hcz45_0 : wr.cell? ⟨gb257, 0, none⟩ = some (.int .i64 ((rd_T34 t253 x7_1).f0)) := (blk_cell BK257.out 0).trans rfl
                                  have hcz45_1 : wr.cell? ⟨gb257, 1, none⟩ = some (.int .i64 ((rd_T34 t253 x7_1).f1)) := (blk_cell BK257.out 1).trans rfl
                                  have hcz45_2 : wr.cell? ⟨gb257, 2, none⟩ = some (.int .i64 ((rd_T34 t253 x7_1).f2)) := (blk_cell BK257.out 2).trans rfl
                                  have hfz45_0 := blk_frozen BK257.out 0
                                  have hfz45_1 := blk_frozen BK257.out 1
                                  have hfz45_2 := blk_frozen BK257.out 2
                                  have p260 : 0 ≤ ((ji41) : Int) := of_decide_eq_true (by first | (with_reducible assumption) | assumption)
                                  have q260 : (ji41) < (t250.length : Int) := of_decide_eq_true (by first | (with_reducible assumption) | assumption)
                                  obtain ⟨ad260, e260, hx260_0⟩ := Kd.at_int (Kd.R_reads' HO_3.out).2.2 (ji41) p260 q260
                                  cases e260
                                  replace p260 := eq_true p260
                                  replace q260 := eq_true q260
                                  go_wp2
                                  repeat (go_quiet (fail); try go_wp2)
                                  go_meet
                                  case rel => exact ⟨_, (true), (by first | rfl | (simp; done) | (simp [*]; done)), H', ⟨by have := HK1.out; have := HJ10.out; have := HK3.out; first | omega | exact Nat.le_refl _⟩, ⟨by (with_reducible repeat (first | apply Kd.R_alloc | apply Kd.R_drewN | apply Kd.R_drew)); exact HO_3.out⟩, ⟨by (with_reducible repeat (first | apply Kd.R_alloc | apply Kd.R_drewN | apply Kd.R_drew)); exact HO_5.out⟩, ⟨by (with_reducible repeat (first | refine blk_drewN ?_ _ | refine blk_drew ?_ | refine blk_alloc ?_ _)); exact BK257.out⟩, ⟨by repeat (first | (with_reducible first | exact HB.out | apply below_alloc | apply pw_below_drewN | apply below_drew1 | refine below_set ?_ GE257.out) | exact HB.out)⟩⟩
                                · rw [if_neg c44] at H
                                  have c44b0 : decide ((rd t250 (ji41)) ≤ ((rd_T34 t253 x7_1).f2)) = false := decide_eq_false c44
                                  clear c44
                                  obtain ⟨ji46, hji46⟩ : ∃ j_ : Int, (Int.tmod (wrap64 (((rd_T34 t253 x7_1).f0) + ((rd_T34 t253 x7_1).f1))) (t250.length : Int)) = j_ := ⟨_, rfl⟩
                                  replace H : (if 0 ≤ (ji46) then (if (ji46) < (t250.length : Int) then (laws_FnLittleRuns.j3 k3 t250 (t250.length : Int) t253 x6_1 x7_1 (decide ((rd t250 (ji46)) ≤ ((rd_T34 t253 x7_1).f2))) ((rd_T34 t253 x7_1).f0) ((rd_T34 t253 x7_1).f1) ((rd_T34 t253 x7_1).f2)) else (none)) else (none)) = some r := by first | (rw [hji46] at H; exact H) | (simp only [hji46] at H ⊢; exact H)
                                  by_cases c47 : 0 ≤ (ji46)
                                  · rw [if_pos c47] at H
                                    have c47b0 : decide (0 ≤ (ji46)) = true := decide_eq_true c47
                                    clear c47
                                    by_cases c48 : (ji46) < (t250.length : Int)
                                    · rw [if_pos c48] at H
                                      have c48b0 : decide ((ji46) < (t250.length : Int)) = true := decide_eq_true c48
                                      clear c48
                                      have H' := Aside0.mk H
                                      clear H
                                      have hcz49_0 : wr.cell? ⟨gb257, 0, none⟩ = some (.int .i64 ((rd_T34 t253 x7_1).f0)) := (blk_cell BK257.out 0).trans rfl
                                      have hcz49_1 : wr.cell? ⟨gb257, 1, none⟩ = some (.int .i64 ((rd_T34 t253 x7_1).f1)) := (blk_cell BK257.out 1).trans rfl
                                      have hcz49_2 : wr.cell? ⟨gb257, 2, none⟩ = some (.int .i64 ((rd_T34 t253 x7_1).f2)) := (blk_cell BK257.out 2).trans rfl
                                      have hfz49_0 := blk_frozen BK257.out 0
                                      have hfz49_1 := blk_frozen BK257.out 1
                                      have hfz49_2 := blk_frozen BK257.out 2
                                      have p260 : 0 ≤ ((ji41) : Int) := of_decide_eq_true (by first | (with_reducible assumption) | assumption)
                                      have q260 : (ji41) < (t250.length : Int) := of_decide_eq_true (by first | (with_reducible assumption) | assumption)
                                      obtain ⟨ad260, e260, hx260_0⟩ := Kd.at_int (Kd.R_reads' HO_3.out).2.2 (ji41) p260 q260
                                      cases e260
                                      replace p260 := eq_true p260
                                      replace q260 := eq_true q260
                                      have p261 : 0 ≤ ((ji46) : Int) := of_decide_eq_true (by first | (with_reducible assumption) | assumption)
                                      have q261 : (ji46) < (t250.length : Int) := of_decide_eq_true (by first | (with_reducible assumption) | assumption)
                                      obtain ⟨ad261, e261, hx261_0⟩ := Kd.at_int (Kd.R_reads' HO_3.out).2.2 (ji46) p261 q261
                                      obtain rfl : ad260 = ad261 := (by injection e261)
                                      replace p261 := eq_true p261
                                      replace q261 := eq_true q261
                                      go_wp2
                                      repeat (go_quiet (fail); try go_wp2)
                                      go_meet
                                      case rel => exact ⟨_, (decide ((rd t250 (ji46)) ≤ ((rd_T34 t253 x7_1).f2))), (by first | rfl | (simp; done) | (simp only [← hji46] <;> (first | rfl | simp)) | (simp [*]; done)), H', ⟨by have := HK1.out; have := HJ10.out; have := HK3.out; first | omega | exact Nat.le_refl _⟩, ⟨by (with_reducible repeat (first | apply Kd.R_alloc | apply Kd.R_drewN | apply Kd.R_drew)); exact HO_3.out⟩, ⟨by (with_reducible repeat (first | apply Kd.R_alloc | apply Kd.R_drewN | apply Kd.R_drew)); exact HO_5.out⟩, ⟨by (with_reducible repeat (first | refine blk_drewN ?_ _ | refine blk_drew ?_ | refine blk_alloc ?_ _)); exact BK257.out⟩, ⟨by repeat (first | (with_reducible first | exact HB.out | apply below_alloc | apply pw_below_drewN | apply below_drew1 | refine below_set ?_ GE257.out) | exact HB.out)⟩⟩
                                    · rw [if_neg c48] at H
                                      exact absurd H (by simp)
                                  · rw [if_neg c47] at H
                                    exact absurd H (by simp)
                              · rw [if_neg c43] at H
                                exact absurd H (by simp)
                            · rw [if_neg c42] at H
                              exact absurd H (by simp)
                        case rest =>
                          clear HC38
                          try clear c1
                          try clear c2
                          try clear p2
                          try clear q2
                          try clear hx2
                          try clear c3
                          try clear c4
                          try clear p6
                          try clear c9
                          try clear c9b0
                          try clear c10
                          try clear c10b0
                          try clear c15
                          try clear c15b0
                          try clear c17
                          try clear c17b0
                          try clear c19
                          try clear c19b0
                          try clear c21
                          try clear c21b0
                          try clear c23
                          try clear c23b0
                          try clear c25
                          try clear c25b0
                          try clear p25
                          try clear q25
                          try clear hx25
                          try clear c26
                          try clear c26b0
                          try clear p26
                          try clear q26
                          try clear hx26
                          try clear c29
                          try clear c30
                          try clear c30b0
                          try clear c31
                          try clear c31b0
                          try clear c31b1
                          try clear c31b2
                          try clear c33
                          try clear c33b0
                          try clear c34
                          try clear c34b0
                          try clear c35
                          try clear c35b0
                          try clear c35b1
                          try clear c40
                          try clear c40b0
                          try clear c40b1
                          try clear c40b2
                          try clear c42
                          try clear c42b0
                          try clear c43
                          try clear c43b0
                          try clear c44
                          try clear c44b0
                          try clear c47
                          try clear c47b0
                          try clear c48
                          try clear c48b0
                          try clear hcz14_0
                          try clear hcz14_1
                          try clear hcz14_2
                          try clear hcz16_0
                          try clear hcz16_1
                          try clear hcz16_2
                          try clear hcz18_0
                          try clear hcz18_1
                          try clear hcz18_2
                          try clear hcz20_0
                          try clear hcz20_1
                          try clear hcz20_2
                          try clear hcz22_0
                          try clear hcz22_1
                          try clear hcz22_2
                          try clear hcz27_0
                          try clear hcz27_1
                          try clear hcz27_2
                          try clear hcz28_0
                          try clear hcz28_1
                          try clear hcz28_2
                          try clear hcz36_0
                          try clear hcz36_1
                          try clear hcz36_2
                          try clear hcz37_0
                          try clear hcz37_1
                          try clear hcz37_2
                          try clear hcz39_0
                          try clear hcz39_1
                          try clear hcz39_2
                          try clear hcz45_0
                          try clear hcz45_1
                          try clear hcz45_2
                          try clear hcz49_0
                          try clear hcz49_1
                          try clear hcz49_2
                          try clear hfz14_0
                          try clear hfz14_1
                          try clear hfz14_2
                          try clear hfz16_0
                          try clear hfz16_1
                          try clear hfz16_2
                          try clear hfz18_0
                          try clear hfz18_1
                          try clear hfz18_2
                          try clear hfz20_0
                          try clear hfz20_1
                          try clear hfz20_2
                          try clear hfz22_0
                          try clear hfz22_1
                          try clear hfz22_2
                          try clear hfz27_0
                          try clear hfz27_1
                          try clear hfz27_2
                          try clear hfz28_0
                          try clear hfz28_1
                          try clear hfz28_2
                          try clear hfz36_0
                          try clear hfz36_1
                          try clear hfz36_2
                          try clear hfz37_0
                          try clear hfz37_1
                          try clear hfz37_2
                          try clear hfz39_0
                          try clear hfz39_1
                          try clear hfz39_2
                          try clear hfz45_0
                          try clear hfz45_1
                          try clear hfz45_2
                          try clear hfz49_0
                          try clear hfz49_1
                          try clear hfz49_2
                          try clear hx256_0
                          try clear hx256_1
                          try clear hx256_2
                          try clear hx258_0
                          try clear hx258_1
                          try clear hx258_2
                          try clear hx259_0
                          try clear hx260_0
                          try clear hx261_0
                          try clear p2
                          try clear p25
                          try clear p256
                          try clear p258
                          try clear p259
                          try clear p260
                          try clear p261
                          try clear p6
                          try clear q2
                          try clear q25
                          try clear q256
                          try clear q258
                          try clear q259
                          try clear q260
                          try clear q261
                          obtain ⟨kq, x109_37, rfl, HA, HJ37, HO_3, HO_5, BK257, HB⟩ := hcut
                          cases kq with
                          | zero => exact absurd HA.out (by simp [laws_FnLittleRuns.j3])
                          | succ kj37 =>
                            have H := HA.out
                            clear HA
                            simp only [laws_FnLittleRuns.j3] at H
                            by_cases c50 : x109_37 = true
                            · subst c50
                              have H1 : (some false) = some r := by rw [if_pos rfl] at H; exact H
                              clear H
                              have H := H1
                              clear H1
                              obtain rfl := Option.some.inj H
                              go_wp2
                              repeat (go_quiet (fail); try go_wp2)
                              go_ret
                              exact ⟨by first | rfl | (simp [errW_none, errW_some] <;> rfl) | (simp [*, errW_none, errW_some] <;> rfl), by repeat (first | (with_reducible first | exact HB.out | apply below_alloc | apply pw_below_drewN | apply below_drew1 | refine below_set ?_ GE257.out) | exact HB.out)⟩
                            · replace c50 := Bool.eq_false_iff.mpr c50
                              subst c50
                              have H1 : (if ((rd_T34 t253 x7_1).f1) = 1 then (laws_FnLittleRuns.l0 kj37 t250 (t250.length : Int) t253 (wrap64 (x6_1 + 1)) (wrap64 (x7_1 + 1))) else (laws_FnLittleRuns.l0 kj37 t250 (t250.length : Int) t253 x6_1 (wrap64 (x7_1 + 1)))) = some r := by rw [if_neg (show ¬ (false = true) by decide)] at H; exact H
                              clear H
                              have H := H1
                              clear H1
                              by_cases c51 : ((rd_T34 t253 x7_1).f1) = 1
                              · rw [if_pos c51] at H
                                have c51b0 : (((rd_T34 t253 x7_1).f1) == 1) = true := beq_iff_eq.mpr c51
                                have c51b1 : (((rd_T34 t253 x7_1).f1) != 1) = false := bne_eq_false_iff_eq.mpr c51
                                clear c51
                                have H' := Aside0.mk H
                                clear H
                                have hcz52_0 : wc.cell? ⟨gb257, 0, none⟩ = some (.int .i64 ((rd_T34 t253 x7_1).f0)) := (blk_cell BK257.out 0).trans rfl
                                have hcz52_1 : wc.cell? ⟨gb257, 1, none⟩ = some (.int .i64 ((rd_T34 t253 x7_1).f1)) := (blk_cell BK257.out 1).trans rfl
                                have hcz52_2 : wc.cell? ⟨gb257, 2, none⟩ = some (.int .i64 ((rd_T34 t253 x7_1).f2)) := (blk_cell BK257.out 2).trans rfl
                                have hfz52_0 := blk_frozen BK257.out 0
                                have hfz52_1 := blk_frozen BK257.out 1
                                have hfz52_2 := blk_frozen BK257.out 2
                                go_wp2
                                repeat (go_quiet (fail); try go_wp2)
                                go_roundg kj37
                                case measure => have := HK1.out; have := HJ10.out; have := HK3.out; have := HJ37.out; omega
                                case rel => exact ⟨(wrap64 (x6_1 + 1)), (wrap64 (x7_1 + 1)), (by first | rfl | (simp; done) | (simp [*]; done)), (by first | rfl | (simp; done) | (simp [*]; done)), H', ⟨by have := HK1.out; have := HJ10.out; have := HK3.out; have := HJ37.out; omega⟩, ⟨by (with_reducible repeat (first | apply Kd.R_alloc | apply Kd.R_drewN | apply Kd.R_drew)); exact HO_3.out⟩, ⟨by (with_reducible repeat (first | apply Kd.R_alloc | apply Kd.R_drewN | apply Kd.R_drew)); exact Kd.R_mono HO_5.out (fun _ hk => trivial)⟩, ⟨by repeat (first | (with_reducible first | exact HB.out | apply below_alloc | apply pw_below_drewN | apply below_drew1 | refine below_set ?_ GE257.out) | exact HB.out)⟩⟩
                              · rw [if_neg c51] at H
                                have c51b0 : (((rd_T34 t253 x7_1).f1) == 1) = false := beq_eq_false_iff_ne.mpr c51
                                have c51b1 : (((rd_T34 t253 x7_1).f1) != 1) = true := bne_iff_ne.mpr c51
                                have H' := Aside0.mk H
                                clear H
                                have hcz53_0 : wc.cell? ⟨gb257, 0, none⟩ = some (.int .i64 ((rd_T34 t253 x7_1).f0)) := (blk_cell BK257.out 0).trans rfl
                                have hcz53_1 : wc.cell? ⟨gb257, 1, none⟩ = some (.int .i64 ((rd_T34 t253 x7_1).f1)) := (blk_cell BK257.out 1).trans rfl
                                have hcz53_2 : wc.cell? ⟨gb257, 2, none⟩ = some (.int .i64 ((rd_T34 t253 x7_1).f2)) := (blk_cell BK257.out 2).trans rfl
                                have hfz53_0 := blk_frozen BK257.out 0
                                have hfz53_1 := blk_frozen BK257.out 1
                                have hfz53_2 := blk_frozen BK257.out 2
                                go_wp2
                                repeat (go_quiet (fail); try go_wp2)
                                go_roundg kj37
                                case measure => have := HK1.out; have := HJ10.out; have := HK3.out; have := HJ37.out; omega
                                case rel => exact ⟨(x6_1), (wrap64 (x7_1 + 1)), (by first | rfl | (simp; done) | (simp [*]; done)), (by first | rfl | (simp; done) | (simp [*]; done)), H', ⟨by have := HK1.out; have := HJ10.out; have := HK3.out; have := HJ37.out; omega⟩, ⟨by (with_reducible repeat (first | apply Kd.R_alloc | apply Kd.R_drewN | apply Kd.R_drew)); exact HO_3.out⟩, ⟨by (with_reducible repeat (first | apply Kd.R_alloc | apply Kd.R_drewN | apply Kd.R_drew)); exact Kd.R_mono HO_5.out (fun _ hk => trivial)⟩, ⟨by repeat (first | (with_reducible first | exact HB.out | apply below_alloc | apply pw_below_drewN | apply below_drew1 | refine below_set ?_ GE257.out) | exact HB.out)⟩⟩
          · rw [if_neg c10] at H
            exact absurd H (by simp)
        · rw [if_neg c9] at H
          have c9b0 : decide (x7_1 < (t253.length : Int)) = false := decide_eq_false c9
          clear c9
          have H' := Aside0.mk H
          clear H
          obtain ⟨Ao54, co54, eo54⟩ := Kd.R_slice HO_5.out
          subst eo54
          go_wp2
          repeat (go_quiet (fail); try go_wp2)
          (try go_simp)
          go_loopg [6, 10] k1 (fun kq v6 v10 w' => ∃ (x6_2 : Int) (x10_2 : Int), v6 = .int .i64 x6_2 ∧ v10 = .int .i64 x10_2 ∧ Aside0 (laws_FnLittleRuns.l2 kq t250 (t250.length : Int) x6_2 x10_2 = some r) ∧ Aside0 (kq ≤ k1) ∧ Aside0 (Kd.R (Kd.int .i64) 2 w' w.heap.size (fun _ => True) (.slice Ao7 t250.length co7) t250) ∧ Aside0 (Below w.heap.size w w'))
          case atStart => exact ⟨(x6_1), (0), (by first | rfl | (simp; done) | (simp [*]; done)), (by first | rfl | (simp; done) | (simp [*]; done)), H', ⟨Nat.le_refl _⟩, ⟨by (with_reducible repeat (first | apply Kd.R_alloc | apply Kd.R_drewN | apply Kd.R_drew)); exact HO_3.out⟩, ⟨by repeat (first | (with_reducible first | exact HB.out | apply below_alloc | apply pw_below_drewN | apply below_drew1) | exact HB.out)⟩⟩
          case round =>
            clear H'
            try clear c1
            try clear c2
            try clear p2
            try clear q2
            try clear hx2
            try clear c3
            try clear c4
            try clear c5
            try clear p6
            try clear c9
            try clear c9b0
            try clear c10
            try clear c10b0
            try clear c15
            try clear c15b0
            try clear c17
            try clear c17b0
            try clear c19
            try clear c19b0
            try clear c21
            try clear c21b0
            try clear c23
            try clear c23b0
            try clear c25
            try clear c25b0
            try clear p25
            try clear q25
            try clear hx25
            try clear c26
            try clear c26b0
            try clear p26
            try clear q26
            try clear hx26
            try clear c29
            try clear c30
            try clear c30b0
            try clear c31
            try clear c31b0
            try clear c31b1
            try clear c31b2
            try clear c33
            try clear c33b0
            try clear c34
            try clear c34b0
            try clear c35
            try clear c35b0
            try clear c35b1
            try clear c40
            try clear c40b0
            try clear c40b1
            try clear c40b2
            try clear c42
            try clear c42b0
            try clear c43
            try clear c43b0
            try clear c44
            try clear c44b0
            try clear c47
            try clear c47b0
            try clear c48
            try clear c48b0
            try clear c50
            try clear c51
            try clear c51b0
            try clear c51b1
            try clear hcz14_0
            try clear hcz14_1
            try clear hcz14_2
            try clear hcz16_0
            try clear hcz16_1
            try clear hcz16_2
            try clear hcz18_0
            try clear hcz18_1
            try clear hcz18_2
            try clear hcz20_0
            try clear hcz20_1
            try clear hcz20_2
            try clear hcz22_0
            try clear hcz22_1
            try clear hcz22_2
            try clear hcz27_0
            try clear hcz27_1
            try clear hcz27_2
            try clear hcz28_0
            try clear hcz28_1
            try clear hcz28_2
            try clear hcz36_0
            try clear hcz36_1
            try clear hcz36_2
            try clear hcz37_0
            try clear hcz37_1
            try clear hcz37_2
            try clear hcz39_0
            try clear hcz39_1
            try clear hcz39_2
            try clear hcz45_0
            try clear hcz45_1
            try clear hcz45_2
            try clear hcz49_0
            try clear hcz49_1
            try clear hcz49_2
            try clear hcz52_0
            try clear hcz52_1
            try clear hcz52_2
            try clear hcz53_0
            try clear hcz53_1
            try clear hcz53_2
            try clear hfz14_0
            try clear hfz14_1
            try clear hfz14_2
            try clear hfz16_0
            try clear hfz16_1
            try clear hfz16_2
            try clear hfz18_0
            try clear hfz18_1
            try clear hfz18_2
            try clear hfz20_0
            try clear hfz20_1
            try clear hfz20_2
            try clear hfz22_0
            try clear hfz22_1
            try clear hfz22_2
            try clear hfz27_0
            try clear hfz27_1
            try clear hfz27_2
            try clear hfz28_0
            try clear hfz28_1
            try clear hfz28_2
            try clear hfz36_0
            try clear hfz36_1
            try clear hfz36_2
            try clear hfz37_0
            try clear hfz37_1
            try clear hfz37_2
            try clear hfz39_0
            try clear hfz39_1
            try clear hfz39_2
            try clear hfz45_0
            try clear hfz45_1
            try clear hfz45_2
            try clear hfz49_0
            try clear hfz49_1
            try clear hfz49_2
            try clear hfz52_0
            try clear hfz52_1
            try clear hfz52_2
            try clear hfz53_0
            try clear hfz53_1
            try clear hfz53_2
            try clear hx256_0
            try clear hx256_1
            try clear hx256_2
            try clear hx258_0
            try clear hx258_1
            try clear hx258_2
            try clear hx259_0
            try clear hx260_0
            try clear hx261_0
            try clear p2
            try clear p25
            try clear p256
            try clear p258
            try clear p259
            try clear p26
            try clear p260
            try clear p261
            try clear p6
            try clear q2
            try clear q25
            try clear q256
            try clear q258
            try clear q259
            try clear q26
            try clear q260
            try clear q261
            obtain ⟨x6_2, x10_2, rfl, rfl, HA, HK2, HO_3, HB⟩ := hrel
            cases gk with
            | zero => exact absurd HA.out (by simp [laws_FnLittleRuns.l2])
            | succ k2 =>
              have H := HA.out
              clear HA
              simp only [laws_FnLittleRuns.l2] at H
              by_cases c55 : x10_2 < (t250.length : Int)
              · rw [if_pos c55] at H
                have c55b0 : decide (x10_2 < (t250.length : Int)) = true := decide_eq_true c55
                clear c55
                by_cases c56 : (t250.length : Int) = 0
                · rw [if_pos c56] at H
                  exact absurd H (by simp)
                · rw [if_neg c56] at H
                  have c56b0 : ((t250.length : Int) == 0) = false := beq_eq_false_iff_ne.mpr c56
                  have c56b1 : ((t250.length : Int) != 0) = true := bne_iff_ne.mpr c56
                  have c56b2 : ¬ (t250 = []) := fun h_ => c56 (by rw [h_]; rfl)
                  obtain ⟨ji57, hji57⟩ : ∃ j_ : Int, (Int.tmod (wrap64 ((wrap64 (x10_2 + (t250.length : Int))) - 1)) (t250.length : Int)) = j_ := ⟨_, rfl⟩
                  replace H : (if 0 ≤ (ji57) then (if (ji57) < (t250.length : Int) then (if 0 ≤ x10_2 then (if x10_2 < (t250.length : Int) then (if (rd t250 (ji57)) > (rd t250 x10_2) then (if 0 ≤ (Int.tmod (wrap64 (x10_2 + 1)) (t250.length : Int)) then (if (Int.tmod (wrap64 (x10_2 + 1)) (t250.length : Int)) < (t250.length : Int) then (if (rd t250 (Int.tmod (wrap64 (x10_2 + 1)) (t250.length : Int))) > (rd t250 x10_2) then (laws_FnLittleRuns.l2 k2 t250 (t250.length : Int) (wrap64 (x6_2 - 1)) (wrap64 (x10_2 + 1))) else (laws_FnLittleRuns.l2 k2 t250 (t250.length : Int) x6_2 (wrap64 (x10_2 + 1)))) else (none)) else (none)) else (laws_FnLittleRuns.l2 k2 t250 (t250.length : Int) x6_2 (wrap64 (x10_2 + 1)))) else (none)) else (none)) else (none)) else (none)) = some r := by first | (rw [hji57] at H; exact H) | (simp only [hji57] at H ⊢; exact H)
                  by_cases c58 : 0 ≤ (ji57)
                  · rw [if_pos c58] at H
                    have c58b0 : decide (0 ≤ (ji57)) = true := decide_eq_true c58
                    clear c58
                    by_cases c59 : (ji57) < (t250.length : Int)
                    · rw [if_pos c59] at H
                      have c59b0 : decide ((ji57) < (t250.length : Int)) = true := decide_eq_true c59
                      clear c59
                      by_cases c60 : 0 ≤ x10_2
                      · rw [if_pos c60] at H
                        have c60b0 : decide (0 ≤ x10_2) = true := decide_eq_true c60
                        clear c60
                        by_cases c61 : x10_2 < (t250.length : Int)
                        · rw [if_pos c61] at H
                          have c61b0 : decide (x10_2 < (t250.length : Int)) = true := decide_eq_true c61
                          clear c61
                          by_cases c62 : (rd t250 (ji57)) > (rd t250 x10_2)
                          · rw [if_pos c62] at H
                            have c62b0 : decide ((rd t250 x10_2) < (rd t250 (ji57))) = true := decide_eq_true c62
                            clear c62
                            obtain ⟨ji63, hji63⟩ : ∃ j_ : Int, (Int.tmod (wrap64 (x10_2 + 1)) (t250.length : Int)) = j_ := ⟨_, rfl⟩
                            replace H : (if 0 ≤ (ji63) then (if (ji63) < (t250.length : Int) then (if (rd t250 (ji63)) > (rd t250 x10_2) then (laws_FnLittleRuns.l2 k2 t250 (t250.length : Int) (wrap64 (x6_2 - 1)) (wrap64 (x10_2 + 1))) else (laws_FnLittleRuns.l2 k2 t250 (t250.length : Int) x6_2 (wrap64 (x10_2 + 1)))) else (none)) else (none)) = some r := by first | (rw [hji63] at H; exact H) | (simp only [hji63] at H ⊢; exact H)
                            by_cases c64 : 0 ≤ (ji63)
                            · rw [if_pos c64] at H
                              have c64b0 : decide (0 ≤ (ji63)) = true := decide_eq_true c64
                              clear c64
                              by_cases c65 : (ji63) < (t250.length : Int)
                              · rw [if_pos c65] at H
                                have c65b0 : decide ((ji63) < (t250.length : Int)) = true := decide_eq_true c65
                                clear c65
                                by_cases c66 : (rd t250 (ji63)) > (rd t250 x10_2)
                                · rw [if_pos c66] at H
                                  have c66b0 : decide ((rd t250 x10_2) < (rd t250 (ji63))) = true := decide_eq_true c66
                                  clear c66
                                  have H' := Aside0.mk H
                                  clear H
                                  have p262 : 0 ≤ ((ji57) : Int) := of_decide_eq_true (by first | (with_reducible assumption) | assumption)
                                  have q262 : (ji57) < (t250.length : Int) := of_decide_eq_true (by first | (with_reducible assumption) | assumption)
                                  obtain ⟨ad262, e262, hx262_0⟩ := Kd.at_int (Kd.R_reads' HO_3.out).2.2 (ji57) p262 q262
                                  cases e262
                                  replace p262 := eq_true p262
                                  replace q262 := eq_true q262
                                  have p263 : 0 ≤ (x10_2 : Int) := of_decide_eq_true (by first | (with_reducible assumption) | assumption)
                                  have q263 : x10_2 < (t250.length : Int) := of_decide_eq_true (by first | (with_reducible assumption) | assumption)
                                  obtain ⟨ad263, e263, hx263_0⟩ := Kd.at_int (Kd.R_reads' HO_3.out).2.2 x10_2 p263 q263
                                  obtain rfl : ad262 = ad263 := (by injection e263)
                                  replace p263 := eq_true p263
                                  replace q263 := eq_true q263
                                  have p264 : 0 ≤ ((ji63) : Int) := of_decide_eq_true (by first | (with_reducible assumption) | assumption)
                                  have q264 : (ji63) < (t250.length : Int) := of_decide_eq_true (by first | (with_reducible assumption) | assumption)
                                  obtain ⟨ad264, e264, hx264_0⟩ := Kd.at_int (Kd.R_reads' HO_3.out).2.2 (ji63) p264 q264
                                  obtain rfl : ad262 = ad264 := (by injection e264)
                                  replace p264 := eq_true p264
                                  replace q264 := eq_true q264
                                  have p265 : 0 ≤ (x10_2 : Int) := of_decide_eq_true (by first | (with_reducible assumption) | assumption)
                                  have q265 : x10_2 < (t250.length : Int) := of_decide_eq_true (by first | (with_reducible assumption) | assumption)
                                  obtain ⟨ad265, e265, hx265_0⟩ := Kd.at_int (Kd.R_reads' HO_3.out).2.2 x10_2 p265 q265
                                  obtain rfl : ad262 = ad265 := (by injection e265)
                                  replace p265 := eq_true p265
                                  replace q265 := eq_true q265
                                  go_wp2
                                  repeat (go_quiet (fail); try go_wp2)
                                  go_roundg k2
                                  case measure => have := HK1.out; have := HK2.out; omega
                                  case rel => exact ⟨(wrap64 (x6_2 - 1)), (wrap64 (x10_2 + 1)), (by first | rfl | (simp; done) | (simp [*]; done)), (by first | rfl | (simp; done) | (simp [*]; done)), H', ⟨by have := HK1.out; have := HK2.out; omega⟩, ⟨by (with_reducible repeat (first | apply Kd.R_alloc | apply Kd.R_drewN | apply Kd.R_drew)); exact HO_3.out⟩, ⟨by repeat (first | (with_reducible first | exact HB.out | apply below_alloc | apply pw_below_drewN | apply below_drew1) | exact HB.out)⟩⟩
                                · rw [if_neg c66] at H
                                  have c66b0 : decide ((rd t250 x10_2) < (rd t250 (ji63))) = false := decide_eq_false c66
                                  clear c66
                                  have H' := Aside0.mk H
                                  clear H
                                  have p262 : 0 ≤ ((ji57) : Int) := of_decide_eq_true (by first | (with_reducible assumption) | assumption)
                                  have q262 : (ji57) < (t250.length : Int) := of_decide_eq_true (by first | (with_reducible assumption) | assumption)
                                  obtain ⟨ad262, e262, hx262_0⟩ := Kd.at_int (Kd.R_reads' HO_3.out).2.2 (ji57) p262 q262
                                  cases e262
                                  replace p262 := eq_true p262
                                  replace q262 := eq_true q262
                                  have p263 : 0 ≤ (x10_2 : Int) := of_decide_eq_true (by first | (with_reducible assumption) | assumption)
                                  have q263 : x10_2 < (t250.length : Int) := of_decide_eq_true (by first | (with_reducible assumption) | assumption)
                                  obtain ⟨ad263, e263, hx263_0⟩ := Kd.at_int (Kd.R_reads' HO_3.out).2.2 x10_2 p263 q263
                                  obtain rfl : ad262 = ad263 := (by injection e263)
                                  replace p263 := eq_true p263
                                  replace q263 := eq_true q263
                                  have p264 : 0 ≤ ((ji63) : Int) := of_decide_eq_true (by first | (with_reducible assumption) | assumption)
                                  have q264 : (ji63) < (t250.length : Int) := of_decide_eq_true (by first | (with_reducible assumption) | assumption)
                                  obtain ⟨ad264, e264, hx264_0⟩ := Kd.at_int (Kd.R_reads' HO_3.out).2.2 (ji63) p264 q264
                                  obtain rfl : ad262 = ad264 := (by injection e264)
                                  replace p264 := eq_true p264
                                  replace q264 := eq_true q264
                                  have p265 : 0 ≤ (x10_2 : Int) := of_decide_eq_true (by first | (with_reducible assumption) | assumption)
                                  have q265 : x10_2 < (t250.length : Int) := of_decide_eq_true (by first | (with_reducible assumption) | assumption)
                                  obtain ⟨ad265, e265, hx265_0⟩ := Kd.at_int (Kd.R_reads' HO_3.out).2.2 x10_2 p265 q265
                                  obtain rfl : ad262 = ad265 := (by injection e265)
                                  replace p265 := eq_true p265
                                  replace q265 := eq_true q265
                                  go_wp2
                                  repeat (go_quiet (fail); try go_wp2)
                                  go_roundg k2
                                  case measure => have := HK1.out; have := HK2.out; omega
                                  case rel => exact ⟨(x6_2), (wrap64 (x10_2 + 1)), (by first | rfl | (simp; done) | (simp [*]; done)), (by first | rfl | (simp; done) | (simp [*]; done)), H', ⟨by have := HK1.out; have := HK2.out; omega⟩, ⟨by (with_reducible repeat (first | apply Kd.R_alloc | apply Kd.R_drewN | apply Kd.R_drew)); exact HO_3.out⟩, ⟨by repeat (first | (with_reducible first | exact HB.out | apply below_alloc | apply pw_below_drewN | apply below_drew1) | exact HB.out)⟩⟩
                              · rw [if_neg c65] at H
                                exact absurd H (by simp)
                            · rw [if_neg c64] at H
                              exact absurd H (by simp)
                          · rw [if_neg c62] at H
                            have c62b0 : decide ((rd t250 x10_2) < (rd t250 (ji57))) = false := decide_eq_false c62
                            clear c62
                            have H' := Aside0.mk H
                            clear H
                            have p262 : 0 ≤ ((ji57) : Int) := of_decide_eq_true (by first | (with_reducible assumption) | assumption)
                            have q262 : (ji57) < (t250.length : Int) := of_decide_eq_true (by first | (with_reducible assumption) | assumption)
                            obtain ⟨ad262, e262, hx262_0⟩ := Kd.at_int (Kd.R_reads' HO_3.out).2.2 (ji57) p262 q262
                            cases e262
                            replace p262 := eq_true p262
                            replace q262 := eq_true q262
                            have p263 : 0 ≤ (x10_2 : Int) := of_decide_eq_true (by first | (with_reducible assumption) | assumption)
                            have q263 : x10_2 < (t250.length : Int) := of_decide_eq_true (by first | (with_reducible assumption) | assumption)
                            obtain ⟨ad263, e263, hx263_0⟩ := Kd.at_int (Kd.R_reads' HO_3.out).2.2 x10_2 p263 q263
                            obtain rfl : ad262 = ad263 := (by injection e263)
                            replace p263 := eq_true p263
                            replace q263 := eq_true q263
                            go_wp2
                            repeat (go_quiet (fail); try go_wp2)
                            go_roundg k2
                            case measure => have := HK1.out; have := HK2.out; omega
                            case rel => exact ⟨(x6_2), (wrap64 (x10_2 + 1)), (by first | rfl | (simp; done) | (simp [*]; done)), (by first | rfl | (simp; done) | (simp [*]; done)), H', ⟨by have := HK1.out; have := HK2.out; omega⟩, ⟨by (with_reducible repeat (first | apply Kd.R_alloc | apply Kd.R_drewN | apply Kd.R_drew)); exact HO_3.out⟩, ⟨by repeat (first | (with_reducible first | exact HB.out | apply below_alloc | apply pw_below_drewN | apply below_drew1) | exact HB.out)⟩⟩
                        · rw [if_neg c61] at H
                          exact absurd H (by simp)
                      · rw [if_neg c60] at H
                        exact absurd H (by simp)
                    · rw [if_neg c59] at H
                      exact absurd H (by simp)
                  · rw [if_neg c58] at H
                    exact absurd H (by simp)
              · rw [if_neg c55] at H
                have c55b0 : decide (x10_2 < (t250.length : Int)) = false := decide_eq_false c55
                clear c55
                obtain rfl := Option.some.inj H
                go_wp2
                repeat (go_quiet (fail); try go_wp2)
                go_ret
                exact ⟨by first | rfl | (simp [errW_none, errW_some] <;> rfl) | (simp [*, errW_none, errW_some] <;> rfl), by repeat (first | (with_reducible first | exact HB.out | apply below_alloc | apply pw_below_drewN | apply below_drew1) | exact HB.out)⟩

/-- THE ONE PURE STATEMENT of laws_FnLittleRuns: yours. -/
def laws_FnLittleRuns.Pure : Prop := ∀ (l0 : List Int), l0.length ≤ maxLen → l0.length * 1 ≤ 140737488351232 → (∀ x ∈ l0, (Lit.int .u8 x).wf = true) → ∃ k, laws_FnLittleRuns.f k l0 = some true
theorem laws_FnLittleRuns.walk (P : laws_FnLittleRuns.Pure) (a0 : Option Addr) (len0 cap0 : Nat) (z0 : List Int) (w : World) (w0 : (a0 = none ∧ len0 = 0 ∧ cap0 = 0 ∧ z0 = []) ∨ ∃ x, a0 = some x ∧ len0 ≤ cap0 ∧ cap0 ≤ maxLen ∧ z0.length = cap0 ∧ (∀ i, i < z0.length → w.cell? (x.add i) = some (.int .u8 (z0.getD i 0))) ∧ ∀ n ∈ z0, (Lit.int .u8 n).wf = true) (y0 : len0 * 1 ≤ 140737488351232) :
    Calls Try.prog 4 #[.slice a0 len0 cap0] w fun e w' => e = .returned (.bool true) ∧ Below w.heap.size w w' := by
  obtain ⟨l0, rfl, hr0, hm0, hw0, hc0⟩ := ReadsInt.ofRowC w0
  obtain ⟨k, h⟩ := P l0 hm0 y0 hw0
  refine (laws_FnLittleRuns.calls k _ _ l0 true w (Kd.C_of_reads (d := (0 : Int)) (h1 := fun _ => rfl) hr0) hc0 h).mono ?_
  rintro e w' ⟨rfl, hd⟩
  exact ⟨rfl, hd⟩

end Go.Proofs.Ytjldcnibdddioaa.PFnLittleRuns
