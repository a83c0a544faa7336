-- Printed for this claim by this session's program pp.py, which drives the kit's print with additions. Not trusted: Lean checks it.
import Derived.Test.YtbpkbllokmplnaaV1PFnExactAssignmentsOfx0
import Derived.Test.YtbpkbllokmplnaaV1PFnExactAssignmentsOfx4
namespace Go.Proofs.Ytbpkbllokmplnaa.PFnExactAssignmentsOf
open Go.RowKit Go.Proofs.YtbpkbllokmplnaaW.PrintWords Go.Proofs.YtbpkbllokmplnaaW.PrintLast Go.Proofs.YtbpkbllokmplnaaW.PrintMore
attribute [local go_sem] max2_int min2_int max_two min_two znE zuB max_four min_four   -- for this text's walks alone
set_option linter.unusedVariables false
set_option linter.unusedSimpArgs false

def ziL.j0 : Nat → List Int → Bool → Option (Bool)
 | 0, _, _ => none
 | k + 1, x0, x12 => if x12 = true then (some false) else ((zqM.f x0).bind fun t220 => (if t220 = true then (some false) else ((zcG.f k x0).bind fun t221 => (if t221 ≤ 16 then ((zaW.f k x0).bind fun t222 => (some (t222 == 0))) else (some false)))))
def ziL.f (k : Nat) (l0 : List Int) : Option (Bool) := (zfN.f l0).bind fun t218 => ((zrP.f t218 2 16).bind fun t219 => (if t219 = true then (ziL.j0 k l0 (((l0.length : Int) % 2) == 1)) else (ziL.j0 k l0 true)))
theorem ziL.mono_l : ∀ k, (∀ y0 y1, LeO (ziL.j0 k y0 y1) (ziL.j0 (k + 1) y0 y1))
 | 0 => fun _ _ r h => by simp [ziL.j0] at h
 | k + 1 => by
  have ih0 := ziL.mono_l k
  ·intro y0 y1
   unfold ziL.j0
   repeat' first
   | (with_reducible exact ih0 _ _)
   | (with_reducible exact zaW.mono _ _)
   | (with_reducible exact zcG.mono _ _)
   | (with_reducible exact LeO.refl _)
   | (with_reducible exact LeO.none _)
   | (with_reducible refine LeO.ite ?_ ?_)
   | (with_reducible refine LeO.bind ?_ (fun _ => ?_))
   | exact ih0 _ _
   | exact zaW.mono _ _
   | exact zcG.mono _ _
   | exact LeO.none _
   | refine LeO.ite ?_ ?_
   | refine LeO.bind ?_ (fun _ => ?_)
theorem ziL.mono : ∀ a0 k, LeO (ziL.f k a0) (ziL.f (k + 1) a0) := by
 intro a0 k
 have ih0 := ziL.mono_l k
 unfold ziL.f
 repeat' first
   | (with_reducible exact ih0 _ _)
   | (with_reducible exact zaW.mono _ _)
   | (with_reducible exact zcG.mono _ _)
   | (with_reducible exact LeO.refl _)
   | (with_reducible exact LeO.none _)
   | (with_reducible refine LeO.ite ?_ ?_)
   | (with_reducible refine LeO.bind ?_ (fun _ => ?_))
   | exact ih0 _ _
   | exact zaW.mono _ _
   | exact zcG.mono _ _
   | exact LeO.none _
   | refine LeO.ite ?_ ?_
   | refine LeO.bind ?_ (fun _ => ?_)
set_option maxHeartbeats 8000000 in
set_option maxRecDepth 100000 in
theorem ziL.calls (k : Nat) (A0 : Option Addr) (c0 : Nat) (l0 : List Int) (r : Bool) (w : World) (hr0 : Kd.C (Kd.int .i64) w A0 l0.length l0) (hc0 : l0.length ≤ c0) (h : ziL.f k l0 = some r) :
  Calls Try.prog 26 #[.slice A0 l0.length c0] w fun e w' => e = .returned (.bool r) ∧ Drawn0 w w' := by
 have HR0 := zpS hr0
 have HC0 := zpS hc0
 clear hr0 hc0
 have H : ((zfN.f l0).bind fun t218 => ((zrP.f t218 2 16).bind fun t219 => (if t219 = true then (ziL.j0 k l0 (((l0.length : Int) % 2) == 1)) else (ziL.j0 k l0 true)))) = some r := h
 clear h
 have HC2 := zpS H
 clear H
 go_enter Try.func26, Try.ntmps26
 go_upto_region 1 with (fail)
 go_cut [12] (fun v12 wc => ∃ (kq : Nat) (x12_1 : Bool), v12 = .bool x12_1 ∧ Aside0 (ziL.j0 kq l0 x12_1 = some r) ∧ Aside0 (kq ≤ k) ∧ Drawn0 w wc)
 case first =>
  have H := HC2.out
  clear HC2
  replace H := Option.bind_eq_some_iff.mp H
  obtain ⟨t218, A30, H⟩ := H
  replace H : ((zrP.f t218 2 16).bind fun t219 => (if t219 = true then (ziL.j0 k l0 (((l0.length : Int) % 2) == 1)) else (ziL.j0 k l0 true))) = some r := H
  have A3 := zpS A30
  clear A30
  replace H := Option.bind_eq_some_iff.mp H
  obtain ⟨t219, A40, H⟩ := H
  replace H : (if t219 = true then (ziL.j0 k l0 (((l0.length : Int) % 2) == 1)) else (ziL.j0 k l0 true)) = some r := H
  have A4 := zpS A40
  clear A40
  by_cases c5 : t219 = true
  ·subst c5
   have H1 : (ziL.j0 k l0 (((l0.length : Int) % 2) == 1)) = some r := by rw [if_pos rfl] at H; exact H
   clear H
   have H := H1
   clear H1
   have H' := zpS H
   clear H
   go_wp2_with (first | ((with_reducible refine zgM (f := 61) rfl ?_); refine zqQ (some 4) rfl rfl Try.func61 (by kernel_rfl) rfl #[.slice A0 l0.length c0] rfl (by (try simp only [List.map_toArray, List.map_cons, List.map_nil]); first | done | rfl | (simp only [List.length_drop, List.length_take]; rfl)) ?_; (with_reducible refine (zfN.calls _ _ l0 t218 _ ?side1 ?side2 A3.out).mono ?_); (case side1 => repeat (first | exact HR0.out | (with_reducible refine Kd.C_alloc ?_ _) | (with_reducible refine Kd.C_drewN ?_ _) | (with_reducible refine Kd.C_drew ?_))); (case side2 => exact HC0.out); rintro e w' ⟨rfl, ⟨nd, rfl⟩⟩; refine ⟨_, rfl, ?_⟩) | ((with_reducible refine zgM (f := 60) rfl ?_); refine zqQ (some 5) rfl rfl Try.func60 (by kernel_rfl) rfl #[.int .i64 t218, .int .i64 2, .int .i64 16] rfl (by (try simp only [List.map_toArray, List.map_cons, List.map_nil]); first | done | rfl | (simp only [List.length_drop, List.length_take]; rfl)) ?_; (with_reducible refine (zrP.calls t218 2 16 true _ A4.out).mono ?_); rintro e w' ⟨rfl, ⟨nd, rfl⟩⟩; refine ⟨_, rfl, ?_⟩))
   go_meet
   case rel => exact ⟨_, ((((l0.length : Int) % 2) == 1)), (by first | rfl | (simp; done) | (simp [*]; done)), H', ⟨by first | omega | exact Nat.le_refl _⟩, by repeat (first | exact Drawn0.refl _ | apply Drawn0.step)⟩
  ·replace c5 := Bool.eq_false_iff.mpr c5
   subst c5
   have H1 : (ziL.j0 k l0 true) = some r := by rw [if_neg (show ¬ (false = true) by decide)] at H; exact H
   clear H
   have H := H1
   clear H1
   have H' := zpS H
   clear H
   go_wp2_with (first | ((with_reducible refine zgM (f := 61) rfl ?_); refine zqQ (some 4) rfl rfl Try.func61 (by kernel_rfl) rfl #[.slice A0 l0.length c0] rfl (by (try simp only [List.map_toArray, List.map_cons, List.map_nil]); first | done | rfl | (simp only [List.length_drop, List.length_take]; rfl)) ?_; (with_reducible refine (zfN.calls _ _ l0 t218 _ ?side1 ?side2 A3.out).mono ?_); (case side1 => repeat (first | exact HR0.out | (with_reducible refine Kd.C_alloc ?_ _) | (with_reducible refine Kd.C_drewN ?_ _) | (with_reducible refine Kd.C_drew ?_))); (case side2 => exact HC0.out); rintro e w' ⟨rfl, ⟨nd, rfl⟩⟩; refine ⟨_, rfl, ?_⟩) | ((with_reducible refine zgM (f := 60) rfl ?_); refine zqQ (some 5) rfl rfl Try.func60 (by kernel_rfl) rfl #[.int .i64 t218, .int .i64 2, .int .i64 16] rfl (by (try simp only [List.map_toArray, List.map_cons, List.map_nil]); first | done | rfl | (simp only [List.length_drop, List.length_take]; rfl)) ?_; (with_reducible refine (zrP.calls t218 2 16 false _ A4.out).mono ?_); rintro e w' ⟨rfl, ⟨nd, rfl⟩⟩; refine ⟨_, rfl, ?_⟩))
   go_meet
   case rel => exact ⟨_, (true), (by first | rfl | (simp; done) | (simp [*]; done)), H', ⟨by first | omega | exact Nat.le_refl _⟩, by repeat (first | exact Drawn0.refl _ | apply Drawn0.step)⟩
 case rest =>
  clear HC2
  try clear c2
  try clear p2
  try clear c5
  obtain ⟨kq, x12_1, rfl, HA, HJ1, ⟨mc1, rfl⟩⟩ := hcut
  cases kq with
  | zero => exact absurd HA.out (by simp [ziL.j0])
  | succ kj1 =>
   have H := HA.out
   clear HA
   simp only [ziL.j0] at H
   by_cases c6 : x12_1 = true
   ·subst c6
    have H1 : (some false) = some r := by rw [if_pos rfl] at H; exact H
    clear H
    have H := H1
    clear H1
    obtain rfl := Option.some.inj H
    go_wp2
    go_ret
    exact ⟨by first | rfl | (simp; done) | (simp [*]; done), by repeat (first | exact Drawn0.refl _ | apply Drawn0.step)⟩
   ·replace c6 := Bool.eq_false_iff.mpr c6
    subst c6
    have H1 : ((zqM.f l0).bind fun t220 => (if t220 = true then (some false) else ((zcG.f kj1 l0).bind fun t221 => (if t221 ≤ 16 then ((zaW.f kj1 l0).bind fun t222 => (some (t222 == 0))) else (some false))))) = some r := by rw [if_neg (show ¬ (false = true) by decide)] at H; exact H
    clear H
    have H := H1
    clear H1
    replace H := Option.bind_eq_some_iff.mp H
    obtain ⟨t220, A70, H⟩ := H
    replace H : (if t220 = true then (some false) else ((zcG.f kj1 l0).bind fun t221 => (if t221 ≤ 16 then ((zaW.f kj1 l0).bind fun t222 => (some (t222 == 0))) else (some false)))) = some r := H
    have A7 := zpS A70
    clear A70
    by_cases c8 : t220 = true
    ·subst c8
     have H1 : (some false) = some r := by rw [if_pos rfl] at H; exact H
     clear H
     have H := H1
     clear H1
     obtain rfl := Option.some.inj H
     go_wp2_with (first | ((with_reducible refine zgM (f := 62) rfl ?_); refine zqQ (some 14) rfl rfl Try.func62 (by kernel_rfl) rfl #[.slice A0 l0.length c0, .func (.func 63) #[] #[]] rfl (by (try simp only [List.map_toArray, List.map_cons, List.map_nil]); first | done | rfl | (simp only [List.length_drop, List.length_take]; rfl)) ?_; (with_reducible refine (zqM.calls _ _ l0  true _ ?side1 ?side2 A7.out).mono ?_); (case side1 => repeat (first | exact HR0.out | (with_reducible refine Kd.C_alloc ?_ _) | (with_reducible refine Kd.C_drewN ?_ _) | (with_reducible refine Kd.C_drew ?_))); (case side2 => exact HC0.out); rintro e w' ⟨rfl, ⟨nd, rfl⟩⟩; refine ⟨_, rfl, ?_⟩))
     go_ret
     exact ⟨by first | rfl | (simp; done) | (simp [*]; done), by repeat (first | exact Drawn0.refl _ | apply Drawn0.step)⟩
    ·replace c8 := Bool.eq_false_iff.mpr c8
     subst c8
     have H1 : ((zcG.f kj1 l0).bind fun t221 => (if t221 ≤ 16 then ((zaW.f kj1 l0).bind fun t222 => (some (t222 == 0))) else (some false))) = some r := by rw [if_neg (show ¬ (false = true) by decide)] at H; exact H
     clear H
     have H := H1
     clear H1
     replace H := Option.bind_eq_some_iff.mp H
     obtain ⟨t221, A90, H⟩ := H
     replace H : (if t221 ≤ 16 then ((zaW.f kj1 l0).bind fun t222 => (some (t222 == 0))) else (some false)) = some r := H
     have A9 := zpS A90
     clear A90
     by_cases c10 : t221 ≤ 16
     ·rw [if_pos c10] at H
      have c10b0 : decide (t221 ≤ 16) = true := decide_eq_true c10
      clear c10
      replace H := Option.bind_eq_some_iff.mp H
      obtain ⟨t222, A110, H⟩ := H
      replace H : (some (t222 == 0)) = some r := H
      have A11 := zpS A110
      clear A110
      obtain rfl := Option.some.inj H
      go_wp2_with (first | ((with_reducible refine zgM (f := 62) rfl ?_); refine zqQ (some 14) rfl rfl Try.func62 (by kernel_rfl) rfl #[.slice A0 l0.length c0, .func (.func 63) #[] #[]] rfl (by (try simp only [List.map_toArray, List.map_cons, List.map_nil]); first | done | rfl | (simp only [List.length_drop, List.length_take]; rfl)) ?_; (with_reducible refine (zqM.calls _ _ l0  false _ ?side1 ?side2 A7.out).mono ?_); (case side1 => repeat (first | exact HR0.out | (with_reducible refine Kd.C_alloc ?_ _) | (with_reducible refine Kd.C_drewN ?_ _) | (with_reducible refine Kd.C_drew ?_))); (case side2 => exact HC0.out); rintro e w' ⟨rfl, ⟨nd, rfl⟩⟩; refine ⟨_, rfl, ?_⟩) | (go_at_call 64; (with_reducible refine (zcG.calls kj1 _ _ l0 t221 _ ?side1 ?side2 A9.out).mono ?_); (case side1 => repeat (first | exact HR0.out | (with_reducible refine Kd.C_alloc ?_ _) | (with_reducible refine Kd.C_drewN ?_ _) | (with_reducible refine Kd.C_drew ?_))); (case side2 => exact HC0.out); rintro e w' ⟨rfl, ⟨nd, rfl⟩⟩) | (go_at_call 65; (with_reducible refine (zaW.calls kj1 _ _ l0 t222 _ ?side1 ?side2 A11.out).mono ?_); (case side1 => repeat (first | exact HR0.out | (with_reducible refine Kd.C_alloc ?_ _) | (with_reducible refine Kd.C_drewN ?_ _) | (with_reducible refine Kd.C_drew ?_))); (case side2 => exact HC0.out); rintro e w' ⟨rfl, ⟨nd, rfl⟩⟩))
      go_ret
      exact ⟨by first | rfl | (simp; done) | (simp [*]; done), by repeat (first | exact Drawn0.refl _ | apply Drawn0.step)⟩
     ·rw [if_neg c10] at H
      have c10b0 : decide (t221 ≤ 16) = false := decide_eq_false c10
      clear c10
      obtain rfl := Option.some.inj H
      go_wp2_with (first | ((with_reducible refine zgM (f := 62) rfl ?_); refine zqQ (some 14) rfl rfl Try.func62 (by kernel_rfl) rfl #[.slice A0 l0.length c0, .func (.func 63) #[] #[]] rfl (by (try simp only [List.map_toArray, List.map_cons, List.map_nil]); first | done | rfl | (simp only [List.length_drop, List.length_take]; rfl)) ?_; (with_reducible refine (zqM.calls _ _ l0  false _ ?side1 ?side2 A7.out).mono ?_); (case side1 => repeat (first | exact HR0.out | (with_reducible refine Kd.C_alloc ?_ _) | (with_reducible refine Kd.C_drewN ?_ _) | (with_reducible refine Kd.C_drew ?_))); (case side2 => exact HC0.out); rintro e w' ⟨rfl, ⟨nd, rfl⟩⟩; refine ⟨_, rfl, ?_⟩) | (go_at_call 64; (with_reducible refine (zcG.calls kj1 _ _ l0 t221 _ ?side1 ?side2 A9.out).mono ?_); (case side1 => repeat (first | exact HR0.out | (with_reducible refine Kd.C_alloc ?_ _) | (with_reducible refine Kd.C_drewN ?_ _) | (with_reducible refine Kd.C_drew ?_))); (case side2 => exact HC0.out); rintro e w' ⟨rfl, ⟨nd, rfl⟩⟩))
      go_ret
      exact ⟨by first | rfl | (simp; done) | (simp [*]; done), by repeat (first | exact Drawn0.refl _ | apply Drawn0.step)⟩

mutual
def zpB.l0 : Nat → List Int → Int → List (S87) → List Int → Int → Int → Option ((List (S87)))
 | 0, _, _, _, _, _, _ => none
 | k + 1, x0, x3, x4, x10, x11, x12 => if x12 < x11 then (if 0 ≤ x12 then (if x12 < (x10.length : Int) then (if x3 = 0 then (none) else (if 0 ≤ (Int.tmod (wrap64 ((wrap64 (x12 + x3)) - 1)) x3) then (if (Int.tmod (wrap64 ((wrap64 (x12 + x3)) - 1)) x3) < (x0.length : Int) then (if (rd x0 (Int.tmod (wrap64 ((wrap64 (x12 + x3)) - 1)) x3)) ≤ (rd x10 x12) then (zpB.l0 k x0 x3 x4 x10 x11 (wrap64 (x12 + 1))) else (zpB.l1 k x0 x3 x4 x12 (rd x10 x12) 1 x10 x11 x12)) else (none)) else (none))) else (none)) else (none)) else (some x4)
def zpB.l1 : Nat → List Int → Int → List (S87) → Int → Int → Int → List Int → Int → Int → Option ((List (S87)))
 | 0, _, _, _, _, _, _, _, _, _ => none
 | k + 1, x0, x3, x4, x5, x6, x7, x10, x11, x12 => if x7 < x3 then (if x3 = 0 then (none) else (if 0 ≤ (Int.tmod (wrap64 (x5 + x7)) x3) then (if (Int.tmod (wrap64 (x5 + x7)) x3) < (x0.length : Int) then (if (rd x0 (Int.tmod (wrap64 (x5 + x7)) x3)) = x6 then (zpB.l1 k x0 x3 x4 x5 x6 (wrap64 (x7 + 1)) x10 x11 x12) else (if (rd x0 (Int.tmod (wrap64 (x5 + x7)) x3)) > x6 then (if x4.length < 5864062014805 then (zpB.l0 k x0 x3 (x4 ++ [(⟨x5, x7, x6⟩ : S87)]) x10 x11 (wrap64 (x12 + 1))) else (none)) else (zpB.l0 k x0 x3 x4 x10 x11 (wrap64 (x12 + 1))))) else (none)) else (none))) else (if x3 = 0 then (none) else (if 0 ≤ (Int.tmod (wrap64 (x5 + x7)) x3) then (if (Int.tmod (wrap64 (x5 + x7)) x3) < (x0.length : Int) then (if (rd x0 (Int.tmod (wrap64 (x5 + x7)) x3)) > x6 then (if x4.length < 5864062014805 then (zpB.l0 k x0 x3 (x4 ++ [(⟨x5, x7, x6⟩ : S87)]) x10 x11 (wrap64 (x12 + 1))) else (none)) else (zpB.l0 k x0 x3 x4 x10 x11 (wrap64 (x12 + 1)))) else (none)) else (none)))
end
def zpB.f (k : Nat) (l0 : List Int) : Option ((List (S87))) := zpB.l0 k l0 (l0.length : Int) ([] : List (S87)) l0 (l0.length : Int) 0
theorem zpB.mono_l : ∀ k, (∀ y0 y1 y2 y3 y4 y5, LeO (zpB.l0 k y0 y1 y2 y3 y4 y5) (zpB.l0 (k + 1) y0 y1 y2 y3 y4 y5)) ∧ (∀ y0 y1 y2 y3 y4 y5 y6 y7 y8, LeO (zpB.l1 k y0 y1 y2 y3 y4 y5 y6 y7 y8) (zpB.l1 (k + 1) y0 y1 y2 y3 y4 y5 y6 y7 y8))
 | 0 => ⟨fun _ _ _ _ _ _ r h => by simp [zpB.l0] at h, fun _ _ _ _ _ _ _ _ _ r h => by simp [zpB.l1] at h⟩
 | k + 1 => by
  obtain ⟨ih0, ih1⟩ := zpB.mono_l k
  refine ⟨?_, ?_⟩
  ·intro y0 y1 y2 y3 y4 y5
   unfold zpB.l0
   repeat' first
   | (with_reducible exact ih0 _ _ _ _ _ _)
   | (with_reducible exact ih1 _ _ _ _ _ _ _ _ _)
   | (with_reducible exact LeO.refl _)
   | (with_reducible exact LeO.none _)
   | (with_reducible refine LeO.ite ?_ ?_)
   | (with_reducible refine LeO.bind ?_ (fun _ => ?_))
   | exact ih0 _ _ _ _ _ _
   | exact ih1 _ _ _ _ _ _ _ _ _
   | exact LeO.none _
   | refine LeO.ite ?_ ?_
   | refine LeO.bind ?_ (fun _ => ?_)
  ·intro y0 y1 y2 y3 y4 y5 y6 y7 y8
   unfold zpB.l1
   repeat' first
   | (with_reducible exact ih0 _ _ _ _ _ _)
   | (with_reducible exact ih1 _ _ _ _ _ _ _ _ _)
   | (with_reducible exact LeO.refl _)
   | (with_reducible exact LeO.none _)
   | (with_reducible refine LeO.ite ?_ ?_)
   | (with_reducible refine LeO.bind ?_ (fun _ => ?_))
   | exact ih0 _ _ _ _ _ _
   | exact ih1 _ _ _ _ _ _ _ _ _
   | exact LeO.none _
   | refine LeO.ite ?_ ?_
   | refine LeO.bind ?_ (fun _ => ?_)
theorem zpB.mono : ∀ a0 k, LeO (zpB.f k a0) (zpB.f (k + 1) a0) := by
 intro a0 k
 obtain ⟨ih0, ih1⟩ := zpB.mono_l k
 unfold zpB.f
 repeat' first
   | (with_reducible exact ih0 _ _ _ _ _ _)
   | (with_reducible exact ih1 _ _ _ _ _ _ _ _ _)
   | (with_reducible exact LeO.refl _)
   | (with_reducible exact LeO.none _)
   | (with_reducible refine LeO.ite ?_ ?_)
   | (with_reducible refine LeO.bind ?_ (fun _ => ?_))
   | exact ih0 _ _ _ _ _ _
   | exact ih1 _ _ _ _ _ _ _ _ _
   | exact LeO.none _
   | refine LeO.ite ?_ ?_
   | refine LeO.bind ?_ (fun _ => ?_)
set_option maxHeartbeats 8000000 in
set_option maxRecDepth 100000 in
theorem zpB.calls (k : Nat) (A0 : Option Addr) (c0 : Nat) (l0 : List Int) (r : List (S87)) (w : World) (hr0 : Kd.C (Kd.int .i64) w A0 l0.length l0) (hc0 : l0.length ≤ c0) (h : zpB.f k l0 = some r) :
  Calls Try.prog 92 #[.slice A0 l0.length c0] w fun e w' => ∃ v0_ : Value, e = .returned (v0_) ∧ Kd.R k87 87 w' w.heap.size (fun _ => True) v0_ r ∧ Below w.heap.size w w' := by
 have hu87 := Try.underlying87
 have HR0 := zpS hr0
 have HC0 := zpS hc0
 clear hr0 hc0
 have HB := zpS (Below.refl w.heap.size w)
 have H : (zpB.l0 k l0 (l0.length : Int) ([] : List (S87)) l0 (l0.length : Int) 0) = some r := h
 clear h
 have H' := zpS H
 clear H
 go_enter Try.func92, Try.ntmps92
 go_wp2
 (try go_simp)
 go_loopg [4, 12] k (fun kq v4 v12 w' => ∃ (x4_1 : List (S87)) (x12_1 : Int), v12 = .int .i64 x12_1 ∧ Aside0 (zpB.l0 kq l0 (l0.length : Int) x4_1 l0 (l0.length : Int) x12_1 = some r) ∧ Aside0 (kq ≤ k) ∧ Aside0 (Kd.R k87 87 w' w.heap.size (fun _ => True) v4 x4_1) ∧ Aside0 (Below w.heap.size w w'))
 case atStart => exact ⟨(([] : List (S87))), (0), (by first | rfl | (simp; done) | (simp [*]; done)), H', ⟨Nat.le_refl _⟩, ⟨by first | exact Kd.R_nil _ _ _ _ _ | exact Kd.N_nil _ _ _ _ _ | exact Kd.V_nil _ _ _ _ _ | exact Kd.Q_nil _ _ _ _ _ | exact Kd.S_nil _ _ _ _ _⟩, ⟨bb_⟩⟩
 case round =>
  clear H'
  obtain ⟨x4_1, x12_1, rfl, HA, HK1, HO_4, HB⟩ := hrel
  cases gk with
  | zero => exact absurd HA.out (by simp [zpB.l0])
  | succ k1 =>
   have H := HA.out
   clear HA
   simp only [zpB.l0] at H
   by_cases c2 : x12_1 < (l0.length : Int)
   ·rw [if_pos c2] at H
    have c2b0 : decide (x12_1 < (l0.length : Int)) = true := decide_eq_true c2
    clear c2
    by_cases c3 : 0 ≤ x12_1
    ·rw [if_pos c3] at H
     have c3b0 : decide (0 ≤ x12_1) = true := decide_eq_true c3
     clear c3
     by_cases c4 : x12_1 < (l0.length : Int)
     ·rw [if_pos c4] at H
      have c4b0 : decide (x12_1 < (l0.length : Int)) = true := decide_eq_true c4
      clear c4
      by_cases c5 : (l0.length : Int) = 0
      ·rw [if_pos c5] at H
       exact absurd H (by simp)
      ·rw [if_neg c5] at H
       have c5b0 : ((l0.length : Int) == 0) = false := beq_eq_false_iff_ne.mpr c5
       have c5b1 : ((l0.length : Int) != 0) = true := bne_iff_ne.mpr c5
       have c5b2 : ¬ (l0 = []) := fun h_ => c5 (by rw [h_]; rfl)
       obtain ⟨ji6, hji6⟩ : ∃ j_ : Int, (Int.tmod (wrap64 ((wrap64 (x12_1 + (l0.length : Int))) - 1)) (l0.length : Int)) = j_ := ⟨_, rfl⟩
       replace H : (if 0 ≤ (ji6) then (if (ji6) < (l0.length : Int) then (if (rd l0 (ji6)) ≤ (rd l0 x12_1) then (zpB.l0 k1 l0 (l0.length : Int) x4_1 l0 (l0.length : Int) (wrap64 (x12_1 + 1))) else (zpB.l1 k1 l0 (l0.length : Int) x4_1 x12_1 (rd l0 x12_1) 1 l0 (l0.length : Int) x12_1)) else (none)) else (none)) = some r := by first | (rw [hji6] at H; exact H) | (simp only [hji6] at H ⊢; exact H)
       by_cases c7 : 0 ≤ (ji6)
       ·rw [if_pos c7] at H
        have c7b0 : decide (0 ≤ (ji6)) = true := decide_eq_true c7
        clear c7
        by_cases c8 : (ji6) < (l0.length : Int)
        ·rw [if_pos c8] at H
         have c8b0 : decide ((ji6) < (l0.length : Int)) = true := decide_eq_true c8
         clear c8
         by_cases c9 : (rd l0 (ji6)) ≤ (rd l0 x12_1)
         ·rw [if_pos c9] at H
          have c9b0 : decide ((rd l0 (ji6)) ≤ (rd l0 x12_1)) = true := decide_eq_true c9
          clear c9
          have H' := zpS H
          clear H
          have p223 : 0 ≤ (x12_1 : Int) := of_decide_eq_true (by first | (with_reducible assumption) | assumption)
          have q223 : x12_1 < (l0.length : Int) := of_decide_eq_true (by first | (with_reducible assumption) | assumption)
          obtain ⟨ad223, e223, hx223_0⟩ := Kd.at_int HR0.out x12_1 p223 q223
          cases e223
          replace hx223_0 := cel_ HB.out hx223_0
          replace p223 := eq_true p223
          replace q223 := eq_true q223
          have p224 : 0 ≤ ((ji6) : Int) := of_decide_eq_true (by first | (with_reducible assumption) | assumption)
          have q224 : (ji6) < (l0.length : Int) := of_decide_eq_true (by first | (with_reducible assumption) | assumption)
          obtain ⟨ad224, e224, hx224_0⟩ := Kd.at_int HR0.out (ji6) p224 q224
          obtain rfl : ad223 = ad224 := (by injection e224)
          replace hx224_0 := cel_ HB.out hx224_0
          replace p224 := eq_true p224
          replace q224 := eq_true q224
          go_wp2
          go_roundg k1
          case measure => have := HK1.out; omega
          case rel => exact ⟨(x4_1), (wrap64 (x12_1 + 1)), (by first | rfl | (simp; done) | (simp [*]; done)), H', ⟨by have := HK1.out; omega⟩, ⟨by (with_reducible repeat (first | apply Kd.R_alloc | apply Kd.R_drewN | apply Kd.R_drew)); exact HO_4.out⟩, ⟨bb_⟩⟩
         ·rw [if_neg c9] at H
          have c9b0 : decide ((rd l0 (ji6)) ≤ (rd l0 x12_1)) = false := decide_eq_false c9
          clear c9
          have H' := zpS H
          clear H
          have p223 : 0 ≤ (x12_1 : Int) := of_decide_eq_true (by first | (with_reducible assumption) | assumption)
          have q223 : x12_1 < (l0.length : Int) := of_decide_eq_true (by first | (with_reducible assumption) | assumption)
          obtain ⟨ad223, e223, hx223_0⟩ := Kd.at_int HR0.out x12_1 p223 q223
          cases e223
          replace hx223_0 := cel_ HB.out hx223_0
          replace p223 := eq_true p223
          replace q223 := eq_true q223
          have p224 : 0 ≤ ((ji6) : Int) := of_decide_eq_true (by first | (with_reducible assumption) | assumption)
          have q224 : (ji6) < (l0.length : Int) := of_decide_eq_true (by first | (with_reducible assumption) | assumption)
          obtain ⟨ad224, e224, hx224_0⟩ := Kd.at_int HR0.out (ji6) p224 q224
          obtain rfl : ad223 = ad224 := (by injection e224)
          replace hx224_0 := cel_ HB.out hx224_0
          replace p224 := eq_true p224
          replace q224 := eq_true q224
          go_wp2
          (try go_simp)
          go_loopg [7] k1 (fun kq v7 w' => ∃ (x7_2 : Int), v7 = .int .i64 x7_2 ∧ Aside0 (zpB.l1 kq l0 (l0.length : Int) x4_1 x12_1 (rd l0 x12_1) x7_2 l0 (l0.length : Int) x12_1 = some r) ∧ Aside0 (kq ≤ k1) ∧ Aside0 (Kd.R k87 87 w' w.heap.size (fun _ => True) u4 x4_1) ∧ Aside0 (Below w.heap.size w w'))
          case atStart => exact ⟨(1), (by first | rfl | (simp; done) | (simp [*]; done)), H', ⟨Nat.le_refl _⟩, ⟨by (with_reducible repeat (first | apply Kd.R_alloc | apply Kd.R_drewN | apply Kd.R_drew)); exact HO_4.out⟩, ⟨bb_⟩⟩
          case round =>
           clear H'
           try clear c2
           try clear c2b0
           try clear p2
           try clear q2
           try clear hx2
           try clear c3
           try clear c3b0
           try clear c4
           try clear c4b0
           try clear c5
           try clear c5b0
           try clear c5b1
           try clear c5b2
           try clear p6
           try clear c7
           try clear c7b0
           try clear c8
           try clear c8b0
           try clear c9
           try clear c9b0
           try clear hx223_0
           try clear hx224_0
           try clear p223
           try clear p224
           try clear q223
           try clear q224
           obtain ⟨x7_2, rfl, HA, HK2, HO_4, HB⟩ := hrel
           cases gk with
           | zero => exact absurd HA.out (by simp [zpB.l1])
           | succ k2 =>
            have H := HA.out
            clear HA
            simp only [zpB.l1] at H
            by_cases c10 : x7_2 < (l0.length : Int)
            ·rw [if_pos c10] at H
             have c10b0 : decide (x7_2 < (l0.length : Int)) = true := decide_eq_true c10
             clear c10
             by_cases c11 : (l0.length : Int) = 0
             ·rw [if_pos c11] at H
              exact absurd H (by simp)
             ·rw [if_neg c11] at H
              have c11b0 : ((l0.length : Int) == 0) = false := beq_eq_false_iff_ne.mpr c11
              have c11b1 : ((l0.length : Int) != 0) = true := bne_iff_ne.mpr c11
              have c11b2 : ¬ (l0 = []) := fun h_ => c11 (by rw [h_]; rfl)
              obtain ⟨ji12, hji12⟩ : ∃ j_ : Int, (Int.tmod (wrap64 (x12_1 + x7_2)) (l0.length : Int)) = j_ := ⟨_, rfl⟩
              replace H : (if 0 ≤ (ji12) then (if (ji12) < (l0.length : Int) then (if (rd l0 (ji12)) = (rd l0 x12_1) then (zpB.l1 k2 l0 (l0.length : Int) x4_1 x12_1 (rd l0 x12_1) (wrap64 (x7_2 + 1)) l0 (l0.length : Int) x12_1) else (if (rd l0 (ji12)) > (rd l0 x12_1) then (if x4_1.length < 5864062014805 then (zpB.l0 k2 l0 (l0.length : Int) (x4_1 ++ [(⟨x12_1, x7_2, (rd l0 x12_1)⟩ : S87)]) l0 (l0.length : Int) (wrap64 (x12_1 + 1))) else (none)) else (zpB.l0 k2 l0 (l0.length : Int) x4_1 l0 (l0.length : Int) (wrap64 (x12_1 + 1))))) else (none)) else (none)) = some r := by first | (rw [hji12] at H; exact H) | (simp only [hji12] at H ⊢; exact H)
              by_cases c13 : 0 ≤ (ji12)
              ·rw [if_pos c13] at H
               have c13b0 : decide (0 ≤ (ji12)) = true := decide_eq_true c13
               clear c13
               by_cases c14 : (ji12) < (l0.length : Int)
               ·rw [if_pos c14] at H
                have c14b0 : decide ((ji12) < (l0.length : Int)) = true := decide_eq_true c14
                clear c14
                by_cases c15 : (rd l0 (ji12)) = (rd l0 x12_1)
                ·rw [if_pos c15] at H
                 have c15b0 : ((rd l0 (ji12)) == (rd l0 x12_1)) = true := beq_iff_eq.mpr c15
                 have c15b1 : ((rd l0 (ji12)) != (rd l0 x12_1)) = false := bne_eq_false_iff_eq.mpr c15
                 clear c15
                 have H' := zpS H
                 clear H
                 have p225 : 0 ≤ ((ji12) : Int) := of_decide_eq_true (by first | (with_reducible assumption) | assumption)
                 have q225 : (ji12) < (l0.length : Int) := of_decide_eq_true (by first | (with_reducible assumption) | assumption)
                 obtain ⟨ad225, e225, hx225_0⟩ := Kd.at_int HR0.out (ji12) p225 q225
                 obtain rfl : ad223 = ad225 := (by injection e225)
                 replace hx225_0 := cel_ HB.out hx225_0
                 replace p225 := eq_true p225
                 replace q225 := eq_true q225
                 go_wp2
                 go_roundg k2
                 case measure => have := HK1.out; have := HK2.out; omega
                 case rel => exact ⟨(wrap64 (x7_2 + 1)), (by first | rfl | (simp; done) | (simp [*]; done)), H', ⟨by have := HK1.out; have := HK2.out; omega⟩, ⟨by (with_reducible repeat (first | apply Kd.R_alloc | apply Kd.R_drewN | apply Kd.R_drew)); exact HO_4.out⟩, ⟨bb_⟩⟩
                ·rw [if_neg c15] at H
                 have c15b0 : ((rd l0 (ji12)) == (rd l0 x12_1)) = false := beq_eq_false_iff_ne.mpr c15
                 have c15b1 : ((rd l0 (ji12)) != (rd l0 x12_1)) = true := bne_iff_ne.mpr c15
                 by_cases c16 : (rd l0 (ji12)) > (rd l0 x12_1)
                 ·rw [if_pos c16] at H
                  have c16b0 : decide ((rd l0 x12_1) < (rd l0 (ji12))) = true := decide_eq_true c16
                  clear c16
                  by_cases c17 : x4_1.length < 5864062014805
                  ·rw [if_pos c17] at H
                   have LMc17 := zpS c17
                   clear c17
                   obtain ⟨y227, hy227⟩ : ∃ y_ : List (S87), y_ = (x4_1 ++ [(⟨x12_1, x7_2, (rd l0 x12_1)⟩ : S87)]) := ⟨_, rfl⟩
                   replace H : (zpB.l0 k2 l0 (l0.length : Int) y227 l0 (l0.length : Int) (wrap64 (x12_1 + 1))) = some r := by first | (rw [hy227]; with_reducible exact H) | (have H2_ := (Option.bind_some _ _).symm.trans H; rw [hy227]; with_reducible exact H2_) | (have H2_ := (Option.bind_some _ _).symm.trans H; with_reducible exact H2_) | with_reducible exact H | (rw [hy227]; exact H) | exact H
                   have Ny227 := zpS hy227
                   clear hy227
                   have H' := zpS H
                   clear H
                   have p225 : 0 ≤ ((ji12) : Int) := of_decide_eq_true (by first | (with_reducible assumption) | assumption)
                   have q225 : (ji12) < (l0.length : Int) := of_decide_eq_true (by first | (with_reducible assumption) | assumption)
                   obtain ⟨ad225, e225, hx225_0⟩ := Kd.at_int HR0.out (ji12) p225 q225
                   obtain rfl : ad223 = ad225 := (by injection e225)
                   replace hx225_0 := cel_ HB.out hx225_0
                   replace p225 := eq_true p225
                   replace q225 := eq_true q225
                   have p226 : 0 ≤ ((ji12) : Int) := of_decide_eq_true (by first | (with_reducible assumption) | assumption)
                   have q226 : (ji12) < (l0.length : Int) := of_decide_eq_true (by first | (with_reducible assumption) | assumption)
                   obtain ⟨ad226, e226, hx226_0⟩ := Kd.at_int HR0.out (ji12) p226 q226
                   obtain rfl : ad223 = ad226 := (by injection e226)
                   replace hx226_0 := cel_ HB.out hx226_0
                   replace p226 := eq_true p226
                   replace q226 := eq_true q226
                   go_wp2_with (first | ((with_reducible refine zcL (b := .append) (xs := #[.tmp 55, .tmp 60]) rfl ?_); at_builtin; refine Kd.R_append k87 (w0 := w) w.heap.size rfl (.tmp 55) (.tmp 60) 84 87 (.agg #[(.int .i64 0), (.int .i64 0), (.int .i64 0)]) 24 rfl Try.underlying84 info87 rfl (by decide) (by omega) u4 x4_1 (⟨x12_1, x7_2, (rd l0 x12_1)⟩ : S87) [.int .i64 x12_1, .int .i64 x7_2, .int .i64 (rd l0 x12_1)] (fun _ => True) (fun _ => False) rfl rfl ?aP (fun _ hk => hk.elim) ?aF ?aO ?aB ?aS ?aL ?_; (case aP => exact k87_mkM _ _ _ (⟨x12_1, x7_2, (rd l0 x12_1)⟩ : S87)); (case aB => exact bb_); (case aF => exact (fun _ _ => trivial)); (case aO => exact (by (with_reducible repeat (first | apply Kd.R_alloc | apply Kd.R_drewN | apply Kd.R_drew)); exact HO_4.out)); (case aS => exact (zuA bb_)); (case aL => have := LMc17.out; omega); intro v228 w18 ho hb hg hat; rw [← Ny227.out] at ho; have n0_ := zpS (hb); have n1_ := zpS (ho); clear HB; clear HO_4; have HB := n0_; have HO229 := n1_; clear n0_ n1_; clear ho hb hg hat))
                   go_roundg k2
                   case measure => have := HK1.out; have := HK2.out; omega
                   case rel => exact ⟨(y227), (wrap64 (x12_1 + 1)), (by first | rfl | (simp; done) | (simp [*]; done)), H', ⟨by have := HK1.out; have := HK2.out; omega⟩, ⟨by (with_reducible repeat (first | apply Kd.R_alloc | apply Kd.R_drewN | apply Kd.R_drew)); exact HO229.out⟩, ⟨bb_⟩⟩
                  ·rw [if_neg c17] at H
                   exact absurd H (by simp)
                 ·rw [if_neg c16] at H
                  have c16b0 : decide ((rd l0 x12_1) < (rd l0 (ji12))) = false := decide_eq_false c16
                  clear c16
                  have H' := zpS H
                  clear H
                  have p225 : 0 ≤ ((ji12) : Int) := of_decide_eq_true (by first | (with_reducible assumption) | assumption)
                  have q225 : (ji12) < (l0.length : Int) := of_decide_eq_true (by first | (with_reducible assumption) | assumption)
                  obtain ⟨ad225, e225, hx225_0⟩ := Kd.at_int HR0.out (ji12) p225 q225
                  obtain rfl : ad223 = ad225 := (by injection e225)
                  replace hx225_0 := cel_ HB.out hx225_0
                  replace p225 := eq_true p225
                  replace q225 := eq_true q225
                  have p226 : 0 ≤ ((ji12) : Int) := of_decide_eq_true (by first | (with_reducible assumption) | assumption)
                  have q226 : (ji12) < (l0.length : Int) := of_decide_eq_true (by first | (with_reducible assumption) | assumption)
                  obtain ⟨ad226, e226, hx226_0⟩ := Kd.at_int HR0.out (ji12) p226 q226
                  obtain rfl : ad223 = ad226 := (by injection e226)
                  replace hx226_0 := cel_ HB.out hx226_0
                  replace p226 := eq_true p226
                  replace q226 := eq_true q226
                  go_wp2
                  go_roundg k2
                  case measure => have := HK1.out; have := HK2.out; omega
                  case rel => exact ⟨(x4_1), (wrap64 (x12_1 + 1)), (by first | rfl | (simp; done) | (simp [*]; done)), H', ⟨by have := HK1.out; have := HK2.out; omega⟩, ⟨by (with_reducible repeat (first | apply Kd.R_alloc | apply Kd.R_drewN | apply Kd.R_drew)); exact HO_4.out⟩, ⟨bb_⟩⟩
               ·rw [if_neg c14] at H
                exact absurd H (by simp)
              ·rw [if_neg c13] at H
               exact absurd H (by simp)
            ·rw [if_neg c10] at H
             have c10b0 : decide (x7_2 < (l0.length : Int)) = false := decide_eq_false c10
             clear c10
             by_cases c19 : (l0.length : Int) = 0
             ·rw [if_pos c19] at H
              exact absurd H (by simp)
             ·rw [if_neg c19] at H
              have c19b0 : ((l0.length : Int) == 0) = false := beq_eq_false_iff_ne.mpr c19
              have c19b1 : ((l0.length : Int) != 0) = true := bne_iff_ne.mpr c19
              have c19b2 : ¬ (l0 = []) := fun h_ => c19 (by rw [h_]; rfl)
              obtain ⟨ji20, hji20⟩ : ∃ j_ : Int, (Int.tmod (wrap64 (x12_1 + x7_2)) (l0.length : Int)) = j_ := ⟨_, rfl⟩
              replace H : (if 0 ≤ (ji20) then (if (ji20) < (l0.length : Int) then (if (rd l0 (ji20)) > (rd l0 x12_1) then (if x4_1.length < 5864062014805 then (zpB.l0 k2 l0 (l0.length : Int) (x4_1 ++ [(⟨x12_1, x7_2, (rd l0 x12_1)⟩ : S87)]) l0 (l0.length : Int) (wrap64 (x12_1 + 1))) else (none)) else (zpB.l0 k2 l0 (l0.length : Int) x4_1 l0 (l0.length : Int) (wrap64 (x12_1 + 1)))) else (none)) else (none)) = some r := by first | (rw [hji20] at H; exact H) | (simp only [hji20] at H ⊢; exact H)
              by_cases c21 : 0 ≤ (ji20)
              ·rw [if_pos c21] at H
               have c21b0 : decide (0 ≤ (ji20)) = true := decide_eq_true c21
               clear c21
               by_cases c22 : (ji20) < (l0.length : Int)
               ·rw [if_pos c22] at H
                have c22b0 : decide ((ji20) < (l0.length : Int)) = true := decide_eq_true c22
                clear c22
                by_cases c23 : (rd l0 (ji20)) > (rd l0 x12_1)
                ·rw [if_pos c23] at H
                 have c23b0 : decide ((rd l0 x12_1) < (rd l0 (ji20))) = true := decide_eq_true c23
                 clear c23
                 by_cases c24 : x4_1.length < 5864062014805
                 ·rw [if_pos c24] at H
                  have LMc24 := zpS c24
                  clear c24
                  obtain ⟨y231, hy231⟩ : ∃ y_ : List (S87), y_ = (x4_1 ++ [(⟨x12_1, x7_2, (rd l0 x12_1)⟩ : S87)]) := ⟨_, rfl⟩
                  replace H : (zpB.l0 k2 l0 (l0.length : Int) y231 l0 (l0.length : Int) (wrap64 (x12_1 + 1))) = some r := by first | (rw [hy231]; with_reducible exact H) | (have H2_ := (Option.bind_some _ _).symm.trans H; rw [hy231]; with_reducible exact H2_) | (have H2_ := (Option.bind_some _ _).symm.trans H; with_reducible exact H2_) | with_reducible exact H | (rw [hy231]; exact H) | exact H
                  have Ny231 := zpS hy231
                  clear hy231
                  have H' := zpS H
                  clear H
                  have p230 : 0 ≤ ((ji20) : Int) := of_decide_eq_true (by first | (with_reducible assumption) | assumption)
                  have q230 : (ji20) < (l0.length : Int) := of_decide_eq_true (by first | (with_reducible assumption) | assumption)
                  obtain ⟨ad230, e230, hx230_0⟩ := Kd.at_int HR0.out (ji20) p230 q230
                  obtain rfl : ad223 = ad230 := (by injection e230)
                  replace hx230_0 := cel_ HB.out hx230_0
                  replace p230 := eq_true p230
                  replace q230 := eq_true q230
                  go_wp2_with (first | ((with_reducible refine zcL (b := .append) (xs := #[.tmp 55, .tmp 60]) rfl ?_); at_builtin; refine Kd.R_append k87 (w0 := w) w.heap.size rfl (.tmp 55) (.tmp 60) 84 87 (.agg #[(.int .i64 0), (.int .i64 0), (.int .i64 0)]) 24 rfl Try.underlying84 info87 rfl (by decide) (by omega) u4 x4_1 (⟨x12_1, x7_2, (rd l0 x12_1)⟩ : S87) [.int .i64 x12_1, .int .i64 x7_2, .int .i64 (rd l0 x12_1)] (fun _ => True) (fun _ => False) rfl rfl ?aP (fun _ hk => hk.elim) ?aF ?aO ?aB ?aS ?aL ?_; (case aP => exact k87_mkM _ _ _ (⟨x12_1, x7_2, (rd l0 x12_1)⟩ : S87)); (case aB => exact bb_); (case aF => exact (fun _ _ => trivial)); (case aO => exact (by (with_reducible repeat (first | apply Kd.R_alloc | apply Kd.R_drewN | apply Kd.R_drew)); exact HO_4.out)); (case aS => exact (zuA bb_)); (case aL => have := LMc24.out; omega); intro v232 w25 ho hb hg hat; rw [← Ny231.out] at ho; have n0_ := zpS (hb); have n1_ := zpS (ho); clear HB; clear HO_4; have HB := n0_; have HO233 := n1_; clear n0_ n1_; clear ho hb hg hat))
                  go_roundg k2
                  case measure => have := HK1.out; have := HK2.out; omega
                  case rel => exact ⟨(y231), (wrap64 (x12_1 + 1)), (by first | rfl | (simp; done) | (simp [*]; done)), H', ⟨by have := HK1.out; have := HK2.out; omega⟩, ⟨by (with_reducible repeat (first | apply Kd.R_alloc | apply Kd.R_drewN | apply Kd.R_drew)); exact HO233.out⟩, ⟨bb_⟩⟩
                 ·rw [if_neg c24] at H
                  exact absurd H (by simp)
                ·rw [if_neg c23] at H
                 have c23b0 : decide ((rd l0 x12_1) < (rd l0 (ji20))) = false := decide_eq_false c23
                 clear c23
                 have H' := zpS H
                 clear H
                 have p230 : 0 ≤ ((ji20) : Int) := of_decide_eq_true (by first | (with_reducible assumption) | assumption)
                 have q230 : (ji20) < (l0.length : Int) := of_decide_eq_true (by first | (with_reducible assumption) | assumption)
                 obtain ⟨ad230, e230, hx230_0⟩ := Kd.at_int HR0.out (ji20) p230 q230
                 obtain rfl : ad223 = ad230 := (by injection e230)
                 replace hx230_0 := cel_ HB.out hx230_0
                 replace p230 := eq_true p230
                 replace q230 := eq_true q230
                 go_wp2
                 go_roundg k2
                 case measure => have := HK1.out; have := HK2.out; omega
                 case rel => exact ⟨(x4_1), (wrap64 (x12_1 + 1)), (by first | rfl | (simp; done) | (simp [*]; done)), H', ⟨by have := HK1.out; have := HK2.out; omega⟩, ⟨by (with_reducible repeat (first | apply Kd.R_alloc | apply Kd.R_drewN | apply Kd.R_drew)); exact HO_4.out⟩, ⟨bb_⟩⟩
               ·rw [if_neg c22] at H
                exact absurd H (by simp)
              ·rw [if_neg c21] at H
               exact absurd H (by simp)
        ·rw [if_neg c8] at H
         exact absurd H (by simp)
       ·rw [if_neg c7] at H
        exact absurd H (by simp)
     ·rw [if_neg c4] at H
      exact absurd H (by simp)
    ·rw [if_neg c3] at H
     exact absurd H (by simp)
   ·rw [if_neg c2] at H
    have c2b0 : decide (x12_1 < (l0.length : Int)) = false := decide_eq_false c2
    clear c2
    obtain rfl := Option.some.inj H
    go_wp2
    go_ret
    exact ⟨_, by first | rfl | (simp [ziS, znJ] <;> rfl) | (simp [*, ziS, znJ] <;> rfl), by (with_reducible repeat (first | apply Kd.R_alloc | apply Kd.R_drewN | apply Kd.R_drew)); exact HO_4.out, bb_⟩

def zeT.l0 : Nat → Int → Int → List Int → Int → Int → Option (Int)
 | 0, _, _, _, _, _ => none
 | k + 1, x1, x5, x8, x9, x10 => if x10 < x9 then (if 0 ≤ x10 then (if x10 < (x8.length : Int) then (if (rd x8 x10) = x1 then (zeT.l0 k x1 (wrap64 (x5 + 1)) x8 x9 (wrap64 (x10 + 1))) else (zeT.l0 k x1 x5 x8 x9 (wrap64 (x10 + 1)))) else (none)) else (none)) else (some x5)
def zeT.f (k : Nat) (l0 : List Int) (a1 : Int) : Option (Int) := zeT.l0 k a1 0 l0 (l0.length : Int) 0
theorem zeT.mono_l : ∀ k, (∀ y0 y1 y2 y3 y4, LeO (zeT.l0 k y0 y1 y2 y3 y4) (zeT.l0 (k + 1) y0 y1 y2 y3 y4))
 | 0 => fun _ _ _ _ _ r h => by simp [zeT.l0] at h
 | k + 1 => by
  have ih0 := zeT.mono_l k
  ·intro y0 y1 y2 y3 y4
   unfold zeT.l0
   repeat' first
   | (with_reducible exact ih0 _ _ _ _ _)
   | (with_reducible exact LeO.refl _)
   | (with_reducible exact LeO.none _)
   | (with_reducible refine LeO.ite ?_ ?_)
   | (with_reducible refine LeO.bind ?_ (fun _ => ?_))
   | exact ih0 _ _ _ _ _
   | exact LeO.none _
   | refine LeO.ite ?_ ?_
   | refine LeO.bind ?_ (fun _ => ?_)
theorem zeT.mono : ∀ a0 a1 k, LeO (zeT.f k a0 a1) (zeT.f (k + 1) a0 a1) := by
 intro a0 a1 k
 have ih0 := zeT.mono_l k
 unfold zeT.f
 repeat' first
   | (with_reducible exact ih0 _ _ _ _ _)
   | (with_reducible exact LeO.refl _)
   | (with_reducible exact LeO.none _)
   | (with_reducible refine LeO.ite ?_ ?_)
   | (with_reducible refine LeO.bind ?_ (fun _ => ?_))
   | exact ih0 _ _ _ _ _
   | exact LeO.none _
   | refine LeO.ite ?_ ?_
   | refine LeO.bind ?_ (fun _ => ?_)
set_option maxHeartbeats 8000000 in
set_option maxRecDepth 100000 in
theorem zeT.calls (k : Nat) (A0 : Option Addr) (c0 : Nat) (l0 : List Int) (a1 : Int) (r : Int) (w : World) (hr0 : Kd.C (Kd.int .i64) w A0 l0.length l0) (hc0 : l0.length ≤ c0) (h : zeT.f k l0 a1 = some r) :
  Calls Try.prog 96 #[.slice A0 l0.length c0, .int .i64 a1] w fun e w' => e = .returned (.int .i64 r) ∧ Drawn0 w w' := by
 have HR0 := zpS hr0
 have HC0 := zpS hc0
 clear hr0 hc0
 have H : (zeT.l0 k a1 0 l0 (l0.length : Int) 0) = some r := h
 clear h
 have H' := zpS H
 clear H
 go_enter Try.func96, Try.ntmps96
 go_wp2
 (try go_simp)
 go_loopg [5, 10] k (fun kq v5 v10 w' => ∃ (x5_1 : Int) (x10_1 : Int), v5 = .int .i64 x5_1 ∧ v10 = .int .i64 x10_1 ∧ Aside0 (zeT.l0 kq a1 x5_1 l0 (l0.length : Int) x10_1 = some r) ∧ Aside0 (kq ≤ k) ∧ Drawn0 w w')
 case atStart => exact ⟨(0), (0), (by first | rfl | (simp; done) | (simp [*]; done)), (by first | rfl | (simp; done) | (simp [*]; done)), H', ⟨Nat.le_refl _⟩, by repeat (first | exact Drawn0.refl _ | apply Drawn0.step)⟩
 case round =>
  clear H'
  try clear p2
  obtain ⟨x5_1, x10_1, rfl, rfl, HA, HK1, ⟨m1, rfl⟩⟩ := hrel
  cases gk with
  | zero => exact absurd HA.out (by simp [zeT.l0])
  | succ k1 =>
   have H := HA.out
   clear HA
   simp only [zeT.l0] at H
   by_cases c3 : x10_1 < (l0.length : Int)
   ·rw [if_pos c3] at H
    have c3b0 : decide (x10_1 < (l0.length : Int)) = true := decide_eq_true c3
    clear c3
    by_cases c4 : 0 ≤ x10_1
    ·rw [if_pos c4] at H
     have c4b0 : decide (0 ≤ x10_1) = true := decide_eq_true c4
     clear c4
     by_cases c5 : x10_1 < (l0.length : Int)
     ·rw [if_pos c5] at H
      have c5b0 : decide (x10_1 < (l0.length : Int)) = true := decide_eq_true c5
      clear c5
      by_cases c6 : (rd l0 x10_1) = a1
      ·rw [if_pos c6] at H
       have c6b0 : ((rd l0 x10_1) == a1) = true := beq_iff_eq.mpr c6
       have c6b1 : ((rd l0 x10_1) != a1) = false := bne_eq_false_iff_eq.mpr c6
       clear c6
       have H' := zpS H
       clear H
       have p234 : 0 ≤ (x10_1 : Int) := of_decide_eq_true (by first | (with_reducible assumption) | assumption)
       have q234 : x10_1 < (l0.length : Int) := of_decide_eq_true (by first | (with_reducible assumption) | assumption)
       obtain ⟨ad234, e234, hx234_0⟩ := Kd.at_int HR0.out x10_1 p234 q234
       cases e234
       replace p234 := eq_true p234
       replace q234 := eq_true q234
       go_wp2
       go_roundg k1
       case measure => have := HK1.out; omega
       case rel => exact ⟨(wrap64 (x5_1 + 1)), (wrap64 (x10_1 + 1)), (by first | rfl | (simp; done) | (simp [*]; done)), (by first | rfl | (simp; done) | (simp [*]; done)), H', ⟨by have := HK1.out; omega⟩, by repeat (first | exact Drawn0.refl _ | apply Drawn0.step)⟩
      ·rw [if_neg c6] at H
       have c6b0 : ((rd l0 x10_1) == a1) = false := beq_eq_false_iff_ne.mpr c6
       have c6b1 : ((rd l0 x10_1) != a1) = true := bne_iff_ne.mpr c6
       have H' := zpS H
       clear H
       have p234 : 0 ≤ (x10_1 : Int) := of_decide_eq_true (by first | (with_reducible assumption) | assumption)
       have q234 : x10_1 < (l0.length : Int) := of_decide_eq_true (by first | (with_reducible assumption) | assumption)
       obtain ⟨ad234, e234, hx234_0⟩ := Kd.at_int HR0.out x10_1 p234 q234
       cases e234
       replace p234 := eq_true p234
       replace q234 := eq_true q234
       go_wp2
       go_roundg k1
       case measure => have := HK1.out; omega
       case rel => exact ⟨(x5_1), (wrap64 (x10_1 + 1)), (by first | rfl | (simp; done) | (simp [*]; done)), (by first | rfl | (simp; done) | (simp [*]; done)), H', ⟨by have := HK1.out; omega⟩, by repeat (first | exact Drawn0.refl _ | apply Drawn0.step)⟩
     ·rw [if_neg c5] at H
      exact absurd H (by simp)
    ·rw [if_neg c4] at H
     exact absurd H (by simp)
   ·rw [if_neg c3] at H
    have c3b0 : decide (x10_1 < (l0.length : Int)) = false := decide_eq_false c3
    clear c3
    obtain rfl := Option.some.inj H
    go_wp2
    go_ret
    exact ⟨by first | rfl | (simp; done) | (simp [*]; done), by repeat (first | exact Drawn0.refl _ | apply Drawn0.step)⟩

def impl_abs.f (a0 : Int) : Option (Int) := some (mx a0 (wrap64 (-a0)))
set_option maxHeartbeats 8000000 in
set_option maxRecDepth 100000 in
theorem impl_abs.calls (a0 : Int) (r : Int) (w : World) (h : impl_abs.f a0 = some r) :
  Calls Try.prog 113 #[.int .i64 a0] w fun e w' => e = .returned (.int .i64 r) ∧ Below w.heap.size w w' := by
 have HB := zpS (Below.refl w.heap.size w)
 have H : (some (mx a0 (wrap64 (-a0)))) = some r := h
 clear h
 obtain ⟨ji2, hji2⟩ : ∃ j_ : Int, (mx a0 (wrap64 (-a0))) = j_ := ⟨_, rfl⟩
 replace H : (some ji2) = some r := by first | (rw [hji2] at H; exact H) | (simp only [hji2] at H ⊢; exact H)
 have hji2_ : (if a0 < (wrap64 (-a0)) then (wrap64 (-a0)) else a0) = ji2 := hji2
 obtain rfl := Option.some.inj H
 go_enter Try.func113, Try.ntmps113
 go_wp2
 go_ret
 exact ⟨by first | rfl | (simp [ziS, znJ] <;> rfl) | (simp only [← hji2]; first | rfl | (simp [ziS, znJ] <;> rfl)) | (simp [*, ziS, znJ] <;> rfl), bb_⟩

def zyZ.f (k : Nat) (l0 : List Int) : Option (Int) := (zeT.f k l0 2).bind fun t235 => ((zeT.f k l0 3).bind fun t236 => ((impl_abs.f (wrap64 (t235 - t236))).bind fun t237 => (some t237)))
theorem zyZ.mono : ∀ a0 k, LeO (zyZ.f k a0) (zyZ.f (k + 1) a0) := by
 intro a0 k
 unfold zyZ.f
 repeat' first
   | (with_reducible exact zeT.mono _ _ _)
   | (with_reducible exact LeO.refl _)
   | (with_reducible exact LeO.none _)
   | (with_reducible refine LeO.ite ?_ ?_)
   | (with_reducible refine LeO.bind ?_ (fun _ => ?_))
   | exact zeT.mono _ _ _
   | exact LeO.none _
   | refine LeO.ite ?_ ?_
   | refine LeO.bind ?_ (fun _ => ?_)
set_option maxHeartbeats 8000000 in
set_option maxRecDepth 100000 in
theorem zyZ.calls (k : Nat) (A0 : Option Addr) (c0 : Nat) (l0 : List Int) (r : Int) (w : World) (hr0 : Kd.C (Kd.int .i64) w A0 l0.length l0) (hc0 : l0.length ≤ c0) (h : zyZ.f k l0 = some r) :
  Calls Try.prog 91 #[.slice A0 l0.length c0] w fun e w' => e = .returned (.int .i64 r) ∧ Below w.heap.size w w' := by
 have HR0 := zpS hr0
 have HC0 := zpS hc0
 clear hr0 hc0
 have HB := zpS (Below.refl w.heap.size w)
 have H : ((zeT.f k l0 2).bind fun t235 => ((zeT.f k l0 3).bind fun t236 => ((impl_abs.f (wrap64 (t235 - t236))).bind fun t237 => (some t237)))) = some r := h
 clear h
 replace H := Option.bind_eq_some_iff.mp H
 obtain ⟨t235, A20, H⟩ := H
 replace H : ((zeT.f k l0 3).bind fun t236 => ((impl_abs.f (wrap64 (t235 - t236))).bind fun t237 => (some t237))) = some r := H
 have A2 := zpS A20
 clear A20
 replace H := Option.bind_eq_some_iff.mp H
 obtain ⟨t236, A30, H⟩ := H
 replace H : ((impl_abs.f (wrap64 (t235 - t236))).bind fun t237 => (some t237)) = some r := H
 have A3 := zpS A30
 clear A30
 replace H := Option.bind_eq_some_iff.mp H
 obtain ⟨t237, A40, H⟩ := H
 replace H : (some t237) = some r := H
 have A4 := zpS A40
 clear A40
 obtain rfl := Option.some.inj H
 go_enter Try.func91, Try.ntmps91
 go_wp2_with (first | ((with_reducible refine zgM (f := 96) rfl ?_); refine zqQ (some 4) rfl rfl Try.func96 (by kernel_rfl) rfl #[.slice A0 l0.length c0, .int .i64 2] rfl (by (try simp only [List.map_toArray, List.map_cons, List.map_nil]); first | done | rfl | (simp only [List.length_drop, List.length_take]; rfl)) ?_; (with_reducible refine (zeT.calls k _ _ l0 2 t235 _ ?side1 ?side2 A2.out).mono ?_); (case side1 => repeat (first | exact HR0.out | (with_reducible refine Kd.C_alloc ?_ _) | (with_reducible refine Kd.C_drewN ?_ _) | (with_reducible refine Kd.C_drew ?_))); (case side2 => exact HC0.out); rintro e w' ⟨rfl, ⟨nd, rfl⟩⟩; refine ⟨_, rfl, ?_⟩) | ((with_reducible refine zgM (f := 96) rfl ?_); refine zqQ (some 6) rfl rfl Try.func96 (by kernel_rfl) rfl #[.slice A0 l0.length c0, .int .i64 3] rfl (by (try simp only [List.map_toArray, List.map_cons, List.map_nil]); first | done | rfl | (simp only [List.length_drop, List.length_take]; rfl)) ?_; (with_reducible refine (zeT.calls k _ _ l0 3 t236 _ ?side1 ?side2 A3.out).mono ?_); (case side1 => repeat (first | exact HR0.out | (with_reducible refine Kd.C_alloc ?_ _) | (with_reducible refine Kd.C_drewN ?_ _) | (with_reducible refine Kd.C_drew ?_))); (case side2 => exact HC0.out); rintro e w' ⟨rfl, ⟨nd, rfl⟩⟩; refine ⟨_, rfl, ?_⟩) | ((with_reducible refine zgM (f := 113) rfl ?_); refine zqQ (some 8) rfl rfl Try.func113 (by kernel_rfl) rfl #[.int .i64 (wrap64 (t235 - t236))] rfl (by (try simp only [List.map_toArray, List.map_cons, List.map_nil]); first | done | rfl | (simp only [List.length_drop, List.length_take]; rfl)) ?_; (with_reducible refine (impl_abs.calls (wrap64 (t235 - t236)) t237 _ A4.out).mono ?_); rintro e w5 ⟨rfl, hb⟩; refine ⟨_, rfl, ?_⟩; have n0_ := (ns_ hb); clear HB; have HB := n0_; clear n0_; (try clear hb); (try clear hb2)))
 go_ret
 exact ⟨by first | rfl | (simp [ziS, znJ] <;> rfl) | (simp [*, ziS, znJ] <;> rfl), bb_⟩

def zrS.l0 : Nat → List Int → List Int → List Int → Int → Int → Option (List Int)
 | 0, _, _, _, _, _ => none
 | k + 1, x0, x5, x8, x9, x10 => if x10 < x9 then (if 0 ≤ x10 then (if x10 < (x8.length : Int) then (if 0 ≤ (rd x8 x10) then (if (rd x8 x10) < (x0.length : Int) then (if x5.length < 17592186044416 then (zrS.l0 k x0 (x5 ++ [rd x0 (rd x8 x10)]) x8 x9 (wrap64 (x10 + 1))) else (none)) else (none)) else (none)) else (none)) else (none)) else (some x5)
def zrS.f (k : Nat) (l0 : List Int) (l1 : List Int) : Option (List Int) := zrS.l0 k l0 ([] : List Int) l1 (l1.length : Int) 0
theorem zrS.mono_l : ∀ k, (∀ y0 y1 y2 y3 y4, LeO (zrS.l0 k y0 y1 y2 y3 y4) (zrS.l0 (k + 1) y0 y1 y2 y3 y4))
 | 0 => fun _ _ _ _ _ r h => by simp [zrS.l0] at h
 | k + 1 => by
  have ih0 := zrS.mono_l k
  ·intro y0 y1 y2 y3 y4
   unfold zrS.l0
   repeat' first
   | (with_reducible exact ih0 _ _ _ _ _)
   | (with_reducible exact LeO.refl _)
   | (with_reducible exact LeO.none _)
   | (with_reducible refine LeO.ite ?_ ?_)
   | (with_reducible refine LeO.bind ?_ (fun _ => ?_))
   | exact ih0 _ _ _ _ _
   | exact LeO.none _
   | refine LeO.ite ?_ ?_
   | refine LeO.bind ?_ (fun _ => ?_)
theorem zrS.mono : ∀ a0 a1 k, LeO (zrS.f k a0 a1) (zrS.f (k + 1) a0 a1) := by
 intro a0 a1 k
 have ih0 := zrS.mono_l k
 unfold zrS.f
 repeat' first
   | (with_reducible exact ih0 _ _ _ _ _)
   | (with_reducible exact LeO.refl _)
   | (with_reducible exact LeO.none _)
   | (with_reducible refine LeO.ite ?_ ?_)
   | (with_reducible refine LeO.bind ?_ (fun _ => ?_))
   | exact ih0 _ _ _ _ _
   | exact LeO.none _
   | refine LeO.ite ?_ ?_
   | refine LeO.bind ?_ (fun _ => ?_)
set_option maxHeartbeats 8000000 in
set_option maxRecDepth 100000 in
theorem zrS.calls (k : Nat) (A0 : Option Addr) (c0 : Nat) (l0 : List Int) (A1 : Option Addr) (c1 : Nat) (l1 : List Int) (r : List Int) (w : World) (hr0 : Kd.C (Kd.int .i64) w A0 l0.length l0) (hc0 : l0.length ≤ c0) (hr1 : Kd.C (Kd.int .i64) w A1 l1.length l1) (hc1 : l1.length ≤ c1) (h : zrS.f k l0 l1 = some r) :
  Calls Try.prog 94 #[.slice A0 l0.length c0, .slice A1 l1.length c1] w fun e w' => ∃ v0_ : Value, e = .returned (v0_) ∧ Kd.R (Kd.int .i64) 2 w' w.heap.size (fun _ => True) v0_ r ∧ Below w.heap.size w w' := by
 have HR0 := zpS hr0
 have HC0 := zpS hc0
 clear hr0 hc0
 have HR1 := zpS hr1
 have HC1 := zpS hc1
 clear hr1 hc1
 have HB := zpS (Below.refl w.heap.size w)
 have H : (zrS.l0 k l0 ([] : List Int) l1 (l1.length : Int) 0) = some r := h
 clear h
 have H' := zpS H
 clear H
 go_enter Try.func94, Try.ntmps94
 go_wp2
 (try go_simp)
 go_loopg [5, 10] k (fun kq v5 v10 w' => ∃ (x5_1 : List Int) (x10_1 : Int), v10 = .int .i64 x10_1 ∧ Aside0 (zrS.l0 kq l0 x5_1 l1 (l1.length : Int) x10_1 = some r) ∧ Aside0 (kq ≤ k) ∧ Aside0 (Kd.R (Kd.int .i64) 2 w' w.heap.size (fun _ => True) v5 x5_1) ∧ Aside0 (Below w.heap.size w w'))
 case atStart => exact ⟨(([] : List Int)), (0), (by first | rfl | (simp; done) | (simp [*]; done)), H', ⟨Nat.le_refl _⟩, ⟨by first | exact Kd.R_nil _ _ _ _ _ | exact Kd.N_nil _ _ _ _ _ | exact Kd.V_nil _ _ _ _ _ | exact Kd.Q_nil _ _ _ _ _ | exact Kd.S_nil _ _ _ _ _⟩, ⟨bb_⟩⟩
 case round =>
  clear H'
  try clear c1
  try clear p2
  obtain ⟨x5_1, x10_1, rfl, HA, HK1, HO_5, HB⟩ := hrel
  cases gk with
  | zero => exact absurd HA.out (by simp [zrS.l0])
  | succ k1 =>
   have H := HA.out
   clear HA
   simp only [zrS.l0] at H
   by_cases c3 : x10_1 < (l1.length : Int)
   ·rw [if_pos c3] at H
    have c3b0 : decide (x10_1 < (l1.length : Int)) = true := decide_eq_true c3
    clear c3
    by_cases c4 : 0 ≤ x10_1
    ·rw [if_pos c4] at H
     have c4b0 : decide (0 ≤ x10_1) = true := decide_eq_true c4
     clear c4
     by_cases c5 : x10_1 < (l1.length : Int)
     ·rw [if_pos c5] at H
      have c5b0 : decide (x10_1 < (l1.length : Int)) = true := decide_eq_true c5
      clear c5
      by_cases c6 : 0 ≤ (rd l1 x10_1)
      ·rw [if_pos c6] at H
       have c6b0 : decide (0 ≤ (rd l1 x10_1)) = true := decide_eq_true c6
       clear c6
       by_cases c7 : (rd l1 x10_1) < (l0.length : Int)
       ·rw [if_pos c7] at H
        have c7b0 : decide ((rd l1 x10_1) < (l0.length : Int)) = true := decide_eq_true c7
        clear c7
        by_cases c8 : x5_1.length < 17592186044416
        ·rw [if_pos c8] at H
         have LMc8 := zpS c8
         clear c8
         obtain ⟨y240, hy240⟩ : ∃ y_ : List Int, y_ = (x5_1 ++ [rd l0 (rd l1 x10_1)]) := ⟨_, rfl⟩
         replace H : (zrS.l0 k1 l0 y240 l1 (l1.length : Int) (wrap64 (x10_1 + 1))) = some r := by first | (rw [hy240]; with_reducible exact H) | (have H2_ := (Option.bind_some _ _).symm.trans H; rw [hy240]; with_reducible exact H2_) | (have H2_ := (Option.bind_some _ _).symm.trans H; with_reducible exact H2_) | with_reducible exact H | (rw [hy240]; exact H) | exact H
         have Ny240 := zpS hy240
         clear hy240
         have H' := zpS H
         clear H
         have p238 : 0 ≤ (x10_1 : Int) := of_decide_eq_true (by first | (with_reducible assumption) | assumption)
         have q238 : x10_1 < (l1.length : Int) := of_decide_eq_true (by first | (with_reducible assumption) | assumption)
         obtain ⟨ad238, e238, hx238_0⟩ := Kd.at_int HR1.out x10_1 p238 q238
         cases e238
         replace hx238_0 := cel_ HB.out hx238_0
         replace p238 := eq_true p238
         replace q238 := eq_true q238
         have p239 : 0 ≤ ((rd l1 x10_1) : Int) := of_decide_eq_true (by first | (with_reducible assumption) | assumption)
         have q239 : (rd l1 x10_1) < (l0.length : Int) := of_decide_eq_true (by first | (with_reducible assumption) | assumption)
         obtain ⟨ad239, e239, hx239_0⟩ := Kd.at_int HR0.out (rd l1 x10_1) p239 q239
         cases e239
         replace hx239_0 := cel_ HB.out hx239_0
         replace p239 := eq_true p239
         replace q239 := eq_true q239
         go_wp2_with (first | ((with_reducible refine zcL (b := .append) (xs := #[.tmp 14, .tmp 19]) rfl ?_); at_builtin; refine Kd.R_append (Kd.int .i64) (w0 := w) w.heap.size rfl (.tmp 14) (.tmp 19) 22 2 (.int .i64 0) 8 rfl Try.underlying22 info2 rfl (by decide) (by omega) u5 x5_1 (rd l0 (rd l1 x10_1)) [.int .i64 (rd l0 (rd l1 x10_1))] (fun _ => True) (fun _ => False) rfl rfl ?aP (fun _ hk => hk.elim) ?aF ?aO ?aB ?aS ?aL ?_; (case aP => exact rfl); (case aB => exact bb_); (case aF => exact (fun _ _ => trivial)); (case aO => exact (by (with_reducible repeat (first | apply Kd.R_alloc | apply Kd.R_drewN | apply Kd.R_drew)); exact HO_5.out)); (case aS => exact (zuA bb_)); (case aL => have := LMc8.out; omega); intro v241 w9 ho hb hg hat; rw [← Ny240.out] at ho; have n0_ := zpS (hb); have n1_ := zpS (ho); clear HB; clear HO_5; have HB := n0_; have HO242 := n1_; clear n0_ n1_; clear ho hb hg hat))
         go_roundg k1
         case measure => have := HK1.out; omega
         case rel => exact ⟨(y240), (wrap64 (x10_1 + 1)), (by first | rfl | (simp; done) | (simp [*]; done)), H', ⟨by have := HK1.out; omega⟩, ⟨by (with_reducible repeat (first | apply Kd.R_alloc | apply Kd.R_drewN | apply Kd.R_drew)); exact HO242.out⟩, ⟨bb_⟩⟩
        ·rw [if_neg c8] at H
         exact absurd H (by simp)
       ·rw [if_neg c7] at H
        exact absurd H (by simp)
      ·rw [if_neg c6] at H
       exact absurd H (by simp)
     ·rw [if_neg c5] at H
      exact absurd H (by simp)
    ·rw [if_neg c4] at H
     exact absurd H (by simp)
   ·rw [if_neg c3] at H
    have c3b0 : decide (x10_1 < (l1.length : Int)) = false := decide_eq_false c3
    clear c3
    obtain rfl := Option.some.inj H
    go_wp2
    go_ret
    exact ⟨_, by first | rfl | (simp [ziS, znJ] <;> rfl) | (simp [*, ziS, znJ] <;> rfl), by (with_reducible repeat (first | apply Kd.R_alloc | apply Kd.R_drewN | apply Kd.R_drew)); exact HO_5.out, bb_⟩

end Go.Proofs.Ytbpkbllokmplnaa.PFnExactAssignmentsOf
