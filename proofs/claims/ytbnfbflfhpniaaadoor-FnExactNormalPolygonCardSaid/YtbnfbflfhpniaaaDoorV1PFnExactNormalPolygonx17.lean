-- Printed for this claim by this session's program pp.py, which drives the kit's print with additions. Not trusted: Lean checks it.
import Derived.Test.YtbnfbflfhpniaaaDoorV1PFnExactNormalPolygonx0
import Derived.Test.YtbnfbflfhpniaaaDoorV1PFnExactNormalPolygonx2
import Derived.Test.YtbnfbflfhpniaaaDoorV1PFnExactNormalPolygonx8
import Derived.Test.YtbnfbflfhpniaaaDoorV1PFnExactNormalPolygonx12
import Derived.Test.YtbnfbflfhpniaaaDoorV1PFnExactNormalPolygonx15
import Derived.Test.YtbnfbflfhpniaaaDoorV1PFnExactNormalPolygonx16
namespace Go.Proofs.YtbnfbflfhpniaaaDoor.PFnExactNormalPolygon
open Go.RowKit Go.Proofs.YtbnfbflfhpniaaaDoorW.PrintWords Go.Proofs.YtbnfbflfhpniaaaDoorW.PrintLast Go.Proofs.YtbnfbflfhpniaaaDoorW.PrintMore
attribute [local go_sem] zbB ziC zrC zhD znE zuB znH zkT   -- for this text's walks alone
set_option linter.unusedVariables false
set_option maxHeartbeats 8000000
set_option maxRecDepth 100000
set_option linter.unusedSimpArgs false

mutual
def laws_FnExactNormalPolygon.j0 : Nat → List (S41) → List (S35) → Bool → List (S35) → List (S35) → Bool → Bool → Option (Bool)
 | 0, _, _, _, _, _, _, _ => none
 | k + 1, x0, x4, x5, x6, x7, x8, x40 => if x40 = true then (none) else ((ztE.f k x0).bind fun t535 => ((zcH.f k x6 t535).bind fun t538 => (if t538 = true then ((zeY.f k x6 1).bind fun bt539 => (if bt539.1 < 0 then (laws_FnExactNormalPolygon.j1 k x0 x4 x5 x7 true) else ((zcH.f k x7 x4).bind fun t541 => (if t541 = true then (laws_FnExactNormalPolygon.j1 k x0 x4 x5 x7 (x8 != x5)) else (laws_FnExactNormalPolygon.j1 k x0 x4 x5 x7 true))))) else (none))))
def laws_FnExactNormalPolygon.j1 : Nat → List (S41) → List (S35) → Bool → List (S35) → Bool → Option (Bool)
 | 0, _, _, _, _, _ => none
 | k + 1, x0, x4, x5, x7, x61 => if x61 = true then (none) else ((zeY.f k x7 1).bind fun bt542 => ((zsO.f k bt542.2 1).bind fun t544 => (if t544 < 0 then (none) else (if t544 = bt542.1 then ((ztE.f k x0).bind fun t545 => ((zqR.f k t545).bind fun bt548 => ((zcH.f k bt548.1 x4).bind fun t552 => (if t552 = true then (laws_FnExactNormalPolygon.j2 k bt542.2 bt542.1 (bt548.2 != x5)) else (laws_FnExactNormalPolygon.j2 k bt542.2 bt542.1 true))))) else (none)))))
def laws_FnExactNormalPolygon.j2 : Nat → List (S35) → Int → Bool → Option (Bool)
 | 0, _, _, _ => none
 | k + 1, x7, x10, x87 => if x87 = true then (none) else ((zsO.f k x7 1).bind fun t553 => (if t553 < 0 then (none) else (if t553 = x10 then (some true) else (none))))
end
def laws_FnExactNormalPolygon.f (k : Nat) (l0 : List (S41)) : Option (Bool) := (zeT.f l0 1048576).bind fun t519 => (if t519 < 0 then (some true) else ((ztE.f k l0).bind fun t520 => ((zpV.f k t520).bind fun bt523 => ((ztE.f k l0).bind fun t527 => ((zqR.f k t527).bind fun bt530 => ((zcH.f k bt530.1 bt523.1).bind fun t534 => (if t534 = true then (laws_FnExactNormalPolygon.j0 k l0 bt523.1 bt523.2 t527 bt530.1 bt530.2 (bt530.2 != bt523.2)) else (laws_FnExactNormalPolygon.j0 k l0 bt523.1 bt523.2 t527 bt530.1 bt530.2 true))))))))
theorem laws_FnExactNormalPolygon.mono_l : ∀ k, (∀ y0 y1 y2 y3 y4 y5 y6, LeO (laws_FnExactNormalPolygon.j0 k y0 y1 y2 y3 y4 y5 y6) (laws_FnExactNormalPolygon.j0 (k + 1) y0 y1 y2 y3 y4 y5 y6)) ∧ (∀ y0 y1 y2 y3 y4, LeO (laws_FnExactNormalPolygon.j1 k y0 y1 y2 y3 y4) (laws_FnExactNormalPolygon.j1 (k + 1) y0 y1 y2 y3 y4)) ∧ (∀ y0 y1 y2, LeO (laws_FnExactNormalPolygon.j2 k y0 y1 y2) (laws_FnExactNormalPolygon.j2 (k + 1) y0 y1 y2))
 | 0 => ⟨fun _ _ _ _ _ _ _ r h => by simp [laws_FnExactNormalPolygon.j0] at h, fun _ _ _ _ _ r h => by simp [laws_FnExactNormalPolygon.j1] at h, fun _ _ _ r h => by simp [laws_FnExactNormalPolygon.j2] at h⟩
 | k + 1 => by
  obtain ⟨ih0, ih1, ih2⟩ := laws_FnExactNormalPolygon.mono_l k
  refine ⟨?_, ?_, ?_⟩
  ·intro y0 y1 y2 y3 y4 y5 y6
   unfold laws_FnExactNormalPolygon.j0
   repeat' first
   | (with_reducible exact ih0 _ _ _ _ _ _ _)
   | (with_reducible exact ih1 _ _ _ _ _)
   | (with_reducible exact ih2 _ _ _)
   | (with_reducible exact zqR.mono _ _)
   | (with_reducible exact zcH.mono _ _ _)
   | (with_reducible exact zsO.mono _ _ _)
   | (with_reducible exact zeY.mono _ _ _)
   | (with_reducible exact ztE.mono _ _)
   | (with_reducible exact zpV.mono _ _)
   | (with_reducible exact LeO.refl _)
   | (with_reducible exact LeO.none _)
   | (with_reducible refine LeO.ite ?_ ?_)
   | (with_reducible refine LeO.bind ?_ (fun _ => ?_))
   | exact ih0 _ _ _ _ _ _ _
   | exact ih1 _ _ _ _ _
   | exact ih2 _ _ _
   | exact zqR.mono _ _
   | exact zcH.mono _ _ _
   | exact zsO.mono _ _ _
   | exact zeY.mono _ _ _
   | exact ztE.mono _ _
   | exact zpV.mono _ _
   | exact LeO.none _
   | refine LeO.ite ?_ ?_
   | refine LeO.bind ?_ (fun _ => ?_)
  ·intro y0 y1 y2 y3 y4
   unfold laws_FnExactNormalPolygon.j1
   repeat' first
   | (with_reducible exact ih0 _ _ _ _ _ _ _)
   | (with_reducible exact ih1 _ _ _ _ _)
   | (with_reducible exact ih2 _ _ _)
   | (with_reducible exact zqR.mono _ _)
   | (with_reducible exact zcH.mono _ _ _)
   | (with_reducible exact zsO.mono _ _ _)
   | (with_reducible exact zeY.mono _ _ _)
   | (with_reducible exact ztE.mono _ _)
   | (with_reducible exact zpV.mono _ _)
   | (with_reducible exact LeO.refl _)
   | (with_reducible exact LeO.none _)
   | (with_reducible refine LeO.ite ?_ ?_)
   | (with_reducible refine LeO.bind ?_ (fun _ => ?_))
   | exact ih0 _ _ _ _ _ _ _
   | exact ih1 _ _ _ _ _
   | exact ih2 _ _ _
   | exact zqR.mono _ _
   | exact zcH.mono _ _ _
   | exact zsO.mono _ _ _
   | exact zeY.mono _ _ _
   | exact ztE.mono _ _
   | exact zpV.mono _ _
   | exact LeO.none _
   | refine LeO.ite ?_ ?_
   | refine LeO.bind ?_ (fun _ => ?_)
  ·intro y0 y1 y2
   unfold laws_FnExactNormalPolygon.j2
   repeat' first
   | (with_reducible exact ih0 _ _ _ _ _ _ _)
   | (with_reducible exact ih1 _ _ _ _ _)
   | (with_reducible exact ih2 _ _ _)
   | (with_reducible exact zqR.mono _ _)
   | (with_reducible exact zcH.mono _ _ _)
   | (with_reducible exact zsO.mono _ _ _)
   | (with_reducible exact zeY.mono _ _ _)
   | (with_reducible exact ztE.mono _ _)
   | (with_reducible exact zpV.mono _ _)
   | (with_reducible exact LeO.refl _)
   | (with_reducible exact LeO.none _)
   | (with_reducible refine LeO.ite ?_ ?_)
   | (with_reducible refine LeO.bind ?_ (fun _ => ?_))
   | exact ih0 _ _ _ _ _ _ _
   | exact ih1 _ _ _ _ _
   | exact ih2 _ _ _
   | exact zqR.mono _ _
   | exact zcH.mono _ _ _
   | exact zsO.mono _ _ _
   | exact zeY.mono _ _ _
   | exact ztE.mono _ _
   | exact zpV.mono _ _
   | exact LeO.none _
   | refine LeO.ite ?_ ?_
   | refine LeO.bind ?_ (fun _ => ?_)
theorem laws_FnExactNormalPolygon.mono : ∀ a0 k, LeO (laws_FnExactNormalPolygon.f k a0) (laws_FnExactNormalPolygon.f (k + 1) a0) := by
 intro a0 k
 obtain ⟨ih0, ih1, ih2⟩ := laws_FnExactNormalPolygon.mono_l k
 unfold laws_FnExactNormalPolygon.f
 repeat' first
   | (with_reducible exact ih0 _ _ _ _ _ _ _)
   | (with_reducible exact ih1 _ _ _ _ _)
   | (with_reducible exact ih2 _ _ _)
   | (with_reducible exact zqR.mono _ _)
   | (with_reducible exact zcH.mono _ _ _)
   | (with_reducible exact zsO.mono _ _ _)
   | (with_reducible exact zeY.mono _ _ _)
   | (with_reducible exact ztE.mono _ _)
   | (with_reducible exact zpV.mono _ _)
   | (with_reducible exact LeO.refl _)
   | (with_reducible exact LeO.none _)
   | (with_reducible refine LeO.ite ?_ ?_)
   | (with_reducible refine LeO.bind ?_ (fun _ => ?_))
   | exact ih0 _ _ _ _ _ _ _
   | exact ih1 _ _ _ _ _
   | exact ih2 _ _ _
   | exact zqR.mono _ _
   | exact zcH.mono _ _ _
   | exact zsO.mono _ _ _
   | exact zeY.mono _ _ _
   | exact ztE.mono _ _
   | exact zpV.mono _ _
   | exact LeO.none _
   | refine LeO.ite ?_ ?_
   | refine LeO.bind ?_ (fun _ => ?_)
theorem laws_FnExactNormalPolygon.calls (k : Nat) (A0 : Option Addr) (c0 : Nat) (l0 : List (S41)) (r : Bool) (w : World) (hG : LaidV w) (hr0 : Kd.C k41 w A0 l0.length l0) (hc0 : l0.length ≤ c0) (h : laws_FnExactNormalPolygon.f k l0 = some r) :
  Calls Tryd.prog 3 #[.slice A0 l0.length c0] w fun e w' => e = .returned (.bool r) ∧ Below w.heap.size w w' := by
 have HR0 := zpS hr0
 have HC0 := zpS hc0
 clear hr0 hc0
 have HB := zpS (Below.refl w.heap.size w)
 have H : ((zeT.f l0 1048576).bind fun t519 => (if t519 < 0 then (some true) else ((ztE.f k l0).bind fun t520 => ((zpV.f k t520).bind fun bt523 => ((ztE.f k l0).bind fun t527 => ((zqR.f k t527).bind fun bt530 => ((zcH.f k bt530.1 bt523.1).bind fun t534 => (if t534 = true then (laws_FnExactNormalPolygon.j0 k l0 bt523.1 bt523.2 t527 bt530.1 bt530.2 (bt530.2 != bt523.2)) else (laws_FnExactNormalPolygon.j0 k l0 bt523.1 bt523.2 t527 bt530.1 bt530.2 true))))))))) = some r := h
 clear h
 replace H := Option.bind_eq_some_iff.mp H
 obtain ⟨t519, A20, H⟩ := H
 replace H : (if t519 < 0 then (some true) else ((ztE.f k l0).bind fun t520 => ((zpV.f k t520).bind fun bt523 => ((ztE.f k l0).bind fun t527 => ((zqR.f k t527).bind fun bt530 => ((zcH.f k bt530.1 bt523.1).bind fun t534 => (if t534 = true then (laws_FnExactNormalPolygon.j0 k l0 bt523.1 bt523.2 t527 bt530.1 bt530.2 (bt530.2 != bt523.2)) else (laws_FnExactNormalPolygon.j0 k l0 bt523.1 bt523.2 t527 bt530.1 bt530.2 true)))))))) = some r := H
 have A2 := zpS A20
 clear A20
 by_cases c3 : t519 < 0
 ·rw [if_pos c3] at H
  have c3b0 : decide (t519 < 0) = true := decide_eq_true c3
  clear c3
  obtain rfl := Option.some.inj H
  go_enter Tryd.func3, Tryd.ntmps3
  go_wp2_with (first | ((with_reducible refine zgK (f := 4) rfl ?_); refine zqQ (some 16) rfl rfl Tryd.func4 (by kernel_rfl) rfl #[.slice A0 l0.length c0, .int .i64 1048576] rfl (by (try simp only [List.map_toArray, List.map_cons, List.map_nil]); first | done | rfl | (simp only [List.length_drop, List.length_take]; rfl)) ?_; (with_reducible refine (zeT.calls _ _ l0 1048576 t519 _ ?side1 ?side2 A2.out).mono ?_); (case side1 => repeat (first | exact HR0.out | (with_reducible refine Kd.C_alloc ?_ _) | (with_reducible refine Kd.C_drewN ?_ _) | (with_reducible refine Kd.C_drew ?_))); (case side2 => exact HC0.out); rintro e w' ⟨rfl, ⟨nd, rfl⟩⟩; refine ⟨_, rfl, ?_⟩))
  go_ret
  exact ⟨by first | rfl | (simp [ziS, znJ] <;> rfl) | (simp [*, ziS, znJ] <;> rfl), bb_⟩
 ·rw [if_neg c3] at H
  have c3b0 : decide (t519 < 0) = false := decide_eq_false c3
  clear c3
  replace H := Option.bind_eq_some_iff.mp H
  obtain ⟨t520, A40, H⟩ := H
  replace H : ((zpV.f k t520).bind fun bt523 => ((ztE.f k l0).bind fun t527 => ((zqR.f k t527).bind fun bt530 => ((zcH.f k bt530.1 bt523.1).bind fun t534 => (if t534 = true then (laws_FnExactNormalPolygon.j0 k l0 bt523.1 bt523.2 t527 bt530.1 bt530.2 (bt530.2 != bt523.2)) else (laws_FnExactNormalPolygon.j0 k l0 bt523.1 bt523.2 t527 bt530.1 bt530.2 true)))))) = some r := H
  have A4 := zpS A40
  clear A40
  replace H := Option.bind_eq_some_iff.mp H
  obtain ⟨⟨t523, t524⟩, A50, H⟩ := H
  replace H : ((ztE.f k l0).bind fun t527 => ((zqR.f k t527).bind fun bt530 => ((zcH.f k bt530.1 t523).bind fun t534 => (if t534 = true then (laws_FnExactNormalPolygon.j0 k l0 t523 t524 t527 bt530.1 bt530.2 (bt530.2 != t524)) else (laws_FnExactNormalPolygon.j0 k l0 t523 t524 t527 bt530.1 bt530.2 true))))) = some r := H
  have A5 := zpS A50
  clear A50
  replace H := Option.bind_eq_some_iff.mp H
  obtain ⟨t527, A60, H⟩ := H
  replace H : ((zqR.f k t527).bind fun bt530 => ((zcH.f k bt530.1 t523).bind fun t534 => (if t534 = true then (laws_FnExactNormalPolygon.j0 k l0 t523 t524 t527 bt530.1 bt530.2 (bt530.2 != t524)) else (laws_FnExactNormalPolygon.j0 k l0 t523 t524 t527 bt530.1 bt530.2 true)))) = some r := H
  have A6 := zpS A60
  clear A60
  replace H := Option.bind_eq_some_iff.mp H
  obtain ⟨⟨t530, t533⟩, A70, H⟩ := H
  replace H : ((zcH.f k t530 t523).bind fun t534 => (if t534 = true then (laws_FnExactNormalPolygon.j0 k l0 t523 t524 t527 t530 t533 (t533 != t524)) else (laws_FnExactNormalPolygon.j0 k l0 t523 t524 t527 t530 t533 true))) = some r := H
  have A7 := zpS A70
  clear A70
  have HC8 := zpS H
  clear H
  go_enter Tryd.func3, Tryd.ntmps3
  go_upto_region 8 with (first | ((with_reducible refine zgK (f := 4) rfl ?_); refine zqQ (some 16) rfl rfl Tryd.func4 (by kernel_rfl) rfl #[.slice A0 l0.length c0, .int .i64 1048576] rfl (by (try simp only [List.map_toArray, List.map_cons, List.map_nil]); first | done | rfl | (simp only [List.length_drop, List.length_take]; rfl)) ?_; (with_reducible refine (zeT.calls _ _ l0 1048576 t519 _ ?side1 ?side2 A2.out).mono ?_); (case side1 => repeat (first | exact HR0.out | (with_reducible refine Kd.C_alloc ?_ _) | (with_reducible refine Kd.C_drewN ?_ _) | (with_reducible refine Kd.C_drew ?_))); (case side2 => exact HC0.out); rintro e w' ⟨rfl, ⟨nd, rfl⟩⟩; refine ⟨_, rfl, ?_⟩) | ((with_reducible refine zgK (f := 6) rfl ?_); refine zqQ (some 21) rfl rfl Tryd.func6 (by kernel_rfl) rfl #[.slice A0 l0.length c0] rfl (by (try simp only [List.map_toArray, List.map_cons, List.map_nil]); first | done | rfl | (simp only [List.length_drop, List.length_take]; rfl)) ?_; (with_reducible refine (ztE.calls k _ _ l0 t520 _ ?side1 ?side2 A4.out).mono ?_); (case side1 => repeat (first | exact HR0.out | (with_reducible refine Kd.C_alloc ?_ _) | (with_reducible refine Kd.C_drewN ?_ _) | (with_reducible refine Kd.C_drew ?_))); (case side2 => exact HC0.out); rintro e w9 ⟨v521, rfl, ho0, hb⟩; refine ⟨_, rfl, ?_⟩; have n0_ := zpS (Kd.R_lower ho0 (zuA bb_)); have n1_ := (ns_ hb); clear HB; have HO522 := n0_; have HB := n1_; clear n0_ n1_; (try clear hb); (try clear hb2); (try clear ho0); obtain ⟨Ao10, co10, eo10⟩ := Kd.R_slice HO522.out; subst eo10) | ((with_reducible refine zgK (f := 5) rfl ?_); refine zqQ (some 22) rfl rfl Tryd.func5 (by kernel_rfl) rfl #[.slice Ao10 t520.length co10] rfl (by (try simp only [List.map_toArray, List.map_cons, List.map_nil]); first | done | rfl | (simp only [List.length_drop, List.length_take]; rfl)) ?_; (with_reducible refine (zpV.calls k _ _ t520 t523 t524 _ ?side1 ?side2 A5.out).mono ?_); (case side1 => repeat (first | exact (Kd.R_reads' HO522.out).2.2 | (with_reducible refine Kd.C_alloc ?_ _) | (with_reducible refine Kd.C_drewN ?_ _) | (with_reducible refine Kd.C_drew ?_))); (case side2 => exact (Kd.R_reads' HO522.out).2.1); rintro e w11 ⟨v525, rfl, ho0, hb⟩; refine ⟨_, rfl, ?_⟩; have n0_ := zpS (Kd.R_elder' (by (with_reducible repeat (first | apply Kd.R_alloc | apply Kd.R_drewN | apply Kd.R_drew)); exact HO522.out) (Kd.R_base ho0) hb); have n1_ := zpS (Kd.R_lower (Kd.R_new' ho0 (Kd.R_lt (by (with_reducible repeat (first | apply Kd.R_alloc | apply Kd.R_drewN | apply Kd.R_drew)); exact HO522.out))) (zuA bb_)); have n2_ := (ns_ hb); clear HO522; clear HB; have HO522 := n0_; have HO526 := n1_; have HB := n2_; clear n0_ n1_ n2_; (try clear hb); (try clear hb2); (try clear ho0)) | ((with_reducible refine zgK (f := 6) rfl ?_); refine zqQ (some 26) rfl rfl Tryd.func6 (by kernel_rfl) rfl #[.slice A0 l0.length c0] rfl (by (try simp only [List.map_toArray, List.map_cons, List.map_nil]); first | done | rfl | (simp only [List.length_drop, List.length_take]; rfl)) ?_; (with_reducible refine (ztE.calls k _ _ l0 t527 _ ?side1 ?side2 A6.out).mono ?_); (case side1 => repeat (first | exact (Kd.C_below HR0.out HB.out) | (with_reducible refine Kd.C_alloc ?_ _) | (with_reducible refine Kd.C_drewN ?_ _) | (with_reducible refine Kd.C_drew ?_))); (case side2 => exact HC0.out); rintro e w12 ⟨v528, rfl, ho0, hb⟩; refine ⟨_, rfl, ?_⟩; have n0_ := zpS (Kd.R_elder' (by (with_reducible repeat (first | apply Kd.R_alloc | apply Kd.R_drewN | apply Kd.R_drew)); exact HO522.out) (Kd.R_base ho0) hb); have n1_ := zpS (Kd.R_elder' (by (with_reducible repeat (first | apply Kd.R_alloc | apply Kd.R_drewN | apply Kd.R_drew)); exact HO526.out) (Kd.R_base ho0) hb); have n2_ := zpS (Kd.R_lower (Kd.R_new' (Kd.R_new' ho0 (Kd.R_lt (by (with_reducible repeat (first | apply Kd.R_alloc | apply Kd.R_drewN | apply Kd.R_drew)); exact HO522.out))) (Kd.R_lt (by (with_reducible repeat (first | apply Kd.R_alloc | apply Kd.R_drewN | apply Kd.R_drew)); exact HO526.out))) (zuA bb_)); have n3_ := (ns_ hb); clear HO522; clear HO526; clear HB; have HO522 := n0_; have HO526 := n1_; have HO529 := n2_; have HB := n3_; clear n0_ n1_ n2_ n3_; (try clear hb); (try clear hb2); (try clear ho0); obtain ⟨Ao13, co13, eo13⟩ := Kd.R_slice HO529.out; subst eo13) | ((with_reducible refine zgK (f := 7) rfl ?_); refine zqQ (some 29) rfl rfl Tryd.func7 (by kernel_rfl) rfl #[.slice Ao13 t527.length co13] rfl (by (try simp only [List.map_toArray, List.map_cons, List.map_nil]); first | done | rfl | (simp only [List.length_drop, List.length_take]; rfl)) ?_; (with_reducible refine (zqR.calls k (fun k_ => some k_ = (.slice Ao13 t527.length co13 : Value).ownBlock) _ _ t527 t530 t533 _ ?side2 ?side1 A7.out).mono ?_); (case side1 => exact Kd.R_V (Kd.R_tight rfl (HO529.out))); (case side2 => exact LaidV.below hG bb_); rintro e w14 ⟨v531, rfl, ho0, hb⟩; refine ⟨_, rfl, ?_⟩; have n0_ := zpS (Kd.R_elder' (by (with_reducible repeat (first | apply Kd.R_alloc | apply Kd.R_drewN | apply Kd.R_drew)); exact HO522.out) (Kd.R_base ho0) hb); have n1_ := zpS (Kd.R_elder' (by (with_reducible repeat (first | apply Kd.R_alloc | apply Kd.R_drewN | apply Kd.R_drew)); exact HO526.out) (Kd.R_base ho0) hb); have n2_ := zpS (Kd.R_elder' (by (with_reducible repeat (first | apply Kd.R_alloc | apply Kd.R_drewN | apply Kd.R_drew)); exact HO529.out) (Kd.R_base ho0) hb); have n3_ := zpS (Kd.R_lower (Kd.R_new' (Kd.R_new' (Kd.R_new' (Kd.R_mono (ok' := fun k_ => True) ho0 (fun _ hk_ => trivial)) (Kd.R_lt (by (with_reducible repeat (first | apply Kd.R_alloc | apply Kd.R_drewN | apply Kd.R_drew)); exact HO522.out))) (Kd.R_lt (by (with_reducible repeat (first | apply Kd.R_alloc | apply Kd.R_drewN | apply Kd.R_drew)); exact HO526.out))) (Kd.R_lt (by (with_reducible repeat (first | apply Kd.R_alloc | apply Kd.R_drewN | apply Kd.R_drew)); exact HO529.out))) (zuA bb_)); have n4_ := (ns_ hb); clear HO522; clear HO526; clear HO529; clear HB; have HO522 := n0_; have HO526 := n1_; have HO529 := n2_; have HO532 := n3_; have HB := n4_; clear n0_ n1_ n2_ n3_ n4_; (try clear hb); (try clear hb2); (try clear ho0)))
  (try simp only [Act.put, set_a_, set_b_, set_c_])
  go_cut [40] (fun v40 wc => ∃ (kq : Nat) (x40_7 : Bool), v40 = .bool x40_7 ∧ Aside0 (laws_FnExactNormalPolygon.j0 kq l0 t523 t524 t527 t530 t533 x40_7 = some r) ∧ Aside0 (kq ≤ k) ∧ Aside0 (Kd.R k35 35 wc w.heap.size (fun k_ => some k_ ≠ ((.slice Ao13 t527.length co13) : Value).ownBlock ∧ some k_ ≠ (v531 : Value).ownBlock) v525 t523) ∧ Aside0 (Kd.R k35 35 wc w.heap.size (fun k_ => some k_ ≠ (v525 : Value).ownBlock ∧ some k_ ≠ (v531 : Value).ownBlock) (.slice Ao13 t527.length co13) t527) ∧ Aside0 (Kd.R k35 35 wc w.heap.size (fun k_ => some k_ ≠ (v525 : Value).ownBlock ∧ some k_ ≠ ((.slice Ao13 t527.length co13) : Value).ownBlock) v531 t530) ∧ Aside0 (Below w.heap.size w wc))
  case first =>
   have H := HC8.out
   clear HC8
   replace H := Option.bind_eq_some_iff.mp H
   obtain ⟨t534, A150, H⟩ := H
   replace H : (if t534 = true then (laws_FnExactNormalPolygon.j0 k l0 t523 t524 t527 t530 t533 (t533 != t524)) else (laws_FnExactNormalPolygon.j0 k l0 t523 t524 t527 t530 t533 true)) = some r := H
   have A15 := zpS A150
   clear A150
   by_cases c16 : t534 = true
   ·subst c16
    have H1 : (laws_FnExactNormalPolygon.j0 k l0 t523 t524 t527 t530 t533 (t533 != t524)) = some r := by rw [if_pos rfl] at H; exact H
    clear H
    have H := H1
    clear H1
    have H' := zpS H
    clear H
    obtain ⟨Ao17, co17, eo17⟩ := Kd.R_slice HO532.out
    subst eo17
    obtain ⟨Ao18, co18, eo18⟩ := Kd.R_slice HO526.out
    subst eo18
    go_wp2_with (first | ((with_reducible refine zgK (f := 8) rfl ?_); refine zqQ (some 34) rfl rfl Tryd.func8 (by kernel_rfl) rfl #[.slice Ao17 t530.length co17, .slice Ao18 t523.length co18] rfl (by (try simp only [List.map_toArray, List.map_cons, List.map_nil]); first | done | rfl | (simp only [List.length_drop, List.length_take]; rfl)) ?_; (with_reducible refine (zcH.calls k _ _ t530 _ _ t523 true _ ?side1 ?side2 ?side3 ?side4 A15.out).mono ?_); (case side1 => repeat (first | exact (Kd.R_reads' HO532.out).2.2 | (with_reducible refine Kd.C_alloc ?_ _) | (with_reducible refine Kd.C_drewN ?_ _) | (with_reducible refine Kd.C_drew ?_))); (case side2 => exact (Kd.R_reads' HO532.out).2.1); (case side3 => repeat (first | exact (Kd.R_reads' HO526.out).2.2 | (with_reducible refine Kd.C_alloc ?_ _) | (with_reducible refine Kd.C_drewN ?_ _) | (with_reducible refine Kd.C_drew ?_))); (case side4 => exact (Kd.R_reads' HO526.out).2.1); rintro e w19 ⟨rfl, hb⟩; refine ⟨_, rfl, ?_⟩; have n0_ := zpS (Kd.R_below (by (with_reducible repeat (first | apply Kd.R_alloc | apply Kd.R_drewN | apply Kd.R_drew)); exact HO522.out) hb); have n1_ := zpS (Kd.R_below (by (with_reducible repeat (first | apply Kd.R_alloc | apply Kd.R_drewN | apply Kd.R_drew)); exact HO526.out) hb); have n2_ := zpS (Kd.R_below (by (with_reducible repeat (first | apply Kd.R_alloc | apply Kd.R_drewN | apply Kd.R_drew)); exact HO529.out) hb); have n3_ := zpS (Kd.R_below (by (with_reducible repeat (first | apply Kd.R_alloc | apply Kd.R_drewN | apply Kd.R_drew)); exact HO532.out) hb); have n4_ := (ns_ hb); clear HO522; clear HO526; clear HO529; clear HO532; clear HB; have HO522 := n0_; have HO526 := n1_; have HO529 := n2_; have HO532 := n3_; have HB := n4_; clear n0_ n1_ n2_ n3_ n4_; (try clear hb); (try clear hb2)))
    go_meet
    case rel => exact ⟨_, ((t533 != t524)), (by first | rfl | (simp; done) | (simp [*]; done)), H', ⟨by first | omega | exact Nat.le_refl _⟩, ⟨by (with_reducible repeat (first | apply Kd.R_alloc | apply Kd.R_drewN | apply Kd.R_drew)); exact Kd.R_mono HO526.out (fun _ hk => ⟨hk.1.2, hk.2⟩)⟩, ⟨by (with_reducible repeat (first | apply Kd.R_alloc | apply Kd.R_drewN | apply Kd.R_drew)); exact Kd.R_mono HO529.out (fun _ hk => ⟨hk.1.2, hk.2⟩)⟩, ⟨by (with_reducible repeat (first | apply Kd.R_alloc | apply Kd.R_drewN | apply Kd.R_drew)); exact Kd.R_mono HO532.out (fun _ hk => ⟨hk.1.2, hk.2⟩)⟩, ⟨bb_⟩⟩
   ·replace c16 := Bool.eq_false_iff.mpr c16
    subst c16
    have H1 : (laws_FnExactNormalPolygon.j0 k l0 t523 t524 t527 t530 t533 true) = some r := by rw [if_neg (show ¬ (false = true) by decide)] at H; exact H
    clear H
    have H := H1
    clear H1
    have H' := zpS H
    clear H
    obtain ⟨Ao20, co20, eo20⟩ := Kd.R_slice HO532.out
    subst eo20
    obtain ⟨Ao21, co21, eo21⟩ := Kd.R_slice HO526.out
    subst eo21
    go_wp2_with (first | ((with_reducible refine zgK (f := 8) rfl ?_); refine zqQ (some 34) rfl rfl Tryd.func8 (by kernel_rfl) rfl #[.slice Ao20 t530.length co20, .slice Ao21 t523.length co21] rfl (by (try simp only [List.map_toArray, List.map_cons, List.map_nil]); first | done | rfl | (simp only [List.length_drop, List.length_take]; rfl)) ?_; (with_reducible refine (zcH.calls k _ _ t530 _ _ t523 false _ ?side1 ?side2 ?side3 ?side4 A15.out).mono ?_); (case side1 => repeat (first | exact (Kd.R_reads' HO532.out).2.2 | (with_reducible refine Kd.C_alloc ?_ _) | (with_reducible refine Kd.C_drewN ?_ _) | (with_reducible refine Kd.C_drew ?_))); (case side2 => exact (Kd.R_reads' HO532.out).2.1); (case side3 => repeat (first | exact (Kd.R_reads' HO526.out).2.2 | (with_reducible refine Kd.C_alloc ?_ _) | (with_reducible refine Kd.C_drewN ?_ _) | (with_reducible refine Kd.C_drew ?_))); (case side4 => exact (Kd.R_reads' HO526.out).2.1); rintro e w22 ⟨rfl, hb⟩; refine ⟨_, rfl, ?_⟩; have n0_ := zpS (Kd.R_below (by (with_reducible repeat (first | apply Kd.R_alloc | apply Kd.R_drewN | apply Kd.R_drew)); exact HO522.out) hb); have n1_ := zpS (Kd.R_below (by (with_reducible repeat (first | apply Kd.R_alloc | apply Kd.R_drewN | apply Kd.R_drew)); exact HO526.out) hb); have n2_ := zpS (Kd.R_below (by (with_reducible repeat (first | apply Kd.R_alloc | apply Kd.R_drewN | apply Kd.R_drew)); exact HO529.out) hb); have n3_ := zpS (Kd.R_below (by (with_reducible repeat (first | apply Kd.R_alloc | apply Kd.R_drewN | apply Kd.R_drew)); exact HO532.out) hb); have n4_ := (ns_ hb); clear HO522; clear HO526; clear HO529; clear HO532; clear HB; have HO522 := n0_; have HO526 := n1_; have HO529 := n2_; have HO532 := n3_; have HB := n4_; clear n0_ n1_ n2_ n3_ n4_; (try clear hb); (try clear hb2)))
    go_meet
    case rel => exact ⟨_, (true), (by first | rfl | (simp; done) | (simp [*]; done)), H', ⟨by first | omega | exact Nat.le_refl _⟩, ⟨by (with_reducible repeat (first | apply Kd.R_alloc | apply Kd.R_drewN | apply Kd.R_drew)); exact Kd.R_mono HO526.out (fun _ hk => ⟨hk.1.2, hk.2⟩)⟩, ⟨by (with_reducible repeat (first | apply Kd.R_alloc | apply Kd.R_drewN | apply Kd.R_drew)); exact Kd.R_mono HO529.out (fun _ hk => ⟨hk.1.2, hk.2⟩)⟩, ⟨by (with_reducible repeat (first | apply Kd.R_alloc | apply Kd.R_drewN | apply Kd.R_drew)); exact Kd.R_mono HO532.out (fun _ hk => ⟨hk.1.2, hk.2⟩)⟩, ⟨bb_⟩⟩
  case rest =>
   clear HC8
   try clear c1
   try clear p2
   try clear c3
   try clear c3b0
   try clear c4
   try clear c5
   try clear c6
   try clear c7
   try clear c8
   try clear c16
   obtain ⟨kq, x40_7, rfl, HA, HJ7, HO_4, HO_6, HO_7, HB⟩ := hcut
   cases kq with
   | zero => exact absurd HA.out (by simp [laws_FnExactNormalPolygon.j0])
   | succ kj7 =>
    have H := HA.out
    clear HA
    simp only [laws_FnExactNormalPolygon.j0] at H
    by_cases c23 : x40_7 = true
    ·subst c23
     have H1 : (none) = some r := by rw [if_pos rfl] at H; exact H
     clear H
     have H := H1
     clear H1
     exact absurd H (by simp)
    ·replace c23 := Bool.eq_false_iff.mpr c23
     subst c23
     have H1 : ((ztE.f kj7 l0).bind fun t535 => ((zcH.f kj7 t527 t535).bind fun t538 => (if t538 = true then ((zeY.f kj7 t527 1).bind fun bt539 => (if bt539.1 < 0 then (laws_FnExactNormalPolygon.j1 kj7 l0 t523 t524 t530 true) else ((zcH.f kj7 t530 t523).bind fun t541 => (if t541 = true then (laws_FnExactNormalPolygon.j1 kj7 l0 t523 t524 t530 (t533 != t524)) else (laws_FnExactNormalPolygon.j1 kj7 l0 t523 t524 t530 true))))) else (none)))) = some r := by rw [if_neg (show ¬ (false = true) by decide)] at H; exact H
     clear H
     have H := H1
     clear H1
     replace H := Option.bind_eq_some_iff.mp H
     obtain ⟨t535, A240, H⟩ := H
     replace H : ((zcH.f kj7 t527 t535).bind fun t538 => (if t538 = true then ((zeY.f kj7 t527 1).bind fun bt539 => (if bt539.1 < 0 then (laws_FnExactNormalPolygon.j1 kj7 l0 t523 t524 t530 true) else ((zcH.f kj7 t530 t523).bind fun t541 => (if t541 = true then (laws_FnExactNormalPolygon.j1 kj7 l0 t523 t524 t530 (t533 != t524)) else (laws_FnExactNormalPolygon.j1 kj7 l0 t523 t524 t530 true))))) else (none))) = some r := H
     have A24 := zpS A240
     clear A240
     replace H := Option.bind_eq_some_iff.mp H
     obtain ⟨t538, A250, H⟩ := H
     replace H : (if t538 = true then ((zeY.f kj7 t527 1).bind fun bt539 => (if bt539.1 < 0 then (laws_FnExactNormalPolygon.j1 kj7 l0 t523 t524 t530 true) else ((zcH.f kj7 t530 t523).bind fun t541 => (if t541 = true then (laws_FnExactNormalPolygon.j1 kj7 l0 t523 t524 t530 (t533 != t524)) else (laws_FnExactNormalPolygon.j1 kj7 l0 t523 t524 t530 true))))) else (none)) = some r := H
     have A25 := zpS A250
     clear A250
     by_cases c26 : t538 = true
     ·subst c26
      have H1 : ((zeY.f kj7 t527 1).bind fun bt539 => (if bt539.1 < 0 then (laws_FnExactNormalPolygon.j1 kj7 l0 t523 t524 t530 true) else ((zcH.f kj7 t530 t523).bind fun t541 => (if t541 = true then (laws_FnExactNormalPolygon.j1 kj7 l0 t523 t524 t530 (t533 != t524)) else (laws_FnExactNormalPolygon.j1 kj7 l0 t523 t524 t530 true))))) = some r := by rw [if_pos rfl] at H; exact H
      clear H
      have H := H1
      clear H1
      replace H := Option.bind_eq_some_iff.mp H
      obtain ⟨⟨t539, t540⟩, A270, H⟩ := H
      replace H : (if t539 < 0 then (laws_FnExactNormalPolygon.j1 kj7 l0 t523 t524 t530 true) else ((zcH.f kj7 t530 t523).bind fun t541 => (if t541 = true then (laws_FnExactNormalPolygon.j1 kj7 l0 t523 t524 t530 (t533 != t524)) else (laws_FnExactNormalPolygon.j1 kj7 l0 t523 t524 t530 true)))) = some r := H
      have A27 := zpS A270
      clear A270
      have HC28 := zpS H
      clear H
      go_upto_region 14 with (first | ((with_reducible refine zgK (f := 6) rfl ?_); refine zqQ (some 43) rfl rfl Tryd.func6 (by kernel_rfl) rfl #[.slice A0 l0.length c0] rfl (by (try simp only [List.map_toArray, List.map_cons, List.map_nil]); first | done | rfl | (simp only [List.length_drop, List.length_take]; rfl)) ?_; (with_reducible refine (ztE.calls kj7 _ _ l0 t535 _ ?side1 ?side2 A24.out).mono ?_); (case side1 => repeat (first | exact (Kd.C_below HR0.out HB.out) | (with_reducible refine Kd.C_alloc ?_ _) | (with_reducible refine Kd.C_drewN ?_ _) | (with_reducible refine Kd.C_drew ?_))); (case side2 => exact HC0.out); rintro e w29 ⟨v536, rfl, ho0, hb⟩; refine ⟨_, rfl, ?_⟩; have n0_ := zpS (Kd.R_elder' (by (with_reducible repeat (first | apply Kd.R_alloc | apply Kd.R_drewN | apply Kd.R_drew)); exact HO_4.out) (Kd.R_base ho0) hb); have n1_ := zpS (Kd.R_elder' (by (with_reducible repeat (first | apply Kd.R_alloc | apply Kd.R_drewN | apply Kd.R_drew)); exact HO_6.out) (Kd.R_base ho0) hb); have n2_ := zpS (Kd.R_elder' (by (with_reducible repeat (first | apply Kd.R_alloc | apply Kd.R_drewN | apply Kd.R_drew)); exact HO_7.out) (Kd.R_base ho0) hb); have n3_ := zpS (Kd.R_lower (Kd.R_new' (Kd.R_new' (Kd.R_new' ho0 (Kd.R_lt (by (with_reducible repeat (first | apply Kd.R_alloc | apply Kd.R_drewN | apply Kd.R_drew)); exact HO_4.out))) (Kd.R_lt (by (with_reducible repeat (first | apply Kd.R_alloc | apply Kd.R_drewN | apply Kd.R_drew)); exact HO_6.out))) (Kd.R_lt (by (with_reducible repeat (first | apply Kd.R_alloc | apply Kd.R_drewN | apply Kd.R_drew)); exact HO_7.out))) (zuA bb_)); have n4_ := (ns_ hb); clear HO_4; clear HO_6; clear HO_7; clear HB; have HO_4 := n0_; have HO_6 := n1_; have HO_7 := n2_; have HO537 := n3_; have HB := n4_; clear n0_ n1_ n2_ n3_ n4_; (try clear hb); (try clear hb2); (try clear ho0); obtain ⟨Ao30, co30, eo30⟩ := Kd.R_slice HO537.out; subst eo30) | ((with_reducible refine zgK (f := 8) rfl ?_); refine zqQ (some 44) rfl rfl Tryd.func8 (by kernel_rfl) rfl #[.slice Ao13 t527.length co13, .slice Ao30 t535.length co30] rfl (by (try simp only [List.map_toArray, List.map_cons, List.map_nil]); first | done | rfl | (simp only [List.length_drop, List.length_take]; rfl)) ?_; (with_reducible refine (zcH.calls kj7 _ _ t527 _ _ t535 true _ ?side1 ?side2 ?side3 ?side4 A25.out).mono ?_); (case side1 => repeat (first | exact (Kd.R_reads' HO_6.out).2.2 | (with_reducible refine Kd.C_alloc ?_ _) | (with_reducible refine Kd.C_drewN ?_ _) | (with_reducible refine Kd.C_drew ?_))); (case side2 => exact (Kd.R_reads' HO_6.out).2.1); (case side3 => repeat (first | exact (Kd.R_reads' HO537.out).2.2 | (with_reducible refine Kd.C_alloc ?_ _) | (with_reducible refine Kd.C_drewN ?_ _) | (with_reducible refine Kd.C_drew ?_))); (case side4 => exact (Kd.R_reads' HO537.out).2.1); rintro e w31 ⟨rfl, hb⟩; refine ⟨_, rfl, ?_⟩; have n0_ := zpS (Kd.R_below (by (with_reducible repeat (first | apply Kd.R_alloc | apply Kd.R_drewN | apply Kd.R_drew)); exact HO_4.out) hb); have n1_ := zpS (Kd.R_below (by (with_reducible repeat (first | apply Kd.R_alloc | apply Kd.R_drewN | apply Kd.R_drew)); exact HO_6.out) hb); have n2_ := zpS (Kd.R_below (by (with_reducible repeat (first | apply Kd.R_alloc | apply Kd.R_drewN | apply Kd.R_drew)); exact HO_7.out) hb); have n3_ := zpS (Kd.R_below (by (with_reducible repeat (first | apply Kd.R_alloc | apply Kd.R_drewN | apply Kd.R_drew)); exact HO537.out) hb); have n4_ := (ns_ hb); clear HO_4; clear HO_6; clear HO_7; clear HO537; clear HB; have HO_4 := n0_; have HO_6 := n1_; have HO_7 := n2_; have HO537 := n3_; have HB := n4_; clear n0_ n1_ n2_ n3_ n4_; (try clear hb); (try clear hb2)) | ((with_reducible refine zgK (f := 9) rfl ?_); refine zqQ (some 48) rfl rfl Tryd.func9 (by kernel_rfl) rfl #[.slice Ao13 t527.length co13, .int .i64 1] rfl (by (try simp only [List.map_toArray, List.map_cons, List.map_nil]); first | done | rfl | (simp only [List.length_drop, List.length_take]; rfl)) ?_; (with_reducible refine (zeY.calls kj7 (fun k_ => some k_ = (.slice Ao13 t527.length co13 : Value).ownBlock) (.slice Ao13 t527.length co13) t527 1 t539 t540 w _ ?side1 ?side2 A27.out).mono ?_); (case side1 => repeat (first | (with_reducible first | exact HB.out | apply znU | apply zkZ | apply zvF) | exact HB.out)); (case side2 => exact Kd.R_tight rfl HO_6.out); rintro e w32 ⟨rfl, hy0, hb, hkp⟩; refine ⟨_, rfl, ?_⟩; have n0_ := zpS (Kd.R_mono (ok' := fun k_ => some k_ ≠ (.slice Ao13 t527.length co13 : Value).ownBlock ∧ some k_ ≠ (v531 : Value).ownBlock ∧ some k_ ≠ (.slice Ao30 t535.length co30 : Value).ownBlock) (Kd.R_keptB (HO_4.out) hkp (fun k_ hk_ hs_ => (hk_.1.1) hs_)) (fun k_ hk_ => ⟨hk_.1.1.1, hk_.1.1.2, hk_.1.2⟩)); have n1_ := zpS (Kd.R_reok rfl hy0 (fun k_ e_ => HO_6.out.1 k_ e_)); have n2_ := zpS (Kd.R_mono (ok' := fun k_ => some k_ ≠ (v525 : Value).ownBlock ∧ some k_ ≠ (.slice Ao13 t527.length co13 : Value).ownBlock ∧ some k_ ≠ (.slice Ao30 t535.length co30 : Value).ownBlock) (Kd.R_keptB (HO_7.out) hkp (fun k_ hk_ hs_ => (hk_.1.2) hs_)) (fun k_ hk_ => ⟨hk_.1.1.1, hk_.1.1.2, hk_.1.2⟩)); have n3_ := zpS (Kd.R_mono (ok' := fun k_ => some k_ ≠ (v525 : Value).ownBlock ∧ some k_ ≠ (.slice Ao13 t527.length co13 : Value).ownBlock ∧ some k_ ≠ (v531 : Value).ownBlock) (Kd.R_keptB (HO537.out) hkp (fun k_ hk_ hs_ => (hk_.1.2) hs_)) (fun k_ hk_ => ⟨hk_.1.1.1.2, hk_.1.1.2, hk_.1.2⟩)); have n4_ := zpS (hb); clear HO_4; clear HO_6; clear HO_7; clear HO537; clear HB; have HO_4 := n0_; have HO_6 := n1_; have HO_7 := n2_; have HO537 := n3_; have HB := n4_; clear n0_ n1_ n2_ n3_ n4_; (try clear hb); (try clear hkp); (try clear hy0)))
      (try simp only [Act.put, set_a_, set_b_, set_c_])
      go_cut [61] (fun v61 wc => ∃ (kq : Nat) (x61_27 : Bool), v61 = .bool x61_27 ∧ Aside0 (laws_FnExactNormalPolygon.j1 kq l0 t523 t524 t530 x61_27 = some r) ∧ Aside0 (kq ≤ kj7) ∧ Aside0 (Kd.R k35 35 wc w.heap.size (fun k_ => some k_ ≠ (v531 : Value).ownBlock) v525 t523) ∧ Aside0 (Kd.R k35 35 wc w.heap.size (fun k_ => some k_ ≠ (v525 : Value).ownBlock) v531 t530) ∧ Aside0 (Below w.heap.size w wc))
      case first =>
       have H := HC28.out
       clear HC28
       by_cases c33 : t539 < 0
       ·rw [if_pos c33] at H
        have c33b0 : decide (t539 < 0) = true := decide_eq_true c33
        clear c33
        (first | rw [c33b0] | (simp only [zcM, ziK]; rw [c33b0]) | skip)
        have H' := zpS H
        clear H
        go_wp2
        go_meet
        case rel => exact ⟨_, (true), (by first | rfl | (simp; done) | (simp [*]; done)), H', ⟨by have := HJ7.out; first | omega | exact Nat.le_refl _⟩, ⟨by (with_reducible repeat (first | apply Kd.R_alloc | apply Kd.R_drewN | apply Kd.R_drew)); exact Kd.R_mono HO_4.out (fun _ hk => hk.2.1)⟩, ⟨by (with_reducible repeat (first | apply Kd.R_alloc | apply Kd.R_drewN | apply Kd.R_drew)); exact Kd.R_mono HO_7.out (fun _ hk => hk.1)⟩, ⟨bb_⟩⟩
       ·rw [if_neg c33] at H
        have c33b0 : decide (t539 < 0) = false := decide_eq_false c33
        clear c33
        (first | rw [c33b0] | (simp only [zcM, ziK]; rw [c33b0]) | skip)
        replace H := Option.bind_eq_some_iff.mp H
        obtain ⟨t541, A340, H⟩ := H
        replace H : (if t541 = true then (laws_FnExactNormalPolygon.j1 kj7 l0 t523 t524 t530 (t533 != t524)) else (laws_FnExactNormalPolygon.j1 kj7 l0 t523 t524 t530 true)) = some r := H
        have A34 := zpS A340
        clear A340
        by_cases c35 : t541 = true
        ·subst c35
         have H1 : (laws_FnExactNormalPolygon.j1 kj7 l0 t523 t524 t530 (t533 != t524)) = some r := by rw [if_pos rfl] at H; exact H
         clear H
         have H := H1
         clear H1
         have H' := zpS H
         clear H
         obtain ⟨Ao36, co36, eo36⟩ := Kd.R_slice HO_7.out
         subst eo36
         obtain ⟨Ao37, co37, eo37⟩ := Kd.R_slice HO_4.out
         subst eo37
         go_wp2_with (first | (go_at_call 8; (with_reducible refine (zcH.calls kj7 _ _ t530 _ _ t523 true _ ?side1 ?side2 ?side3 ?side4 A34.out).mono ?_); (case side1 => repeat (first | exact (Kd.R_reads' HO_7.out).2.2 | (with_reducible refine Kd.C_alloc ?_ _) | (with_reducible refine Kd.C_drewN ?_ _) | (with_reducible refine Kd.C_drew ?_))); (case side2 => exact (Kd.R_reads' HO_7.out).2.1); (case side3 => repeat (first | exact (Kd.R_reads' HO_4.out).2.2 | (with_reducible refine Kd.C_alloc ?_ _) | (with_reducible refine Kd.C_drewN ?_ _) | (with_reducible refine Kd.C_drew ?_))); (case side4 => exact (Kd.R_reads' HO_4.out).2.1); rintro e w38 ⟨rfl, hb⟩; have n0_ := zpS (Kd.R_below (by (with_reducible repeat (first | apply Kd.R_alloc | apply Kd.R_drewN | apply Kd.R_drew)); exact HO_4.out) hb); have n1_ := zpS (Kd.R_below (by (with_reducible repeat (first | apply Kd.R_alloc | apply Kd.R_drewN | apply Kd.R_drew)); exact HO_6.out) hb); have n2_ := zpS (Kd.R_below (by (with_reducible repeat (first | apply Kd.R_alloc | apply Kd.R_drewN | apply Kd.R_drew)); exact HO_7.out) hb); have n3_ := zpS (Kd.R_below (by (with_reducible repeat (first | apply Kd.R_alloc | apply Kd.R_drewN | apply Kd.R_drew)); exact HO537.out) hb); have n4_ := (ns_ hb); clear HO_4; clear HO_6; clear HO_7; clear HO537; clear HB; have HO_4 := n0_; have HO_6 := n1_; have HO_7 := n2_; have HO537 := n3_; have HB := n4_; clear n0_ n1_ n2_ n3_ n4_; (try clear hb); (try clear hb2)))
         go_meet
         case rel => exact ⟨_, ((t533 != t524)), (by first | rfl | (simp; done) | (simp [*]; done)), H', ⟨by have := HJ7.out; first | omega | exact Nat.le_refl _⟩, ⟨by (with_reducible repeat (first | apply Kd.R_alloc | apply Kd.R_drewN | apply Kd.R_drew)); exact Kd.R_mono HO_4.out (fun _ hk => hk.2.1)⟩, ⟨by (with_reducible repeat (first | apply Kd.R_alloc | apply Kd.R_drewN | apply Kd.R_drew)); exact Kd.R_mono HO_7.out (fun _ hk => hk.1)⟩, ⟨bb_⟩⟩
        ·replace c35 := Bool.eq_false_iff.mpr c35
         subst c35
         have H1 : (laws_FnExactNormalPolygon.j1 kj7 l0 t523 t524 t530 true) = some r := by rw [if_neg (show ¬ (false = true) by decide)] at H; exact H
         clear H
         have H := H1
         clear H1
         have H' := zpS H
         clear H
         obtain ⟨Ao39, co39, eo39⟩ := Kd.R_slice HO_7.out
         subst eo39
         obtain ⟨Ao40, co40, eo40⟩ := Kd.R_slice HO_4.out
         subst eo40
         go_wp2_with (first | (go_at_call 8; (with_reducible refine (zcH.calls kj7 _ _ t530 _ _ t523 false _ ?side1 ?side2 ?side3 ?side4 A34.out).mono ?_); (case side1 => repeat (first | exact (Kd.R_reads' HO_7.out).2.2 | (with_reducible refine Kd.C_alloc ?_ _) | (with_reducible refine Kd.C_drewN ?_ _) | (with_reducible refine Kd.C_drew ?_))); (case side2 => exact (Kd.R_reads' HO_7.out).2.1); (case side3 => repeat (first | exact (Kd.R_reads' HO_4.out).2.2 | (with_reducible refine Kd.C_alloc ?_ _) | (with_reducible refine Kd.C_drewN ?_ _) | (with_reducible refine Kd.C_drew ?_))); (case side4 => exact (Kd.R_reads' HO_4.out).2.1); rintro e w41 ⟨rfl, hb⟩; have n0_ := zpS (Kd.R_below (by (with_reducible repeat (first | apply Kd.R_alloc | apply Kd.R_drewN | apply Kd.R_drew)); exact HO_4.out) hb); have n1_ := zpS (Kd.R_below (by (with_reducible repeat (first | apply Kd.R_alloc | apply Kd.R_drewN | apply Kd.R_drew)); exact HO_6.out) hb); have n2_ := zpS (Kd.R_below (by (with_reducible repeat (first | apply Kd.R_alloc | apply Kd.R_drewN | apply Kd.R_drew)); exact HO_7.out) hb); have n3_ := zpS (Kd.R_below (by (with_reducible repeat (first | apply Kd.R_alloc | apply Kd.R_drewN | apply Kd.R_drew)); exact HO537.out) hb); have n4_ := (ns_ hb); clear HO_4; clear HO_6; clear HO_7; clear HO537; clear HB; have HO_4 := n0_; have HO_6 := n1_; have HO_7 := n2_; have HO537 := n3_; have HB := n4_; clear n0_ n1_ n2_ n3_ n4_; (try clear hb); (try clear hb2)))
         go_meet
         case rel => exact ⟨_, (true), (by first | rfl | (simp; done) | (simp [*]; done)), H', ⟨by have := HJ7.out; first | omega | exact Nat.le_refl _⟩, ⟨by (with_reducible repeat (first | apply Kd.R_alloc | apply Kd.R_drewN | apply Kd.R_drew)); exact Kd.R_mono HO_4.out (fun _ hk => hk.2.1)⟩, ⟨by (with_reducible repeat (first | apply Kd.R_alloc | apply Kd.R_drewN | apply Kd.R_drew)); exact Kd.R_mono HO_7.out (fun _ hk => hk.1)⟩, ⟨bb_⟩⟩
      case rest =>
       clear HC28
       try clear c1
       try clear c2
       try clear p2
       try clear c3
       try clear c3b0
       try clear c4
       try clear c5
       try clear c6
       try clear c7
       try clear c8
       try clear c9
       try clear c16
       try clear c23
       try clear c26
       try clear c33
       try clear c33b0
       try clear c35
       try clear p2
       obtain ⟨kq, x61_27, rfl, HA, HJ27, HO_4, HO_7, HB⟩ := hcut
       cases kq with
       | zero => exact absurd HA.out (by simp [laws_FnExactNormalPolygon.j1])
       | succ kj27 =>
        have H := HA.out
        clear HA
        simp only [laws_FnExactNormalPolygon.j1] at H
        by_cases c42 : x61_27 = true
        ·subst c42
         have H1 : (none) = some r := by rw [if_pos rfl] at H; exact H
         clear H
         have H := H1
         clear H1
         exact absurd H (by simp)
        ·replace c42 := Bool.eq_false_iff.mpr c42
         subst c42
         have H1 : ((zeY.f kj27 t530 1).bind fun bt542 => ((zsO.f kj27 bt542.2 1).bind fun t544 => (if t544 < 0 then (none) else (if t544 = bt542.1 then ((ztE.f kj27 l0).bind fun t545 => ((zqR.f kj27 t545).bind fun bt548 => ((zcH.f kj27 bt548.1 t523).bind fun t552 => (if t552 = true then (laws_FnExactNormalPolygon.j2 kj27 bt542.2 bt542.1 (bt548.2 != t524)) else (laws_FnExactNormalPolygon.j2 kj27 bt542.2 bt542.1 true))))) else (none))))) = some r := by rw [if_neg (show ¬ (false = true) by decide)] at H; exact H
         clear H
         have H := H1
         clear H1
         replace H := Option.bind_eq_some_iff.mp H
         obtain ⟨⟨t542, t543⟩, A430, H⟩ := H
         replace H : ((zsO.f kj27 t543 1).bind fun t544 => (if t544 < 0 then (none) else (if t544 = t542 then ((ztE.f kj27 l0).bind fun t545 => ((zqR.f kj27 t545).bind fun bt548 => ((zcH.f kj27 bt548.1 t523).bind fun t552 => (if t552 = true then (laws_FnExactNormalPolygon.j2 kj27 t543 t542 (bt548.2 != t524)) else (laws_FnExactNormalPolygon.j2 kj27 t543 t542 true))))) else (none)))) = some r := H
         have A43 := zpS A430
         clear A430
         replace H := Option.bind_eq_some_iff.mp H
         obtain ⟨t544, A440, H⟩ := H
         replace H : (if t544 < 0 then (none) else (if t544 = t542 then ((ztE.f kj27 l0).bind fun t545 => ((zqR.f kj27 t545).bind fun bt548 => ((zcH.f kj27 bt548.1 t523).bind fun t552 => (if t552 = true then (laws_FnExactNormalPolygon.j2 kj27 t543 t542 (bt548.2 != t524)) else (laws_FnExactNormalPolygon.j2 kj27 t543 t542 true))))) else (none))) = some r := H
         have A44 := zpS A440
         clear A440
         by_cases c45 : t544 < 0
         ·rw [if_pos c45] at H
          exact absurd H (by simp)
         ·rw [if_neg c45] at H
          have c45b0 : decide (t544 < 0) = false := decide_eq_false c45
          clear c45
          by_cases c46 : t544 = t542
          ·rw [if_pos c46] at H
           have c46b0 : (t544 == t542) = true := beq_iff_eq.mpr c46
           have c46b1 : (t544 != t542) = false := bne_eq_false_iff_eq.mpr c46
           clear c46
           replace H := Option.bind_eq_some_iff.mp H
           obtain ⟨t545, A470, H⟩ := H
           replace H : ((zqR.f kj27 t545).bind fun bt548 => ((zcH.f kj27 bt548.1 t523).bind fun t552 => (if t552 = true then (laws_FnExactNormalPolygon.j2 kj27 t543 t542 (bt548.2 != t524)) else (laws_FnExactNormalPolygon.j2 kj27 t543 t542 true)))) = some r := H
           have A47 := zpS A470
           clear A470
           replace H := Option.bind_eq_some_iff.mp H
           obtain ⟨⟨t548, t551⟩, A480, H⟩ := H
           replace H : ((zcH.f kj27 t548 t523).bind fun t552 => (if t552 = true then (laws_FnExactNormalPolygon.j2 kj27 t543 t542 (t551 != t524)) else (laws_FnExactNormalPolygon.j2 kj27 t543 t542 true))) = some r := H
           have A48 := zpS A480
           clear A480
           have HC49 := zpS H
           clear H
           obtain ⟨Ao50, co50, eo50⟩ := Kd.R_slice HO_7.out
           subst eo50
           go_upto_region 25 with (first | ((with_reducible refine zgK (f := 9) rfl ?_); refine zqQ (some 64) rfl rfl Tryd.func9 (by kernel_rfl) rfl #[.slice Ao50 t530.length co50, .int .i64 1] rfl (by (try simp only [List.map_toArray, List.map_cons, List.map_nil]); first | done | rfl | (simp only [List.length_drop, List.length_take]; rfl)) ?_; (with_reducible refine (zeY.calls kj27 (fun k_ => some k_ = (.slice Ao50 t530.length co50 : Value).ownBlock) (.slice Ao50 t530.length co50) t530 1 t542 t543 w _ ?side1 ?side2 A43.out).mono ?_); (case side1 => repeat (first | (with_reducible first | exact HB.out | apply znU | apply zkZ | apply zvF) | exact HB.out)); (case side2 => exact Kd.R_tight rfl HO_7.out); rintro e w51 ⟨rfl, hy0, hb, hkp⟩; refine ⟨_, rfl, ?_⟩; have n0_ := zpS (Kd.R_mono (ok' := fun k_ => some k_ ≠ (.slice Ao50 t530.length co50 : Value).ownBlock) (Kd.R_keptB (HO_4.out) hkp (fun k_ hk_ hs_ => (hk_) hs_)) (fun k_ hk_ => hk_.1)); have n1_ := zpS (Kd.R_reok rfl hy0 (fun k_ e_ => HO_7.out.1 k_ e_)); have n2_ := zpS (hb); clear HO_4; clear HO_7; clear HB; have HO_4 := n0_; have HO_7 := n1_; have HB := n2_; clear n0_ n1_ n2_; (try clear hb); (try clear hkp); (try clear hy0)) | ((with_reducible refine zgK (f := 10) rfl ?_); refine zqQ (some 67) rfl rfl Tryd.func10 (by kernel_rfl) rfl #[.slice Ao50 t543.length co50, .int .i64 1] rfl (by (try simp only [List.map_toArray, List.map_cons, List.map_nil]); first | done | (rw [show t543.length = t530.length from (Kd.R_reads' HO_7.out).1.symm] <;> rfl) | rfl | (simp only [List.length_drop, List.length_take]; rfl)) ?_; (with_reducible refine (zsO.calls kj27 _ _ t543 1 t544 _ ?side1 ?side2 A44.out).mono ?_); (case side1 => repeat (first | exact (Kd.R_reads' HO_7.out).2.2 | (with_reducible refine Kd.C_alloc ?_ _) | (with_reducible refine Kd.C_drewN ?_ _) | (with_reducible refine Kd.C_drew ?_))); (case side2 => rw [show t543.length = t530.length from (Kd.R_reads' HO_7.out).1.symm]; exact (Kd.R_reads' HO_7.out).2.1); rintro e w' ⟨rfl, ⟨nd, rfl⟩⟩; refine ⟨_, rfl, ?_⟩) | ((with_reducible refine zgK (f := 6) rfl ?_); refine zqQ (some 75) rfl rfl Tryd.func6 (by kernel_rfl) rfl #[.slice A0 l0.length c0] rfl (by (try simp only [List.map_toArray, List.map_cons, List.map_nil]); first | done | rfl | (simp only [List.length_drop, List.length_take]; rfl)) ?_; (with_reducible refine (ztE.calls kj27 _ _ l0 t545 _ ?side1 ?side2 A47.out).mono ?_); (case side1 => repeat (first | exact (Kd.C_below HR0.out bb_) | (with_reducible refine Kd.C_alloc ?_ _) | (with_reducible refine Kd.C_drewN ?_ _) | (with_reducible refine Kd.C_drew ?_))); (case side2 => exact HC0.out); rintro e w52 ⟨v546, rfl, ho0, hb⟩; refine ⟨_, rfl, ?_⟩; have n0_ := zpS (Kd.R_elder' (by (with_reducible repeat (first | apply Kd.R_alloc | apply Kd.R_drewN | apply Kd.R_drew)); exact HO_4.out) (Kd.R_base ho0) hb); have n1_ := zpS (Kd.R_elder' (by (with_reducible repeat (first | apply Kd.R_alloc | apply Kd.R_drewN | apply Kd.R_drew)); exact HO_7.out) (Kd.R_base ho0) hb); have n2_ := zpS (Kd.R_lower (Kd.R_new' (Kd.R_new' ho0 (Kd.R_lt (by (with_reducible repeat (first | apply Kd.R_alloc | apply Kd.R_drewN | apply Kd.R_drew)); exact HO_4.out))) (Kd.R_lt (by (with_reducible repeat (first | apply Kd.R_alloc | apply Kd.R_drewN | apply Kd.R_drew)); exact HO_7.out))) (zuA bb_)); have n3_ := (ns_ hb); clear HO_4; clear HO_7; clear HB; have HO_4 := n0_; have HO_7 := n1_; have HO547 := n2_; have HB := n3_; clear n0_ n1_ n2_ n3_; (try clear hb); (try clear hb2); (try clear ho0); obtain ⟨Ao53, co53, eo53⟩ := Kd.R_slice HO547.out; subst eo53) | ((with_reducible refine zgK (f := 7) rfl ?_); refine zqQ (some 76) rfl rfl Tryd.func7 (by kernel_rfl) rfl #[.slice Ao53 t545.length co53] rfl (by (try simp only [List.map_toArray, List.map_cons, List.map_nil]); first | done | rfl | (simp only [List.length_drop, List.length_take]; rfl)) ?_; (with_reducible refine (zqR.calls kj27 (fun k_ => some k_ = (.slice Ao53 t545.length co53 : Value).ownBlock) _ _ t545 t548 t551 _ ?side2 ?side1 A48.out).mono ?_); (case side1 => exact Kd.R_V (Kd.R_tight rfl (HO547.out))); (case side2 => exact LaidV.below hG bb_); rintro e w54 ⟨v549, rfl, ho0, hb⟩; refine ⟨_, rfl, ?_⟩; have n0_ := zpS (Kd.R_elder' (by (with_reducible repeat (first | apply Kd.R_alloc | apply Kd.R_drewN | apply Kd.R_drew)); exact HO_4.out) (Kd.R_base ho0) hb); have n1_ := zpS (Kd.R_elder' (by (with_reducible repeat (first | apply Kd.R_alloc | apply Kd.R_drewN | apply Kd.R_drew)); exact HO_7.out) (Kd.R_base ho0) hb); have n2_ := zpS (Kd.R_elder' (by (with_reducible repeat (first | apply Kd.R_alloc | apply Kd.R_drewN | apply Kd.R_drew)); exact HO547.out) (Kd.R_base ho0) hb); have n3_ := zpS (Kd.R_lower (Kd.R_new' (Kd.R_new' (Kd.R_new' (Kd.R_mono (ok' := fun k_ => True) ho0 (fun _ hk_ => trivial)) (Kd.R_lt (by (with_reducible repeat (first | apply Kd.R_alloc | apply Kd.R_drewN | apply Kd.R_drew)); exact HO_4.out))) (Kd.R_lt (by (with_reducible repeat (first | apply Kd.R_alloc | apply Kd.R_drewN | apply Kd.R_drew)); exact HO_7.out))) (Kd.R_lt (by (with_reducible repeat (first | apply Kd.R_alloc | apply Kd.R_drewN | apply Kd.R_drew)); exact HO547.out))) (zuA bb_)); have n4_ := (ns_ hb); clear HO_4; clear HO_7; clear HO547; clear HB; have HO_4 := n0_; have HO_7 := n1_; have HO547 := n2_; have HO550 := n3_; have HB := n4_; clear n0_ n1_ n2_ n3_ n4_; (try clear hb); (try clear hb2); (try clear ho0)))
           (try simp only [Act.put, set_a_, set_b_, set_c_])
           go_cut [87] (fun v87 wc => ∃ (kq : Nat) (x87_48 : Bool), v87 = .bool x87_48 ∧ Aside0 (laws_FnExactNormalPolygon.j2 kq t543 t542 x87_48 = some r) ∧ Aside0 (kq ≤ kj27) ∧ Aside0 (Kd.R k35 35 wc w.heap.size (fun _ => True) (.slice Ao50 t530.length co50) t543) ∧ Aside0 (Below w.heap.size w wc))
           case first =>
            have H := HC49.out
            clear HC49
            replace H := Option.bind_eq_some_iff.mp H
            obtain ⟨t552, A550, H⟩ := H
            replace H : (if t552 = true then (laws_FnExactNormalPolygon.j2 kj27 t543 t542 (t551 != t524)) else (laws_FnExactNormalPolygon.j2 kj27 t543 t542 true)) = some r := H
            have A55 := zpS A550
            clear A550
            by_cases c56 : t552 = true
            ·subst c56
             have H1 : (laws_FnExactNormalPolygon.j2 kj27 t543 t542 (t551 != t524)) = some r := by rw [if_pos rfl] at H; exact H
             clear H
             have H := H1
             clear H1
             have H' := zpS H
             clear H
             obtain ⟨Ao57, co57, eo57⟩ := Kd.R_slice HO550.out
             subst eo57
             obtain ⟨Ao58, co58, eo58⟩ := Kd.R_slice HO_4.out
             subst eo58
             go_wp2_with (first | ((with_reducible refine zgK (f := 8) rfl ?_); refine zqQ (some 81) rfl rfl Tryd.func8 (by kernel_rfl) rfl #[.slice Ao57 t548.length co57, .slice Ao58 t523.length co58] rfl (by (try simp only [List.map_toArray, List.map_cons, List.map_nil]); first | done | rfl | (simp only [List.length_drop, List.length_take]; rfl)) ?_; (with_reducible refine (zcH.calls kj27 _ _ t548 _ _ t523 true _ ?side1 ?side2 ?side3 ?side4 A55.out).mono ?_); (case side1 => repeat (first | exact (Kd.R_reads' HO550.out).2.2 | (with_reducible refine Kd.C_alloc ?_ _) | (with_reducible refine Kd.C_drewN ?_ _) | (with_reducible refine Kd.C_drew ?_))); (case side2 => exact (Kd.R_reads' HO550.out).2.1); (case side3 => repeat (first | exact (Kd.R_reads' HO_4.out).2.2 | (with_reducible refine Kd.C_alloc ?_ _) | (with_reducible refine Kd.C_drewN ?_ _) | (with_reducible refine Kd.C_drew ?_))); (case side4 => exact (Kd.R_reads' HO_4.out).2.1); rintro e w59 ⟨rfl, hb⟩; refine ⟨_, rfl, ?_⟩; have n0_ := zpS (Kd.R_below (by (with_reducible repeat (first | apply Kd.R_alloc | apply Kd.R_drewN | apply Kd.R_drew)); exact HO_4.out) hb); have n1_ := zpS (Kd.R_below (by (with_reducible repeat (first | apply Kd.R_alloc | apply Kd.R_drewN | apply Kd.R_drew)); exact HO_7.out) hb); have n2_ := zpS (Kd.R_below (by (with_reducible repeat (first | apply Kd.R_alloc | apply Kd.R_drewN | apply Kd.R_drew)); exact HO547.out) hb); have n3_ := zpS (Kd.R_below (by (with_reducible repeat (first | apply Kd.R_alloc | apply Kd.R_drewN | apply Kd.R_drew)); exact HO550.out) hb); have n4_ := (ns_ hb); clear HO_4; clear HO_7; clear HO547; clear HO550; clear HB; have HO_4 := n0_; have HO_7 := n1_; have HO547 := n2_; have HO550 := n3_; have HB := n4_; clear n0_ n1_ n2_ n3_ n4_; (try clear hb); (try clear hb2)))
             go_meet
             case rel => exact ⟨_, ((t551 != t524)), (by first | rfl | (simp; done) | (simp [*]; done)), H', ⟨by have := HJ7.out; have := HJ27.out; first | omega | exact Nat.le_refl _⟩, ⟨by (with_reducible repeat (first | apply Kd.R_alloc | apply Kd.R_drewN | apply Kd.R_drew)); exact Kd.R_mono HO_7.out (fun _ hk => trivial)⟩, ⟨bb_⟩⟩
            ·replace c56 := Bool.eq_false_iff.mpr c56
             subst c56
             have H1 : (laws_FnExactNormalPolygon.j2 kj27 t543 t542 true) = some r := by rw [if_neg (show ¬ (false = true) by decide)] at H; exact H
             clear H
             have H := H1
             clear H1
             have H' := zpS H
             clear H
             obtain ⟨Ao60, co60, eo60⟩ := Kd.R_slice HO550.out
             subst eo60
             obtain ⟨Ao61, co61, eo61⟩ := Kd.R_slice HO_4.out
             subst eo61
             go_wp2_with (first | ((with_reducible refine zgK (f := 8) rfl ?_); refine zqQ (some 81) rfl rfl Tryd.func8 (by kernel_rfl) rfl #[.slice Ao60 t548.length co60, .slice Ao61 t523.length co61] rfl (by (try simp only [List.map_toArray, List.map_cons, List.map_nil]); first | done | rfl | (simp only [List.length_drop, List.length_take]; rfl)) ?_; (with_reducible refine (zcH.calls kj27 _ _ t548 _ _ t523 false _ ?side1 ?side2 ?side3 ?side4 A55.out).mono ?_); (case side1 => repeat (first | exact (Kd.R_reads' HO550.out).2.2 | (with_reducible refine Kd.C_alloc ?_ _) | (with_reducible refine Kd.C_drewN ?_ _) | (with_reducible refine Kd.C_drew ?_))); (case side2 => exact (Kd.R_reads' HO550.out).2.1); (case side3 => repeat (first | exact (Kd.R_reads' HO_4.out).2.2 | (with_reducible refine Kd.C_alloc ?_ _) | (with_reducible refine Kd.C_drewN ?_ _) | (with_reducible refine Kd.C_drew ?_))); (case side4 => exact (Kd.R_reads' HO_4.out).2.1); rintro e w62 ⟨rfl, hb⟩; refine ⟨_, rfl, ?_⟩; have n0_ := zpS (Kd.R_below (by (with_reducible repeat (first | apply Kd.R_alloc | apply Kd.R_drewN | apply Kd.R_drew)); exact HO_4.out) hb); have n1_ := zpS (Kd.R_below (by (with_reducible repeat (first | apply Kd.R_alloc | apply Kd.R_drewN | apply Kd.R_drew)); exact HO_7.out) hb); have n2_ := zpS (Kd.R_below (by (with_reducible repeat (first | apply Kd.R_alloc | apply Kd.R_drewN | apply Kd.R_drew)); exact HO547.out) hb); have n3_ := zpS (Kd.R_below (by (with_reducible repeat (first | apply Kd.R_alloc | apply Kd.R_drewN | apply Kd.R_drew)); exact HO550.out) hb); have n4_ := (ns_ hb); clear HO_4; clear HO_7; clear HO547; clear HO550; clear HB; have HO_4 := n0_; have HO_7 := n1_; have HO547 := n2_; have HO550 := n3_; have HB := n4_; clear n0_ n1_ n2_ n3_ n4_; (try clear hb); (try clear hb2)))
             go_meet
             case rel => exact ⟨_, (true), (by first | rfl | (simp; done) | (simp [*]; done)), H', ⟨by have := HJ7.out; have := HJ27.out; first | omega | exact Nat.le_refl _⟩, ⟨by (with_reducible repeat (first | apply Kd.R_alloc | apply Kd.R_drewN | apply Kd.R_drew)); exact Kd.R_mono HO_7.out (fun _ hk => trivial)⟩, ⟨bb_⟩⟩
           case rest =>
            clear HC49
            try clear c1
            try clear c2
            try clear p2
            try clear c3
            try clear c3b0
            try clear c4
            try clear c5
            try clear c6
            try clear c7
            try clear c8
            try clear c9
            try clear c10
            try clear c16
            try clear c23
            try clear c26
            try clear c33
            try clear c33b0
            try clear c35
            try clear c42
            try clear c45
            try clear c45b0
            try clear c46
            try clear c46b0
            try clear c46b1
            try clear c56
            try clear p2
            obtain ⟨kq, x87_48, rfl, HA, HJ48, HO_7, HB⟩ := hcut
            have hl7_48 := (Kd.R_reads' HO_7.out).1
            rw [hl7_48] at HO_7
            (try simp only [hl7_48])
            cases kq with
            | zero => exact absurd HA.out (by simp [laws_FnExactNormalPolygon.j2])
            | succ kj48 =>
             have H := HA.out
             clear HA
             simp only [laws_FnExactNormalPolygon.j2] at H
             by_cases c63 : x87_48 = true
             ·subst c63
              have H1 : (none) = some r := by rw [if_pos rfl] at H; exact H
              clear H
              have H := H1
              clear H1
              exact absurd H (by simp)
             ·replace c63 := Bool.eq_false_iff.mpr c63
              subst c63
              have H1 : ((zsO.f kj48 t543 1).bind fun t553 => (if t553 < 0 then (none) else (if t553 = t542 then (some true) else (none)))) = some r := by rw [if_neg (show ¬ (false = true) by decide)] at H; exact H
              clear H
              have H := H1
              clear H1
              replace H := Option.bind_eq_some_iff.mp H
              obtain ⟨t553, A640, H⟩ := H
              replace H : (if t553 < 0 then (none) else (if t553 = t542 then (some true) else (none))) = some r := H
              have A64 := zpS A640
              clear A640
              by_cases c65 : t553 < 0
              ·rw [if_pos c65] at H
               exact absurd H (by simp)
              ·rw [if_neg c65] at H
               have c65b0 : decide (t553 < 0) = false := decide_eq_false c65
               clear c65
               by_cases c66 : t553 = t542
               ·rw [if_pos c66] at H
                have c66b0 : (t553 == t542) = true := beq_iff_eq.mpr c66
                have c66b1 : (t553 != t542) = false := bne_eq_false_iff_eq.mpr c66
                clear c66
                obtain rfl := Option.some.inj H
                go_wp2_with (first | ((with_reducible refine zgK (f := 10) rfl ?_); refine zqQ (some 90) rfl rfl Tryd.func10 (by kernel_rfl) rfl #[.slice Ao50 t543.length co50, .int .i64 1] rfl (by (try simp only [List.map_toArray, List.map_cons, List.map_nil]); first | done | rfl | (simp only [List.length_drop, List.length_take]; rfl)) ?_; (with_reducible refine (zsO.calls kj48 _ _ t543 1 t553 _ ?side1 ?side2 A64.out).mono ?_); (case side1 => repeat (first | exact (Kd.R_reads' HO_7.out).2.2 | (with_reducible refine Kd.C_alloc ?_ _) | (with_reducible refine Kd.C_drewN ?_ _) | (with_reducible refine Kd.C_drew ?_))); (case side2 => exact (Kd.R_reads' HO_7.out).2.1); rintro e w' ⟨rfl, ⟨nd, rfl⟩⟩; refine ⟨_, rfl, ?_⟩))
                go_ret
                exact ⟨by first | rfl | (simp [ziS, znJ] <;> rfl) | (simp [*, ziS, znJ] <;> rfl), bb_⟩
               ·rw [if_neg c66] at H
                exact absurd H (by simp)
          ·rw [if_neg c46] at H
           exact absurd H (by simp)
     ·replace c26 := Bool.eq_false_iff.mpr c26
      subst c26
      have H1 : (none) = some r := by rw [if_neg (show ¬ (false = true) by decide)] at H; exact H
      clear H
      have H := H1
      clear H1
      exact absurd H (by simp)
def ok39 (x : S39) : Prop := (Lit.int .i64 x.f0).wf = true ∧ (Lit.int .i64 x.f1).wf = true ∧ (Lit.int .i64 x.f2).wf = true
def ok41 (x : S41) : Prop := ok39 x.f0 ∧ ok39 x.f1

def laws_FnExactNormalPolygon.Pure : Prop := ∀ (l0 : List (S41)), (l0.length ≤ maxLen ∧ ∀ x_ ∈ l0, ok41 x_) → ∃ k, laws_FnExactNormalPolygon.f k l0 = some true

end Go.Proofs.YtbnfbflfhpniaaaDoor.PFnExactNormalPolygon
