-- Printed for this claim by this session's program pp.py, which drives the kit's print with additions. Not trusted: Lean checks it.
import Derived.Test.YtehghobmmpihfaaGreatDoorV1PFnExactReadPolygonx22
namespace Go.Proofs.YtehghobmmpihfaaGreatDoor.PFnExactReadPolygon
open Go.RowKit Go.Proofs.YtehghobmmpihfaaGreatDoorW.PrintWords Go.Proofs.YtehghobmmpihfaaGreatDoorW.PrintLast Go.Proofs.YtehghobmmpihfaaGreatDoorW.PrintMore
attribute [local go_sem] zbB ziB zrC zhD znE zuB znH zkT   -- for this text's walks alone
set_option linter.unusedVariables false
set_option maxHeartbeats 8000000
set_option maxRecDepth 100000
set_option linter.unusedSimpArgs false

mutual
def laws_FnExactReadPolygon.j0 : Nat → ByteArray → List (S33) → Bool → List (S33) → Bool → Option (Bool)
 | 0, _, _, _, _, _ => none
 | k + 1, x0, x3, x4, x5, x32 => if x32 = true then (none) else ((zeY.f k x5 1).bind fun bt587 => ((zsO.f k bt587.2 1).bind fun t589 => (if t589 < 0 then (none) else (if t589 = bt587.1 then ((zqF.f k x0).bind fun bt590 => ((zcH.f k bt590.1 x3).bind fun t594 => (if t594 = true then (laws_FnExactReadPolygon.j1 k bt587.2 bt587.1 (bt590.2 != x4)) else (laws_FnExactReadPolygon.j1 k bt587.2 bt587.1 true)))) else (none)))))
def laws_FnExactReadPolygon.j1 : Nat → List (S33) → Int → Bool → Option (Bool)
 | 0, _, _, _ => none
 | k + 1, x5, x7, x57 => if x57 = true then (none) else ((zsO.f k x5 1).bind fun t595 => (if t595 < 0 then (none) else (if t595 = x7 then (some true) else (none))))
end
def laws_FnExactReadPolygon.f (k : Nat) (a0 : ByteArray) : Option (Bool) := if (a0.size : Int) > 1048576 then (some true) else ((zqN.f k a0).bind fun bt578 => ((zqF.f k a0).bind fun bt582 => ((zcH.f k bt582.1 bt578.1).bind fun t586 => (if t586 = true then (laws_FnExactReadPolygon.j0 k a0 bt578.1 bt578.2 bt582.1 (bt582.2 != bt578.2)) else (laws_FnExactReadPolygon.j0 k a0 bt578.1 bt578.2 bt582.1 true)))))
theorem laws_FnExactReadPolygon.mono_l : ∀ k, (∀ y0 y1 y2 y3 y4, LeO (laws_FnExactReadPolygon.j0 k y0 y1 y2 y3 y4) (laws_FnExactReadPolygon.j0 (k + 1) y0 y1 y2 y3 y4)) ∧ (∀ y0 y1 y2, LeO (laws_FnExactReadPolygon.j1 k y0 y1 y2) (laws_FnExactReadPolygon.j1 (k + 1) y0 y1 y2))
 | 0 => ⟨fun _ _ _ _ _ r h => by simp [laws_FnExactReadPolygon.j0] at h, fun _ _ _ r h => by simp [laws_FnExactReadPolygon.j1] at h⟩
 | k + 1 => by
  obtain ⟨ih0, ih1⟩ := laws_FnExactReadPolygon.mono_l k; refine ⟨?_, ?_⟩
  ·intro y0 y1 y2 y3 y4
   unfold laws_FnExactReadPolygon.j0
   repeat' (with_reducible first | exact ih0 _ _ _ _ _ | exact ih1 _ _ _ | exact zqF.mono _ _ | exact zcH.mono _ _ _ | exact zsO.mono _ _ _ | exact zeY.mono _ _ _ | exact zqN.mono _ _ | exact LeO.refl _ | exact LeO.none _ | refine LeO.ite ?_ ?_ | refine LeO.bind ?_ (fun _ => ?_))
  ·intro y0 y1 y2
   unfold laws_FnExactReadPolygon.j1
   repeat' (with_reducible first | exact ih0 _ _ _ _ _ | exact ih1 _ _ _ | exact zqF.mono _ _ | exact zcH.mono _ _ _ | exact zsO.mono _ _ _ | exact zeY.mono _ _ _ | exact zqN.mono _ _ | exact LeO.refl _ | exact LeO.none _ | refine LeO.ite ?_ ?_ | refine LeO.bind ?_ (fun _ => ?_))
theorem laws_FnExactReadPolygon.mono : ∀ a0 k, LeO (laws_FnExactReadPolygon.f k a0) (laws_FnExactReadPolygon.f (k + 1) a0) := by
 intro a0 k; obtain ⟨ih0, ih1⟩ := laws_FnExactReadPolygon.mono_l k; unfold laws_FnExactReadPolygon.f
 repeat' (with_reducible first | exact ih0 _ _ _ _ _ | exact ih1 _ _ _ | exact zqF.mono _ _ | exact zcH.mono _ _ _ | exact zsO.mono _ _ _ | exact zeY.mono _ _ _ | exact zqN.mono _ _ | exact LeO.refl _ | exact LeO.none _ | refine LeO.ite ?_ ?_ | refine LeO.bind ?_ (fun _ => ?_))
theorem laws_FnExactReadPolygon.calls (k : Nat) (a0 : ByteArray) (r : Bool) (w : World) (hG : LaidV w) (h : laws_FnExactReadPolygon.f k a0 = some r) :
  Calls Tryz.prog 3 #[.string a0] w fun e w' => e = .returned (.bool r) ∧ Below w.heap.size w w' := by
 have HB := zpS (Below.refl w.heap.size w); have H := h; unfold laws_FnExactReadPolygon.f at H; clear h; replace H := ip_ H
 rcases H with ⟨c2, H⟩ | ⟨c2, H⟩
 ·have c2b0 : decide (1048576 < (a0.size : Int)) = true := decide_eq_true c2
  have c2b1 : decide (1048576 < a0.size) = true := decide_eq_true (by omega); clear c2; obtain rfl := Option.some.inj H; go_enter Tryz.func3, Tryz.ntmps3
  go_wp2
  go_ret
  exact ⟨ex_, bb_⟩
 ·have c2b0 : decide (1048576 < (a0.size : Int)) = false := decide_eq_false c2
  have c2b1 : decide (1048576 < a0.size) = false := decide_eq_false (by omega); clear c2; replace H := be_ H; obtain ⟨⟨t578, t579⟩, A3, H⟩ := H; dsimp only at H; replace H := be_ H; obtain ⟨⟨t582, t583⟩, A4, H⟩ := H; dsimp only at H; have HC5 := zpS H; clear H; go_enter Tryz.func3, Tryz.ntmps3
  go_upto_region 5 with (first | ((with_reducible refine zgK (f := 4) rfl ?_); refine gl_ (some 16) Tryz.func4 #[.string a0] ?_; (with_reducible refine (zqN.calls k a0 t578 t579 _ A3.out).mono ?_); rintro e w6 ⟨v580, rfl, ho0, hb⟩; refine ⟨_, rfl, ?_⟩; have HO581 := zpS (Kd.R_lower ho0 (zuA bb_)); replace HB := ns_ hb; (try clear hb); (try clear hb2); (try clear ho0)) | ((with_reducible refine zgK (f := 5) rfl ?_); refine gl_ (some 21) Tryz.func5 #[.string a0] ?_; (with_reducible refine (zqF.calls k a0 t582 t583 _ ?side1 A4.out).mono ?_); (case side1 => exact LaidV.below hG bb_); rintro e w7 ⟨v584, rfl, ho0, hb⟩; refine ⟨_, rfl, ?_⟩; have HO585 := zpS (Kd.R_lower (Kd.R_new' ho0 (Kd.R_lt (by (with_reducible repeat (first | apply Kd.R_alloc | apply Kd.R_drewN | apply Kd.R_drew)); exact HO581.out))) (zuA bb_)); replace HO581 := zpS (Kd.R_elder' (by (with_reducible repeat (first | apply Kd.R_alloc | apply Kd.R_drewN | apply Kd.R_drew)); exact HO581.out) (Kd.R_base ho0) hb); replace HB := ns_ hb; (try clear hb); (try clear hb2); (try clear ho0)))
  (try simp only [Act.put, set_a_, set_b_, set_c_])
  go_cut [32] (fun v32 wc => ∃ (kq : Nat) (x32_4 : Bool), v32 = .bool x32_4 ∧ Aside0 (laws_FnExactReadPolygon.j0 kq a0 t578 t579 t582 x32_4 = some r) ∧ Aside0 (kq ≤ k) ∧ Aside0 (Kd.R k33 33 wc w.heap.size (fun k_ => some k_ ≠ (v584 : Value).ownBlock) v580 t578) ∧ Aside0 (Kd.R k33 33 wc w.heap.size (fun k_ => some k_ ≠ (v580 : Value).ownBlock) v584 t582) ∧ Aside0 (Below w.heap.size w wc))
  case first =>
   have H := HC5.out; clear HC5; replace H := be_ H; obtain ⟨t586, A8, H⟩ := H; replace H := ib_ H
   rcases H with ⟨rfl, H⟩ | ⟨rfl, H⟩
   ·have H' := zpS H
    clear H; obtain ⟨Ao10, co10, eo10⟩ := Kd.R_slice HO585.out; subst eo10; obtain ⟨Ao11, co11, eo11⟩ := Kd.R_slice HO581.out; subst eo11
    go_wp2_with (first | ((with_reducible refine zgK (f := 6) rfl ?_); refine gl_ (some 26) Tryz.func6 #[.slice Ao10 t582.length co10, .slice Ao11 t578.length co11] ?_; (with_reducible refine (zcH.calls k _ _ t582 _ _ t578 true _ ?side1 ?side2 ?side3 ?side4 A8.out).mono ?_); (case side1 => repeat (first | exact (Kd.R_reads' HO585.out).2.2 | (with_reducible refine Kd.C_alloc ?_ _) | (with_reducible refine Kd.C_drewN ?_ _) | (with_reducible refine Kd.C_drew ?_))); (case side2 => exact (Kd.R_reads' HO585.out).2.1); (case side3 => repeat (first | exact (Kd.R_reads' HO581.out).2.2 | (with_reducible refine Kd.C_alloc ?_ _) | (with_reducible refine Kd.C_drewN ?_ _) | (with_reducible refine Kd.C_drew ?_))); (case side4 => exact (Kd.R_reads' HO581.out).2.1); rintro e w12 ⟨rfl, hb⟩; refine ⟨_, rfl, ?_⟩; replace HO581 := zpS (Kd.R_below (by (with_reducible repeat (first | apply Kd.R_alloc | apply Kd.R_drewN | apply Kd.R_drew)); exact HO581.out) hb); replace HO585 := zpS (Kd.R_below (by (with_reducible repeat (first | apply Kd.R_alloc | apply Kd.R_drewN | apply Kd.R_drew)); exact HO585.out) hb); replace HB := ns_ hb; (try clear hb); (try clear hb2)))
    go_meet
    case rel => exact ⟨_, ((t583 != t579)), (ey_), H', ⟨by first | omega | exact Nat.le_refl _⟩, ⟨by (with_reducible repeat (first | apply Kd.R_alloc | apply Kd.R_drewN | apply Kd.R_drew)); exact Kd.R_mono HO581.out (fun _ hk => hk.2)⟩, ⟨by (with_reducible repeat (first | apply Kd.R_alloc | apply Kd.R_drewN | apply Kd.R_drew)); exact Kd.R_mono HO585.out (fun _ hk => hk.2)⟩, ⟨bb_⟩⟩
   ·have H' := zpS H
    clear H; obtain ⟨Ao13, co13, eo13⟩ := Kd.R_slice HO585.out; subst eo13; obtain ⟨Ao14, co14, eo14⟩ := Kd.R_slice HO581.out; subst eo14
    go_wp2_with (first | ((with_reducible refine zgK (f := 6) rfl ?_); refine gl_ (some 26) Tryz.func6 #[.slice Ao13 t582.length co13, .slice Ao14 t578.length co14] ?_; (with_reducible refine (zcH.calls k _ _ t582 _ _ t578 false _ ?side1 ?side2 ?side3 ?side4 A8.out).mono ?_); (case side1 => repeat (first | exact (Kd.R_reads' HO585.out).2.2 | (with_reducible refine Kd.C_alloc ?_ _) | (with_reducible refine Kd.C_drewN ?_ _) | (with_reducible refine Kd.C_drew ?_))); (case side2 => exact (Kd.R_reads' HO585.out).2.1); (case side3 => repeat (first | exact (Kd.R_reads' HO581.out).2.2 | (with_reducible refine Kd.C_alloc ?_ _) | (with_reducible refine Kd.C_drewN ?_ _) | (with_reducible refine Kd.C_drew ?_))); (case side4 => exact (Kd.R_reads' HO581.out).2.1); rintro e w15 ⟨rfl, hb⟩; refine ⟨_, rfl, ?_⟩; replace HO581 := zpS (Kd.R_below (by (with_reducible repeat (first | apply Kd.R_alloc | apply Kd.R_drewN | apply Kd.R_drew)); exact HO581.out) hb); replace HO585 := zpS (Kd.R_below (by (with_reducible repeat (first | apply Kd.R_alloc | apply Kd.R_drewN | apply Kd.R_drew)); exact HO585.out) hb); replace HB := ns_ hb; (try clear hb); (try clear hb2)))
    go_meet
    case rel => exact ⟨_, (true), (ey_), H', ⟨by first | omega | exact Nat.le_refl _⟩, ⟨by (with_reducible repeat (first | apply Kd.R_alloc | apply Kd.R_drewN | apply Kd.R_drew)); exact Kd.R_mono HO581.out (fun _ hk => hk.2)⟩, ⟨by (with_reducible repeat (first | apply Kd.R_alloc | apply Kd.R_drewN | apply Kd.R_drew)); exact Kd.R_mono HO585.out (fun _ hk => hk.2)⟩, ⟨bb_⟩⟩
  case rest =>
   clear HC5; (try clear c2); (try clear c2b0); (try clear c2b1); (try clear p2); (try clear c3); (try clear c4); (try clear c5); (try clear c6); (try clear c9); obtain ⟨kq, x32_4, rfl, HA, HJ4, HO_3, HO_5, HB⟩ := hcut
   cases kq with
   | zero => exact absurd HA.out (by simp [laws_FnExactReadPolygon.j0])
   | succ kj4 =>
    have H := HA.out; clear HA; simp only [laws_FnExactReadPolygon.j0] at H; replace H := ib_ H
    rcases H with ⟨rfl, H⟩ | ⟨rfl, H⟩
    ·exact absurd H (by simp)
    ·replace H := be_ H
     obtain ⟨⟨t587, t588⟩, A17, H⟩ := H; dsimp only at H; replace H := be_ H; obtain ⟨t589, A18, H⟩ := H; replace H := no_ H; obtain ⟨c19, H⟩ := H; have c19b0 := decide_eq_false c19; clear c19; replace H := in_ H; obtain ⟨c20, H⟩ := H; have c20b0 := bqt_ c20; have c20b1 := bnf_ c20; clear c20; replace H := be_ H; obtain ⟨⟨t590, t591⟩, A21, H⟩ := H; dsimp only at H; have HC22 := zpS H; clear H; obtain ⟨Ao23, co23, eo23⟩ := Kd.R_slice HO_5.out; subst eo23
     go_upto_region 16 with (first | ((with_reducible refine zgK (f := 7) rfl ?_); refine gl_ (some 35) Tryz.func7 #[.slice Ao23 t582.length co23, .int .i64 1] ?_; (with_reducible refine (zeY.calls kj4 (fun k_ => some k_ = (.slice Ao23 t582.length co23 : Value).ownBlock) (.slice Ao23 t582.length co23) t582 1 t587 t588 w _ ?side1 ?side2 A17.out).mono ?_); (case side1 => repeat (first | (with_reducible first | exact HB.out | apply znU | apply zkZ | apply below_drew1) | exact HB.out)); (case side2 => exact Kd.R_tight rfl HO_5.out); rintro e w24 ⟨rfl, hy0, hb, hkp⟩; refine ⟨_, rfl, ?_⟩; replace HO_3 := zpS (Kd.R_mono (ok' := fun k_ => some k_ ≠ (.slice Ao23 t582.length co23 : Value).ownBlock) (Kd.R_keptB (HO_3.out) hkp (fun k_ hk_ hs_ => (hk_) hs_)) (fun k_ hk_ => hk_.1)); replace HO_5 := zpS (Kd.R_reok rfl hy0 (fun k_ e_ => HO_5.out.1 k_ e_)); replace HB := zpS (hb); (try clear hb); (try clear hkp); (try clear hy0)) | ((with_reducible refine zgK (f := 8) rfl ?_); refine goesL_ (some 38) rfl rfl Tryz.func8 (by kernel_rfl) rfl #[.slice Ao23 t588.length co23, .int .i64 1] rfl (by (try simp only [List.map_toArray, List.map_cons, List.map_nil]); first | done | (rw [show t588.length = t582.length from (Kd.R_reads' HO_5.out).1.symm] <;> rfl) | rfl | (simp only [List.length_drop, List.length_take]; rfl)) ?_; (with_reducible refine (zsO.calls kj4 _ _ t588 1 t589 _ ?side1 ?side2 A18.out).mono ?_); (case side1 => repeat (first | exact (Kd.R_reads' HO_5.out).2.2 | (with_reducible refine Kd.C_alloc ?_ _) | (with_reducible refine Kd.C_drewN ?_ _) | (with_reducible refine Kd.C_drew ?_))); (case side2 => rw [show t588.length = t582.length from (Kd.R_reads' HO_5.out).1.symm]; exact (Kd.R_reads' HO_5.out).2.1); rintro e w' ⟨rfl, ⟨nd, rfl⟩⟩; refine ⟨_, rfl, ?_⟩) | ((with_reducible refine zgK (f := 5) rfl ?_); refine gl_ (some 46) Tryz.func5 #[.string a0] ?_; (with_reducible refine (zqF.calls kj4 a0 t590 t591 _ ?side1 A21.out).mono ?_); (case side1 => exact LaidV.below hG bb_); rintro e w25 ⟨v592, rfl, ho0, hb⟩; refine ⟨_, rfl, ?_⟩; have HO593 := zpS (Kd.R_lower (Kd.R_new' (Kd.R_new' ho0 (Kd.R_lt (by (with_reducible repeat (first | apply Kd.R_alloc | apply Kd.R_drewN | apply Kd.R_drew)); exact HO_3.out))) (Kd.R_lt (by (with_reducible repeat (first | apply Kd.R_alloc | apply Kd.R_drewN | apply Kd.R_drew)); exact HO_5.out))) (zuA bb_)); replace HO_3 := zpS (Kd.R_elder' (by (with_reducible repeat (first | apply Kd.R_alloc | apply Kd.R_drewN | apply Kd.R_drew)); exact HO_3.out) (Kd.R_base ho0) hb); replace HO_5 := zpS (Kd.R_elder' (by (with_reducible repeat (first | apply Kd.R_alloc | apply Kd.R_drewN | apply Kd.R_drew)); exact HO_5.out) (Kd.R_base ho0) hb); replace HB := ns_ hb; (try clear hb); (try clear hb2); (try clear ho0)))
     (try simp only [Act.put, set_a_, set_b_, set_c_])
     go_cut [57] (fun v57 wc => ∃ (kq : Nat) (x57_21 : Bool), v57 = .bool x57_21 ∧ Aside0 (laws_FnExactReadPolygon.j1 kq t588 t587 x57_21 = some r) ∧ Aside0 (kq ≤ kj4) ∧ Aside0 (Kd.R k33 33 wc w.heap.size (fun _ => True) (.slice Ao23 t582.length co23) t588) ∧ Aside0 (Below w.heap.size w wc))
     case first =>
      have H := HC22.out; clear HC22; replace H := be_ H; obtain ⟨t594, A26, H⟩ := H; replace H := ib_ H
      rcases H with ⟨rfl, H⟩ | ⟨rfl, H⟩
      ·have H' := zpS H
       clear H; obtain ⟨Ao28, co28, eo28⟩ := Kd.R_slice HO593.out; subst eo28; obtain ⟨Ao29, co29, eo29⟩ := Kd.R_slice HO_3.out; subst eo29
       go_wp2_with (first | ((with_reducible refine zgK (f := 6) rfl ?_); refine gl_ (some 51) Tryz.func6 #[.slice Ao28 t590.length co28, .slice Ao29 t578.length co29] ?_; (with_reducible refine (zcH.calls kj4 _ _ t590 _ _ t578 true _ ?side1 ?side2 ?side3 ?side4 A26.out).mono ?_); (case side1 => repeat (first | exact (Kd.R_reads' HO593.out).2.2 | (with_reducible refine Kd.C_alloc ?_ _) | (with_reducible refine Kd.C_drewN ?_ _) | (with_reducible refine Kd.C_drew ?_))); (case side2 => exact (Kd.R_reads' HO593.out).2.1); (case side3 => repeat (first | exact (Kd.R_reads' HO_3.out).2.2 | (with_reducible refine Kd.C_alloc ?_ _) | (with_reducible refine Kd.C_drewN ?_ _) | (with_reducible refine Kd.C_drew ?_))); (case side4 => exact (Kd.R_reads' HO_3.out).2.1); rintro e w30 ⟨rfl, hb⟩; refine ⟨_, rfl, ?_⟩; replace HO_3 := zpS (Kd.R_below (by (with_reducible repeat (first | apply Kd.R_alloc | apply Kd.R_drewN | apply Kd.R_drew)); exact HO_3.out) hb); replace HO_5 := zpS (Kd.R_below (by (with_reducible repeat (first | apply Kd.R_alloc | apply Kd.R_drewN | apply Kd.R_drew)); exact HO_5.out) hb); replace HO593 := zpS (Kd.R_below (by (with_reducible repeat (first | apply Kd.R_alloc | apply Kd.R_drewN | apply Kd.R_drew)); exact HO593.out) hb); replace HB := ns_ hb; (try clear hb); (try clear hb2)))
       go_meet
       case rel => exact ⟨_, ((t591 != t579)), (ey_), H', ⟨by have := HJ4.out; first | omega | exact Nat.le_refl _⟩, ⟨by (with_reducible repeat (first | apply Kd.R_alloc | apply Kd.R_drewN | apply Kd.R_drew)); exact Kd.R_mono HO_5.out (fun _ hk => trivial)⟩, ⟨bb_⟩⟩
      ·have H' := zpS H
       clear H; obtain ⟨Ao31, co31, eo31⟩ := Kd.R_slice HO593.out; subst eo31; obtain ⟨Ao32, co32, eo32⟩ := Kd.R_slice HO_3.out; subst eo32
       go_wp2_with (first | ((with_reducible refine zgK (f := 6) rfl ?_); refine gl_ (some 51) Tryz.func6 #[.slice Ao31 t590.length co31, .slice Ao32 t578.length co32] ?_; (with_reducible refine (zcH.calls kj4 _ _ t590 _ _ t578 false _ ?side1 ?side2 ?side3 ?side4 A26.out).mono ?_); (case side1 => repeat (first | exact (Kd.R_reads' HO593.out).2.2 | (with_reducible refine Kd.C_alloc ?_ _) | (with_reducible refine Kd.C_drewN ?_ _) | (with_reducible refine Kd.C_drew ?_))); (case side2 => exact (Kd.R_reads' HO593.out).2.1); (case side3 => repeat (first | exact (Kd.R_reads' HO_3.out).2.2 | (with_reducible refine Kd.C_alloc ?_ _) | (with_reducible refine Kd.C_drewN ?_ _) | (with_reducible refine Kd.C_drew ?_))); (case side4 => exact (Kd.R_reads' HO_3.out).2.1); rintro e w33 ⟨rfl, hb⟩; refine ⟨_, rfl, ?_⟩; replace HO_3 := zpS (Kd.R_below (by (with_reducible repeat (first | apply Kd.R_alloc | apply Kd.R_drewN | apply Kd.R_drew)); exact HO_3.out) hb); replace HO_5 := zpS (Kd.R_below (by (with_reducible repeat (first | apply Kd.R_alloc | apply Kd.R_drewN | apply Kd.R_drew)); exact HO_5.out) hb); replace HO593 := zpS (Kd.R_below (by (with_reducible repeat (first | apply Kd.R_alloc | apply Kd.R_drewN | apply Kd.R_drew)); exact HO593.out) hb); replace HB := ns_ hb; (try clear hb); (try clear hb2)))
       go_meet
       case rel => exact ⟨_, (true), (ey_), H', ⟨by have := HJ4.out; first | omega | exact Nat.le_refl _⟩, ⟨by (with_reducible repeat (first | apply Kd.R_alloc | apply Kd.R_drewN | apply Kd.R_drew)); exact Kd.R_mono HO_5.out (fun _ hk => trivial)⟩, ⟨bb_⟩⟩
     case rest =>
      clear HC22; (try clear c1); (try clear c2); (try clear c2b0); (try clear c2b1); (try clear p2); (try clear c3); (try clear c4); (try clear c5); (try clear c6); (try clear c7); (try clear c8); (try clear c9); (try clear c16); (try clear c19); (try clear c19b0); (try clear c20); (try clear c20b0); (try clear c20b1); (try clear c27); (try clear p2); obtain ⟨kq, x57_21, rfl, HA, HJ21, HO_5, HB⟩ := hcut; have hl5_21 := (Kd.R_reads' HO_5.out).1; rw [hl5_21] at HO_5
      (try simp only [hl5_21])
      cases kq with
      | zero => exact absurd HA.out (by simp [laws_FnExactReadPolygon.j1])
      | succ kj21 =>
       have H := HA.out; clear HA; simp only [laws_FnExactReadPolygon.j1] at H; replace H := ib_ H
       rcases H with ⟨rfl, H⟩ | ⟨rfl, H⟩
       ·exact absurd H (by simp)
       ·replace H := be_ H
        obtain ⟨t595, A35, H⟩ := H; replace H := ne_ H; obtain ⟨c36b0, H⟩ := H; replace H := in_ H; obtain ⟨c37, H⟩ := H; have c37b0 := bqt_ c37; have c37b1 := bnf_ c37; clear c37; obtain rfl := Option.some.inj H
        go_wp2_with (first | ((with_reducible refine zgK (f := 8) rfl ?_); refine gl_ (some 60) Tryz.func8 #[.slice Ao23 t588.length co23, .int .i64 1] ?_; (with_reducible refine (zsO.calls kj21 _ _ t588 1 t595 _ ?side1 ?side2 A35.out).mono ?_); (case side1 => repeat (first | exact (Kd.R_reads' HO_5.out).2.2 | (with_reducible refine Kd.C_alloc ?_ _) | (with_reducible refine Kd.C_drewN ?_ _) | (with_reducible refine Kd.C_drew ?_))); (case side2 => exact (Kd.R_reads' HO_5.out).2.1); rintro e w' ⟨rfl, ⟨nd, rfl⟩⟩; refine ⟨_, rfl, ?_⟩))
        go_ret
        exact ⟨ex_, bb_⟩

def laws_FnExactReadPolygon.Pure : Prop := ∀ (a0 : ByteArray), a0.size ≤ maxLen → ∃ k, laws_FnExactReadPolygon.f k a0 = some true

end Go.Proofs.YtehghobmmpihfaaGreatDoor.PFnExactReadPolygon
