-- Printed for this claim by this session's program pp.py, which drives the kit's print with additions. Not trusted: Lean checks it.
import Derived.Test.YtmajpmofeddknaaDoorV2PFnExactValidPlacesx0
import Derived.Test.YtmajpmofeddknaaDoorV2PFnExactValidPlacesx2
import Derived.Test.YtmajpmofeddknaaDoorV2PFnExactValidPlacesx8
import Derived.Test.YtmajpmofeddknaaDoorV2PFnExactValidPlacesx10
import Derived.Test.YtmajpmofeddknaaDoorV2PFnExactValidPlacesx13
import Derived.Test.YtmajpmofeddknaaDoorV2PFnExactValidPlacesx14
namespace Go.Proofs.YtmajpmofeddknaaDoor.PFnExactValidPlaces
open Go.RowKit Go.Proofs.YtmajpmofeddknaaDoorW.PrintWords Go.Proofs.YtmajpmofeddknaaDoorW.PrintLast Go.Proofs.YtmajpmofeddknaaDoorW.PrintMore
attribute [local go_sem] zbB ziC zrC zhD znE zuB znH zkT   -- for this text's walks alone
set_option linter.unusedVariables false
set_option linter.unusedSimpArgs false

def laws_FnExactValidPlaces.f (k : Nat) (l0 : List (List (S32))) : Option (Bool) := (zyT.f k l0 1048576).bind fun t446 => (if t446 < 0 then (some true) else ((zaI.f k l0).bind fun t447 => ((zuH.f k t447).bind fun t450 => ((zaI.f k l0).bind fun t451 => ((ztD.f k t451).bind fun t454 => (if (t454 != t450) = true then (none) else ((zaI.f k l0).bind fun t455 => ((zoO.f k t451 t455).bind fun t458 => (if t458 = true then (some true) else (none))))))))))
theorem laws_FnExactValidPlaces.mono : ∀ a0 k, LeO (laws_FnExactValidPlaces.f k a0) (laws_FnExactValidPlaces.f (k + 1) a0) := by
 intro a0 k
 unfold laws_FnExactValidPlaces.f
 repeat' first
   | (with_reducible exact ztD.mono _ _)
   | (with_reducible exact zoO.mono _ _ _)
   | (with_reducible exact zyT.mono _ _ _)
   | (with_reducible exact zaI.mono _ _)
   | (with_reducible exact zuH.mono _ _)
   | (with_reducible exact LeO.refl _)
   | (with_reducible exact LeO.none _)
   | (with_reducible refine LeO.ite ?_ ?_)
   | (with_reducible refine LeO.bind ?_ (fun _ => ?_))
   | exact ztD.mono _ _
   | exact zoO.mono _ _ _
   | exact zyT.mono _ _ _
   | exact zaI.mono _ _
   | exact zuH.mono _ _
   | exact LeO.none _
   | refine LeO.ite ?_ ?_
   | refine LeO.bind ?_ (fun _ => ?_)
set_option maxHeartbeats 8000000 in
set_option maxRecDepth 100000 in
theorem laws_FnExactValidPlaces.calls (k : Nat) (A0 : Option Addr) (c0 : Nat) (l0 : List (List (S32))) (r : Bool) (w : World) (hG : LaidV w) (hr0 : Kd.C (Kd.slice 32 k32) w A0 l0.length l0) (hc0 : l0.length ≤ c0) (h : laws_FnExactValidPlaces.f k l0 = some r) :
  Calls Tryd.prog 5 #[.slice A0 l0.length c0] w fun e w' => e = .returned (.bool r) ∧ Below w.heap.size w w' := by
 have HR0 := zpS hr0
 have HC0 := zpS hc0
 clear hr0 hc0
 have HB := zpS (Below.refl w.heap.size w)
 have H : ((zyT.f k l0 1048576).bind fun t446 => (if t446 < 0 then (some true) else ((zaI.f k l0).bind fun t447 => ((zuH.f k t447).bind fun t450 => ((zaI.f k l0).bind fun t451 => ((ztD.f k t451).bind fun t454 => (if (t454 != t450) = true then (none) else ((zaI.f k l0).bind fun t455 => ((zoO.f k t451 t455).bind fun t458 => (if t458 = true then (some true) else (none))))))))))) = some r := h
 clear h
 replace H := Option.bind_eq_some_iff.mp H
 obtain ⟨t446, A20, H⟩ := H
 replace H : (if t446 < 0 then (some true) else ((zaI.f k l0).bind fun t447 => ((zuH.f k t447).bind fun t450 => ((zaI.f k l0).bind fun t451 => ((ztD.f k t451).bind fun t454 => (if (t454 != t450) = true then (none) else ((zaI.f k l0).bind fun t455 => ((zoO.f k t451 t455).bind fun t458 => (if t458 = true then (some true) else (none)))))))))) = some r := H
 have A2 := zpS A20
 clear A20
 by_cases c3 : t446 < 0
 ·rw [if_pos c3] at H
  have c3b0 : decide (t446 < 0) = true := decide_eq_true c3
  clear c3
  obtain rfl := Option.some.inj H
  go_enter Tryd.func5, Tryd.ntmps5
  go_wp2_with (first | ((with_reducible refine zgK (f := 22) rfl ?_); refine zqQ (some 9) rfl rfl Tryd.func22 (by kernel_rfl) rfl #[.slice A0 l0.length c0, .int .i64 1048576] rfl (by (try simp only [List.map_toArray, List.map_cons, List.map_nil]); first | done | rfl | (simp only [List.length_drop, List.length_take]; rfl)) ?_; (with_reducible refine (zyT.calls k _ _ l0 1048576 t446 _ ?side1 ?side2 A2.out).mono ?_); (case side1 => repeat (first | exact HR0.out | (with_reducible refine Kd.C_alloc ?_ _) | (with_reducible refine Kd.C_drewN ?_ _) | (with_reducible refine Kd.C_drew ?_))); (case side2 => exact HC0.out); rintro e w' ⟨rfl, ⟨nd, rfl⟩⟩; refine ⟨_, rfl, ?_⟩))
  go_ret
  exact ⟨by first | rfl | (simp [ziS, znJ] <;> rfl) | (simp [*, ziS, znJ] <;> rfl), bb_⟩
 ·rw [if_neg c3] at H
  have c3b0 : decide (t446 < 0) = false := decide_eq_false c3
  clear c3
  replace H := Option.bind_eq_some_iff.mp H
  obtain ⟨t447, A40, H⟩ := H
  replace H : ((zuH.f k t447).bind fun t450 => ((zaI.f k l0).bind fun t451 => ((ztD.f k t451).bind fun t454 => (if (t454 != t450) = true then (none) else ((zaI.f k l0).bind fun t455 => ((zoO.f k t451 t455).bind fun t458 => (if t458 = true then (some true) else (none)))))))) = some r := H
  have A4 := zpS A40
  clear A40
  replace H := Option.bind_eq_some_iff.mp H
  obtain ⟨t450, A50, H⟩ := H
  replace H : ((zaI.f k l0).bind fun t451 => ((ztD.f k t451).bind fun t454 => (if (t454 != t450) = true then (none) else ((zaI.f k l0).bind fun t455 => ((zoO.f k t451 t455).bind fun t458 => (if t458 = true then (some true) else (none))))))) = some r := H
  have A5 := zpS A50
  clear A50
  replace H := Option.bind_eq_some_iff.mp H
  obtain ⟨t451, A60, H⟩ := H
  replace H : ((ztD.f k t451).bind fun t454 => (if (t454 != t450) = true then (none) else ((zaI.f k l0).bind fun t455 => ((zoO.f k t451 t455).bind fun t458 => (if t458 = true then (some true) else (none)))))) = some r := H
  have A6 := zpS A60
  clear A60
  replace H := Option.bind_eq_some_iff.mp H
  obtain ⟨t454, A70, H⟩ := H
  replace H : (if (t454 != t450) = true then (none) else ((zaI.f k l0).bind fun t455 => ((zoO.f k t451 t455).bind fun t458 => (if t458 = true then (some true) else (none))))) = some r := H
  have A7 := zpS A70
  clear A70
  by_cases c8 : (t454 != t450) = true
  ·rw [if_pos c8] at H
   exact absurd H (by simp)
  ·rw [if_neg c8] at H
   have c8b0 : (t454 != t450) = false := by simpa using c8
   (try (have c8b1 : decide (t454 = t450) = true := by simpa using c8))
   (try (have c8b2 : (t454 == t450) = true := by simpa using c8))
   clear c8
   replace H := Option.bind_eq_some_iff.mp H
   obtain ⟨t455, A90, H⟩ := H
   replace H : ((zoO.f k t451 t455).bind fun t458 => (if t458 = true then (some true) else (none))) = some r := H
   have A9 := zpS A90
   clear A90
   replace H := Option.bind_eq_some_iff.mp H
   obtain ⟨t458, A100, H⟩ := H
   replace H : (if t458 = true then (some true) else (none)) = some r := H
   have A10 := zpS A100
   clear A100
   by_cases c11 : t458 = true
   ·subst c11
    have H1 : (some true) = some r := by rw [if_pos rfl] at H; exact H
    clear H
    have H := H1
    clear H1
    obtain rfl := Option.some.inj H
    go_enter Tryd.func5, Tryd.ntmps5
    go_wp2_with (first | ((with_reducible refine zgK (f := 22) rfl ?_); refine zqQ (some 9) rfl rfl Tryd.func22 (by kernel_rfl) rfl #[.slice A0 l0.length c0, .int .i64 1048576] rfl (by (try simp only [List.map_toArray, List.map_cons, List.map_nil]); first | done | rfl | (simp only [List.length_drop, List.length_take]; rfl)) ?_; (with_reducible refine (zyT.calls k _ _ l0 1048576 t446 _ ?side1 ?side2 A2.out).mono ?_); (case side1 => repeat (first | exact HR0.out | (with_reducible refine Kd.C_alloc ?_ _) | (with_reducible refine Kd.C_drewN ?_ _) | (with_reducible refine Kd.C_drew ?_))); (case side2 => exact HC0.out); rintro e w' ⟨rfl, ⟨nd, rfl⟩⟩; refine ⟨_, rfl, ?_⟩) | ((with_reducible refine zgK (f := 24) rfl ?_); refine zqQ (some 13) rfl rfl Tryd.func24 (by kernel_rfl) rfl #[.slice A0 l0.length c0] rfl (by (try simp only [List.map_toArray, List.map_cons, List.map_nil]); first | done | rfl | (simp only [List.length_drop, List.length_take]; rfl)) ?_; (with_reducible refine (zaI.calls k _ _ l0 t447 _ ?side1 ?side2 A4.out).mono ?_); (case side1 => repeat (first | exact HR0.out | (with_reducible refine Kd.C_alloc ?_ _) | (with_reducible refine Kd.C_drewN ?_ _) | (with_reducible refine Kd.C_drew ?_))); (case side2 => exact HC0.out); rintro e w12 ⟨v448, rfl, ho0, hb⟩; refine ⟨_, rfl, ?_⟩; have n0_ := zpS (Kd.S_lower ho0 (zuA bb_)); have n1_ := (ns_ hb); clear HB; have HO449 := n0_; have HB := n1_; clear n0_ n1_; (try clear hb); (try clear hb2); (try clear ho0); obtain ⟨Ao13, co13, eo13⟩ := Kd.S_slice HO449.out; subst eo13) | ((with_reducible refine zgK (f := 23) rfl ?_); refine zqQ (some 14) rfl rfl Tryd.func23 (by kernel_rfl) rfl #[.slice Ao13 t447.length co13] rfl (by (try simp only [List.map_toArray, List.map_cons, List.map_nil]); first | done | rfl | (simp only [List.length_drop, List.length_take]; rfl)) ?_; (with_reducible refine (zuH.calls k _ _ t447 t450 _ ?side1 ?side2 A5.out).mono ?_); (case side1 => repeat (first | exact (Kd.S_reads' HO449.out).2.2 | (with_reducible refine Kd.C_alloc ?_ _) | (with_reducible refine Kd.C_drewN ?_ _) | (with_reducible refine Kd.C_drew ?_))); (case side2 => exact (Kd.S_reads' HO449.out).2.1); rintro e w14 ⟨rfl, hb⟩; refine ⟨_, rfl, ?_⟩; have n0_ := zpS (Kd.S_below (by (with_reducible repeat (first | apply Kd.S_alloc | apply Kd.S_drewN | apply Kd.S_drew)); exact HO449.out) hb); have n1_ := (ns_ hb); clear HO449; clear HB; have HO449 := n0_; have HB := n1_; clear n0_ n1_; (try clear hb); (try clear hb2)) | ((with_reducible refine zgK (f := 24) rfl ?_); refine zqQ (some 16) rfl rfl Tryd.func24 (by kernel_rfl) rfl #[.slice A0 l0.length c0] rfl (by (try simp only [List.map_toArray, List.map_cons, List.map_nil]); first | done | rfl | (simp only [List.length_drop, List.length_take]; rfl)) ?_; (with_reducible refine (zaI.calls k _ _ l0 t451 _ ?side1 ?side2 A6.out).mono ?_); (case side1 => repeat (first | exact (Kd.C_below HR0.out HB.out) | (with_reducible refine Kd.C_alloc ?_ _) | (with_reducible refine Kd.C_drewN ?_ _) | (with_reducible refine Kd.C_drew ?_))); (case side2 => exact HC0.out); rintro e w15 ⟨v452, rfl, ho0, hb⟩; refine ⟨_, rfl, ?_⟩; have n0_ := zpS (Kd.S_elder' (by (with_reducible repeat (first | apply Kd.S_alloc | apply Kd.S_drewN | apply Kd.S_drew)); exact HO449.out) (Kd.S_base ho0) hb); have n1_ := zpS (Kd.S_lower (Kd.S_new' ho0 (Kd.S_lt (by (with_reducible repeat (first | apply Kd.S_alloc | apply Kd.S_drewN | apply Kd.S_drew)); exact HO449.out))) (zuA bb_)); have n2_ := (ns_ hb); clear HO449; clear HB; have HO449 := n0_; have HO453 := n1_; have HB := n2_; clear n0_ n1_ n2_; (try clear hb); (try clear hb2); (try clear ho0); obtain ⟨Ao16, co16, eo16⟩ := Kd.S_slice HO453.out; subst eo16) | ((with_reducible refine zgK (f := 25) rfl ?_); refine zqQ (some 18) rfl rfl Tryd.func25 (by kernel_rfl) rfl #[.slice Ao16 t451.length co16] rfl (by (try simp only [List.map_toArray, List.map_cons, List.map_nil]); first | done | rfl | (simp only [List.length_drop, List.length_take]; rfl)) ?_; (with_reducible refine (ztD.calls k _ _ t451 t454 _ ?side3 ?side1 ?side2 A7.out).mono ?_); (case side1 => repeat (first | exact (Kd.S_reads' HO453.out).2.2 | (with_reducible refine Kd.C_alloc ?_ _) | (with_reducible refine Kd.C_drewN ?_ _) | (with_reducible refine Kd.C_drew ?_))); (case side2 => exact (Kd.S_reads' HO453.out).2.1); (case side3 => exact LaidV.below hG bb_); rintro e w17 ⟨rfl, hb⟩; refine ⟨_, rfl, ?_⟩; have n0_ := zpS (Kd.S_below (by (with_reducible repeat (first | apply Kd.S_alloc | apply Kd.S_drewN | apply Kd.S_drew)); exact HO449.out) hb); have n1_ := zpS (Kd.S_below (by (with_reducible repeat (first | apply Kd.S_alloc | apply Kd.S_drewN | apply Kd.S_drew)); exact HO453.out) hb); have n2_ := (ns_ hb); clear HO449; clear HO453; clear HB; have HO449 := n0_; have HO453 := n1_; have HB := n2_; clear n0_ n1_ n2_; (try clear hb); (try clear hb2)) | ((with_reducible refine zgK (f := 24) rfl ?_); refine zqQ (some 24) rfl rfl Tryd.func24 (by kernel_rfl) rfl #[.slice A0 l0.length c0] rfl (by (try simp only [List.map_toArray, List.map_cons, List.map_nil]); first | done | rfl | (simp only [List.length_drop, List.length_take]; rfl)) ?_; (with_reducible refine (zaI.calls k _ _ l0 t455 _ ?side1 ?side2 A9.out).mono ?_); (case side1 => repeat (first | exact (Kd.C_below HR0.out HB.out) | (with_reducible refine Kd.C_alloc ?_ _) | (with_reducible refine Kd.C_drewN ?_ _) | (with_reducible refine Kd.C_drew ?_))); (case side2 => exact HC0.out); rintro e w18 ⟨v456, rfl, ho0, hb⟩; refine ⟨_, rfl, ?_⟩; have n0_ := zpS (Kd.S_elder' (by (with_reducible repeat (first | apply Kd.S_alloc | apply Kd.S_drewN | apply Kd.S_drew)); exact HO449.out) (Kd.S_base ho0) hb); have n1_ := zpS (Kd.S_elder' (by (with_reducible repeat (first | apply Kd.S_alloc | apply Kd.S_drewN | apply Kd.S_drew)); exact HO453.out) (Kd.S_base ho0) hb); have n2_ := zpS (Kd.S_lower (Kd.S_new' (Kd.S_new' ho0 (Kd.S_lt (by (with_reducible repeat (first | apply Kd.S_alloc | apply Kd.S_drewN | apply Kd.S_drew)); exact HO449.out))) (Kd.S_lt (by (with_reducible repeat (first | apply Kd.S_alloc | apply Kd.S_drewN | apply Kd.S_drew)); exact HO453.out))) (zuA bb_)); have n3_ := (ns_ hb); clear HO449; clear HO453; clear HB; have HO449 := n0_; have HO453 := n1_; have HO457 := n2_; have HB := n3_; clear n0_ n1_ n2_ n3_; (try clear hb); (try clear hb2); (try clear ho0); obtain ⟨Ao19, co19, eo19⟩ := Kd.S_slice HO457.out; subst eo19) | ((with_reducible refine zgK (f := 26) rfl ?_); refine zqQ (some 25) rfl rfl Tryd.func26 (by kernel_rfl) rfl #[.slice Ao16 t451.length co16, .slice Ao19 t455.length co19] rfl (by (try simp only [List.map_toArray, List.map_cons, List.map_nil]); first | done | rfl | (simp only [List.length_drop, List.length_take]; rfl)) ?_; (with_reducible refine (zoO.calls k _ _ t451 _ _ t455 true _ ?side1 ?side2 ?side3 ?side4 A10.out).mono ?_); (case side1 => repeat (first | exact (Kd.S_reads' HO453.out).2.2 | (with_reducible refine Kd.C_alloc ?_ _) | (with_reducible refine Kd.C_drewN ?_ _) | (with_reducible refine Kd.C_drew ?_))); (case side2 => exact (Kd.S_reads' HO453.out).2.1); (case side3 => repeat (first | exact (Kd.S_reads' HO457.out).2.2 | (with_reducible refine Kd.C_alloc ?_ _) | (with_reducible refine Kd.C_drewN ?_ _) | (with_reducible refine Kd.C_drew ?_))); (case side4 => exact (Kd.S_reads' HO457.out).2.1); rintro e w20 ⟨rfl, hb⟩; refine ⟨_, rfl, ?_⟩; have n0_ := zpS (Kd.S_below (by (with_reducible repeat (first | apply Kd.S_alloc | apply Kd.S_drewN | apply Kd.S_drew)); exact HO449.out) hb); have n1_ := zpS (Kd.S_below (by (with_reducible repeat (first | apply Kd.S_alloc | apply Kd.S_drewN | apply Kd.S_drew)); exact HO453.out) hb); have n2_ := zpS (Kd.S_below (by (with_reducible repeat (first | apply Kd.S_alloc | apply Kd.S_drewN | apply Kd.S_drew)); exact HO457.out) hb); have n3_ := (ns_ hb); clear HO449; clear HO453; clear HO457; clear HB; have HO449 := n0_; have HO453 := n1_; have HO457 := n2_; have HB := n3_; clear n0_ n1_ n2_ n3_; (try clear hb); (try clear hb2)))
    go_ret
    exact ⟨by first | rfl | (simp [ziS, znJ] <;> rfl) | (simp [*, ziS, znJ] <;> rfl), bb_⟩
   ·replace c11 := Bool.eq_false_iff.mpr c11
    subst c11
    have H1 : (none) = some r := by rw [if_neg (show ¬ (false = true) by decide)] at H; exact H
    clear H
    have H := H1
    clear H1
    exact absurd H (by simp)
def ok30 (x : S30) : Prop := (Lit.int .i64 x.f0).wf = true ∧ (Lit.int .i64 x.f1).wf = true ∧ (Lit.int .i64 x.f2).wf = true
def ok32 (x : S32) : Prop := ok30 x.f0 ∧ ok30 x.f1

def laws_FnExactValidPlaces.Pure : Prop := ∀ (l0 : List (List (S32))), (l0.length ≤ maxLen ∧ ∀ x_ ∈ l0, (x_.length ≤ maxLen ∧ ∀ x__ ∈ x_, ok32 x__)) → ∃ k, laws_FnExactValidPlaces.f k l0 = some true

end Go.Proofs.YtmajpmofeddknaaDoor.PFnExactValidPlaces
