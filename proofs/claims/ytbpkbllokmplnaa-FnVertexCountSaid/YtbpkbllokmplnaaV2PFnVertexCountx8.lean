-- Printed for this claim by this session's program pp.py, which drives the kit's print with additions. Not trusted: Lean checks it.
import Derived.Test.YtbpkbllokmplnaaV2PFnVertexCountx0
import Derived.Test.YtbpkbllokmplnaaV2PFnVertexCountx5
import Derived.Test.YtbpkbllokmplnaaV2PFnVertexCountx6
import Derived.Test.YtbpkbllokmplnaaV2PFnVertexCountx7
namespace Go.Proofs.Ytbpkbllokmplnaa.PFnVertexCount
open Go.RowKit Go.Proofs.YtbpkbllokmplnaaW.PrintWords Go.Proofs.YtbpkbllokmplnaaW.PrintLast Go.Proofs.YtbpkbllokmplnaaW.PrintMore
attribute [local go_sem] max2_int min2_int max_two min_two znE zuB max_four min_four   -- for this text's walks alone
set_option linter.unusedVariables false
set_option linter.unusedSimpArgs false

mutual
def laws_FnVertexCount.j0 : Nat → List Int → List (List Int) → Bool → Option (Bool)
 | 0, _, _, _ => none
 | k + 1, x3, x6, x46 => if x46 = true then (none) else (laws_FnVertexCount.l0 k x3 x6 0)
def laws_FnVertexCount.l0 : Nat → List Int → List (List Int) → Int → Option (Bool)
 | 0, _, _, _ => none
 | k + 1, x3, x6, x8 => if x8 < (x6.length : Int) then (laws_FnVertexCount.l1 k x3 x6 x8 0 0) else (some true)
def laws_FnVertexCount.l1 : Nat → List Int → List (List Int) → Int → Int → Int → Option (Bool)
 | 0, _, _, _, _, _ => none
 | k + 1, x3, x6, x8, x9, x10 => if 0 ≤ x8 then (if x8 < (x6.length : Int) then (if x10 < ((znM x6 x8).length : Int) then (if 0 ≤ x10 then (if (rd (znM x6 x8) x10) = 2 then (laws_FnVertexCount.l1 k x3 x6 x8 (wrap64 (x9 + 1)) (wrap64 (x10 + 1))) else (laws_FnVertexCount.l1 k x3 x6 x8 x9 (wrap64 (x10 + 1)))) else (none)) else ((zcL.f k x3 (znM x6 x8)).bind fun t314 => (if t314 = true then (if (wrap64 (2 * x9)) = (wrap64 ((x3.length : Int) + 2)) then (laws_FnVertexCount.l0 k x3 x6 (wrap64 (x8 + 1))) else (if (wrap64 (2 * x9)) = (wrap64 ((x3.length : Int) - 2)) then (laws_FnVertexCount.l0 k x3 x6 (wrap64 (x8 + 1))) else (none))) else (none)))) else (none)) else (none)
end
def laws_FnVertexCount.f (k : Nat) (l0 : List Int) : Option (Bool) := (zpR.f l0 ([] : List Int)).bind fun t299 => (if t299 = true then (some true) else ((zuK.f k l0 8).bind fun t300 => ((zeK.f k t300).bind fun bt303 => ((zyN.f k t300).bind fun bt305 => (if bt303.2 = 0 then (if bt305.2 = 0 then (if (bt305.1.length : Int) = bt303.1 then (if bt303.1 < 2 then (laws_FnVertexCount.j0 k t300 bt305.1 true) else ((zzL.f k bt305.1).bind fun t309 => (laws_FnVertexCount.j0 k t300 bt305.1 (!t309)))) else (laws_FnVertexCount.j0 k t300 bt305.1 true)) else (laws_FnVertexCount.j0 k t300 bt305.1 true)) else (laws_FnVertexCount.j0 k t300 bt305.1 true))))))
theorem laws_FnVertexCount.mono_l : ∀ k, (∀ y0 y1 y2, LeO (laws_FnVertexCount.j0 k y0 y1 y2) (laws_FnVertexCount.j0 (k + 1) y0 y1 y2)) ∧ (∀ y0 y1 y2, LeO (laws_FnVertexCount.l0 k y0 y1 y2) (laws_FnVertexCount.l0 (k + 1) y0 y1 y2)) ∧ (∀ y0 y1 y2 y3 y4, LeO (laws_FnVertexCount.l1 k y0 y1 y2 y3 y4) (laws_FnVertexCount.l1 (k + 1) y0 y1 y2 y3 y4))
 | 0 => ⟨fun _ _ _ r h => by simp [laws_FnVertexCount.j0] at h, fun _ _ _ r h => by simp [laws_FnVertexCount.l0] at h, fun _ _ _ _ _ r h => by simp [laws_FnVertexCount.l1] at h⟩
 | k + 1 => by
  obtain ⟨ih0, ih1, ih2⟩ := laws_FnVertexCount.mono_l k
  refine ⟨?_, ?_, ?_⟩
  ·intro y0 y1 y2
   unfold laws_FnVertexCount.j0
   repeat' first
   | (with_reducible exact ih0 _ _ _)
   | (with_reducible exact ih1 _ _ _)
   | (with_reducible exact ih2 _ _ _ _ _)
   | (with_reducible exact zyN.mono _ _)
   | (with_reducible exact zeK.mono _ _)
   | (with_reducible exact zcL.mono _ _ _)
   | (with_reducible exact zzL.mono _ _)
   | (with_reducible exact zuK.mono _ _ _)
   | (with_reducible exact LeO.refl _)
   | (with_reducible exact LeO.none _)
   | (with_reducible refine LeO.ite ?_ ?_)
   | (with_reducible refine LeO.bind ?_ (fun _ => ?_))
   | exact ih0 _ _ _
   | exact ih1 _ _ _
   | exact ih2 _ _ _ _ _
   | exact zyN.mono _ _
   | exact zeK.mono _ _
   | exact zcL.mono _ _ _
   | exact zzL.mono _ _
   | exact zuK.mono _ _ _
   | exact LeO.none _
   | refine LeO.ite ?_ ?_
   | refine LeO.bind ?_ (fun _ => ?_)
  ·intro y0 y1 y2
   unfold laws_FnVertexCount.l0
   repeat' first
   | (with_reducible exact ih0 _ _ _)
   | (with_reducible exact ih1 _ _ _)
   | (with_reducible exact ih2 _ _ _ _ _)
   | (with_reducible exact zyN.mono _ _)
   | (with_reducible exact zeK.mono _ _)
   | (with_reducible exact zcL.mono _ _ _)
   | (with_reducible exact zzL.mono _ _)
   | (with_reducible exact zuK.mono _ _ _)
   | (with_reducible exact LeO.refl _)
   | (with_reducible exact LeO.none _)
   | (with_reducible refine LeO.ite ?_ ?_)
   | (with_reducible refine LeO.bind ?_ (fun _ => ?_))
   | exact ih0 _ _ _
   | exact ih1 _ _ _
   | exact ih2 _ _ _ _ _
   | exact zyN.mono _ _
   | exact zeK.mono _ _
   | exact zcL.mono _ _ _
   | exact zzL.mono _ _
   | exact zuK.mono _ _ _
   | exact LeO.none _
   | refine LeO.ite ?_ ?_
   | refine LeO.bind ?_ (fun _ => ?_)
  ·intro y0 y1 y2 y3 y4
   unfold laws_FnVertexCount.l1
   repeat' first
   | (with_reducible exact ih0 _ _ _)
   | (with_reducible exact ih1 _ _ _)
   | (with_reducible exact ih2 _ _ _ _ _)
   | (with_reducible exact zyN.mono _ _)
   | (with_reducible exact zeK.mono _ _)
   | (with_reducible exact zcL.mono _ _ _)
   | (with_reducible exact zzL.mono _ _)
   | (with_reducible exact zuK.mono _ _ _)
   | (with_reducible exact LeO.refl _)
   | (with_reducible exact LeO.none _)
   | (with_reducible refine LeO.ite ?_ ?_)
   | (with_reducible refine LeO.bind ?_ (fun _ => ?_))
   | exact ih0 _ _ _
   | exact ih1 _ _ _
   | exact ih2 _ _ _ _ _
   | exact zyN.mono _ _
   | exact zeK.mono _ _
   | exact zcL.mono _ _ _
   | exact zzL.mono _ _
   | exact zuK.mono _ _ _
   | exact LeO.none _
   | refine LeO.ite ?_ ?_
   | refine LeO.bind ?_ (fun _ => ?_)
theorem laws_FnVertexCount.mono : ∀ a0 k, LeO (laws_FnVertexCount.f k a0) (laws_FnVertexCount.f (k + 1) a0) := by
 intro a0 k
 obtain ⟨ih0, ih1, ih2⟩ := laws_FnVertexCount.mono_l k
 unfold laws_FnVertexCount.f
 repeat' first
   | (with_reducible exact ih0 _ _ _)
   | (with_reducible exact ih1 _ _ _)
   | (with_reducible exact ih2 _ _ _ _ _)
   | (with_reducible exact zyN.mono _ _)
   | (with_reducible exact zeK.mono _ _)
   | (with_reducible exact zcL.mono _ _ _)
   | (with_reducible exact zzL.mono _ _)
   | (with_reducible exact zuK.mono _ _ _)
   | (with_reducible exact LeO.refl _)
   | (with_reducible exact LeO.none _)
   | (with_reducible refine LeO.ite ?_ ?_)
   | (with_reducible refine LeO.bind ?_ (fun _ => ?_))
   | exact ih0 _ _ _
   | exact ih1 _ _ _
   | exact ih2 _ _ _ _ _
   | exact zyN.mono _ _
   | exact zeK.mono _ _
   | exact zcL.mono _ _ _
   | exact zzL.mono _ _
   | exact zuK.mono _ _ _
   | exact LeO.none _
   | refine LeO.ite ?_ ?_
   | refine LeO.bind ?_ (fun _ => ?_)
set_option maxHeartbeats 8000000 in
set_option maxRecDepth 100000 in
theorem laws_FnVertexCount.calls (k : Nat) (A0 : Option Addr) (c0 : Nat) (l0 : List Int) (r : Bool) (w : World) (hr0 : Kd.C (Kd.int .u8) w A0 l0.length l0) (hc0 : l0.length ≤ c0) (h : laws_FnVertexCount.f k l0 = some r) :
  Calls Try.prog 4 #[.slice A0 l0.length c0] w fun e w' => e = .returned (.bool r) ∧ Below w.heap.size w w' := by
 have HR0 := zpS hr0
 have HC0 := zpS hc0
 clear hr0 hc0
 have HB := zpS (Below.refl w.heap.size w)
 have H : ((zpR.f l0 ([] : List Int)).bind fun t299 => (if t299 = true then (some true) else ((zuK.f k l0 8).bind fun t300 => ((zeK.f k t300).bind fun bt303 => ((zyN.f k t300).bind fun bt305 => (if bt303.2 = 0 then (if bt305.2 = 0 then (if (bt305.1.length : Int) = bt303.1 then (if bt303.1 < 2 then (laws_FnVertexCount.j0 k t300 bt305.1 true) else ((zzL.f k bt305.1).bind fun t309 => (laws_FnVertexCount.j0 k t300 bt305.1 (!t309)))) else (laws_FnVertexCount.j0 k t300 bt305.1 true)) else (laws_FnVertexCount.j0 k t300 bt305.1 true)) else (laws_FnVertexCount.j0 k t300 bt305.1 true))))))) = some r := h
 clear h
 replace H := Option.bind_eq_some_iff.mp H
 obtain ⟨t299, A20, H⟩ := H
 replace H : (if t299 = true then (some true) else ((zuK.f k l0 8).bind fun t300 => ((zeK.f k t300).bind fun bt303 => ((zyN.f k t300).bind fun bt305 => (if bt303.2 = 0 then (if bt305.2 = 0 then (if (bt305.1.length : Int) = bt303.1 then (if bt303.1 < 2 then (laws_FnVertexCount.j0 k t300 bt305.1 true) else ((zzL.f k bt305.1).bind fun t309 => (laws_FnVertexCount.j0 k t300 bt305.1 (!t309)))) else (laws_FnVertexCount.j0 k t300 bt305.1 true)) else (laws_FnVertexCount.j0 k t300 bt305.1 true)) else (laws_FnVertexCount.j0 k t300 bt305.1 true)))))) = some r := H
 have A2 := zpS A20
 clear A20
 by_cases c3 : t299 = true
 ·subst c3
  have H1 : (some true) = some r := by rw [if_pos rfl] at H; exact H
  clear H
  have H := H1
  clear H1
  obtain rfl := Option.some.inj H
  go_enter Try.func4, Try.ntmps4
  go_wp2_with (first | ((with_reducible refine zgL (f := 18) rfl ?_); refine zqQ (some 13) rfl rfl Try.func18 (by kernel_rfl) rfl #[.slice A0 l0.length c0, .slice none 0 0] rfl (by (try simp only [List.map_toArray, List.map_cons, List.map_nil]); first | done | rfl | (simp only [List.length_drop, List.length_take]; rfl)) ?_; (refine (zpR.calls _ _ l0 _ _ ([] : List Int) true _ ?side1 ?side2 ?side3 ?side4 A2.out).mono ?_); (case side1 => repeat (first | exact HR0.out | (with_reducible refine Kd.C_alloc ?_ _) | (with_reducible refine Kd.C_drewN ?_ _) | (with_reducible refine Kd.C_drew ?_))); (case side2 => exact HC0.out); (case side3 => exact Kd.C_nil _ _); (case side4 => exact Nat.le_refl _); rintro e w' ⟨rfl, ⟨nd, rfl⟩⟩; refine ⟨_, rfl, ?_⟩))
  go_ret
  exact ⟨by first | rfl | (simp [ziS, znJ] <;> rfl) | (simp [*, ziS, znJ] <;> rfl), bb_⟩
 ·replace c3 := Bool.eq_false_iff.mpr c3
  subst c3
  have H1 : ((zuK.f k l0 8).bind fun t300 => ((zeK.f k t300).bind fun bt303 => ((zyN.f k t300).bind fun bt305 => (if bt303.2 = 0 then (if bt305.2 = 0 then (if (bt305.1.length : Int) = bt303.1 then (if bt303.1 < 2 then (laws_FnVertexCount.j0 k t300 bt305.1 true) else ((zzL.f k bt305.1).bind fun t309 => (laws_FnVertexCount.j0 k t300 bt305.1 (!t309)))) else (laws_FnVertexCount.j0 k t300 bt305.1 true)) else (laws_FnVertexCount.j0 k t300 bt305.1 true)) else (laws_FnVertexCount.j0 k t300 bt305.1 true))))) = some r := by rw [if_neg (show ¬ (false = true) by decide)] at H; exact H
  clear H
  have H := H1
  clear H1
  replace H := Option.bind_eq_some_iff.mp H
  obtain ⟨t300, A40, H⟩ := H
  replace H : ((zeK.f k t300).bind fun bt303 => ((zyN.f k t300).bind fun bt305 => (if bt303.2 = 0 then (if bt305.2 = 0 then (if (bt305.1.length : Int) = bt303.1 then (if bt303.1 < 2 then (laws_FnVertexCount.j0 k t300 bt305.1 true) else ((zzL.f k bt305.1).bind fun t309 => (laws_FnVertexCount.j0 k t300 bt305.1 (!t309)))) else (laws_FnVertexCount.j0 k t300 bt305.1 true)) else (laws_FnVertexCount.j0 k t300 bt305.1 true)) else (laws_FnVertexCount.j0 k t300 bt305.1 true)))) = some r := H
  have A4 := zpS A40
  clear A40
  replace H := Option.bind_eq_some_iff.mp H
  obtain ⟨⟨t303, t304⟩, A50, H⟩ := H
  replace H : ((zyN.f k t300).bind fun bt305 => (if t304 = 0 then (if bt305.2 = 0 then (if (bt305.1.length : Int) = t303 then (if t303 < 2 then (laws_FnVertexCount.j0 k t300 bt305.1 true) else ((zzL.f k bt305.1).bind fun t309 => (laws_FnVertexCount.j0 k t300 bt305.1 (!t309)))) else (laws_FnVertexCount.j0 k t300 bt305.1 true)) else (laws_FnVertexCount.j0 k t300 bt305.1 true)) else (laws_FnVertexCount.j0 k t300 bt305.1 true))) = some r := H
  have A5 := zpS A50
  clear A50
  replace H := Option.bind_eq_some_iff.mp H
  obtain ⟨⟨t305, t306⟩, A60, H⟩ := H
  replace H : (if t304 = 0 then (if t306 = 0 then (if (t305.length : Int) = t303 then (if t303 < 2 then (laws_FnVertexCount.j0 k t300 t305 true) else ((zzL.f k t305).bind fun t309 => (laws_FnVertexCount.j0 k t300 t305 (!t309)))) else (laws_FnVertexCount.j0 k t300 t305 true)) else (laws_FnVertexCount.j0 k t300 t305 true)) else (laws_FnVertexCount.j0 k t300 t305 true)) = some r := H
  have A6 := zpS A60
  clear A60
  have HC7 := zpS H
  clear H
  go_enter Try.func4, Try.ntmps4
  go_upto_region 6 with (first | ((with_reducible refine zgL (f := 18) rfl ?_); refine zqQ (some 13) rfl rfl Try.func18 (by kernel_rfl) rfl #[.slice A0 l0.length c0, .slice none 0 0] rfl (by (try simp only [List.map_toArray, List.map_cons, List.map_nil]); first | done | rfl | (simp only [List.length_drop, List.length_take]; rfl)) ?_; (refine (zpR.calls _ _ l0 _ _ ([] : List Int) false _ ?side1 ?side2 ?side3 ?side4 A2.out).mono ?_); (case side1 => repeat (first | exact HR0.out | (with_reducible refine Kd.C_alloc ?_ _) | (with_reducible refine Kd.C_drewN ?_ _) | (with_reducible refine Kd.C_drew ?_))); (case side2 => exact HC0.out); (case side3 => exact Kd.C_nil _ _); (case side4 => exact Nat.le_refl _); rintro e w' ⟨rfl, ⟨nd, rfl⟩⟩; refine ⟨_, rfl, ?_⟩) | ((with_reducible refine zgL (f := 19) rfl ?_); refine zqQ (some 15) rfl rfl Try.func19 (by kernel_rfl) rfl #[.slice A0 l0.length c0, .int .i64 8] rfl (by (try simp only [List.map_toArray, List.map_cons, List.map_nil]); first | done | rfl | (simp only [List.length_drop, List.length_take]; rfl)) ?_; (with_reducible refine (zuK.calls k _ _ l0 8 t300 _ ?side1 ?side2 A4.out).mono ?_); (case side1 => repeat (first | exact HR0.out | (with_reducible refine Kd.C_alloc ?_ _) | (with_reducible refine Kd.C_drewN ?_ _) | (with_reducible refine Kd.C_drew ?_))); (case side2 => exact HC0.out); rintro e w8 ⟨v301, rfl, ho0, hb⟩; refine ⟨_, rfl, ?_⟩; have n0_ := zpS (Kd.R_lower ho0 (zuA bb_)); have n1_ := (ns_ hb); clear HB; have HO302 := n0_; have HB := n1_; clear n0_ n1_; (try clear hb); (try clear hb2); (try clear ho0); obtain ⟨Ao9, co9, eo9⟩ := Kd.R_slice HO302.out; subst eo9) | ((with_reducible refine zgL (f := 20) rfl ?_); refine zqQ (some 18) rfl rfl Try.func20 (by kernel_rfl) rfl #[.slice Ao9 t300.length co9] rfl (by (try simp only [List.map_toArray, List.map_cons, List.map_nil]); first | done | rfl | (simp only [List.length_drop, List.length_take]; rfl)) ?_; (with_reducible refine (zeK.calls k _ _ t300 t303 t304 _ ?side1 ?side2 A5.out).mono ?_); (case side1 => repeat (first | exact (Kd.R_reads' HO302.out).2.2 | (with_reducible refine Kd.C_alloc ?_ _) | (with_reducible refine Kd.C_drewN ?_ _) | (with_reducible refine Kd.C_drew ?_))); (case side2 => exact (Kd.R_reads' HO302.out).2.1); rintro e w10 ⟨rfl, hb⟩; refine ⟨_, rfl, ?_⟩; have n0_ := zpS (Kd.R_below (by (with_reducible repeat (first | apply Kd.R_alloc | apply Kd.R_drewN | apply Kd.R_drew)); exact HO302.out) hb); have n1_ := (ns_ hb); clear HO302; clear HB; have HO302 := n0_; have HB := n1_; clear n0_ n1_; (try clear hb); (try clear hb2)) | ((with_reducible refine zgL (f := 12) rfl ?_); refine zqQ (some 23) rfl rfl Try.func12 (by kernel_rfl) rfl #[.slice Ao9 t300.length co9] rfl (by (try simp only [List.map_toArray, List.map_cons, List.map_nil]); first | done | rfl | (simp only [List.length_drop, List.length_take]; rfl)) ?_; (with_reducible refine (zyN.calls k _ _ t300 t305 t306 _ ?side1 ?side2 A6.out).mono ?_); (case side1 => repeat (first | exact (Kd.R_reads' HO302.out).2.2 | (with_reducible refine Kd.C_alloc ?_ _) | (with_reducible refine Kd.C_drewN ?_ _) | (with_reducible refine Kd.C_drew ?_))); (case side2 => exact (Kd.R_reads' HO302.out).2.1); rintro e w11 ⟨v307, rfl, ho0, hb⟩; refine ⟨_, rfl, ?_⟩; have n0_ := zpS (Kd.R_below (by (with_reducible repeat (first | apply Kd.R_alloc | apply Kd.R_drewN | apply Kd.R_drew)); exact HO302.out) hb); have n1_ := zpS (Kd.S_lower (Kd.S_new' ho0 (Kd.R_lt (by (with_reducible repeat (first | apply Kd.R_alloc | apply Kd.R_drewN | apply Kd.R_drew)); exact HO302.out))) (zuA bb_)); have n2_ := (ns_ hb); clear HO302; clear HB; have HO302 := n0_; have HO308 := n1_; have HB := n2_; clear n0_ n1_ n2_; (try clear hb); (try clear hb2); (try clear ho0)))
  (try simp only [Act.put, set_a_, set_b_, set_c_])
  go_cut [46] (fun v46 wc => ∃ (kq : Nat) (x46_6 : Bool), v46 = .bool x46_6 ∧ Aside0 (laws_FnVertexCount.j0 kq t300 t305 x46_6 = some r) ∧ Aside0 (kq ≤ k) ∧ Aside0 (Kd.R (Kd.int .i64) 2 wc w.heap.size (fun _ => True) (.slice Ao9 t300.length co9) t300) ∧ Aside0 (Kd.S (Kd.slice 2 (Kd.int .i64)) 22 wc w.heap.size (fun k_ => some k_ ≠ ((.slice Ao9 t300.length co9) : Value).ownBlock) v307 t305) ∧ Aside0 (Below w.heap.size w wc))
  case first =>
   have H := HC7.out
   clear HC7
   by_cases c12 : t304 = 0
   ·rw [if_pos c12] at H
    have c12b0 : (t304 == 0) = true := beq_iff_eq.mpr c12
    have c12b1 : (t304 != 0) = false := bne_eq_false_iff_eq.mpr c12
    clear c12
    (first | rw [c12b0] | (simp only [zcO, i32_w]; rw [c12b0]) | skip)
    by_cases c13 : t306 = 0
    ·rw [if_pos c13] at H
     have c13b0 : (t306 == 0) = true := beq_iff_eq.mpr c13
     have c13b1 : (t306 != 0) = false := bne_eq_false_iff_eq.mpr c13
     clear c13
     by_cases c14 : (t305.length : Int) = t303
     ·rw [if_pos c14] at H
      have c14b0 : ((t305.length : Int) == t303) = true := beq_iff_eq.mpr c14
      have c14b1 : ((t305.length : Int) != t303) = false := bne_eq_false_iff_eq.mpr c14
      clear c14
      by_cases c15 : t303 < 2
      ·rw [if_pos c15] at H
       have c15b0 : decide (t303 < 2) = true := decide_eq_true c15
       clear c15
       have H' := zpS H
       clear H
       obtain ⟨Ao16, co16, eo16⟩ := Kd.S_slice HO308.out
       subst eo16
       go_wp2
       go_meet
       case rel => exact ⟨_, (true), (by first | rfl | (simp; done) | (simp [*]; done)), H', ⟨by first | omega | exact Nat.le_refl _⟩, ⟨by (with_reducible repeat (first | apply Kd.R_alloc | apply Kd.R_drewN | apply Kd.R_drew)); exact HO302.out⟩, ⟨by (with_reducible repeat (first | apply Kd.S_alloc | apply Kd.S_drewN | apply Kd.S_drew)); exact Kd.S_mono HO308.out (fun _ hk => hk.2)⟩, ⟨bb_⟩⟩
      ·rw [if_neg c15] at H
       have c15b0 : decide (t303 < 2) = false := decide_eq_false c15
       clear c15
       replace H := Option.bind_eq_some_iff.mp H
       obtain ⟨t309, A170, H⟩ := H
       replace H : (laws_FnVertexCount.j0 k t300 t305 (!t309)) = some r := H
       have A17 := zpS A170
       clear A170
       have H' := zpS H
       clear H
       obtain ⟨Ao18, co18, eo18⟩ := Kd.S_slice HO308.out
       subst eo18
       go_wp2_with (first | (go_at_call 21; (with_reducible refine (zzL.calls k _ _ t305 t309 _ ?side1 ?side2 A17.out).mono ?_); (case side1 => repeat (first | exact (Kd.S_reads' HO308.out).2.2 | (with_reducible refine Kd.C_alloc ?_ _) | (with_reducible refine Kd.C_drewN ?_ _) | (with_reducible refine Kd.C_drew ?_))); (case side2 => exact (Kd.S_reads' HO308.out).2.1); rintro e w' ⟨rfl, ⟨nd, rfl⟩⟩))
       go_meet
       case rel => exact ⟨_, (!t309), (by first | rfl | (simp; done) | (simp [*]; done)), H', ⟨by first | omega | exact Nat.le_refl _⟩, ⟨by (with_reducible repeat (first | apply Kd.R_alloc | apply Kd.R_drewN | apply Kd.R_drew)); exact HO302.out⟩, ⟨by (with_reducible repeat (first | apply Kd.S_alloc | apply Kd.S_drewN | apply Kd.S_drew)); exact Kd.S_mono HO308.out (fun _ hk => hk.2)⟩, ⟨bb_⟩⟩
     ·rw [if_neg c14] at H
      have c14b0 : ((t305.length : Int) == t303) = false := beq_eq_false_iff_ne.mpr c14
      have c14b1 : ((t305.length : Int) != t303) = true := bne_iff_ne.mpr c14
      have H' := zpS H
      clear H
      obtain ⟨Ao19, co19, eo19⟩ := Kd.S_slice HO308.out
      subst eo19
      go_wp2
      go_meet
      case rel => exact ⟨_, (true), (by first | rfl | (simp; done) | (simp [*]; done)), H', ⟨by first | omega | exact Nat.le_refl _⟩, ⟨by (with_reducible repeat (first | apply Kd.R_alloc | apply Kd.R_drewN | apply Kd.R_drew)); exact HO302.out⟩, ⟨by (with_reducible repeat (first | apply Kd.S_alloc | apply Kd.S_drewN | apply Kd.S_drew)); exact Kd.S_mono HO308.out (fun _ hk => hk.2)⟩, ⟨bb_⟩⟩
    ·rw [if_neg c13] at H
     have c13b0 : (t306 == 0) = false := beq_eq_false_iff_ne.mpr c13
     have c13b1 : (t306 != 0) = true := bne_iff_ne.mpr c13
     have H' := zpS H
     clear H
     go_wp2
     go_meet
     case rel => exact ⟨_, (true), (by first | rfl | (simp; done) | (simp [*]; done)), H', ⟨by first | omega | exact Nat.le_refl _⟩, ⟨by (with_reducible repeat (first | apply Kd.R_alloc | apply Kd.R_drewN | apply Kd.R_drew)); exact HO302.out⟩, ⟨by (with_reducible repeat (first | apply Kd.S_alloc | apply Kd.S_drewN | apply Kd.S_drew)); exact Kd.S_mono HO308.out (fun _ hk => hk.2)⟩, ⟨bb_⟩⟩
   ·rw [if_neg c12] at H
    have c12b0 : (t304 == 0) = false := beq_eq_false_iff_ne.mpr c12
    have c12b1 : (t304 != 0) = true := bne_iff_ne.mpr c12
    (first | rw [c12b0] | (simp only [zcO, i32_w]; rw [c12b0]) | skip)
    have H' := zpS H
    clear H
    go_wp2
    go_meet
    case rel => exact ⟨_, (true), (by first | rfl | (simp; done) | (simp [*]; done)), H', ⟨by first | omega | exact Nat.le_refl _⟩, ⟨by (with_reducible repeat (first | apply Kd.R_alloc | apply Kd.R_drewN | apply Kd.R_drew)); exact HO302.out⟩, ⟨by (with_reducible repeat (first | apply Kd.S_alloc | apply Kd.S_drewN | apply Kd.S_drew)); exact Kd.S_mono HO308.out (fun _ hk => hk.2)⟩, ⟨bb_⟩⟩
  case rest =>
   clear HC7
   try clear c1
   try clear c2
   try clear p2
   try clear c3
   try clear c4
   try clear c12
   try clear c12b0
   try clear c12b1
   try clear c13
   try clear c13b0
   try clear c13b1
   try clear c14
   try clear c14b0
   try clear c14b1
   try clear c15
   try clear c15b0
   try clear c18
   try clear c19
   obtain ⟨kq, x46_6, rfl, HA, HJ6, HO_3, HO_6, HB⟩ := hcut
   cases kq with
   | zero => exact absurd HA.out (by simp [laws_FnVertexCount.j0])
   | succ kj6 =>
    have H := HA.out
    clear HA
    simp only [laws_FnVertexCount.j0] at H
    by_cases c20 : x46_6 = true
    ·subst c20
     have H1 : (none) = some r := by rw [if_pos rfl] at H; exact H
     clear H
     have H := H1
     clear H1
     exact absurd H (by simp)
    ·replace c20 := Bool.eq_false_iff.mpr c20
     subst c20
     have H1 : (laws_FnVertexCount.l0 kj6 t300 t305 0) = some r := by rw [if_neg (show ¬ (false = true) by decide)] at H; exact H
     clear H
     have H := H1
     clear H1
     have H' := zpS H
     clear H
     go_wp2
     (try go_simp)
     go_loopg [8] kj6 (fun kq v8 w' => ∃ (x8_2 : Int), v8 = .int .i64 x8_2 ∧ Aside0 (laws_FnVertexCount.l0 kq t300 t305 x8_2 = some r) ∧ Aside0 (kq ≤ kj6) ∧ Aside0 (Kd.R (Kd.int .i64) 2 w' w.heap.size (fun _ => True) (.slice Ao9 t300.length co9) t300) ∧ Aside0 (Kd.S (Kd.slice 2 (Kd.int .i64)) 22 w' w.heap.size (fun k_ => some k_ ≠ ((.slice Ao9 t300.length co9) : Value).ownBlock) v307 t305) ∧ Aside0 (Below w.heap.size w w'))
     case atStart => exact ⟨(0), (by first | rfl | (simp; done) | (simp [*]; done)), H', ⟨Nat.le_refl _⟩, ⟨by (with_reducible repeat (first | apply Kd.R_alloc | apply Kd.R_drewN | apply Kd.R_drew)); exact HO_3.out⟩, ⟨by (with_reducible repeat (first | apply Kd.S_alloc | apply Kd.S_drewN | apply Kd.S_drew)); exact HO_6.out⟩, ⟨bb_⟩⟩
     case round =>
      clear H'
      try clear c1
      try clear c2
      try clear p2
      try clear c3
      try clear c4
      try clear c12
      try clear c12b0
      try clear c12b1
      try clear c13
      try clear c13b0
      try clear c13b1
      try clear c14
      try clear c14b0
      try clear c14b1
      try clear c15
      try clear c15b0
      try clear c18
      try clear c19
      try clear c20
      try clear p2
      obtain ⟨x8_2, rfl, HA, HK2, HO_3, HO_6, HB⟩ := hrel
      cases gk with
      | zero => exact absurd HA.out (by simp [laws_FnVertexCount.l0])
      | succ k2 =>
       have H := HA.out
       clear HA
       simp only [laws_FnVertexCount.l0] at H
       by_cases c21 : x8_2 < (t305.length : Int)
       ·rw [if_pos c21] at H
        have c21b0 : decide (x8_2 < (t305.length : Int)) = true := decide_eq_true c21
        clear c21
        have H' := zpS H
        clear H
        obtain ⟨Ao22, co22, eo22⟩ := Kd.S_slice HO_6.out
        subst eo22
        go_wp2
        (try go_simp)
        go_loopg [9, 10] k2 (fun kq v9 v10 w' => ∃ (x9_3 : Int) (x10_3 : Int), v9 = .int .i64 x9_3 ∧ v10 = .int .i64 x10_3 ∧ Aside0 (laws_FnVertexCount.l1 kq t300 t305 x8_2 x9_3 x10_3 = some r) ∧ Aside0 (kq ≤ k2) ∧ Aside0 (Kd.R (Kd.int .i64) 2 w' w.heap.size (fun _ => True) (.slice Ao9 t300.length co9) t300) ∧ Aside0 (Kd.S (Kd.slice 2 (Kd.int .i64)) 22 w' w.heap.size (fun k_ => some k_ ≠ ((.slice Ao9 t300.length co9) : Value).ownBlock) (.slice Ao22 t305.length co22) t305) ∧ Aside0 (Below w.heap.size w w'))
        case atStart => exact ⟨(0), (0), (by first | rfl | (simp; done) | (simp [*]; done)), (by first | rfl | (simp; done) | (simp [*]; done)), H', ⟨Nat.le_refl _⟩, ⟨by (with_reducible repeat (first | apply Kd.R_alloc | apply Kd.R_drewN | apply Kd.R_drew)); exact HO_3.out⟩, ⟨by (with_reducible repeat (first | apply Kd.S_alloc | apply Kd.S_drewN | apply Kd.S_drew)); exact HO_6.out⟩, ⟨bb_⟩⟩
        case round =>
         clear H'
         try clear c1
         try clear c2
         try clear p2
         try clear c3
         try clear c4
         try clear c12
         try clear c12b0
         try clear c12b1
         try clear c13
         try clear c13b0
         try clear c13b1
         try clear c14
         try clear c14b0
         try clear c14b1
         try clear c15
         try clear c15b0
         try clear c18
         try clear c19
         try clear c20
         try clear c21
         try clear c21b0
         try clear p2
         obtain ⟨x9_3, x10_3, rfl, rfl, HA, HK3, HO_3, HO_6, HB⟩ := hrel
         cases gk with
         | zero => exact absurd HA.out (by simp [laws_FnVertexCount.l1])
         | succ k3 =>
          have H := HA.out
          clear HA
          simp only [laws_FnVertexCount.l1] at H
          by_cases c23 : 0 ≤ x8_2
          ·rw [if_pos c23] at H
           have c23b0 : decide (0 ≤ x8_2) = true := decide_eq_true c23
           clear c23
           by_cases c24 : x8_2 < (t305.length : Int)
           ·rw [if_pos c24] at H
            have c24b0 : decide (x8_2 < (t305.length : Int)) = true := decide_eq_true c24
            clear c24
            by_cases c25 : x10_3 < ((znM t305 x8_2).length : Int)
            ·rw [if_pos c25] at H
             have c25b0 : decide (x10_3 < ((znM t305 x8_2).length : Int)) = true := decide_eq_true c25
             clear c25
             by_cases c26 : 0 ≤ x10_3
             ·rw [if_pos c26] at H
              have c26b0 : decide (0 ≤ x10_3) = true := decide_eq_true c26
              clear c26
              by_cases c27 : (rd (znM t305 x8_2) x10_3) = 2
              ·rw [if_pos c27] at H
               have c27b0 : ((rd (znM t305 x8_2) x10_3) == 2) = true := beq_iff_eq.mpr c27
               have c27b1 : ((rd (znM t305 x8_2) x10_3) != 2) = false := bne_eq_false_iff_eq.mpr c27
               clear c27
               have H' := zpS H
               clear H
               have p310 : 0 ≤ (x8_2 : Int) := of_decide_eq_true (by first | (with_reducible assumption) | assumption)
               have q310 : x8_2 < (t305.length : Int) := of_decide_eq_true (by first | (with_reducible assumption) | assumption)
               obtain ⟨ad310, A310_0, c310_0, e310, hx310_0, hl310_0, hi310_0⟩ := at_L2 (Kd.S_reads' HO_6.out).2.2 x8_2 p310 q310
               cases e310
               obtain ⟨ce310, hce310, hMe310, hcc310⟩ := Kd.S_get HO_6.out [] x8_2 p310 (by first | exact q310 | exact of_decide_eq_true (by first | (with_reducible assumption) | assumption) | (have e_ := (Kd.S_reads' HO_6.out).1; omega))
               obtain ⟨ve310_0, rfl, ge310_0⟩ := hMe310
               have hv310_0 := hcc310 0 _ rfl
               rw [Nat.add_zero, show ((Kd.slice 2 (Kd.int .i64))).sz = 1 from rfl, Nat.mul_one] at hv310_0
               replace hv310_0 := Option.some.inj (hv310_0.symm.trans hx310_0)
               rw [hv310_0] at ge310_0
               have HL310_0 := zpS (show Kd.R (Kd.int .i64) 2 _ _ _ _ (znM t305 x8_2) from ge310_0)
               clear hv310_0 ge310_0
               clear hcc310 hce310
               have HR310_0 := zpS hi310_0
               have HC310_0 := zpS hl310_0
               clear hi310_0 hl310_0
               replace p310 := eq_true p310
               replace q310 := eq_true q310
               have p311 : 0 ≤ (x8_2 : Int) := of_decide_eq_true (by first | (with_reducible assumption) | assumption)
               have q311 : x8_2 < (t305.length : Int) := of_decide_eq_true (by first | (with_reducible assumption) | assumption)
               obtain ⟨ad311, A311_0, c311_0, e311, hx311_0, hl311_0, hi311_0⟩ := at_L2 (Kd.S_reads' HO_6.out).2.2 x8_2 p311 q311
               obtain rfl : ad310 = ad311 := (by injection e311)
               obtain ⟨ce311, hce311, hMe311, hcc311⟩ := Kd.S_get HO_6.out [] x8_2 p311 (by first | exact q311 | exact of_decide_eq_true (by first | (with_reducible assumption) | assumption) | (have e_ := (Kd.S_reads' HO_6.out).1; omega))
               obtain ⟨ve311_0, rfl, ge311_0⟩ := hMe311
               have hv311_0 := hcc311 0 _ rfl
               rw [Nat.add_zero, show ((Kd.slice 2 (Kd.int .i64))).sz = 1 from rfl, Nat.mul_one] at hv311_0
               replace hv311_0 := Option.some.inj (hv311_0.symm.trans hx311_0)
               rw [hv311_0] at ge311_0
               have HL311_0 := zpS (show Kd.R (Kd.int .i64) 2 _ _ _ _ (znM t305 x8_2) from ge311_0)
               clear hv311_0 ge311_0
               clear hcc311 hce311
               have HR311_0 := zpS hi311_0
               have HC311_0 := zpS hl311_0
               clear hi311_0 hl311_0
               replace p311 := eq_true p311
               replace q311 := eq_true q311
               have ea_ := Option.some.inj (hx310_0.symm.trans hx311_0)
               injection ea_ with ea_ en_ ec_
               subst ea_
               subst ec_
               clear en_
               have p312 : 0 ≤ (x10_3 : Int) := of_decide_eq_true (by first | (with_reducible assumption) | assumption)
               have q312 : x10_3 < ((znM t305 x8_2).length : Int) := of_decide_eq_true (by first | (with_reducible assumption) | assumption)
               obtain ⟨ad312, e312, hx312_0⟩ := Kd.at_int (by repeat (first | (with_reducible exact HR311_0.out) | (with_reducible refine Kd.C_alloc ?_ _) | (with_reducible refine Kd.C_drewN ?_ _) | (with_reducible refine Kd.C_drew ?_) | exact HR311_0.out)) x10_3 p312 q312
               cases e312
               replace p312 := eq_true p312
               replace q312 := eq_true q312
               go_wp2
               go_roundg k3
               case measure => have := HJ6.out; have := HK2.out; have := HK3.out; omega
               case rel => exact ⟨(wrap64 (x9_3 + 1)), (wrap64 (x10_3 + 1)), (by first | rfl | (simp; done) | (simp [*]; done)), (by first | rfl | (simp; done) | (simp [*]; done)), H', ⟨by have := HJ6.out; have := HK2.out; have := HK3.out; omega⟩, ⟨by (with_reducible repeat (first | apply Kd.R_alloc | apply Kd.R_drewN | apply Kd.R_drew)); exact HO_3.out⟩, ⟨by (with_reducible repeat (first | apply Kd.S_alloc | apply Kd.S_drewN | apply Kd.S_drew)); exact HO_6.out⟩, ⟨bb_⟩⟩
              ·rw [if_neg c27] at H
               have c27b0 : ((rd (znM t305 x8_2) x10_3) == 2) = false := beq_eq_false_iff_ne.mpr c27
               have c27b1 : ((rd (znM t305 x8_2) x10_3) != 2) = true := bne_iff_ne.mpr c27
               have H' := zpS H
               clear H
               have p310 : 0 ≤ (x8_2 : Int) := of_decide_eq_true (by first | (with_reducible assumption) | assumption)
               have q310 : x8_2 < (t305.length : Int) := of_decide_eq_true (by first | (with_reducible assumption) | assumption)
               obtain ⟨ad310, A310_0, c310_0, e310, hx310_0, hl310_0, hi310_0⟩ := at_L2 (Kd.S_reads' HO_6.out).2.2 x8_2 p310 q310
               cases e310
               obtain ⟨ce310, hce310, hMe310, hcc310⟩ := Kd.S_get HO_6.out [] x8_2 p310 (by first | exact q310 | exact of_decide_eq_true (by first | (with_reducible assumption) | assumption) | (have e_ := (Kd.S_reads' HO_6.out).1; omega))
               obtain ⟨ve310_0, rfl, ge310_0⟩ := hMe310
               have hv310_0 := hcc310 0 _ rfl
               rw [Nat.add_zero, show ((Kd.slice 2 (Kd.int .i64))).sz = 1 from rfl, Nat.mul_one] at hv310_0
               replace hv310_0 := Option.some.inj (hv310_0.symm.trans hx310_0)
               rw [hv310_0] at ge310_0
               have HL310_0 := zpS (show Kd.R (Kd.int .i64) 2 _ _ _ _ (znM t305 x8_2) from ge310_0)
               clear hv310_0 ge310_0
               clear hcc310 hce310
               have HR310_0 := zpS hi310_0
               have HC310_0 := zpS hl310_0
               clear hi310_0 hl310_0
               replace p310 := eq_true p310
               replace q310 := eq_true q310
               have p311 : 0 ≤ (x8_2 : Int) := of_decide_eq_true (by first | (with_reducible assumption) | assumption)
               have q311 : x8_2 < (t305.length : Int) := of_decide_eq_true (by first | (with_reducible assumption) | assumption)
               obtain ⟨ad311, A311_0, c311_0, e311, hx311_0, hl311_0, hi311_0⟩ := at_L2 (Kd.S_reads' HO_6.out).2.2 x8_2 p311 q311
               obtain rfl : ad310 = ad311 := (by injection e311)
               obtain ⟨ce311, hce311, hMe311, hcc311⟩ := Kd.S_get HO_6.out [] x8_2 p311 (by first | exact q311 | exact of_decide_eq_true (by first | (with_reducible assumption) | assumption) | (have e_ := (Kd.S_reads' HO_6.out).1; omega))
               obtain ⟨ve311_0, rfl, ge311_0⟩ := hMe311
               have hv311_0 := hcc311 0 _ rfl
               rw [Nat.add_zero, show ((Kd.slice 2 (Kd.int .i64))).sz = 1 from rfl, Nat.mul_one] at hv311_0
               replace hv311_0 := Option.some.inj (hv311_0.symm.trans hx311_0)
               rw [hv311_0] at ge311_0
               have HL311_0 := zpS (show Kd.R (Kd.int .i64) 2 _ _ _ _ (znM t305 x8_2) from ge311_0)
               clear hv311_0 ge311_0
               clear hcc311 hce311
               have HR311_0 := zpS hi311_0
               have HC311_0 := zpS hl311_0
               clear hi311_0 hl311_0
               replace p311 := eq_true p311
               replace q311 := eq_true q311
               have ea_ := Option.some.inj (hx310_0.symm.trans hx311_0)
               injection ea_ with ea_ en_ ec_
               subst ea_
               subst ec_
               clear en_
               have p312 : 0 ≤ (x10_3 : Int) := of_decide_eq_true (by first | (with_reducible assumption) | assumption)
               have q312 : x10_3 < ((znM t305 x8_2).length : Int) := of_decide_eq_true (by first | (with_reducible assumption) | assumption)
               obtain ⟨ad312, e312, hx312_0⟩ := Kd.at_int (by repeat (first | (with_reducible exact HR311_0.out) | (with_reducible refine Kd.C_alloc ?_ _) | (with_reducible refine Kd.C_drewN ?_ _) | (with_reducible refine Kd.C_drew ?_) | exact HR311_0.out)) x10_3 p312 q312
               cases e312
               replace p312 := eq_true p312
               replace q312 := eq_true q312
               go_wp2
               go_roundg k3
               case measure => have := HJ6.out; have := HK2.out; have := HK3.out; omega
               case rel => exact ⟨(x9_3), (wrap64 (x10_3 + 1)), (by first | rfl | (simp; done) | (simp [*]; done)), (by first | rfl | (simp; done) | (simp [*]; done)), H', ⟨by have := HJ6.out; have := HK2.out; have := HK3.out; omega⟩, ⟨by (with_reducible repeat (first | apply Kd.R_alloc | apply Kd.R_drewN | apply Kd.R_drew)); exact HO_3.out⟩, ⟨by (with_reducible repeat (first | apply Kd.S_alloc | apply Kd.S_drewN | apply Kd.S_drew)); exact HO_6.out⟩, ⟨bb_⟩⟩
             ·rw [if_neg c26] at H
              exact absurd H (by simp)
            ·rw [if_neg c25] at H
             have c25b0 : decide (x10_3 < ((znM t305 x8_2).length : Int)) = false := decide_eq_false c25
             clear c25
             replace H := Option.bind_eq_some_iff.mp H
             obtain ⟨t314, A280, H⟩ := H
             replace H : (if t314 = true then (if (wrap64 (2 * x9_3)) = (wrap64 ((t300.length : Int) + 2)) then (laws_FnVertexCount.l0 k3 t300 t305 (wrap64 (x8_2 + 1))) else (if (wrap64 (2 * x9_3)) = (wrap64 ((t300.length : Int) - 2)) then (laws_FnVertexCount.l0 k3 t300 t305 (wrap64 (x8_2 + 1))) else (none))) else (none)) = some r := H
             have A28 := zpS A280
             clear A280
             by_cases c29 : t314 = true
             ·subst c29
              have H1 : (if (wrap64 (2 * x9_3)) = (wrap64 ((t300.length : Int) + 2)) then (laws_FnVertexCount.l0 k3 t300 t305 (wrap64 (x8_2 + 1))) else (if (wrap64 (2 * x9_3)) = (wrap64 ((t300.length : Int) - 2)) then (laws_FnVertexCount.l0 k3 t300 t305 (wrap64 (x8_2 + 1))) else (none))) = some r := by rw [if_pos rfl] at H; exact H
              clear H
              have H := H1
              clear H1
              by_cases c30 : (wrap64 (2 * x9_3)) = (wrap64 ((t300.length : Int) + 2))
              ·rw [if_pos c30] at H
               have c30b0 : ((wrap64 (2 * x9_3)) == (wrap64 ((t300.length : Int) + 2))) = true := beq_iff_eq.mpr c30
               have c30b1 : ((wrap64 (2 * x9_3)) != (wrap64 ((t300.length : Int) + 2))) = false := bne_eq_false_iff_eq.mpr c30
               clear c30
               have H' := zpS H
               clear H
               have p310 : 0 ≤ (x8_2 : Int) := of_decide_eq_true (by first | (with_reducible assumption) | assumption)
               have q310 : x8_2 < (t305.length : Int) := of_decide_eq_true (by first | (with_reducible assumption) | assumption)
               obtain ⟨ad310, A310_0, c310_0, e310, hx310_0, hl310_0, hi310_0⟩ := at_L2 (Kd.S_reads' HO_6.out).2.2 x8_2 p310 q310
               cases e310
               obtain ⟨ce310, hce310, hMe310, hcc310⟩ := Kd.S_get HO_6.out [] x8_2 p310 (by first | exact q310 | exact of_decide_eq_true (by first | (with_reducible assumption) | assumption) | (have e_ := (Kd.S_reads' HO_6.out).1; omega))
               obtain ⟨ve310_0, rfl, ge310_0⟩ := hMe310
               have hv310_0 := hcc310 0 _ rfl
               rw [Nat.add_zero, show ((Kd.slice 2 (Kd.int .i64))).sz = 1 from rfl, Nat.mul_one] at hv310_0
               replace hv310_0 := Option.some.inj (hv310_0.symm.trans hx310_0)
               rw [hv310_0] at ge310_0
               have HL310_0 := zpS (show Kd.R (Kd.int .i64) 2 _ _ _ _ (znM t305 x8_2) from ge310_0)
               clear hv310_0 ge310_0
               clear hcc310 hce310
               have HR310_0 := zpS hi310_0
               have HC310_0 := zpS hl310_0
               clear hi310_0 hl310_0
               replace p310 := eq_true p310
               replace q310 := eq_true q310
               have p313 : 0 ≤ (x8_2 : Int) := of_decide_eq_true (by first | (with_reducible assumption) | assumption)
               have q313 : x8_2 < (t305.length : Int) := of_decide_eq_true (by first | (with_reducible assumption) | assumption)
               obtain ⟨ad313, A313_0, c313_0, e313, hx313_0, hl313_0, hi313_0⟩ := at_L2 (Kd.S_reads' HO_6.out).2.2 x8_2 p313 q313
               obtain rfl : ad310 = ad313 := (by injection e313)
               obtain ⟨ce313, hce313, hMe313, hcc313⟩ := Kd.S_get HO_6.out [] x8_2 p313 (by first | exact q313 | exact of_decide_eq_true (by first | (with_reducible assumption) | assumption) | (have e_ := (Kd.S_reads' HO_6.out).1; omega))
               obtain ⟨ve313_0, rfl, ge313_0⟩ := hMe313
               have hv313_0 := hcc313 0 _ rfl
               rw [Nat.add_zero, show ((Kd.slice 2 (Kd.int .i64))).sz = 1 from rfl, Nat.mul_one] at hv313_0
               replace hv313_0 := Option.some.inj (hv313_0.symm.trans hx313_0)
               rw [hv313_0] at ge313_0
               have HL313_0 := zpS (show Kd.R (Kd.int .i64) 2 _ _ _ _ (znM t305 x8_2) from ge313_0)
               clear hv313_0 ge313_0
               clear hcc313 hce313
               have HR313_0 := zpS hi313_0
               have HC313_0 := zpS hl313_0
               clear hi313_0 hl313_0
               replace p313 := eq_true p313
               replace q313 := eq_true q313
               have ea_ := Option.some.inj (hx310_0.symm.trans hx313_0)
               injection ea_ with ea_ en_ ec_
               subst ea_
               subst ec_
               clear en_
               go_wp2_with (first | ((with_reducible refine zgL (f := 22) rfl ?_); refine zqQ (some 79) rfl rfl Try.func22 (by kernel_rfl) rfl #[.slice Ao9 t300.length co9, .slice A310_0 (znM t305 x8_2).length c310_0] rfl (by (try simp only [List.map_toArray, List.map_cons, List.map_nil]); first | done | rfl | (simp only [List.length_drop, List.length_take]; rfl)) ?_; (with_reducible refine (zcL.calls k3 _ _ t300 _ _ (znM t305 x8_2) true _ ?side1 ?side2 ?side3 ?side4 A28.out).mono ?_); (case side1 => repeat (first | exact (Kd.R_reads' HO_3.out).2.2 | (with_reducible refine Kd.C_alloc ?_ _) | (with_reducible refine Kd.C_drewN ?_ _) | (with_reducible refine Kd.C_drew ?_))); (case side2 => exact (Kd.R_reads' HO_3.out).2.1); (case side3 => repeat (first | exact (by repeat (first | (with_reducible exact HR313_0.out) | (with_reducible refine Kd.C_alloc ?_ _) | (with_reducible refine Kd.C_drewN ?_ _) | (with_reducible refine Kd.C_drew ?_) | exact HR313_0.out)) | (with_reducible refine Kd.C_alloc ?_ _) | (with_reducible refine Kd.C_drewN ?_ _) | (with_reducible refine Kd.C_drew ?_))); (case side4 => exact HC313_0.out); rintro e w31 ⟨rfl, hb⟩; refine ⟨_, rfl, ?_⟩; have n0_ := zpS (Kd.R_below (by (with_reducible repeat (first | apply Kd.R_alloc | apply Kd.R_drewN | apply Kd.R_drew)); exact HO_3.out) hb); have n1_ := zpS (Kd.S_below (by (with_reducible repeat (first | apply Kd.S_alloc | apply Kd.S_drewN | apply Kd.S_drew)); exact HO_6.out) hb); have n2_ := zpS (Kd.R_below (by (with_reducible repeat (first | apply Kd.R_alloc | apply Kd.R_drewN | apply Kd.R_drew)); exact HL310_0.out) hb); have n3_ := zpS (Kd.R_below (by (with_reducible repeat (first | apply Kd.R_alloc | apply Kd.R_drewN | apply Kd.R_drew)); exact HL313_0.out) hb); have n4_ := zpS (Kd.C_below (by repeat (first | (with_reducible exact HR310_0.out) | (with_reducible refine Kd.C_alloc ?_ _) | (with_reducible refine Kd.C_drewN ?_ _) | (with_reducible refine Kd.C_drew ?_) | exact HR310_0.out)) hb); have n5_ := zpS (Kd.C_below (by repeat (first | (with_reducible exact HR313_0.out) | (with_reducible refine Kd.C_alloc ?_ _) | (with_reducible refine Kd.C_drewN ?_ _) | (with_reducible refine Kd.C_drew ?_) | exact HR313_0.out)) hb); have n6_ := (ns_ hb); clear HO_3; clear HO_6; clear HL310_0; clear HL313_0; clear HR310_0; clear HR313_0; clear HB; have HO_3 := n0_; have HO_6 := n1_; have HL310_0 := n2_; have HL313_0 := n3_; have HR310_0 := n4_; have HR313_0 := n5_; have HB := n6_; clear n0_ n1_ n2_ n3_ n4_ n5_ n6_; (try clear hb); (try clear hb2)))
               go_roundg k3
               case measure => have := HJ6.out; have := HK2.out; have := HK3.out; omega
               case rel => exact ⟨(wrap64 (x8_2 + 1)), (by first | rfl | (simp; done) | (simp [*]; done)), H', ⟨by have := HJ6.out; have := HK2.out; have := HK3.out; omega⟩, ⟨by (with_reducible repeat (first | apply Kd.R_alloc | apply Kd.R_drewN | apply Kd.R_drew)); exact HO_3.out⟩, ⟨by (with_reducible repeat (first | apply Kd.S_alloc | apply Kd.S_drewN | apply Kd.S_drew)); exact HO_6.out⟩, ⟨bb_⟩⟩
              ·rw [if_neg c30] at H
               have c30b0 : ((wrap64 (2 * x9_3)) == (wrap64 ((t300.length : Int) + 2))) = false := beq_eq_false_iff_ne.mpr c30
               have c30b1 : ((wrap64 (2 * x9_3)) != (wrap64 ((t300.length : Int) + 2))) = true := bne_iff_ne.mpr c30
               by_cases c32 : (wrap64 (2 * x9_3)) = (wrap64 ((t300.length : Int) - 2))
               ·rw [if_pos c32] at H
                have c32b0 : ((wrap64 (2 * x9_3)) == (wrap64 ((t300.length : Int) - 2))) = true := beq_iff_eq.mpr c32
                have c32b1 : ((wrap64 (2 * x9_3)) != (wrap64 ((t300.length : Int) - 2))) = false := bne_eq_false_iff_eq.mpr c32
                clear c32
                have H' := zpS H
                clear H
                have p310 : 0 ≤ (x8_2 : Int) := of_decide_eq_true (by first | (with_reducible assumption) | assumption)
                have q310 : x8_2 < (t305.length : Int) := of_decide_eq_true (by first | (with_reducible assumption) | assumption)
                obtain ⟨ad310, A310_0, c310_0, e310, hx310_0, hl310_0, hi310_0⟩ := at_L2 (Kd.S_reads' HO_6.out).2.2 x8_2 p310 q310
                cases e310
                obtain ⟨ce310, hce310, hMe310, hcc310⟩ := Kd.S_get HO_6.out [] x8_2 p310 (by first | exact q310 | exact of_decide_eq_true (by first | (with_reducible assumption) | assumption) | (have e_ := (Kd.S_reads' HO_6.out).1; omega))
                obtain ⟨ve310_0, rfl, ge310_0⟩ := hMe310
                have hv310_0 := hcc310 0 _ rfl
                rw [Nat.add_zero, show ((Kd.slice 2 (Kd.int .i64))).sz = 1 from rfl, Nat.mul_one] at hv310_0
                replace hv310_0 := Option.some.inj (hv310_0.symm.trans hx310_0)
                rw [hv310_0] at ge310_0
                have HL310_0 := zpS (show Kd.R (Kd.int .i64) 2 _ _ _ _ (znM t305 x8_2) from ge310_0)
                clear hv310_0 ge310_0
                clear hcc310 hce310
                have HR310_0 := zpS hi310_0
                have HC310_0 := zpS hl310_0
                clear hi310_0 hl310_0
                replace p310 := eq_true p310
                replace q310 := eq_true q310
                have p313 : 0 ≤ (x8_2 : Int) := of_decide_eq_true (by first | (with_reducible assumption) | assumption)
                have q313 : x8_2 < (t305.length : Int) := of_decide_eq_true (by first | (with_reducible assumption) | assumption)
                obtain ⟨ad313, A313_0, c313_0, e313, hx313_0, hl313_0, hi313_0⟩ := at_L2 (Kd.S_reads' HO_6.out).2.2 x8_2 p313 q313
                obtain rfl : ad310 = ad313 := (by injection e313)
                obtain ⟨ce313, hce313, hMe313, hcc313⟩ := Kd.S_get HO_6.out [] x8_2 p313 (by first | exact q313 | exact of_decide_eq_true (by first | (with_reducible assumption) | assumption) | (have e_ := (Kd.S_reads' HO_6.out).1; omega))
                obtain ⟨ve313_0, rfl, ge313_0⟩ := hMe313
                have hv313_0 := hcc313 0 _ rfl
                rw [Nat.add_zero, show ((Kd.slice 2 (Kd.int .i64))).sz = 1 from rfl, Nat.mul_one] at hv313_0
                replace hv313_0 := Option.some.inj (hv313_0.symm.trans hx313_0)
                rw [hv313_0] at ge313_0
                have HL313_0 := zpS (show Kd.R (Kd.int .i64) 2 _ _ _ _ (znM t305 x8_2) from ge313_0)
                clear hv313_0 ge313_0
                clear hcc313 hce313
                have HR313_0 := zpS hi313_0
                have HC313_0 := zpS hl313_0
                clear hi313_0 hl313_0
                replace p313 := eq_true p313
                replace q313 := eq_true q313
                have ea_ := Option.some.inj (hx310_0.symm.trans hx313_0)
                injection ea_ with ea_ en_ ec_
                subst ea_
                subst ec_
                clear en_
                go_wp2_with (first | ((with_reducible refine zgL (f := 22) rfl ?_); refine zqQ (some 79) rfl rfl Try.func22 (by kernel_rfl) rfl #[.slice Ao9 t300.length co9, .slice A310_0 (znM t305 x8_2).length c310_0] rfl (by (try simp only [List.map_toArray, List.map_cons, List.map_nil]); first | done | rfl | (simp only [List.length_drop, List.length_take]; rfl)) ?_; (with_reducible refine (zcL.calls k3 _ _ t300 _ _ (znM t305 x8_2) true _ ?side1 ?side2 ?side3 ?side4 A28.out).mono ?_); (case side1 => repeat (first | exact (Kd.R_reads' HO_3.out).2.2 | (with_reducible refine Kd.C_alloc ?_ _) | (with_reducible refine Kd.C_drewN ?_ _) | (with_reducible refine Kd.C_drew ?_))); (case side2 => exact (Kd.R_reads' HO_3.out).2.1); (case side3 => repeat (first | exact (by repeat (first | (with_reducible exact HR313_0.out) | (with_reducible refine Kd.C_alloc ?_ _) | (with_reducible refine Kd.C_drewN ?_ _) | (with_reducible refine Kd.C_drew ?_) | exact HR313_0.out)) | (with_reducible refine Kd.C_alloc ?_ _) | (with_reducible refine Kd.C_drewN ?_ _) | (with_reducible refine Kd.C_drew ?_))); (case side4 => exact HC313_0.out); rintro e w33 ⟨rfl, hb⟩; refine ⟨_, rfl, ?_⟩; have n0_ := zpS (Kd.R_below (by (with_reducible repeat (first | apply Kd.R_alloc | apply Kd.R_drewN | apply Kd.R_drew)); exact HO_3.out) hb); have n1_ := zpS (Kd.S_below (by (with_reducible repeat (first | apply Kd.S_alloc | apply Kd.S_drewN | apply Kd.S_drew)); exact HO_6.out) hb); have n2_ := zpS (Kd.R_below (by (with_reducible repeat (first | apply Kd.R_alloc | apply Kd.R_drewN | apply Kd.R_drew)); exact HL310_0.out) hb); have n3_ := zpS (Kd.R_below (by (with_reducible repeat (first | apply Kd.R_alloc | apply Kd.R_drewN | apply Kd.R_drew)); exact HL313_0.out) hb); have n4_ := zpS (Kd.C_below (by repeat (first | (with_reducible exact HR310_0.out) | (with_reducible refine Kd.C_alloc ?_ _) | (with_reducible refine Kd.C_drewN ?_ _) | (with_reducible refine Kd.C_drew ?_) | exact HR310_0.out)) hb); have n5_ := zpS (Kd.C_below (by repeat (first | (with_reducible exact HR313_0.out) | (with_reducible refine Kd.C_alloc ?_ _) | (with_reducible refine Kd.C_drewN ?_ _) | (with_reducible refine Kd.C_drew ?_) | exact HR313_0.out)) hb); have n6_ := (ns_ hb); clear HO_3; clear HO_6; clear HL310_0; clear HL313_0; clear HR310_0; clear HR313_0; clear HB; have HO_3 := n0_; have HO_6 := n1_; have HL310_0 := n2_; have HL313_0 := n3_; have HR310_0 := n4_; have HR313_0 := n5_; have HB := n6_; clear n0_ n1_ n2_ n3_ n4_ n5_ n6_; (try clear hb); (try clear hb2)))
                go_roundg k3
                case measure => have := HJ6.out; have := HK2.out; have := HK3.out; omega
                case rel => exact ⟨(wrap64 (x8_2 + 1)), (by first | rfl | (simp; done) | (simp [*]; done)), H', ⟨by have := HJ6.out; have := HK2.out; have := HK3.out; omega⟩, ⟨by (with_reducible repeat (first | apply Kd.R_alloc | apply Kd.R_drewN | apply Kd.R_drew)); exact HO_3.out⟩, ⟨by (with_reducible repeat (first | apply Kd.S_alloc | apply Kd.S_drewN | apply Kd.S_drew)); exact HO_6.out⟩, ⟨bb_⟩⟩
               ·rw [if_neg c32] at H
                exact absurd H (by simp)
             ·replace c29 := Bool.eq_false_iff.mpr c29
              subst c29
              have H1 : (none) = some r := by rw [if_neg (show ¬ (false = true) by decide)] at H; exact H
              clear H
              have H := H1
              clear H1
              exact absurd H (by simp)
           ·rw [if_neg c24] at H
            exact absurd H (by simp)
          ·rw [if_neg c23] at H
           exact absurd H (by simp)
       ·rw [if_neg c21] at H
        have c21b0 : decide (x8_2 < (t305.length : Int)) = false := decide_eq_false c21
        clear c21
        obtain rfl := Option.some.inj H
        obtain ⟨Ao34, co34, eo34⟩ := Kd.S_slice HO_6.out
        subst eo34
        go_wp2
        go_ret
        exact ⟨by first | rfl | (simp [ziS, znJ] <;> rfl) | (simp [*, ziS, znJ] <;> rfl), bb_⟩

def laws_FnVertexCount.Pure : Prop := ∀ (l0 : List Int), l0.length ≤ maxLen → l0.length * 1 ≤ 140737488351232 → (∀ x ∈ l0, (Lit.int .u8 x).wf = true) → ∃ k, laws_FnVertexCount.f k l0 = some true
theorem laws_FnVertexCount.walk (P : laws_FnVertexCount.Pure) (a0 : Option Addr) (len0 cap0 : Nat) (z0 : List Int) (w : World) (w0 : (a0 = none ∧ len0 = 0 ∧ cap0 = 0 ∧ z0 = []) ∨ ∃ x, a0 = some x ∧ len0 ≤ cap0 ∧ cap0 ≤ maxLen ∧ z0.length = cap0 ∧ (∀ i, i < z0.length → w.cell? (x.add i) = some (.int .u8 (z0.getD i 0))) ∧ ∀ n ∈ z0, (Lit.int .u8 n).wf = true) (y0 : len0 * 1 ≤ 140737488351232) :
  Calls Try.prog 4 #[.slice a0 len0 cap0] w fun e w' => e = .returned (.bool true) ∧ Below w.heap.size w w' := by
 obtain ⟨l0, rfl, hr0, hm0, hw0, hc0⟩ := ziT.ofRowC w0
 obtain ⟨k, h⟩ := P l0 hm0 y0 hw0
 refine (laws_FnVertexCount.calls k _ _ l0 true w (Kd.C_of_reads (d := (0 : Int)) (h1 := fun _ => rfl) hr0) hc0 h).mono ?_
 rintro e w' ⟨rfl, hd⟩
 exact ⟨rfl, hd⟩

end Go.Proofs.Ytbpkbllokmplnaa.PFnVertexCount
