-- Printed for this claim by this session's program pp.py, which drives the kit's print with additions. Not trusted: Lean checks it.
import Derived.Test.YtbpkbllokmplnaaS1PFnSequencesx0
import Derived.Test.YtbpkbllokmplnaaS1PFnSequencesx1
import Derived.Test.YtbpkbllokmplnaaS1PFnSequencesx3
import Derived.Test.YtbpkbllokmplnaaS1PFnSequencesx4
import Derived.Test.YtbpkbllokmplnaaS1PFnSequencesx5
import Derived.Test.YtbpkbllokmplnaaS1PFnSequencesx7
namespace Go.Proofs.Ytbpkbllokmplnaa.PFnSequences
open Go.RowKit Go.Proofs.YtbpkbllokmplnaaW.PrintWords Go.Proofs.YtbpkbllokmplnaaW.PrintLast Go.Proofs.YtbpkbllokmplnaaW.PrintMore
attribute [local go_sem] max2_int min2_int max_two min_two max_three min_three max_four min_four   -- for this text's walks alone
set_option linter.unusedVariables false
set_option maxHeartbeats 8000000
set_option maxRecDepth 100000
set_option linter.unusedSimpArgs false

mutual
def laws_FnSequences.j0 : Nat → List Int → List (List Int) → Bool → Option (Bool)
 | 0, _, _, _ => none
 | k + 1, x3, x4, x30 => if x30 = true then (none) else (laws_FnSequences.l0 k x3 x4 0)
def laws_FnSequences.l0 : Nat → List Int → List (List Int) → Int → Option (Bool)
 | 0, _, _, _ => none
 | k + 1, x3, x4, x6 => if x6 < (x4.length : Int) then (if 0 ≤ x6 then (if ((znM x4 x6).length : Int) = (x3.length : Int) then ((zmD.f k (znM x4 x6)).bind fun t283 => (if t283 = true then ((zyD.f k (znM x4 x6)).bind fun t285 => ((zwI.f k t285 (znM x4 x6)).bind fun t289 => (if t289 = true then (laws_FnSequences.l0 k x3 x4 (wrap64 (x6 + 1))) else (none)))) else (none))) else (none)) else (none)) else (some true)
end
def laws_FnSequences.f (k : Nat) (l0 : List Int) : Option (Bool) := (zpR.f l0 ([] : List Int)).bind fun t268 => (if t268 = true then (some true) else ((zgN.f k l0).bind fun t269 => ((zeK.f k (t269.length : Int)).bind fun bt272 => (if bt272.2 = 0 then ((zzL.f k bt272.1).bind fun t276 => (if t276 = true then ((zyD.f k t269).bind fun t277 => ((zfH.f k bt272.1 t277).bind fun t280 => (laws_FnSequences.j0 k t269 bt272.1 (!t280)))) else (laws_FnSequences.j0 k t269 bt272.1 true))) else (laws_FnSequences.j0 k t269 bt272.1 true)))))
theorem laws_FnSequences.mono_l : ∀ k, (∀ y0 y1 y2, LeO (laws_FnSequences.j0 k y0 y1 y2) (laws_FnSequences.j0 (k + 1) y0 y1 y2)) ∧ (∀ y0 y1 y2, LeO (laws_FnSequences.l0 k y0 y1 y2) (laws_FnSequences.l0 (k + 1) y0 y1 y2))
 | 0 => ⟨fun _ _ _ r h => by simp [laws_FnSequences.j0] at h, fun _ _ _ r h => by simp [laws_FnSequences.l0] at h⟩
 | k + 1 => by
  obtain ⟨ih0, ih1⟩ := laws_FnSequences.mono_l k
  refine ⟨?_, ?_⟩
  ·intro y0 y1 y2
   unfold laws_FnSequences.j0
   repeat' first
   | (with_reducible exact ih0 _ _ _)
   | (with_reducible exact ih1 _ _ _)
   | (with_reducible exact zyD.mono _ _)
   | (with_reducible exact zmD.mono _ _)
   | (with_reducible exact zeK.mono _ _)
   | (with_reducible exact zfH.mono _ _ _)
   | (with_reducible exact zzL.mono _ _)
   | (with_reducible exact zwI.mono _ _ _)
   | (with_reducible exact zgN.mono _ _)
   | (with_reducible exact LeO.refl _)
   | (with_reducible exact LeO.none _)
   | (with_reducible refine LeO.ite ?_ ?_)
   | (with_reducible refine LeO.bind ?_ (fun _ => ?_))
   | exact ih0 _ _ _
   | exact ih1 _ _ _
   | exact zyD.mono _ _
   | exact zmD.mono _ _
   | exact zeK.mono _ _
   | exact zfH.mono _ _ _
   | exact zzL.mono _ _
   | exact zwI.mono _ _ _
   | exact zgN.mono _ _
   | exact LeO.none _
   | refine LeO.ite ?_ ?_
   | refine LeO.bind ?_ (fun _ => ?_)
  ·intro y0 y1 y2
   unfold laws_FnSequences.l0
   repeat' first
   | (with_reducible exact ih0 _ _ _)
   | (with_reducible exact ih1 _ _ _)
   | (with_reducible exact zyD.mono _ _)
   | (with_reducible exact zmD.mono _ _)
   | (with_reducible exact zeK.mono _ _)
   | (with_reducible exact zfH.mono _ _ _)
   | (with_reducible exact zzL.mono _ _)
   | (with_reducible exact zwI.mono _ _ _)
   | (with_reducible exact zgN.mono _ _)
   | (with_reducible exact LeO.refl _)
   | (with_reducible exact LeO.none _)
   | (with_reducible refine LeO.ite ?_ ?_)
   | (with_reducible refine LeO.bind ?_ (fun _ => ?_))
   | exact ih0 _ _ _
   | exact ih1 _ _ _
   | exact zyD.mono _ _
   | exact zmD.mono _ _
   | exact zeK.mono _ _
   | exact zfH.mono _ _ _
   | exact zzL.mono _ _
   | exact zwI.mono _ _ _
   | exact zgN.mono _ _
   | exact LeO.none _
   | refine LeO.ite ?_ ?_
   | refine LeO.bind ?_ (fun _ => ?_)
theorem laws_FnSequences.mono : ∀ a0 k, LeO (laws_FnSequences.f k a0) (laws_FnSequences.f (k + 1) a0) := by
 intro a0 k
 obtain ⟨ih0, ih1⟩ := laws_FnSequences.mono_l k
 unfold laws_FnSequences.f
 repeat' first
   | (with_reducible exact ih0 _ _ _)
   | (with_reducible exact ih1 _ _ _)
   | (with_reducible exact zyD.mono _ _)
   | (with_reducible exact zmD.mono _ _)
   | (with_reducible exact zeK.mono _ _)
   | (with_reducible exact zfH.mono _ _ _)
   | (with_reducible exact zzL.mono _ _)
   | (with_reducible exact zwI.mono _ _ _)
   | (with_reducible exact zgN.mono _ _)
   | (with_reducible exact LeO.refl _)
   | (with_reducible exact LeO.none _)
   | (with_reducible refine LeO.ite ?_ ?_)
   | (with_reducible refine LeO.bind ?_ (fun _ => ?_))
   | exact ih0 _ _ _
   | exact ih1 _ _ _
   | exact zyD.mono _ _
   | exact zmD.mono _ _
   | exact zeK.mono _ _
   | exact zfH.mono _ _ _
   | exact zzL.mono _ _
   | exact zwI.mono _ _ _
   | exact zgN.mono _ _
   | exact LeO.none _
   | refine LeO.ite ?_ ?_
   | refine LeO.bind ?_ (fun _ => ?_)
def laws_FnSequences.T10 : Bool × List (List Nat × List Nat) := (true, [([], []), ([], []), ([0, 1], [0, 1]), ([2], [2]), ([3], [3]), ([], []), ([5], [5]), ([4, 6], [4, 6]), ([7], [7]), ([8], [8]), ([8], [8]), ([9, 10, 8], [8, 9, 10]), ([11, 8], [8, 11]), ([12, 8, 8], [8, 12]), ([13, 8], [8, 13]), ([8, 14], [8, 14]), ([15, 13], [15]), ([16], [16]), ([16], [16]), ([17, 18, 16], [16, 17, 18]), ([19, 16], [16, 19]), ([20, 16, 16], [16, 20]), ([16], [16]), ([16], [16]), ([22, 23, 16], [16, 22, 23]), ([24, 16], [16, 24]), ([21, 25, 21, 16], [16, 21, 25]), ([26, 16], [16, 26]), ([16, 27], [16, 27])])
def laws_FnSequences.B10 : List Nat := [0, 0, 3, 7, 15, 0, 32, 127, 255, 511, 511, 2047, 4095, 8191, 16383, 32767, 65535, 131071, 131071, 524287, 1048575, 2097151, 131071, 131071, 12713983, 29491199, 67108863, 134217727, 268435455]
theorem laws_FnSequences.tab10 : rtab .any (opsOf Try.f8 10) = laws_FnSequences.T10 := by kernel_rfl
theorem laws_FnSequences.bits10 : waitsOk laws_FnSequences.T10.2 laws_FnSequences.B10 = true := by kernel_rfl
theorem laws_FnSequences.calls (k : Nat) (A0 : Option Addr) (c0 : Nat) (l0 : List Int) (r : Bool) (w : World) (hr0 : Kd.C (Kd.int .u8) w A0 l0.length l0) (hc0 : l0.length ≤ c0) (h : laws_FnSequences.f k l0 = some r) :
  Calls Try.prog 8 #[.slice A0 l0.length c0] w fun e w' => e = .returned (.bool r) ∧ Below w.heap.size w w' := by
 have HR0 := zpS hr0
 have HC0 := zpS hc0
 clear hr0 hc0
 have HB := zpS (Below.refl w.heap.size w)
 have H : ((zpR.f l0 ([] : List Int)).bind fun t268 => (if t268 = true then (some true) else ((zgN.f k l0).bind fun t269 => ((zeK.f k (t269.length : Int)).bind fun bt272 => (if bt272.2 = 0 then ((zzL.f k bt272.1).bind fun t276 => (if t276 = true then ((zyD.f k t269).bind fun t277 => ((zfH.f k bt272.1 t277).bind fun t280 => (laws_FnSequences.j0 k t269 bt272.1 (!t280)))) else (laws_FnSequences.j0 k t269 bt272.1 true))) else (laws_FnSequences.j0 k t269 bt272.1 true)))))) = some r := h
 clear h
 replace H := Option.bind_eq_some_iff.mp H
 obtain ⟨t268, A20, H⟩ := H
 replace H : (if t268 = true then (some true) else ((zgN.f k l0).bind fun t269 => ((zeK.f k (t269.length : Int)).bind fun bt272 => (if bt272.2 = 0 then ((zzL.f k bt272.1).bind fun t276 => (if t276 = true then ((zyD.f k t269).bind fun t277 => ((zfH.f k bt272.1 t277).bind fun t280 => (laws_FnSequences.j0 k t269 bt272.1 (!t280)))) else (laws_FnSequences.j0 k t269 bt272.1 true))) else (laws_FnSequences.j0 k t269 bt272.1 true))))) = some r := H
 have A2 := zpS A20
 clear A20
 by_cases c3 : t268 = true
 ·subst c3
  have H1 : (some true) = some r := by rw [if_pos rfl] at H; exact H
  clear H
  have H := H1
  clear H1
  obtain rfl := Option.some.inj H
  go_enter Try.func8, Try.ntmps8
  go_wp2_with (first | ((with_reducible refine zgK (f := 18) rfl ?_); refine zqQ (some 8) rfl rfl Try.func18 (by kernel_rfl) rfl #[.slice A0 l0.length c0, .slice none 0 0] rfl (by (try simp only [List.map_toArray, List.map_cons, List.map_nil]); first | done | rfl | (simp only [List.length_drop, List.length_take]; rfl)) ?_; (refine (zpR.calls _ _ l0 _ _ ([] : List Int) true _ ?side1 ?side2 ?side3 ?side4 A2.out).mono ?_); (case side1 => repeat (first | exact HR0.out | (with_reducible refine Kd.C_alloc ?_ _) | (with_reducible refine Kd.C_drewN ?_ _) | (with_reducible refine Kd.C_drew ?_))); (case side2 => exact HC0.out); (case side3 => exact Kd.C_nil _ _); (case side4 => exact Nat.le_refl _); rintro e w' ⟨rfl, ⟨nd, rfl⟩⟩; refine ⟨_, rfl, ?_⟩))
  go_ret
  exact ⟨by first | rfl | (simp [ziS, znJ] <;> rfl) | (simp [*, ziS, znJ] <;> rfl), bb_⟩
 ·replace c3 := Bool.eq_false_iff.mpr c3
  subst c3
  have H1 : ((zgN.f k l0).bind fun t269 => ((zeK.f k (t269.length : Int)).bind fun bt272 => (if bt272.2 = 0 then ((zzL.f k bt272.1).bind fun t276 => (if t276 = true then ((zyD.f k t269).bind fun t277 => ((zfH.f k bt272.1 t277).bind fun t280 => (laws_FnSequences.j0 k t269 bt272.1 (!t280)))) else (laws_FnSequences.j0 k t269 bt272.1 true))) else (laws_FnSequences.j0 k t269 bt272.1 true)))) = some r := by rw [if_neg (show ¬ (false = true) by decide)] at H; exact H
  clear H
  have H := H1
  clear H1
  replace H := Option.bind_eq_some_iff.mp H
  obtain ⟨t269, A40, H⟩ := H
  replace H : ((zeK.f k (t269.length : Int)).bind fun bt272 => (if bt272.2 = 0 then ((zzL.f k bt272.1).bind fun t276 => (if t276 = true then ((zyD.f k t269).bind fun t277 => ((zfH.f k bt272.1 t277).bind fun t280 => (laws_FnSequences.j0 k t269 bt272.1 (!t280)))) else (laws_FnSequences.j0 k t269 bt272.1 true))) else (laws_FnSequences.j0 k t269 bt272.1 true))) = some r := H
  have A4 := zpS A40
  clear A40
  replace H := Option.bind_eq_some_iff.mp H
  obtain ⟨⟨t272, t273⟩, A50, H⟩ := H
  replace H : (if t273 = 0 then ((zzL.f k t272).bind fun t276 => (if t276 = true then ((zyD.f k t269).bind fun t277 => ((zfH.f k t272 t277).bind fun t280 => (laws_FnSequences.j0 k t269 t272 (!t280)))) else (laws_FnSequences.j0 k t269 t272 true))) else (laws_FnSequences.j0 k t269 t272 true)) = some r := H
  have A5 := zpS A50
  clear A50
  have HC6 := zpS H
  clear H
  go_enter Try.func8, Try.ntmps8
  go_upto_region 5 with (first | ((with_reducible refine zgK (f := 18) rfl ?_); refine zqQ (some 8) rfl rfl Try.func18 (by kernel_rfl) rfl #[.slice A0 l0.length c0, .slice none 0 0] rfl (by (try simp only [List.map_toArray, List.map_cons, List.map_nil]); first | done | rfl | (simp only [List.length_drop, List.length_take]; rfl)) ?_; (refine (zpR.calls _ _ l0 _ _ ([] : List Int) false _ ?side1 ?side2 ?side3 ?side4 A2.out).mono ?_); (case side1 => repeat (first | exact HR0.out | (with_reducible refine Kd.C_alloc ?_ _) | (with_reducible refine Kd.C_drewN ?_ _) | (with_reducible refine Kd.C_drew ?_))); (case side2 => exact HC0.out); (case side3 => exact Kd.C_nil _ _); (case side4 => exact Nat.le_refl _); rintro e w' ⟨rfl, ⟨nd, rfl⟩⟩; refine ⟨_, rfl, ?_⟩) | ((with_reducible refine zgK (f := 41) rfl ?_); refine zqQ (some 10) rfl rfl Try.func41 (by kernel_rfl) rfl #[.slice A0 l0.length c0] rfl (by (try simp only [List.map_toArray, List.map_cons, List.map_nil]); first | done | rfl | (simp only [List.length_drop, List.length_take]; rfl)) ?_; (with_reducible refine (zgN.calls k _ _ l0 t269 _ ?side1 ?side2 A4.out).mono ?_); (case side1 => repeat (first | exact HR0.out | (with_reducible refine Kd.C_alloc ?_ _) | (with_reducible refine Kd.C_drewN ?_ _) | (with_reducible refine Kd.C_drew ?_))); (case side2 => exact HC0.out); rintro e w7 ⟨v270, rfl, ho0, hb⟩; refine ⟨_, rfl, ?_⟩; have n0_ := zpS (Kd.R_lower ho0 (zuA bb_)); have n1_ := (ns_ hb); clear HB; have HO271 := n0_; have HB := n1_; clear n0_ n1_; (try clear hb); (try clear hb2); (try clear ho0); obtain ⟨Ao8, co8, eo8⟩ := Kd.R_slice HO271.out; subst eo8) | ((with_reducible refine zgK (f := 40) rfl ?_); refine zqQ (some 14) rfl rfl Try.func40 (by kernel_rfl) rfl #[.int .i64 (t269.length : Int)] rfl (by (try simp only [List.map_toArray, List.map_cons, List.map_nil]); first | done | rfl | (simp only [List.length_drop, List.length_take]; rfl)) ?_; (with_reducible refine (zeK.calls k (t269.length : Int) t272 t273 _ A5.out).mono ?_); rintro e w9 ⟨v274, rfl, ho0, hb⟩; refine ⟨_, rfl, ?_⟩; have n0_ := zpS (Kd.R_below (by (with_reducible repeat (first | apply Kd.R_alloc | apply Kd.R_drewN | apply Kd.R_drew)); exact HO271.out) hb); have n1_ := zpS (Kd.S_lower (Kd.S_new' ho0 (Kd.R_lt (by (with_reducible repeat (first | apply Kd.R_alloc | apply Kd.R_drewN | apply Kd.R_drew)); exact HO271.out))) (zuA bb_)); have n2_ := (ns_ hb); clear HO271; clear HB; have HO271 := n0_; have HO275 := n1_; have HB := n2_; clear n0_ n1_ n2_; (try clear hb); (try clear hb2); (try clear ho0)))
  (try simp only [Act.put, set_a_, set_b_, set_c_])
  go_cut [30] (fun v30 wc => ∃ (kq : Nat) (x30_5 : Bool), v30 = .bool x30_5 ∧ Aside0 (laws_FnSequences.j0 kq t269 t272 x30_5 = some r) ∧ Aside0 (kq ≤ k) ∧ Aside0 (Kd.R (Kd.int .i64) 2 wc w.heap.size (fun _ => True) (.slice Ao8 t269.length co8) t269) ∧ Aside0 (Kd.S (Kd.slice 2 (Kd.int .i64)) 22 wc w.heap.size (fun k_ => some k_ ≠ ((.slice Ao8 t269.length co8) : Value).ownBlock) v274 t272) ∧ Aside0 (Below w.heap.size w wc))
  case first =>
   have H := HC6.out
   clear HC6
   by_cases c10 : t273 = 0
   ·rw [if_pos c10] at H
    have c10b0 : (t273 == 0) = true := beq_iff_eq.mpr c10
    have c10b1 : (t273 != 0) = false := bne_eq_false_iff_eq.mpr c10
    clear c10
    (first | rw [c10b0] | (simp only [zcM, ziJ]; rw [c10b0]) | skip)
    replace H := Option.bind_eq_some_iff.mp H
    obtain ⟨t276, A110, H⟩ := H
    replace H : (if t276 = true then ((zyD.f k t269).bind fun t277 => ((zfH.f k t272 t277).bind fun t280 => (laws_FnSequences.j0 k t269 t272 (!t280)))) else (laws_FnSequences.j0 k t269 t272 true)) = some r := H
    have A11 := zpS A110
    clear A110
    by_cases c12 : t276 = true
    ·subst c12
     have H1 : ((zyD.f k t269).bind fun t277 => ((zfH.f k t272 t277).bind fun t280 => (laws_FnSequences.j0 k t269 t272 (!t280)))) = some r := by rw [if_pos rfl] at H; exact H
     clear H
     have H := H1
     clear H1
     replace H := Option.bind_eq_some_iff.mp H
     obtain ⟨t277, A130, H⟩ := H
     replace H : ((zfH.f k t272 t277).bind fun t280 => (laws_FnSequences.j0 k t269 t272 (!t280))) = some r := H
     have A13 := zpS A130
     clear A130
     replace H := Option.bind_eq_some_iff.mp H
     obtain ⟨t280, A140, H⟩ := H
     replace H : (laws_FnSequences.j0 k t269 t272 (!t280)) = some r := H
     have A14 := zpS A140
     clear A140
     have H' := zpS H
     clear H
     obtain ⟨Ao15, co15, eo15⟩ := Kd.S_slice HO275.out
     subst eo15
     go_wp2_with (first | (go_at_call 21; (with_reducible refine (zzL.calls k _ _ t272 true _ ?side1 ?side2 A11.out).mono ?_); (case side1 => repeat (first | exact (Kd.S_reads' HO275.out).2.2 | (with_reducible refine Kd.C_alloc ?_ _) | (with_reducible refine Kd.C_drewN ?_ _) | (with_reducible refine Kd.C_drew ?_))); (case side2 => exact (Kd.S_reads' HO275.out).2.1); rintro e w' ⟨rfl, ⟨nd, rfl⟩⟩) | (go_at_call 31; (with_reducible refine (zyD.calls k _ _ t269 t277 _ ?side1 ?side2 A13.out).mono ?_); (case side1 => repeat (first | exact (Kd.R_reads' HO271.out).2.2 | (with_reducible refine Kd.C_alloc ?_ _) | (with_reducible refine Kd.C_drewN ?_ _) | (with_reducible refine Kd.C_drew ?_))); (case side2 => exact (Kd.R_reads' HO271.out).2.1); rintro e w16 ⟨v278, rfl, ho0, hb⟩; have n0_ := zpS (Kd.R_elder' (by (with_reducible repeat (first | apply Kd.R_alloc | apply Kd.R_drewN | apply Kd.R_drew)); exact HO271.out) (Kd.R_base ho0) hb); have n1_ := zpS (Kd.S_elder' (by (with_reducible repeat (first | apply Kd.S_alloc | apply Kd.S_drewN | apply Kd.S_drew)); exact HO275.out) (Kd.R_base ho0) hb); have n2_ := zpS (Kd.R_lower (Kd.R_new' ho0 (Kd.R_lt (by (with_reducible repeat (first | apply Kd.R_alloc | apply Kd.R_drewN | apply Kd.R_drew)); exact HO271.out))) (zuA bb_)); have n3_ := (ns_ hb); clear HO271; clear HO275; clear HB; have HO271 := n0_; have HO275 := n1_; have HO279 := n2_; have HB := n3_; clear n0_ n1_ n2_ n3_; (try clear hb); (try clear hb2); (try clear ho0); obtain ⟨Ao17, co17, eo17⟩ := Kd.R_slice HO279.out; subst eo17) | (go_at_call 37; (with_reducible refine (zfH.calls k _ _ t272 _ _ t277 t280 _ ?side1 ?side2 ?side3 ?side4 A14.out).mono ?_); (case side1 => repeat (first | exact (Kd.S_reads' HO275.out).2.2 | (with_reducible refine Kd.C_alloc ?_ _) | (with_reducible refine Kd.C_drewN ?_ _) | (with_reducible refine Kd.C_drew ?_))); (case side2 => exact (Kd.S_reads' HO275.out).2.1); (case side3 => repeat (first | exact (Kd.R_reads' HO279.out).2.2 | (with_reducible refine Kd.C_alloc ?_ _) | (with_reducible refine Kd.C_drewN ?_ _) | (with_reducible refine Kd.C_drew ?_))); (case side4 => exact (Kd.R_reads' HO279.out).2.1); rintro e w' ⟨rfl, ⟨nd, rfl⟩⟩))
     go_meet
     case rel => exact ⟨_, (!t280), (by first | rfl | (simp; done) | (simp [*]; done)), H', ⟨by first | omega | exact Nat.le_refl _⟩, ⟨by (with_reducible repeat (first | apply Kd.R_alloc | apply Kd.R_drewN | apply Kd.R_drew)); exact Kd.R_mono HO271.out (fun _ hk => trivial)⟩, ⟨by (with_reducible repeat (first | apply Kd.S_alloc | apply Kd.S_drewN | apply Kd.S_drew)); exact Kd.S_mono HO275.out (fun _ hk => hk.1.2)⟩, ⟨bb_⟩⟩
    ·replace c12 := Bool.eq_false_iff.mpr c12
     subst c12
     have H1 : (laws_FnSequences.j0 k t269 t272 true) = some r := by rw [if_neg (show ¬ (false = true) by decide)] at H; exact H
     clear H
     have H := H1
     clear H1
     have H' := zpS H
     clear H
     obtain ⟨Ao18, co18, eo18⟩ := Kd.S_slice HO275.out
     subst eo18
     go_wp2_with (first | (go_at_call 21; (with_reducible refine (zzL.calls k _ _ t272 false _ ?side1 ?side2 A11.out).mono ?_); (case side1 => repeat (first | exact (Kd.S_reads' HO275.out).2.2 | (with_reducible refine Kd.C_alloc ?_ _) | (with_reducible refine Kd.C_drewN ?_ _) | (with_reducible refine Kd.C_drew ?_))); (case side2 => exact (Kd.S_reads' HO275.out).2.1); rintro e w' ⟨rfl, ⟨nd, rfl⟩⟩))
     go_meet
     case rel => exact ⟨_, (true), (by first | rfl | (simp; done) | (simp [*]; done)), H', ⟨by first | omega | exact Nat.le_refl _⟩, ⟨by (with_reducible repeat (first | apply Kd.R_alloc | apply Kd.R_drewN | apply Kd.R_drew)); exact HO271.out⟩, ⟨by (with_reducible repeat (first | apply Kd.S_alloc | apply Kd.S_drewN | apply Kd.S_drew)); exact Kd.S_mono HO275.out (fun _ hk => hk.2)⟩, ⟨bb_⟩⟩
   ·rw [if_neg c10] at H
    have c10b0 : (t273 == 0) = false := beq_eq_false_iff_ne.mpr c10
    have c10b1 : (t273 != 0) = true := bne_iff_ne.mpr c10
    (first | rw [c10b0] | (simp only [zcM, ziJ]; rw [c10b0]) | skip)
    have H' := zpS H
    clear H
    go_wp2
    go_meet
    case rel => exact ⟨_, (true), (by first | rfl | (simp; done) | (simp [*]; done)), H', ⟨by first | omega | exact Nat.le_refl _⟩, ⟨by (with_reducible repeat (first | apply Kd.R_alloc | apply Kd.R_drewN | apply Kd.R_drew)); exact HO271.out⟩, ⟨by (with_reducible repeat (first | apply Kd.S_alloc | apply Kd.S_drewN | apply Kd.S_drew)); exact Kd.S_mono HO275.out (fun _ hk => hk.2)⟩, ⟨bb_⟩⟩
  case rest =>
   clear HC6
   try clear c1
   try clear p2
   try clear c3
   try clear c4
   try clear c8
   try clear c10
   try clear c10b0
   try clear c10b1
   try clear c12
   try clear c18
   obtain ⟨kq, x30_5, rfl, HA, HJ5, HO_3, HO_4, HB⟩ := hcut
   cases kq with
   | zero => exact absurd HA.out (by simp [laws_FnSequences.j0])
   | succ kj5 =>
    have H := HA.out
    clear HA
    simp only [laws_FnSequences.j0] at H
    by_cases c19 : x30_5 = true
    ·subst c19
     have H1 : (none) = some r := by rw [if_pos rfl] at H; exact H
     clear H
     have H := H1
     clear H1
     exact absurd H (by simp)
    ·replace c19 := Bool.eq_false_iff.mpr c19
     subst c19
     have H1 : (laws_FnSequences.l0 kj5 t269 t272 0) = some r := by rw [if_neg (show ¬ (false = true) by decide)] at H; exact H
     clear H
     have H := H1
     clear H1
     have H' := zpS H
     clear H
     go_wp2
     (try go_simp)
     go_loopg [6] kj5 (fun kq v6 w' => ∃ (x6_2 : Int), v6 = .int .i64 x6_2 ∧ Aside0 (laws_FnSequences.l0 kq t269 t272 x6_2 = some r) ∧ Aside0 (kq ≤ kj5) ∧ Aside0 (Kd.R (Kd.int .i64) 2 w' w.heap.size (fun _ => True) (.slice Ao8 t269.length co8) t269) ∧ Aside0 (Kd.S (Kd.slice 2 (Kd.int .i64)) 22 w' w.heap.size (fun k_ => some k_ ≠ ((.slice Ao8 t269.length co8) : Value).ownBlock) v274 t272) ∧ Aside0 (Below w.heap.size w w'))
     case atStart => exact ⟨(0), (by first | rfl | (simp; done) | (simp [*]; done)), H', ⟨Nat.le_refl _⟩, ⟨by (with_reducible repeat (first | apply Kd.R_alloc | apply Kd.R_drewN | apply Kd.R_drew)); exact HO_3.out⟩, ⟨by (with_reducible repeat (first | apply Kd.S_alloc | apply Kd.S_drewN | apply Kd.S_drew)); exact HO_4.out⟩, ⟨bb_⟩⟩
     case round =>
      clear H'
      try clear c1
      try clear p2
      try clear c3
      try clear c4
      try clear c8
      try clear c10
      try clear c10b0
      try clear c10b1
      try clear c12
      try clear c18
      try clear c19
      try clear p2
      obtain ⟨x6_2, rfl, HA, HK2, HO_3, HO_4, HB⟩ := hrel
      cases gk with
      | zero => exact absurd HA.out (by simp [laws_FnSequences.l0])
      | succ k2 =>
       have H := HA.out
       clear HA
       simp only [laws_FnSequences.l0] at H
       by_cases c20 : x6_2 < (t272.length : Int)
       ·rw [if_pos c20] at H
        have c20b0 : decide (x6_2 < (t272.length : Int)) = true := decide_eq_true c20
        clear c20
        by_cases c21 : 0 ≤ x6_2
        ·rw [if_pos c21] at H
         have c21b0 : decide (0 ≤ x6_2) = true := decide_eq_true c21
         clear c21
         by_cases c22 : ((znM t272 x6_2).length : Int) = (t269.length : Int)
         ·rw [if_pos c22] at H
          have c22b0 : (((znM t272 x6_2).length : Int) == (t269.length : Int)) = true := beq_iff_eq.mpr c22
          have c22b1 : (((znM t272 x6_2).length : Int) != (t269.length : Int)) = false := bne_eq_false_iff_eq.mpr c22
          have c22b2 : ((znM t272 x6_2).length == t269.length) = true := by first | simpa using c22 | (simp at c22 ⊢; omega)
          clear c22
          replace H := Option.bind_eq_some_iff.mp H
          obtain ⟨t283, A230, H⟩ := H
          replace H : (if t283 = true then ((zyD.f k2 (znM t272 x6_2)).bind fun t285 => ((zwI.f k2 t285 (znM t272 x6_2)).bind fun t289 => (if t289 = true then (laws_FnSequences.l0 k2 t269 t272 (wrap64 (x6_2 + 1))) else (none)))) else (none)) = some r := H
          have A23 := zpS A230
          clear A230
          by_cases c24 : t283 = true
          ·subst c24
           have H1 : ((zyD.f k2 (znM t272 x6_2)).bind fun t285 => ((zwI.f k2 t285 (znM t272 x6_2)).bind fun t289 => (if t289 = true then (laws_FnSequences.l0 k2 t269 t272 (wrap64 (x6_2 + 1))) else (none)))) = some r := by rw [if_pos rfl] at H; exact H
           clear H
           have H := H1
           clear H1
           replace H := Option.bind_eq_some_iff.mp H
           obtain ⟨t285, A250, H⟩ := H
           replace H : ((zwI.f k2 t285 (znM t272 x6_2)).bind fun t289 => (if t289 = true then (laws_FnSequences.l0 k2 t269 t272 (wrap64 (x6_2 + 1))) else (none))) = some r := H
           have A25 := zpS A250
           clear A250
           replace H := Option.bind_eq_some_iff.mp H
           obtain ⟨t289, A260, H⟩ := H
           replace H : (if t289 = true then (laws_FnSequences.l0 k2 t269 t272 (wrap64 (x6_2 + 1))) else (none)) = some r := H
           have A26 := zpS A260
           clear A260
           by_cases c27 : t289 = true
           ·subst c27
            have H1 : (laws_FnSequences.l0 k2 t269 t272 (wrap64 (x6_2 + 1))) = some r := by rw [if_pos rfl] at H; exact H
            clear H
            have H := H1
            clear H1
            have H' := zpS H
            clear H
            obtain ⟨Ao28, co28, eo28⟩ := Kd.S_slice HO_4.out
            subst eo28
            try go_wp2
            have n0_ := zpS (Kd.R_drew HO_3.out)
            have n1_ := zpS (Kd.S_drew HO_4.out)
            have n2_ := zpS (zvF HB.out)
            clear HO_3
            clear HO_4
            clear HB
            have HO_3 := n0_
            have HO_4 := n1_
            have HB := n2_
            clear n0_ n1_ n2_
            have p281 : 0 ≤ (x6_2 : Int) := dt_
            have q281 : x6_2 < (t272.length : Int) := dt_
            obtain ⟨ad281, A281_0, c281_0, e281, hx281_0, hl281_0, hi281_0⟩ := at_L2 (Kd.S_reads' HO_4.out).2.2 x6_2 p281 q281
            cases e281
            obtain ⟨ce281, hce281, hMe281, hcc281⟩ := Kd.S_get HO_4.out [] x6_2 p281 (by first | exact q281 | exact dt_ | (have e_ := (Kd.S_reads' HO_4.out).1; omega))
            obtain ⟨ve281_0, rfl, ge281_0⟩ := hMe281
            have hv281_0 := hcc281 0 _ rfl
            rw [Nat.add_zero, show ((Kd.slice 2 (Kd.int .i64))).sz = 1 from rfl, Nat.mul_one] at hv281_0
            replace hv281_0 := Option.some.inj (hv281_0.symm.trans hx281_0)
            rw [hv281_0] at ge281_0
            have HL281_0 := zpS (show Kd.R (Kd.int .i64) 2 _ _ _ _ (znM t272 x6_2) from ge281_0)
            clear hv281_0 ge281_0
            clear hcc281 hce281
            have HR281_0 := zpS hi281_0
            have HC281_0 := zpS hl281_0
            clear hi281_0 hl281_0
            replace p281 := eq_true p281
            replace q281 := eq_true q281
            have p282 : 0 ≤ (x6_2 : Int) := dt_
            have q282 : x6_2 < (t272.length : Int) := dt_
            obtain ⟨ad282, A282_0, c282_0, e282, hx282_0, hl282_0, hi282_0⟩ := at_L2 (Kd.S_reads' HO_4.out).2.2 x6_2 p282 q282
            obtain rfl : ad281 = ad282 := (by injection e282)
            obtain ⟨ce282, hce282, hMe282, hcc282⟩ := Kd.S_get HO_4.out [] x6_2 p282 (by first | exact q282 | exact dt_ | (have e_ := (Kd.S_reads' HO_4.out).1; omega))
            obtain ⟨ve282_0, rfl, ge282_0⟩ := hMe282
            have hv282_0 := hcc282 0 _ rfl
            rw [Nat.add_zero, show ((Kd.slice 2 (Kd.int .i64))).sz = 1 from rfl, Nat.mul_one] at hv282_0
            replace hv282_0 := Option.some.inj (hv282_0.symm.trans hx282_0)
            rw [hv282_0] at ge282_0
            have HL282_0 := zpS (show Kd.R (Kd.int .i64) 2 _ _ _ _ (znM t272 x6_2) from ge282_0)
            clear hv282_0 ge282_0
            clear hcc282 hce282
            have HR282_0 := zpS hi282_0
            have HC282_0 := zpS hl282_0
            clear hi282_0 hl282_0
            replace p282 := eq_true p282
            replace q282 := eq_true q282
            have ea_ := Option.some.inj (hx281_0.symm.trans hx282_0)
            injection ea_ with ea_ en_ ec_
            subst ea_
            subst ec_
            clear en_
            have p284 : 0 ≤ (x6_2 : Int) := dt_
            have q284 : x6_2 < (t272.length : Int) := dt_
            obtain ⟨ad284, A284_0, c284_0, e284, hx284_0, hl284_0, hi284_0⟩ := at_L2 (Kd.S_reads' HO_4.out).2.2 x6_2 p284 q284
            obtain rfl : ad281 = ad284 := (by injection e284)
            obtain ⟨ce284, hce284, hMe284, hcc284⟩ := Kd.S_get HO_4.out [] x6_2 p284 (by first | exact q284 | exact dt_ | (have e_ := (Kd.S_reads' HO_4.out).1; omega))
            obtain ⟨ve284_0, rfl, ge284_0⟩ := hMe284
            have hv284_0 := hcc284 0 _ rfl
            rw [Nat.add_zero, show ((Kd.slice 2 (Kd.int .i64))).sz = 1 from rfl, Nat.mul_one] at hv284_0
            replace hv284_0 := Option.some.inj (hv284_0.symm.trans hx284_0)
            rw [hv284_0] at ge284_0
            have HL284_0 := zpS (show Kd.R (Kd.int .i64) 2 _ _ _ _ (znM t272 x6_2) from ge284_0)
            clear hv284_0 ge284_0
            clear hcc284 hce284
            have HR284_0 := zpS hi284_0
            have HC284_0 := zpS hl284_0
            clear hi284_0 hl284_0
            replace p284 := eq_true p284
            replace q284 := eq_true q284
            have ea_ := Option.some.inj (hx281_0.symm.trans hx284_0)
            injection ea_ with ea_ en_ ec_
            subst ea_
            subst ec_
            clear en_
            have p288 : 0 ≤ (x6_2 : Int) := dt_
            have q288 : x6_2 < (t272.length : Int) := dt_
            obtain ⟨ad288, A288_0, c288_0, e288, hx288_0, hl288_0, hi288_0⟩ := at_L2 (Kd.S_reads' HO_4.out).2.2 x6_2 p288 q288
            obtain rfl : ad281 = ad288 := (by injection e288)
            obtain ⟨ce288, hce288, hMe288, hcc288⟩ := Kd.S_get HO_4.out [] x6_2 p288 (by first | exact q288 | exact dt_ | (have e_ := (Kd.S_reads' HO_4.out).1; omega))
            obtain ⟨ve288_0, rfl, ge288_0⟩ := hMe288
            have hv288_0 := hcc288 0 _ rfl
            rw [Nat.add_zero, show ((Kd.slice 2 (Kd.int .i64))).sz = 1 from rfl, Nat.mul_one] at hv288_0
            replace hv288_0 := Option.some.inj (hv288_0.symm.trans hx288_0)
            rw [hv288_0] at ge288_0
            have HL288_0 := zpS (show Kd.R (Kd.int .i64) 2 _ _ _ _ (znM t272 x6_2) from ge288_0)
            clear hv288_0 ge288_0
            clear hcc288 hce288
            have HR288_0 := zpS hi288_0
            have HC288_0 := zpS hl288_0
            clear hi288_0 hl288_0
            replace p288 := eq_true p288
            replace q288 := eq_true q288
            have ea_ := Option.some.inj (hx281_0.symm.trans hx288_0)
            injection ea_ with ea_ en_ ec_
            subst ea_
            subst ec_
            clear en_
            refine start_ (n := 29) (S := fun w' => w'.cell? (ad281.add (x6_2).toNat) = some (.slice A281_0 (znM t272 x6_2).length c281_0) ∧ w'.cell? (ad281.add (x6_2).toNat) = some (.slice A281_0 (znM t272 x6_2).length c281_0) ∧ w'.cell? (ad281.add (x6_2).toNat) = some (.slice A281_0 (znM t272 x6_2).length c281_0) ∧ w'.cell? (ad281.add (x6_2).toNat) = some (.slice A281_0 (znM t272 x6_2).length c281_0)) (ds := []) #[false, false, false, false, false, false, false, false, false, false, false, false, false, false, false, false, false, false, false, false, false, false, false, false, false, false, false, false, false] (by kernel_rfl) rfl rfl ⟨hx281_0, hx282_0, hx284_0, hx288_0⟩ (fun hHeld => ?_); refine with_tabW laws_FnSequences.tab10 laws_FnSequences.bits10 (fun HT_ HW_ => ?_)
            generalize wr.drew = w29 at HO_3 HO_4 HB HL281_0 HL282_0 HL284_0 HL288_0 HR281_0 HR282_0 HR284_0 HR288_0 hx281_0 hx282_0 hx284_0 hx288_0 hHeld ⊢
            refine pu_ 0 (some 37) (bl_ 29 1) ?_
            refine pu_ 1 (some 38) (bl_ 29 3) ?_
            refine pu_ 2 (some 39) (bl_ 29 7) ?_
            refine pu_ 5 (some 42) (bl_ 29 39) ?_
            refine pu_ 6 (some 43) (bl_ 29 103) ?_
            refine tk4_ 3 (some 40) (bl_ 29 111) hHeld ?_
            refine pu_ 4 (some 41) (bl_ 29 127) ?_
            refine pu_ 7 (some 44) (bl_ 29 255) ?_
            refine pu_ 8 (some 45) (bl_ 29 511) ?_
            refine pu_ 9 (some 46) (bl_ 29 1023) ?_
            refine pu_ 10 (some 47) (bl_ 29 2047) ?_
            refine pu_ 11 (some 48) (bl_ 29 4095) ?_
            refine tk4_ 12 (some 49) (bl_ 29 8191) hHeld ?_
            refine one_ (i := 13) (N := some 50) (bl_ 29 16383) rfl rfl (one_of HT_.out (by kernel_rfl)) (by decide) (fun K hK => ?_)
            refine goes_ Try.func36 (by kernel_rfl) rfl #[.slice A281_0 (znM t272 x6_2).length c281_0] (by rfl) rfl rfl (by (try simp only [List.map_toArray, List.map_cons, List.map_nil]); first | done | rfl | (simp only [List.length_drop, List.length_take]; rfl)) ?_
            with_reducible refine (zmD.calls k2 _ _ (znM t272 x6_2) true _ ?side1 ?side2 A23.out).mono ?_
            (case side1 => repeat (first | exact (by repeat (first | (with_reducible exact HR282_0.out) | (with_reducible refine Kd.C_alloc ?_ _) | (with_reducible refine Kd.C_drewN ?_ _) | (with_reducible refine Kd.C_drew ?_) | exact HR282_0.out)) | (with_reducible refine Kd.C_alloc ?_ _) | (with_reducible refine Kd.C_drewN ?_ _) | (with_reducible refine Kd.C_drew ?_)))
            (case side2 => exact HC282_0.out)
            rintro e w' ⟨rfl, ⟨nd, rfl⟩⟩
            refine ⟨_, rfl, ?_⟩
            refine hK.out _ _ ⟨hHeld.1, hHeld.2.1, hHeld.2.2.1, hHeld.2.2.2⟩ (fun hHeld => ?_)
            clear hK K
            refine norm_ (a' := ?_) ?_ ?_
            rotate_left
            ·show Act.put _ (some 50) _ = _
             simp only [Act.put, List.setIfInBounds_toArray, List.set_cons_zero, List.set_cons_succ, zcM, ziJ]
             rfl
            refine pu_ 14 (some 51) (bl_ 29 32767) ?_
            refine pu_ 15 (some 52) (bl_ 29 65535) ?_
            refine pu_ 16 (some 53) (bl_ 29 131071) ?_
            refine pu_ 17 (some 54) (bl_ 29 262143) ?_
            refine pu_ 18 (some 55) (bl_ 29 524287) ?_
            refine pu_ 19 (some 56) (bl_ 29 1048575) ?_
            refine pu_ 22 (some 59) (bl_ 29 5242879) ?_
            refine pu_ 23 (some 60) (bl_ 29 13631487) ?_
            refine pu_ 24 (some 61) (bl_ 29 30408703) ?_
            refine tk4_ 20 (some 57) (bl_ 29 31457279) hHeld ?_
            refine tk4_ 25 (some 62) (bl_ 29 65011711) hHeld ?_
            refine one_ (i := 21) (N := some 58) (bl_ 29 67108863) rfl rfl (one_of HT_.out (by kernel_rfl)) (by decide) (fun K hK => ?_)
            refine goes_ Try.func31 (by kernel_rfl) rfl #[.slice A281_0 (znM t272 x6_2).length c281_0] (by rfl) rfl rfl (by (try simp only [List.map_toArray, List.map_cons, List.map_nil]); first | done | rfl | (simp only [List.length_drop, List.length_take]; rfl)) ?_
            with_reducible refine (zyD.calls k2 _ _ (znM t272 x6_2) t285 _ ?side1 ?side2 A25.out).mono ?_
            (case side1 => repeat (first | exact (by repeat (first | (with_reducible exact HR284_0.out) | (with_reducible refine Kd.C_alloc ?_ _) | (with_reducible refine Kd.C_drewN ?_ _) | (with_reducible refine Kd.C_drew ?_) | exact HR284_0.out)) | (with_reducible refine Kd.C_alloc ?_ _) | (with_reducible refine Kd.C_drewN ?_ _) | (with_reducible refine Kd.C_drew ?_)))
            (case side2 => exact HC284_0.out)
            rintro e w30 ⟨v286, rfl, ho0, hb⟩
            have HS0_ := (hb.cell (World.block_lt_of_cell? _ _ (hHeld.1))).trans (hHeld.1)
            have HS1_ := (hb.cell (World.block_lt_of_cell? _ _ (hHeld.2.1))).trans (hHeld.2.1)
            have HS2_ := (hb.cell (World.block_lt_of_cell? _ _ (hHeld.2.2.1))).trans (hHeld.2.2.1)
            have HS3_ := (hb.cell (World.block_lt_of_cell? _ _ (hHeld.2.2.2))).trans (hHeld.2.2.2)
            refine ⟨_, rfl, ?_⟩
            have n0_ := zpS (Kd.R_elder' (by (with_reducible repeat (first | apply Kd.R_alloc | apply Kd.R_drewN | apply Kd.R_drew)); exact HO_3.out) (Kd.R_base ho0) hb)
            have n1_ := zpS (Kd.S_elder' (by (with_reducible repeat (first | apply Kd.S_alloc | apply Kd.S_drewN | apply Kd.S_drew)); exact HO_4.out) (Kd.R_base ho0) hb)
            have n2_ := zpS (Kd.R_elder' (by (with_reducible repeat (first | apply Kd.R_alloc | apply Kd.R_drewN | apply Kd.R_drew)); exact HL281_0.out) (Kd.R_base ho0) hb)
            have n3_ := zpS (Kd.R_elder' (by (with_reducible repeat (first | apply Kd.R_alloc | apply Kd.R_drewN | apply Kd.R_drew)); exact HL282_0.out) (Kd.R_base ho0) hb)
            have n4_ := zpS (Kd.R_elder' (by (with_reducible repeat (first | apply Kd.R_alloc | apply Kd.R_drewN | apply Kd.R_drew)); exact HL284_0.out) (Kd.R_base ho0) hb)
            have n5_ := zpS (Kd.R_lower (Kd.R_new' (Kd.R_new' (Kd.R_new' (Kd.R_new' ho0 (Kd.R_lt (by (with_reducible repeat (first | apply Kd.R_alloc | apply Kd.R_drewN | apply Kd.R_drew)); exact HO_3.out))) (Kd.R_lt (by (with_reducible repeat (first | apply Kd.R_alloc | apply Kd.R_drewN | apply Kd.R_drew)); exact HL281_0.out))) (Kd.R_lt (by (with_reducible repeat (first | apply Kd.R_alloc | apply Kd.R_drewN | apply Kd.R_drew)); exact HL282_0.out))) (Kd.R_lt (by (with_reducible repeat (first | apply Kd.R_alloc | apply Kd.R_drewN | apply Kd.R_drew)); exact HL284_0.out))) (zuA bb_))
            have n6_ := zpS (Kd.C_below (by repeat (first | (with_reducible exact HR281_0.out) | (with_reducible refine Kd.C_alloc ?_ _) | (with_reducible refine Kd.C_drewN ?_ _) | (with_reducible refine Kd.C_drew ?_) | exact HR281_0.out)) hb)
            have n7_ := zpS (Kd.C_below (by repeat (first | (with_reducible exact HR282_0.out) | (with_reducible refine Kd.C_alloc ?_ _) | (with_reducible refine Kd.C_drewN ?_ _) | (with_reducible refine Kd.C_drew ?_) | exact HR282_0.out)) hb)
            have n8_ := zpS (Kd.C_below (by repeat (first | (with_reducible exact HR284_0.out) | (with_reducible refine Kd.C_alloc ?_ _) | (with_reducible refine Kd.C_drewN ?_ _) | (with_reducible refine Kd.C_drew ?_) | exact HR284_0.out)) hb)
            have n9_ := (ns_ hb)
            clear HO_3
            clear HO_4
            clear HL281_0
            clear HL282_0
            clear HL284_0
            clear HR281_0
            clear HR282_0
            clear HR284_0
            clear HB
            have HO_3 := n0_
            have HO_4 := n1_
            have HL281_0 := n2_
            have HL282_0 := n3_
            have HL284_0 := n4_
            have HO287 := n5_
            have HR281_0 := n6_
            have HR282_0 := n7_
            have HR284_0 := n8_
            have HB := n9_
            clear n0_ n1_ n2_ n3_ n4_ n5_ n6_ n7_ n8_ n9_
            (try clear hb)
            (try clear hb2)
            (try clear hk)
            (try clear hi)
            (try clear ho0)
            obtain ⟨Ao31, co31, eo31⟩ := Kd.R_slice HO287.out
            (first | subst eo31 | (injection eo31 with f1_ f2_ f3_; have f4_ := f1_.symm; have f5_ := f3_.symm; clear f1_ f2_ f3_; subst f4_; subst f5_))
            refine hK.out _ _ ⟨HS0_, HS1_, HS2_, HS3_⟩ (fun hHeld => ?_)
            clear hK K
            refine norm_ (a' := ?_) ?_ ?_
            rotate_left
            ·show Act.put _ (some 58) _ = _
             simp only [Act.put, List.setIfInBounds_toArray, List.set_cons_zero, List.set_cons_succ, zcM, ziJ]
             rfl
            refine one_ (i := 26) (N := some 63) (bl_ 29 134217727) rfl rfl (one_of HT_.out (by kernel_rfl)) (by decide) (fun K hK => ?_)
            refine goes_ Try.func30 (by kernel_rfl) rfl #[.slice Ao31 t285.length co31, .slice A281_0 (znM t272 x6_2).length c281_0] (by rfl) rfl rfl (by (try simp only [List.map_toArray, List.map_cons, List.map_nil]); first | done | rfl | (simp only [List.length_drop, List.length_take]; rfl)) ?_
            with_reducible refine (zwI.calls k2 _ _ t285 _ _ (znM t272 x6_2) true _ ?side1 ?side2 ?side3 ?side4 A26.out).mono ?_
            (case side1 => repeat (first | exact (Kd.R_reads' HO287.out).2.2 | (with_reducible refine Kd.C_alloc ?_ _) | (with_reducible refine Kd.C_drewN ?_ _) | (with_reducible refine Kd.C_drew ?_)))
            (case side2 => exact (Kd.R_reads' HO287.out).2.1)
            (case side3 => repeat (first | exact (by repeat (first | (with_reducible exact HR284_0.out) | (with_reducible refine Kd.C_alloc ?_ _) | (with_reducible refine Kd.C_drewN ?_ _) | (with_reducible refine Kd.C_drew ?_) | exact HR284_0.out)) | (with_reducible refine Kd.C_alloc ?_ _) | (with_reducible refine Kd.C_drewN ?_ _) | (with_reducible refine Kd.C_drew ?_)))
            (case side4 => exact HC288_0.out)
            rintro e w' ⟨rfl, ⟨nd, rfl⟩⟩
            refine ⟨_, rfl, ?_⟩
            refine hK.out _ _ ⟨hHeld.1, hHeld.2.1, hHeld.2.2.1, hHeld.2.2.2⟩ (fun hHeld => ?_)
            clear hK K
            refine norm_ (a' := ?_) ?_ ?_
            rotate_left
            ·show Act.put _ (some 63) _ = _
             simp only [Act.put, List.setIfInBounds_toArray, List.set_cons_zero, List.set_cons_succ, zcM, ziJ]
             rfl
            refine pu_ 27 (some 64) (bl_ 29 268435455) ?_
            refine pu_ 28 (some 65) (bl_ 29 536870911) ?_
            refine done_ (done_of HT_.out (by kernel_rfl)) ?_
            try go_wp2
            go_roundg k2
            case measure => have := HJ5.out; have := HK2.out; omega
            case rel => exact ⟨(wrap64 (x6_2 + 1)), (by first | rfl | (simp; done) | (simp [*]; done)), H', ⟨by have := HJ5.out; have := HK2.out; omega⟩, ⟨by (with_reducible repeat (first | apply Kd.R_alloc | apply Kd.R_drewN | apply Kd.R_drew)); exact Kd.R_mono HO_3.out (fun _ hk => trivial)⟩, ⟨by (with_reducible repeat (first | apply Kd.S_alloc | apply Kd.S_drewN | apply Kd.S_drew)); exact Kd.S_mono HO_4.out (fun _ hk => hk.1)⟩, ⟨bb_⟩⟩
           ·replace c27 := Bool.eq_false_iff.mpr c27
            subst c27
            have H1 : (none) = some r := by rw [if_neg (show ¬ (false = true) by decide)] at H; exact H
            clear H
            have H := H1
            clear H1
            exact absurd H (by simp)
          ·replace c24 := Bool.eq_false_iff.mpr c24
           subst c24
           have H1 : (none) = some r := by rw [if_neg (show ¬ (false = true) by decide)] at H; exact H
           clear H
           have H := H1
           clear H1
           exact absurd H (by simp)
         ·rw [if_neg c22] at H
          have c22b0 : (((znM t272 x6_2).length : Int) == (t269.length : Int)) = false := beq_eq_false_iff_ne.mpr c22
          have c22b1 : (((znM t272 x6_2).length : Int) != (t269.length : Int)) = true := bne_iff_ne.mpr c22
          have c22b2 : ((znM t272 x6_2).length == t269.length) = false := by first | simpa using c22 | (simp at c22 ⊢; omega)
          exact absurd H (by simp)
        ·rw [if_neg c21] at H
         exact absurd H (by simp)
       ·rw [if_neg c20] at H
        have c20b0 : decide (x6_2 < (t272.length : Int)) = false := decide_eq_false c20
        clear c20
        obtain rfl := Option.some.inj H
        obtain ⟨Ao32, co32, eo32⟩ := Kd.S_slice HO_4.out
        subst eo32
        go_wp2
        go_ret
        exact ⟨by first | rfl | (simp [ziS, znJ] <;> rfl) | (simp [*, ziS, znJ] <;> rfl), bb_⟩

def laws_FnSequences.Pure : Prop := ∀ (l0 : List Int), l0.length ≤ maxLen → l0.length * 1 ≤ 140737488351232 → (∀ x ∈ l0, (Lit.int .u8 x).wf = true) → ∃ k, laws_FnSequences.f k l0 = some true
theorem laws_FnSequences.walk (P : laws_FnSequences.Pure) (a0 : Option Addr) (len0 cap0 : Nat) (z0 : List Int) (w : World) (w0 : (a0 = none ∧ len0 = 0 ∧ cap0 = 0 ∧ z0 = []) ∨ ∃ x, a0 = some x ∧ len0 ≤ cap0 ∧ cap0 ≤ maxLen ∧ z0.length = cap0 ∧ (∀ i, i < z0.length → w.cell? (x.add i) = some (.int .u8 (z0.getD i 0))) ∧ ∀ n ∈ z0, (Lit.int .u8 n).wf = true) (y0 : len0 * 1 ≤ 140737488351232) :
  Calls Try.prog 8 #[.slice a0 len0 cap0] w fun e w' => e = .returned (.bool true) ∧ Below w.heap.size w w' := by
 obtain ⟨l0, rfl, hr0, hm0, hw0, hc0⟩ := ziT.ofRowC w0
 obtain ⟨k, h⟩ := P l0 hm0 y0 hw0
 refine (laws_FnSequences.calls k _ _ l0 true w (Kd.C_of_reads (d := (0 : Int)) (h1 := fun _ => rfl) hr0) hc0 h).mono ?_
 rintro e w' ⟨rfl, hd⟩
 exact ⟨rfl, hd⟩

end Go.Proofs.Ytbpkbllokmplnaa.PFnSequences
