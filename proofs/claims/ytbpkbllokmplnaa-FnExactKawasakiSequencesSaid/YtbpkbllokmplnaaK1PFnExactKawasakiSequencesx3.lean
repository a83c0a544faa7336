-- Printed for this claim by this session's program pp.py, which drives the kit's print with additions. Not trusted: Lean checks it.
import Derived.Test.YtbpkbllokmplnaaK1PFnExactKawasakiSequencesx0
import Derived.Test.YtbpkbllokmplnaaK1PFnExactKawasakiSequencesx1
import Derived.Test.YtbpkbllokmplnaaK1PFnExactKawasakiSequencesx2
namespace Go.Proofs.Ytbpkbllokmplnaa.PFnExactKawasakiSequences
open Go.RowKit Go.Proofs.YtbpkbllokmplnaaW.PrintWords Go.Proofs.YtbpkbllokmplnaaW.PrintLast Go.Proofs.YtbpkbllokmplnaaW.PrintMore
attribute [local go_sem] max2_int min2_int max_two min_two max_three min_three max_four min_four   -- for this text's walks alone
set_option linter.unusedVariables false
set_option maxHeartbeats 8000000
set_option maxRecDepth 100000
set_option linter.unusedSimpArgs false

mutual
def zeI.l0 : Nat → List Int → List Int → List Int → Int → Option (List Int)
 | 0, _, _, _, _ => none
 | k + 1, x0, x3, x4, x5 => if x5 < (x0.length : Int) then ((zrU.f x0 x5).bind fun t151 => ((zfM.f k t151 x3).bind fun t154 => (if t154 = true then (zeI.j1 k x0 t151 x4 x5) else (zeI.j1 k x0 x3 x4 x5)))) else (some x3)
def zeI.j1 : Nat → List Int → List Int → List Int → Int → Option (List Int)
 | 0, _, _, _, _ => none
 | k + 1, x0, x3, x4, x5 => (zrU.f x4 x5).bind fun t155 => ((zfM.f k t155 x3).bind fun t158 => (if t158 = true then (zeI.l0 k x0 t155 x4 (wrap64 (x5 + 1))) else (zeI.l0 k x0 x3 x4 (wrap64 (x5 + 1)))))
end
def zeI.f (k : Nat) (l0 : List Int) : Option (List Int) := (znA.f l0).bind fun t145 => ((zvC.f k l0).bind fun t148 => (zeI.l0 k l0 t145 t148 0))
theorem zeI.mono_l : ∀ k, (∀ y0 y1 y2 y3, LeO (zeI.l0 k y0 y1 y2 y3) (zeI.l0 (k + 1) y0 y1 y2 y3)) ∧ (∀ y0 y1 y2 y3, LeO (zeI.j1 k y0 y1 y2 y3) (zeI.j1 (k + 1) y0 y1 y2 y3))
 | 0 => ⟨fun _ _ _ _ r h => by simp [zeI.l0] at h, fun _ _ _ _ r h => by simp [zeI.j1] at h⟩
 | k + 1 => by
  obtain ⟨ih0, ih1⟩ := zeI.mono_l k
  refine ⟨?_, ?_⟩
  ·intro y0 y1 y2 y3
   unfold zeI.l0
   repeat' first
   | (with_reducible exact ih0 _ _ _ _)
   | (with_reducible exact ih1 _ _ _ _)
   | (with_reducible exact zfM.mono _ _ _)
   | (with_reducible exact zvC.mono _ _)
   | (with_reducible exact LeO.refl _)
   | (with_reducible exact LeO.none _)
   | (with_reducible refine LeO.ite ?_ ?_)
   | (with_reducible refine LeO.bind ?_ (fun _ => ?_))
   | exact ih0 _ _ _ _
   | exact ih1 _ _ _ _
   | exact zfM.mono _ _ _
   | exact zvC.mono _ _
   | exact LeO.none _
   | refine LeO.ite ?_ ?_
   | refine LeO.bind ?_ (fun _ => ?_)
  ·intro y0 y1 y2 y3
   unfold zeI.j1
   repeat' first
   | (with_reducible exact ih0 _ _ _ _)
   | (with_reducible exact ih1 _ _ _ _)
   | (with_reducible exact zfM.mono _ _ _)
   | (with_reducible exact zvC.mono _ _)
   | (with_reducible exact LeO.refl _)
   | (with_reducible exact LeO.none _)
   | (with_reducible refine LeO.ite ?_ ?_)
   | (with_reducible refine LeO.bind ?_ (fun _ => ?_))
   | exact ih0 _ _ _ _
   | exact ih1 _ _ _ _
   | exact zfM.mono _ _ _
   | exact zvC.mono _ _
   | exact LeO.none _
   | refine LeO.ite ?_ ?_
   | refine LeO.bind ?_ (fun _ => ?_)
theorem zeI.mono : ∀ a0 k, LeO (zeI.f k a0) (zeI.f (k + 1) a0) := by
 intro a0 k
 obtain ⟨ih0, ih1⟩ := zeI.mono_l k
 unfold zeI.f
 repeat' first
   | (with_reducible exact ih0 _ _ _ _)
   | (with_reducible exact ih1 _ _ _ _)
   | (with_reducible exact zfM.mono _ _ _)
   | (with_reducible exact zvC.mono _ _)
   | (with_reducible exact LeO.refl _)
   | (with_reducible exact LeO.none _)
   | (with_reducible refine LeO.ite ?_ ?_)
   | (with_reducible refine LeO.bind ?_ (fun _ => ?_))
   | exact ih0 _ _ _ _
   | exact ih1 _ _ _ _
   | exact zfM.mono _ _ _
   | exact zvC.mono _ _
   | exact LeO.none _
   | refine LeO.ite ?_ ?_
   | refine LeO.bind ?_ (fun _ => ?_)
theorem zeI.calls (k : Nat) (A0 : Option Addr) (c0 : Nat) (l0 : List Int) (r : List Int) (w : World) (hr0 : Kd.C (Kd.int .i64) w A0 l0.length l0) (hc0 : l0.length ≤ c0) (h : zeI.f k l0 = some r) :
  Calls Try.prog 104 #[.slice A0 l0.length c0] w fun e w' => ∃ v0_ : Value, e = .returned (v0_) ∧ Kd.R (Kd.int .i64) 2 w' w.heap.size (fun _ => True) v0_ r ∧ Below w.heap.size w w' := by
 have HR0 := zpS hr0
 have HC0 := zpS hc0
 clear hr0 hc0
 have HB := zpS (Below.refl w.heap.size w)
 have H : ((znA.f l0).bind fun t145 => ((zvC.f k l0).bind fun t148 => (zeI.l0 k l0 t145 t148 0))) = some r := h
 clear h
 replace H := Option.bind_eq_some_iff.mp H
 obtain ⟨t145, A20, H⟩ := H
 replace H : ((zvC.f k l0).bind fun t148 => (zeI.l0 k l0 t145 t148 0)) = some r := H
 have A2 := zpS A20
 clear A20
 replace H := Option.bind_eq_some_iff.mp H
 obtain ⟨t148, A30, H⟩ := H
 replace H : (zeI.l0 k l0 t145 t148 0) = some r := H
 have A3 := zpS A30
 clear A30
 have H' := zpS H
 clear H
 go_enter Try.func104, Try.ntmps104
 go_wp2_with (first | ((with_reducible refine zgK (f := 105) rfl ?_); refine zqQ (some 9) rfl rfl Try.func105 (by kernel_rfl) rfl #[.slice A0 l0.length c0] rfl (by (try simp only [List.map_toArray, List.map_cons, List.map_nil]); first | done | rfl | (simp only [List.length_drop, List.length_take]; rfl)) ?_; (with_reducible refine (znA.calls _ _ l0 t145 _ ?side1 ?side2 A2.out).mono ?_); (case side1 => repeat (first | exact HR0.out | (with_reducible refine Kd.C_alloc ?_ _) | (with_reducible refine Kd.C_drewN ?_ _) | (with_reducible refine Kd.C_drew ?_))); (case side2 => exact HC0.out); rintro e w4 ⟨v146, rfl, ho0, hb⟩; refine ⟨_, rfl, ?_⟩; have n0_ := zpS (Kd.R_lower ho0 (zuA bb_)); have n1_ := (ns_ hb); clear HB; have HO147 := n0_; have HB := n1_; clear n0_ n1_; (try clear hb); (try clear hb2); (try clear ho0)) | ((with_reducible refine zgK (f := 118) rfl ?_); refine zqQ (some 11) rfl rfl Try.func118 (by kernel_rfl) rfl #[.slice A0 l0.length c0] rfl (by (try simp only [List.map_toArray, List.map_cons, List.map_nil]); first | done | rfl | (simp only [List.length_drop, List.length_take]; rfl)) ?_; (with_reducible refine (zvC.calls k _ _ l0 t148 _ ?side1 ?side2 A3.out).mono ?_); (case side1 => repeat (first | exact (Kd.C_below HR0.out HB.out) | (with_reducible refine Kd.C_alloc ?_ _) | (with_reducible refine Kd.C_drewN ?_ _) | (with_reducible refine Kd.C_drew ?_))); (case side2 => exact HC0.out); rintro e w5 ⟨v149, rfl, ho0, hb⟩; refine ⟨_, rfl, ?_⟩; have n0_ := zpS (Kd.R_elder' (by (with_reducible repeat (first | apply Kd.R_alloc | apply Kd.R_drewN | apply Kd.R_drew)); exact HO147.out) (Kd.R_base ho0) hb); have n1_ := zpS (Kd.R_lower (Kd.R_new' ho0 (Kd.R_lt (by (with_reducible repeat (first | apply Kd.R_alloc | apply Kd.R_drewN | apply Kd.R_drew)); exact HO147.out))) (zuA bb_)); have n2_ := (ns_ hb); clear HO147; clear HB; have HO147 := n0_; have HO150 := n1_; have HB := n2_; clear n0_ n1_ n2_; (try clear hb); (try clear hb2); (try clear ho0)))
 (try go_simp)
 go_loopg [3, 5] k (fun kq v3 v5 w' => ∃ (x3_1 : List Int) (x5_1 : Int), v5 = .int .i64 x5_1 ∧ Aside0 (zeI.l0 kq l0 x3_1 t148 x5_1 = some r) ∧ Aside0 (kq ≤ k) ∧ Aside0 (Kd.R (Kd.int .i64) 2 w' w.heap.size (fun k_ => some k_ ≠ (v149 : Value).ownBlock) v3 x3_1) ∧ Aside0 (Kd.R (Kd.int .i64) 2 w' w.heap.size (fun k_ => some k_ ≠ (v3 : Value).ownBlock) v149 t148) ∧ Aside0 (Below w.heap.size w w'))
 case atStart => exact ⟨(t145), (0), (by first | rfl | (simp; done) | (simp [*]; done)), H', ⟨Nat.le_refl _⟩, ⟨by (with_reducible repeat (first | apply Kd.R_alloc | apply Kd.R_drewN | apply Kd.R_drew)); exact Kd.R_mono HO147.out (fun _ hk => hk.2)⟩, ⟨by (with_reducible repeat (first | apply Kd.R_alloc | apply Kd.R_drewN | apply Kd.R_drew)); exact Kd.R_mono HO150.out (fun _ hk => hk.2)⟩, ⟨bb_⟩⟩
 case round =>
  clear H'
  try clear c1
  try clear p2
  obtain ⟨x3_1, x5_1, rfl, HA, HK1, HO_3, HO_4, HB⟩ := hrel
  cases gk with
  | zero => exact absurd HA.out (by simp [zeI.l0])
  | succ k1 =>
   have H := HA.out
   clear HA
   simp only [zeI.l0] at H
   by_cases c6 : x5_1 < (l0.length : Int)
   ·rw [if_pos c6] at H
    have c6b0 : decide (x5_1 < (l0.length : Int)) = true := decide_eq_true c6
    clear c6
    replace H := Option.bind_eq_some_iff.mp H
    obtain ⟨t151, A70, H⟩ := H
    replace H : ((zfM.f k1 t151 x3_1).bind fun t154 => (if t154 = true then (zeI.j1 k1 l0 t151 t148 x5_1) else (zeI.j1 k1 l0 x3_1 t148 x5_1))) = some r := H
    have A7 := zpS A70
    clear A70
    replace H := Option.bind_eq_some_iff.mp H
    obtain ⟨t154, A80, H⟩ := H
    replace H : (if t154 = true then (zeI.j1 k1 l0 t151 t148 x5_1) else (zeI.j1 k1 l0 x3_1 t148 x5_1)) = some r := H
    have A8 := zpS A80
    clear A80
    have HC9 := zpS H
    clear H
    go_upto_if 23 with (first | ((with_reducible refine zgK (f := 89) rfl ?_); refine zqQ (some 20) rfl rfl Try.func89 (by kernel_rfl) rfl #[.slice A0 l0.length c0, .int .i64 x5_1] rfl (by (try simp only [List.map_toArray, List.map_cons, List.map_nil]); first | done | rfl | (simp only [List.length_drop, List.length_take]; rfl)) ?_; (with_reducible refine (zrU.calls _ _ l0 x5_1 t151 _ ?side1 ?side2 A7.out).mono ?_); (case side1 => repeat (first | exact (Kd.C_below HR0.out HB.out) | (with_reducible refine Kd.C_alloc ?_ _) | (with_reducible refine Kd.C_drewN ?_ _) | (with_reducible refine Kd.C_drew ?_))); (case side2 => exact HC0.out); rintro e w10 ⟨v152, rfl, ho0, hb⟩; refine ⟨_, rfl, ?_⟩; have n0_ := zpS (Kd.R_elder' (by (with_reducible repeat (first | apply Kd.R_alloc | apply Kd.R_drewN | apply Kd.R_drew)); exact HO_3.out) (Kd.R_base ho0) hb); have n1_ := zpS (Kd.R_elder' (by (with_reducible repeat (first | apply Kd.R_alloc | apply Kd.R_drewN | apply Kd.R_drew)); exact HO_4.out) (Kd.R_base ho0) hb); have n2_ := zpS (Kd.R_lower (Kd.R_new' (Kd.R_new' ho0 (Kd.R_lt (by (with_reducible repeat (first | apply Kd.R_alloc | apply Kd.R_drewN | apply Kd.R_drew)); exact HO_3.out))) (Kd.R_lt (by (with_reducible repeat (first | apply Kd.R_alloc | apply Kd.R_drewN | apply Kd.R_drew)); exact HO_4.out))) (zuA bb_)); have n3_ := (ns_ hb); clear HO_3; clear HO_4; clear HB; have HO_3 := n0_; have HO_4 := n1_; have HO153 := n2_; have HB := n3_; clear n0_ n1_ n2_ n3_; (try clear hb); (try clear hb2); (try clear ho0); obtain ⟨Ao11, co11, eo11⟩ := Kd.R_slice HO153.out; subst eo11; obtain ⟨Ao12, co12, eo12⟩ := Kd.R_slice HO_3.out; subst eo12) | ((with_reducible refine zgK (f := 117) rfl ?_); refine zqQ (some 23) rfl rfl Try.func117 (by kernel_rfl) rfl #[.slice Ao11 t151.length co11, .slice Ao12 x3_1.length co12] rfl (by (try simp only [List.map_toArray, List.map_cons, List.map_nil]); first | done | rfl | (simp only [List.length_drop, List.length_take]; rfl)) ?_; (with_reducible refine (zfM.calls k1 _ _ t151 _ _ x3_1 t154 _ ?side1 ?side2 ?side3 ?side4 A8.out).mono ?_); (case side1 => repeat (first | exact (Kd.R_reads' HO153.out).2.2 | (with_reducible refine Kd.C_alloc ?_ _) | (with_reducible refine Kd.C_drewN ?_ _) | (with_reducible refine Kd.C_drew ?_))); (case side2 => exact (Kd.R_reads' HO153.out).2.1); (case side3 => repeat (first | exact (Kd.R_reads' HO_3.out).2.2 | (with_reducible refine Kd.C_alloc ?_ _) | (with_reducible refine Kd.C_drewN ?_ _) | (with_reducible refine Kd.C_drew ?_))); (case side4 => exact (Kd.R_reads' HO_3.out).2.1); rintro e w' ⟨rfl, ⟨nd, rfl⟩⟩; refine ⟨_, rfl, ?_⟩))
    (try simp only [Act.put, set_a_, set_b_, set_c_])
    go_cut [3] (fun v3 wc => ∃ (kq : Nat) (x3_8 : List Int), Aside0 (zeI.j1 kq l0 x3_8 t148 x5_1 = some r) ∧ Aside0 (kq ≤ k1) ∧ Aside0 (Kd.R (Kd.int .i64) 2 wc w.heap.size (fun k_ => some k_ ≠ (v149 : Value).ownBlock) v3 x3_8) ∧ Aside0 (Kd.R (Kd.int .i64) 2 wc w.heap.size (fun k_ => some k_ ≠ (v3 : Value).ownBlock) v149 t148) ∧ Aside0 (Below w.heap.size w wc))
    case first =>
     have H := HC9.out
     clear HC9
     by_cases c13 : t154 = true
     ·subst c13
      have H1 : (zeI.j1 k1 l0 t151 t148 x5_1) = some r := by rw [if_pos rfl] at H; exact H
      clear H
      have H := H1
      clear H1
      have H' := zpS H
      clear H
      go_wp2
      go_meet
      case rel => exact ⟨_, (t151), H', ⟨by have := HK1.out; first | omega | exact Nat.le_refl _⟩, ⟨by (with_reducible repeat (first | apply Kd.R_alloc | apply Kd.R_drewN | apply Kd.R_drew)); exact Kd.R_mono HO153.out (fun _ hk => hk.2)⟩, ⟨by (with_reducible repeat (first | apply Kd.R_alloc | apply Kd.R_drewN | apply Kd.R_drew)); exact Kd.R_mono HO_4.out (fun _ hk => hk.2)⟩, ⟨bb_⟩⟩
     ·replace c13 := Bool.eq_false_iff.mpr c13
      subst c13
      have H1 : (zeI.j1 k1 l0 x3_1 t148 x5_1) = some r := by rw [if_neg (show ¬ (false = true) by decide)] at H; exact H
      clear H
      have H := H1
      clear H1
      have H' := zpS H
      clear H
      go_wp2
      go_meet
      case rel => exact ⟨_, (x3_1), H', ⟨by have := HK1.out; first | omega | exact Nat.le_refl _⟩, ⟨by (with_reducible repeat (first | apply Kd.R_alloc | apply Kd.R_drewN | apply Kd.R_drew)); exact Kd.R_mono HO_3.out (fun _ hk => hk.1)⟩, ⟨by (with_reducible repeat (first | apply Kd.R_alloc | apply Kd.R_drewN | apply Kd.R_drew)); exact Kd.R_mono HO_4.out (fun _ hk => hk.1)⟩, ⟨bb_⟩⟩
    case rest =>
     clear HC9
     try clear c1
     try clear p2
     try clear c6
     try clear c6b0
     try clear c8
     try clear c10
     try clear c11
     try clear c13
     try clear p2
     obtain ⟨kq, x3_8, HA, HJ8, HO_3, HO_4, HB⟩ := hcut
     cases kq with
     | zero => exact absurd HA.out (by simp [zeI.j1])
     | succ kj8 =>
      have H := HA.out
      clear HA
      simp only [zeI.j1] at H
      replace H := Option.bind_eq_some_iff.mp H
      obtain ⟨t155, A140, H⟩ := H
      replace H : ((zfM.f kj8 t155 x3_8).bind fun t158 => (if t158 = true then (zeI.l0 kj8 l0 t155 t148 (wrap64 (x5_1 + 1))) else (zeI.l0 kj8 l0 x3_8 t148 (wrap64 (x5_1 + 1))))) = some r := H
      have A14 := zpS A140
      clear A140
      replace H := Option.bind_eq_some_iff.mp H
      obtain ⟨t158, A150, H⟩ := H
      replace H : (if t158 = true then (zeI.l0 kj8 l0 t155 t148 (wrap64 (x5_1 + 1))) else (zeI.l0 kj8 l0 x3_8 t148 (wrap64 (x5_1 + 1)))) = some r := H
      have A15 := zpS A150
      clear A150
      by_cases c16 : t158 = true
      ·subst c16
       have H1 : (zeI.l0 kj8 l0 t155 t148 (wrap64 (x5_1 + 1))) = some r := by rw [if_pos rfl] at H; exact H
       clear H
       have H := H1
       clear H1
       have H' := zpS H
       clear H
       obtain ⟨Ao17, co17, eo17⟩ := Kd.R_slice HO_4.out
       subst eo17
       go_wp2_with (first | ((with_reducible refine zgK (f := 89) rfl ?_); refine zqQ (some 27) rfl rfl Try.func89 (by kernel_rfl) rfl #[.slice Ao17 t148.length co17, .int .i64 x5_1] rfl (by (try simp only [List.map_toArray, List.map_cons, List.map_nil]); first | done | rfl | (simp only [List.length_drop, List.length_take]; rfl)) ?_; (with_reducible refine (zrU.calls _ _ t148 x5_1 t155 _ ?side1 ?side2 A14.out).mono ?_); (case side1 => repeat (first | exact (Kd.R_reads' HO_4.out).2.2 | (with_reducible refine Kd.C_alloc ?_ _) | (with_reducible refine Kd.C_drewN ?_ _) | (with_reducible refine Kd.C_drew ?_))); (case side2 => exact (Kd.R_reads' HO_4.out).2.1); rintro e w18 ⟨v156, rfl, ho0, hb⟩; refine ⟨_, rfl, ?_⟩; have n0_ := zpS (Kd.R_elder' (by (with_reducible repeat (first | apply Kd.R_alloc | apply Kd.R_drewN | apply Kd.R_drew)); exact HO_3.out) (Kd.R_base ho0) hb); have n1_ := zpS (Kd.R_elder' (by (with_reducible repeat (first | apply Kd.R_alloc | apply Kd.R_drewN | apply Kd.R_drew)); exact HO_4.out) (Kd.R_base ho0) hb); have n2_ := zpS (Kd.R_lower (Kd.R_new' (Kd.R_new' ho0 (Kd.R_lt (by (with_reducible repeat (first | apply Kd.R_alloc | apply Kd.R_drewN | apply Kd.R_drew)); exact HO_3.out))) (Kd.R_lt (by (with_reducible repeat (first | apply Kd.R_alloc | apply Kd.R_drewN | apply Kd.R_drew)); exact HO_4.out))) (zuA bb_)); have n3_ := (ns_ hb); clear HO_3; clear HO_4; clear HB; have HO_3 := n0_; have HO_4 := n1_; have HO157 := n2_; have HB := n3_; clear n0_ n1_ n2_ n3_; (try clear hb); (try clear hb2); (try clear ho0); obtain ⟨Ao19, co19, eo19⟩ := Kd.R_slice HO157.out; subst eo19; obtain ⟨Ao20, co20, eo20⟩ := Kd.R_slice HO_3.out; subst eo20) | ((with_reducible refine zgK (f := 117) rfl ?_); refine zqQ (some 30) rfl rfl Try.func117 (by kernel_rfl) rfl #[.slice Ao19 t155.length co19, .slice Ao20 x3_8.length co20] rfl (by (try simp only [List.map_toArray, List.map_cons, List.map_nil]); first | done | rfl | (simp only [List.length_drop, List.length_take]; rfl)) ?_; (with_reducible refine (zfM.calls kj8 _ _ t155 _ _ x3_8 true _ ?side1 ?side2 ?side3 ?side4 A15.out).mono ?_); (case side1 => repeat (first | exact (Kd.R_reads' HO157.out).2.2 | (with_reducible refine Kd.C_alloc ?_ _) | (with_reducible refine Kd.C_drewN ?_ _) | (with_reducible refine Kd.C_drew ?_))); (case side2 => exact (Kd.R_reads' HO157.out).2.1); (case side3 => repeat (first | exact (Kd.R_reads' HO_3.out).2.2 | (with_reducible refine Kd.C_alloc ?_ _) | (with_reducible refine Kd.C_drewN ?_ _) | (with_reducible refine Kd.C_drew ?_))); (case side4 => exact (Kd.R_reads' HO_3.out).2.1); rintro e w' ⟨rfl, ⟨nd, rfl⟩⟩; refine ⟨_, rfl, ?_⟩))
       go_roundg kj8
       case measure => have := HK1.out; have := HJ8.out; omega
       case rel => exact ⟨(t155), (wrap64 (x5_1 + 1)), (by first | rfl | (simp; done) | (simp [*]; done)), H', ⟨by have := HK1.out; have := HJ8.out; omega⟩, ⟨by (with_reducible repeat (first | apply Kd.R_alloc | apply Kd.R_drewN | apply Kd.R_drew)); exact Kd.R_mono HO157.out (fun _ hk => hk.2)⟩, ⟨by (with_reducible repeat (first | apply Kd.R_alloc | apply Kd.R_drewN | apply Kd.R_drew)); exact Kd.R_mono HO_4.out (fun _ hk => hk.2)⟩, ⟨bb_⟩⟩
      ·replace c16 := Bool.eq_false_iff.mpr c16
       subst c16
       have H1 : (zeI.l0 kj8 l0 x3_8 t148 (wrap64 (x5_1 + 1))) = some r := by rw [if_neg (show ¬ (false = true) by decide)] at H; exact H
       clear H
       have H := H1
       clear H1
       have H' := zpS H
       clear H
       obtain ⟨Ao21, co21, eo21⟩ := Kd.R_slice HO_4.out
       subst eo21
       go_wp2_with (first | ((with_reducible refine zgK (f := 89) rfl ?_); refine zqQ (some 27) rfl rfl Try.func89 (by kernel_rfl) rfl #[.slice Ao21 t148.length co21, .int .i64 x5_1] rfl (by (try simp only [List.map_toArray, List.map_cons, List.map_nil]); first | done | rfl | (simp only [List.length_drop, List.length_take]; rfl)) ?_; (with_reducible refine (zrU.calls _ _ t148 x5_1 t155 _ ?side1 ?side2 A14.out).mono ?_); (case side1 => repeat (first | exact (Kd.R_reads' HO_4.out).2.2 | (with_reducible refine Kd.C_alloc ?_ _) | (with_reducible refine Kd.C_drewN ?_ _) | (with_reducible refine Kd.C_drew ?_))); (case side2 => exact (Kd.R_reads' HO_4.out).2.1); rintro e w22 ⟨v156, rfl, ho0, hb⟩; refine ⟨_, rfl, ?_⟩; have n0_ := zpS (Kd.R_elder' (by (with_reducible repeat (first | apply Kd.R_alloc | apply Kd.R_drewN | apply Kd.R_drew)); exact HO_3.out) (Kd.R_base ho0) hb); have n1_ := zpS (Kd.R_elder' (by (with_reducible repeat (first | apply Kd.R_alloc | apply Kd.R_drewN | apply Kd.R_drew)); exact HO_4.out) (Kd.R_base ho0) hb); have n2_ := zpS (Kd.R_lower (Kd.R_new' (Kd.R_new' ho0 (Kd.R_lt (by (with_reducible repeat (first | apply Kd.R_alloc | apply Kd.R_drewN | apply Kd.R_drew)); exact HO_3.out))) (Kd.R_lt (by (with_reducible repeat (first | apply Kd.R_alloc | apply Kd.R_drewN | apply Kd.R_drew)); exact HO_4.out))) (zuA bb_)); have n3_ := (ns_ hb); clear HO_3; clear HO_4; clear HB; have HO_3 := n0_; have HO_4 := n1_; have HO157 := n2_; have HB := n3_; clear n0_ n1_ n2_ n3_; (try clear hb); (try clear hb2); (try clear ho0); obtain ⟨Ao23, co23, eo23⟩ := Kd.R_slice HO157.out; subst eo23; obtain ⟨Ao24, co24, eo24⟩ := Kd.R_slice HO_3.out; subst eo24) | ((with_reducible refine zgK (f := 117) rfl ?_); refine zqQ (some 30) rfl rfl Try.func117 (by kernel_rfl) rfl #[.slice Ao23 t155.length co23, .slice Ao24 x3_8.length co24] rfl (by (try simp only [List.map_toArray, List.map_cons, List.map_nil]); first | done | rfl | (simp only [List.length_drop, List.length_take]; rfl)) ?_; (with_reducible refine (zfM.calls kj8 _ _ t155 _ _ x3_8 false _ ?side1 ?side2 ?side3 ?side4 A15.out).mono ?_); (case side1 => repeat (first | exact (Kd.R_reads' HO157.out).2.2 | (with_reducible refine Kd.C_alloc ?_ _) | (with_reducible refine Kd.C_drewN ?_ _) | (with_reducible refine Kd.C_drew ?_))); (case side2 => exact (Kd.R_reads' HO157.out).2.1); (case side3 => repeat (first | exact (Kd.R_reads' HO_3.out).2.2 | (with_reducible refine Kd.C_alloc ?_ _) | (with_reducible refine Kd.C_drewN ?_ _) | (with_reducible refine Kd.C_drew ?_))); (case side4 => exact (Kd.R_reads' HO_3.out).2.1); rintro e w' ⟨rfl, ⟨nd, rfl⟩⟩; refine ⟨_, rfl, ?_⟩))
       go_roundg kj8
       case measure => have := HK1.out; have := HJ8.out; omega
       case rel => exact ⟨(x3_8), (wrap64 (x5_1 + 1)), (by first | rfl | (simp; done) | (simp [*]; done)), H', ⟨by have := HK1.out; have := HJ8.out; omega⟩, ⟨by (with_reducible repeat (first | apply Kd.R_alloc | apply Kd.R_drewN | apply Kd.R_drew)); exact Kd.R_mono HO_3.out (fun _ hk => hk.1)⟩, ⟨by (with_reducible repeat (first | apply Kd.R_alloc | apply Kd.R_drewN | apply Kd.R_drew)); exact Kd.R_mono HO_4.out (fun _ hk => hk.1)⟩, ⟨bb_⟩⟩
   ·rw [if_neg c6] at H
    have c6b0 : decide (x5_1 < (l0.length : Int)) = false := decide_eq_false c6
    clear c6
    obtain rfl := Option.some.inj H
    go_wp2
    go_ret
    exact ⟨_, by first | rfl | (simp [ziS, znJ] <;> rfl) | (simp [*, ziS, znJ] <;> rfl), by (with_reducible repeat (first | apply Kd.R_alloc | apply Kd.R_drewN | apply Kd.R_drew)); exact Kd.R_mono HO_3.out (fun _ hk => trivial), bb_⟩

def zhS (f : Int → List (List Int) → Option (List (List Int))) : Nat → Int → List (List Int) → Option (List (List Int))
 | 0, _, rows => some rows
 | d + 1, x, rows => (f x rows).bind fun rows => zhS f d (x + 1) rows
def zdT (k : Nat) (rows : List (List Int)) (l : List Int) : Option (List (List Int)) :=
 (zxZ.f k l).bind fun t => if t = true then (zeI.f k l).bind fun m => (zlP.f k m l).bind fun b => if b = true then (if rows.length ≤ 1048576 then some (rows ++ [l]) else none) else some rows else some rows
def zlU (k : Nat) : Nat → List (List Int) → List Int → Int → Int → Option (List (List Int))
 | 0, _, _, _, _ => none
 | f + 1, rows, l, n, left => if n = 0 then zdT k rows l else zhS (fun x rows => zlU k f rows (l ++ [x]) (n - 1) (left - x)) (left - (n - 1) * l.getD 0 1 - l.getD 0 1 + 1).toNat (l.getD 0 1) rows
theorem ziO (k : Nat) (s : Nat) (A : Option Addr) (c : Nat) (l : List Int) (r : Bool) (W W1 : World) (hR : Kd.R (Kd.int .i64) 2 W s (fun _ => True) (.slice A l.length c) l) (hQ : Below W.heap.size W W1) (h : zxZ.f k l = some r) :
  Calls Try.prog 102 #[.slice A l.length c] W1 fun e w' => e = .returned (.bool r) ∧ Below W.heap.size W w' := by
 have hC := (Kd.R_reads' (Kd.R_below hR hQ)).2
 refine (zxZ.calls k A c l r W1 hC.2 hC.1 h).mono ?_
 rintro e w' ⟨rfl, nd, rfl⟩
 exact ⟨rfl, zkZ hQ _⟩
theorem zqS (k : Nat) (s : Nat) (A : Option Addr) (c : Nat) (l r : List Int) (W W1 : World) (hR : Kd.R (Kd.int .i64) 2 W s (fun _ => True) (.slice A l.length c) l) (hQ : Below W.heap.size W W1) (h : zeI.f k l = some r) :
  Calls Try.prog 104 #[.slice A l.length c] W1 fun e w' => ∃ A2 c2, e = .returned (.slice A2 r.length c2) ∧ r.length ≤ c2 ∧ Kd.C (Kd.int .i64) w' A2 r.length r ∧ Below W.heap.size W w' := by
 have hC := (Kd.R_reads' (Kd.R_below hR hQ)).2
 refine (zeI.calls k A c l r W1 hC.2 hC.1 h).mono ?_
 rintro e w' ⟨v, rfl, ho, hb⟩
 obtain ⟨A2, c2, rfl⟩ := Kd.R_slice ho
 exact ⟨A2, c2, rfl, (Kd.R_reads' ho).2.1, (Kd.R_reads' ho).2.2, zkR hQ hb⟩
theorem zpQ (k : Nat) (s : Nat) (A A2 : Option Addr) (c c2 : Nat) (l r : List Int) (b : Bool) (W W1 : World) (hR : Kd.R (Kd.int .i64) 2 W s (fun _ => True) (.slice A l.length c) l) (hc2 : r.length ≤ c2) (hC2 : Kd.C (Kd.int .i64) W1 A2 r.length r) (hQ : Below W.heap.size W W1) (h : zlP.f k r l = some b) :
  Calls Try.prog 103 #[.slice A2 r.length c2, .slice A l.length c] W1 fun e w' => e = .returned (.bool b) ∧ Below W.heap.size W w' := by
 have hC := (Kd.R_reads' (Kd.R_below hR hQ)).2
 refine (zlP.calls k A2 c2 r A c l b W1 hC2 hc2 hC.2 hC.1 h).mono ?_
 rintro e w' ⟨rfl, nd, rfl⟩
 exact ⟨rfl, zkZ hQ _⟩
theorem zuY (s : Nat) (A : Option Addr) (c : Nat) (l : List Int) (W W1 : World) (hR : Kd.R (Kd.int .i64) 2 W s (fun _ => True) (.slice A l.length c) l) (hl : l.length ≤ 100) (hQ : Below W.heap.size W W1) :
  Calls Try.prog 105 #[.slice A l.length c] W1 fun e w' => ∃ A2 c2, e = .returned (.slice A2 l.length c2) ∧ Kd.R (Kd.int .i64) 2 w' W.heap.size (fun _ => True) (.slice A2 l.length c2) l ∧ Below W.heap.size W w' := by
 have hC := (Kd.R_reads' (Kd.R_below hR hQ)).2
 refine (znA.calls A c l l W1 hC.2 hC.1 (by unfold znA.f; simp; try omega)).mono ?_
 rintro e w' ⟨v, rfl, ho, hb⟩
 obtain ⟨A2, c2, rfl⟩ := Kd.R_slice ho
 exact ⟨A2, c2, rfl, Kd.R_lower ho hQ.size, zkR hQ hb⟩
theorem spec_KawasakiSequences_end (k : Nat) (left : Int) (w W : World) (stay : Nat → Prop) (s : Nat) (v : Value) (rows rows' : List (List Int)) (A : Option Addr) (c : Nat) (l : List Int) (hll : l.length ≤ 100) (hB : Below w.heap.size w W) (hst : ∀ j, stay j → j < s) (hws : w.heap.size ≤ s) (hs : s ≤ W.heap.size)
  (hS : Kd.S (Kd.slice 2 (Kd.int .i64)) 22 W w.heap.size (fun j => ¬ stay j ∧ j < s) v rows) (hR : Kd.R (Kd.int .i64) 2 W s (fun _ => True) (.slice A l.length c) l) (h : zdT k rows l = some rows') :
  Calls Try.prog 79 #[v, .slice A l.length c, .int .i64 0, .int .i64 left] W fun e w' => ∃ v', e = .returned v' ∧ Below w.heap.size w w' ∧ Kd.S (Kd.slice 2 (Kd.int .i64)) 22 w' w.heap.size (fun j => ¬ stay j) v' rows' ∧ (∀ j, stay j → w'.heap[j]? = W.heap[j]?) ∧ W.heap.size ≤ w'.heap.size := by
 obtain ⟨Av, cv, rfl⟩ := Kd.S_slice hS
 have HB := zpS hB
 have HS := zpS hS
 have HR := zpS hR
 have HST := zpS hst
 have HWS := zpS hws
 have HSZ := zpS hs
 have HLL := zpS hll
 have HQ := zpS (Below.refl W.heap.size W)
 clear hB hS hR hst hws hs hll
 unfold zdT at h
 obtain ⟨t, h1, h⟩ := Option.bind_eq_some_iff.mp h
 have H1 := zpS h1
 clear h1
 cases t with
 | false =>
  simp only [Bool.false_eq_true, if_false, Option.some.injEq] at h
  subst h
  go_enter Try.func79, Try.ntmps79
  go_wp2_with (first
   | (go_at_call 102; refine (ziO k s A c l false W _ HR.out HQ.out H1.out).mono ?_; rintro e w' ⟨rfl, hb⟩; clear HQ; have HQ := zpS hb; clear hb))
  go_ret
  exact ⟨_, rfl, zkR HB.out HQ.out, Kd.S_mono (Kd.S_below HS.out HQ.out) (fun j hj => hj.1), fun j hj => HQ.out.block j (Nat.lt_of_lt_of_le (HST.out j hj) HSZ.out), HQ.out.size⟩
 | true =>
  simp only [if_true] at h
  obtain ⟨m, h2, h⟩ := Option.bind_eq_some_iff.mp h
  obtain ⟨b, h3, h⟩ := Option.bind_eq_some_iff.mp h
  have H2 := zpS h2
  have H3 := zpS h3
  clear h2 h3
  cases b with
  | false =>
   simp only [Bool.false_eq_true, if_false, Option.some.injEq] at h
   subst h
   go_enter Try.func79, Try.ntmps79
   go_wp2_with (first
    | (go_at_call 102; refine (ziO k s A c l true W _ HR.out HQ.out H1.out).mono ?_; rintro e w' ⟨rfl, hb⟩; clear HQ; have HQ := zpS hb; clear hb)
    | (go_at_call 104; refine (zqS k s A c l m W _ HR.out HQ.out H2.out).mono ?_; rintro e w' ⟨A2, c2, rfl, hc2, hC2, hb⟩; clear HQ; have HQ := zpS hb; have HC := zpS hC2; have HN := zpS hc2; clear hb hC2 hc2)
    | (go_at_call 103; refine (zpQ k s A _ c _ l m false W _ HR.out HN.out HC.out HQ.out H3.out).mono ?_; rintro e w' ⟨rfl, hb⟩; clear HQ; have HQ := zpS hb; clear hb))
   go_ret
   exact ⟨_, rfl, zkR HB.out HQ.out, Kd.S_mono (Kd.S_below HS.out HQ.out) (fun j hj => hj.1), fun j hj => HQ.out.block j (Nat.lt_of_lt_of_le (HST.out j hj) HSZ.out), HQ.out.size⟩
  | true =>
   simp only [if_true] at h
   by_cases hl : rows.length ≤ 1048576
   ·rw [if_pos hl] at h
    obtain rfl := Option.some.inj h
    have HL := zpS hl
    clear h hl
    go_enter Try.func79, Try.ntmps79
    go_wp2_with (first
     | (go_at_call 102; refine (ziO k s A c l true W _ HR.out HQ.out H1.out).mono ?_; rintro e w' ⟨rfl, hb⟩; clear HQ; have HQ := zpS hb; clear hb)
     | (go_at_call 104; refine (zqS k s A c l m W _ HR.out HQ.out H2.out).mono ?_; rintro e w' ⟨A2, c2, rfl, hc2, hC2, hb⟩; clear HQ; have HQ := zpS hb; have HC := zpS hC2; have HN := zpS hc2; clear hb hC2 hc2)
     | (go_at_call 103; refine (zpQ k s A _ c _ l m true W _ HR.out HN.out HC.out HQ.out H3.out).mono ?_; rintro e w' ⟨rfl, hb⟩; clear HQ HC HN; have HQ := zpS hb; clear hb)
     | (go_at_call 105; refine (zuY s A c l W _ HR.out HLL.out HQ.out).mono ?_; rintro e w2 ⟨A5, c5, rfl, ho, hb⟩; clear HQ; have HQ := zpS hb; have HO5 := zpS ho; clear hb ho; have HS2 := zpS (Kd.S_below HS.out HQ.out); have HOWN := zpS (Kd.S_R HS2.out).1; have HQZ := zpS (zuA HQ.out); have HB2 := zpS (zkR HB.out HQ.out))
     | ((with_reducible refine zcL (b := .append) (xs := #[.tmp 21, .tmp 24]) rfl ?_); at_builtin; refine Kd.S_append (Kd.slice 2 (Kd.int .i64)) (w0 := w) w.heap.size rfl (.tmp 21) (.tmp 24) 23 22 (.slice none 0 0) 24 rfl Try.underlying23 info22 rfl (by decide) (by omega) (.slice Av rows.length cv) rows l [.slice A5 l.length c5] (fun j => ¬ stay j) (fun j => s ≤ j) rfl rfl ?aP ?aK ?aF ?aO ?aB ?aS ?aL ?_; (case aP => exact Kd.M_row (Kd.R_mono (Kd.R_lower (Kd.R_bound HO5.out) (Nat.le_trans HWS.out HSZ.out)) (fun _ hk => Nat.le_trans HSZ.out hk.2.1))); (case aK => exact fun j hj => ⟨fun e => by have := HST.out j e; omega, fun e => by have := (HOWN.out j e.symm).2; omega⟩); (case aF => exact fun j hj e => by have := HST.out j e; have := HSZ.out; have := HQZ.out; omega); (case aO => exact Kd.S_mono HS2.out (fun j hj => ⟨hj.1, by have := hj.2; omega⟩)); (case aB => exact HB2.out); (case aS => exact zuA HB2.out); (case aL => have := HL.out; omega); intro v1 w1 ho hb1 hgr hat; have HB1 := zpS hb1; have HS1 := zpS ho; have KP := zpS (show ∀ j, stay j → w1.heap[j]? = W.heap[j]? from fun j hj => by
       have hjW : j < W.heap.size := Nat.lt_of_lt_of_le (HST.out j hj) HSZ.out
       have hj2 : j < w2.heap.size := Nat.lt_of_lt_of_le hjW HQZ.out
       exact (hgr.block j hj2 (fun e => (HOWN.out j e.symm).1 hj)).trans (HQ.out.block j hjW)); have SZ1 := zpS (show W.heap.size ≤ w1.heap.size from Nat.le_trans HQZ.out hgr.size); clear ho hb1 hgr hat))
    go_ret
    exact ⟨_, rfl, HB1.out, HS1.out, KP.out, SZ1.out⟩
   ·rw [if_neg hl] at h; cases h
theorem spec_KawasakiSequences_mul {a b : Int} (h0 : 0 ≤ a) (h1 : a ≤ 15) (h2 : 1 ≤ b) (h3 : b ≤ 16) : 0 ≤ a * b ∧ a * b ≤ 240 ∧ a ≤ a * b := by
 have : a = 0 ∨ a = 1 ∨ a = 2 ∨ a = 3 ∨ a = 4 ∨ a = 5 ∨ a = 6 ∨ a = 7 ∨ a = 8 ∨ a = 9 ∨ a = 10 ∨ a = 11 ∨ a = 12 ∨ a = 13 ∨ a = 14 ∨ a = 15 := by omega
 rcases this with rfl | rfl | rfl | rfl | rfl | rfl | rfl | rfl | rfl | rfl | rfl | rfl | rfl | rfl | rfl | rfl <;> omega
theorem zkQ (l : List Int) (x : Int) (h0 : 1 ≤ x) (h1 : x ≤ 16) (h2 : 1 ≤ l.getD 0 1) (h3 : l.getD 0 1 ≤ 16) : 1 ≤ (l ++ [x]).getD 0 1 ∧ (l ++ [x]).getD 0 1 ≤ 16 := by
 cases l with
 | nil => exact ⟨h0, h1⟩
 | cons y r => exact ⟨h2, h3⟩
set_option maxHeartbeats 16000000 in
theorem spec_KawasakiSequences_grow (k : Nat) : ∀ (f : Nat) (w W : World) (stay : Nat → Prop) (s : Nat) (v : Value) (rows rows' : List (List Int)) (A : Option Addr) (c : Nat) (l : List Int) (n left : Int), (l.length : Int) + n ≤ 16 → 0 ≤ n → 0 ≤ left → left ≤ 16 → 1 ≤ l.getD 0 1 → l.getD 0 1 ≤ 16 → Below w.heap.size w W → (∀ j, stay j → j < s) → w.heap.size ≤ s → s ≤ W.heap.size →
  Kd.S (Kd.slice 2 (Kd.int .i64)) 22 W w.heap.size (fun j => ¬ stay j ∧ j < s) v rows → Kd.R (Kd.int .i64) 2 W s (fun _ => True) (.slice A l.length c) l → zlU k f rows l n left = some rows' →
  Calls Try.prog 79 #[v, .slice A l.length c, .int .i64 n, .int .i64 left] W fun e w' => ∃ v', e = .returned v' ∧ Below w.heap.size w w' ∧ Kd.S (Kd.slice 2 (Kd.int .i64)) 22 w' w.heap.size (fun j => ¬ stay j) v' rows' ∧ (∀ j, stay j → w'.heap[j]? = W.heap[j]?) ∧ W.heap.size ≤ w'.heap.size := by
 intro f
 induction f with
 | zero => intro w W stay s v rows rows' A c l n left _ _ _ _ _ _ _ _ _ _ _ _ h; cases h
 | succ f ih =>
 intro w W stay s v rows rows' A c l n left hln hn0 hl0 hl1 hw0 hw1 hB hst hws hs hS hR h
 unfold zlU at h
 by_cases hz : n = 0
 ·rw [if_pos hz] at h
  subst hz
  exact spec_KawasakiSequences_end k left w W stay s v rows rows' A c l (by omega) hB hst hws hs hS hR h
 rw [if_neg hz] at h
 obtain ⟨Av, cv, rfl⟩ := Kd.S_slice hS
 obtain ⟨low, hlow⟩ : ∃ low, low = l.getD 0 1 := ⟨_, rfl⟩
 rw [← hlow] at h hw0 hw1
 obtain ⟨P, hP⟩ : ∃ P, P = (n - 1) * low := ⟨_, rfl⟩
 obtain ⟨p0, p1, p2⟩ := spec_KawasakiSequences_mul (a := n - 1) (b := low) (by omega) (by omega) hw0 hw1
 rw [← hP] at p0 p1 p2 h
 obtain ⟨D, hD⟩ : ∃ D : Nat, D = (left - P - low + 1).toNat := ⟨_, rfl⟩
 rw [← hD] at h
 have HLF0 := zpS h
 have HD := zpS hD
 have HR := zpS hR
 have HB0 := zpS hB
 have HST := zpS hst
 have HWS := zpS hws
 have HLN := zpS (show l.length ≤ 100 ∧ (l.length : Int) + n ≤ 16 by omega)
 have HLO := zpS hlow
 have HP := zpS hP
 have LT := zpS (show ∀ j, (stay j ∨ (s ≤ j ∧ j < W.heap.size)) → j < W.heap.size from fun j hj => hj.elim (fun h1 => Nat.lt_of_lt_of_le (hst j h1) hs) (fun h1 => h1.2))
 have HS0 := zpS (show Kd.S (Kd.slice 2 (Kd.int .i64)) 22 W w.heap.size (fun j => ¬ (stay j ∨ (s ≤ j ∧ j < W.heap.size))) (.slice Av rows.length cv) rows from Kd.S_mono hS (fun j hj hh => hh.elim hj.1 (fun h1 => by have := hj.2; omega)))
 have hmul : IntKind.i64.wrap ((n - 1) * low) = P := by rw [← hP, IntKind.wrap_i64]; omega
 have cn : (n == 0) = false := beq_eq_false_iff_ne.2 hz
 have hne0 : n ≠ 0 := hz
 clear hst hws hR hS h hD hB hz
 by_cases hl : 0 < l.length
 ·have hlp : (0 : Int) < (l.length : Int) := by omega
  have cl : decide ((l.length : Int) > 0) = true := decide_eq_true hlp
  obtain ⟨go, co, eo, gb, gl, cells, hG⟩ := Kd.R_form HR.out hl
  obtain ⟨rfl, rfl⟩ : A = some ⟨go, 0, none⟩ ∧ c = co := by cases eo; exact ⟨rfl, rfl⟩
  have hlow2 : rdOf (0 : Int) l 0 = low := by rw [hlow]; cases l with | nil => simp at hl | cons _ _ => rfl
  have hcell : W.cell? ⟨go, 0, none⟩ = some (.int .i64 low) := by rw [← hlow2]; exact (Kd.R_celln 0 HR.out 0 (by omega) (by omega)).1
  clear eo hlow hP gb gl hG hlow2
  go_enter Try.func79, Try.ntmps79
  go_wp2
  go_loopg [0, 10] D (fun kq v0 v10 wx => ∃ (x : Int) (rows2 : List (List Int)), v10 = .int .i64 x ∧ Aside0 (x + kq = D + low ∧ low ≤ x) ∧ Aside0 (zhS (fun x rows => zlU k f rows (l ++ [x]) (n - 1) (left - x)) kq x rows2 = some rows') ∧ Aside0 (Below w.heap.size w wx) ∧ Aside0 (Kd.S (Kd.slice 2 (Kd.int .i64)) 22 wx w.heap.size (fun j => ¬ (stay j ∨ (s ≤ j ∧ j < W.heap.size))) v0 rows2) ∧ Aside0 (∀ j, (stay j ∨ (s ≤ j ∧ j < W.heap.size)) → wx.heap[j]? = W.heap[j]?) ∧ Aside0 (W.heap.size ≤ wx.heap.size))
  case atStart => exact ⟨low, rows, rfl, ⟨by omega, by omega⟩, HLF0, HB0, HS0, ⟨fun _ _ => rfl⟩, ⟨Nat.le_refl _⟩⟩
  case round =>
  obtain ⟨x, rows2, rfl, HXK, HLF, HB, HS, KP, SZ⟩ := hrel
  have hxk := HXK.out
  have hdd := HD.out
  have hln := HLN.out
  by_cases hx : x ≤ left - P
  ·have cx : decide (x ≤ left - P) = true := decide_eq_true hx
   obtain ⟨d, rfl⟩ : ∃ d, gk = d + 1 := ⟨gk - 1, by omega⟩
   have H := HLF.out
   simp only [zhS] at H
   obtain ⟨rows3, hx3, H⟩ := Option.bind_eq_some_iff.mp H
   have HX := zpS hx3
   clear HLF
   have HLF := zpS (show zhS (fun x rows => zlU k f rows (l ++ [x]) (n - 1) (left - x)) d (x + 1) rows3 = some rows' from H)
   have HXR := zpS (show low ≤ x ∧ x ≤ left - P ∧ x + ((d + 1 : Nat) : Int) = D + low ∧ 0 ≤ P ∧ (1 : Int) ≤ low ∧ (low : Int) ≤ 16 ∧ 0 ≤ left ∧ left ≤ 16 ∧ 1 ≤ n from ⟨hxk.2, hx, hxk.1, p0, hw0, hw1, hl0, hl1, by omega⟩)
   have HGD := zpS (show 1 ≤ (l ++ [x]).getD 0 1 ∧ (l ++ [x]).getD 0 1 ≤ 16 from zkQ l x (by omega) (by omega) (by have := HLO.out; omega) (by have := HLO.out; omega))
   have hw4 : IntKind.i64.wrap (left - x) = left - x := by rw [IntKind.wrap_i64]; omega
   have HRW := zpS (show Kd.R (Kd.int .i64) 2 wr s (fun _ => True) (.slice (some ⟨go, 0, none⟩) l.length c) l from Kd.R_mono (Kd.R_step (Kd.R_bound HR.out) (fun j hj hlt => KP.out j (Or.inr ⟨hj.2.1, hlt⟩))) (fun _ _ => trivial))
   have HQ := zpS (Below.refl wr.heap.size wr)
   have xlo : 1 ≤ x := by omega
   have xhi : x ≤ 16 := by omega
   have IH := zpS (show ∀ (w8 : World) (A8 : Option Addr) (c8 : Nat), Below wr.heap.size wr w8 → Kd.R (Kd.int .i64) 2 w8 wr.heap.size (fun _ => True) (.slice A8 (l ++ [x]).length c8) (l ++ [x]) → Calls Try.prog 79 #[u0, .slice A8 (l.length + 1) c8, .int .i64 (n - 1), .int .i64 (left - x)] w8 fun e w' => ∃ v', e = .returned v' ∧ Below w.heap.size w w' ∧ Kd.S (Kd.slice 2 (Kd.int .i64)) 22 w' w.heap.size (fun j => ¬ (stay j ∨ (s ≤ j ∧ j < W.heap.size))) v' rows3 ∧ (∀ j, (stay j ∨ (s ≤ j ∧ j < W.heap.size)) → w'.heap[j]? = W.heap[j]?) ∧ W.heap.size ≤ w'.heap.size from fun w8 A8 c8 hq ho => by
    have h_ := ih w w8 (fun j => stay j ∨ (s ≤ j ∧ j < W.heap.size)) wr.heap.size u0 rows2 rows3 A8 c8 (l ++ [x]) (n - 1) (left - x) (by rw [List.length_append, List.length_singleton]; have := HLN.out; omega) (by have := HXR.out; omega) (by have := HXR.out; omega) (by have := HXR.out; omega) HGD.out.1 HGD.out.2 (zkR HB.out hq) (fun j hj => Nat.lt_of_lt_of_le (LT.out j hj) SZ.out) HB.out.size hq.size (Kd.S_old HS.out hq) ho HX.out
    rw [show (l ++ [x]).length = l.length + 1 by simp] at h_
    refine h_.mono ?_
    rintro e w9 ⟨v', rfl, q1, q2, q3, q4⟩
    exact ⟨v', rfl, q1, q2, fun j hj => (q3 j hj).trans ((hq.block j (Nat.lt_of_lt_of_le (LT.out j hj) SZ.out)).trans (KP.out j hj)), Nat.le_trans SZ.out (Nat.le_trans hq.size q4)⟩)
   clear H hx3 hxk hdd HXK hln
   go_wp2_with (first
    | (go_at_call 105; refine (zuY s (some ⟨go, 0, none⟩) c l wr _ HRW.out HLN.out.1 HQ.out).mono ?_; rintro e w5 ⟨A5, c5, rfl, ho, hb⟩; clear HQ; have HQ := zpS hb; have HO5 := zpS ho; clear hb ho)
    | ((with_reducible refine zcL (b := .append) (xs := #[.tmp 46, .tmp 48]) rfl ?_); at_builtin; refine Kd.R_append (Kd.int .i64) (w0 := wr) wr.heap.size rfl (.tmp 46) (.tmp 48) 22 2 (.int .i64 0) 8 rfl Try.underlying22 info2 rfl (by decide) (by omega) (.slice A5 l.length c5) l x [.int .i64 x] (fun _ => True) (fun _ => False) rfl rfl ?aP (fun _ hk => hk.elim) ?aF ?aO ?aB ?aS ?aL ?_; (case aP => exact rfl); (case aF => exact (fun _ _ => trivial)); (case aO => exact HO5.out); (case aB => exact HQ.out); (case aS => exact HQ.out.size); (case aL => have := HLN.out; omega); intro v8 w8 ho hb hgr hat; obtain ⟨A8, c8, rfl⟩ := Kd.R_slice ho; have HO8 := zpS ho; clear HQ HO5; have HQ := zpS hb; clear ho hb hgr hat)
    | (go_at_call 79; refine (IH.out w8 A8 c8 HQ.out HO8.out).mono ?_; rintro e w9 ⟨v', rfl, q1, q2, q3, q4⟩; have Q1 := zpS q1; have Q2 := zpS q2; have Q3 := zpS q3; have Q4 := zpS q4; clear q1 q2 q3 q4))
   go_roundg d
   case measure => have := HXR.out; omega
   case rel => exact ⟨x + 1, rows3, rfl, ⟨by have := HXR.out; omega, by have := HXR.out; omega⟩, HLF, Q1, Q2, Q3, Q4⟩
  ·have cx : decide (x ≤ left - P) = false := decide_eq_false hx
   have hgk : gk = 0 := by omega
   subst hgk
   have H := HLF.out
   simp only [zhS] at H
   obtain rfl := Option.some.inj H
   clear hxk hdd hln H
   go_wp2
   go_ret
   exact ⟨_, rfl, HB.out, Kd.S_mono HS.out (fun j hj hh => hj (Or.inl hh)), fun j hj => KP.out j (Or.inl hj), SZ.out⟩
 ·have hlp : (l.length : Int) = 0 := by omega
  have cl : decide ((l.length : Int) > 0) = false := decide_eq_false (by omega)
  have hll0 : l = [] := List.eq_nil_of_length_eq_zero (by omega)
  obtain rfl : low = 1 := by rw [hlow, hll0]; rfl
  obtain rfl : P = n - 1 := by rw [hP]; omega
  clear hll0 hlow hP
  go_enter Try.func79, Try.ntmps79
  go_wp2
  go_loopg [0, 10] D (fun kq v0 v10 wx => ∃ (x : Int) (rows2 : List (List Int)), v10 = .int .i64 x ∧ Aside0 (x + kq = D + 1 ∧ 1 ≤ x) ∧ Aside0 (zhS (fun x rows => zlU k f rows (l ++ [x]) (n - 1) (left - x)) kq x rows2 = some rows') ∧ Aside0 (Below w.heap.size w wx) ∧ Aside0 (Kd.S (Kd.slice 2 (Kd.int .i64)) 22 wx w.heap.size (fun j => ¬ (stay j ∨ (s ≤ j ∧ j < W.heap.size))) v0 rows2) ∧ Aside0 (∀ j, (stay j ∨ (s ≤ j ∧ j < W.heap.size)) → wx.heap[j]? = W.heap[j]?) ∧ Aside0 (W.heap.size ≤ wx.heap.size))
  case atStart => exact ⟨1, rows, rfl, ⟨by omega, by omega⟩, HLF0, HB0, HS0, ⟨fun _ _ => rfl⟩, ⟨Nat.le_refl _⟩⟩
  case round =>
  obtain ⟨x, rows2, rfl, HXK, HLF, HB, HS, KP, SZ⟩ := hrel
  have hxk := HXK.out
  have hdd := HD.out
  have hln := HLN.out
  by_cases hx : x ≤ left - (n - 1)
  ·have cx : decide (x ≤ left - (n - 1)) = true := decide_eq_true hx
   obtain ⟨d, rfl⟩ : ∃ d, gk = d + 1 := ⟨gk - 1, by omega⟩
   have H := HLF.out
   simp only [zhS] at H
   obtain ⟨rows3, hx3, H⟩ := Option.bind_eq_some_iff.mp H
   have HX := zpS hx3
   clear HLF
   have HLF := zpS (show zhS (fun x rows => zlU k f rows (l ++ [x]) (n - 1) (left - x)) d (x + 1) rows3 = some rows' from H)
   have HXR := zpS (show 1 ≤ x ∧ x ≤ left - (n - 1) ∧ x + ((d + 1 : Nat) : Int) = D + 1 ∧ 0 ≤ (n - 1) ∧ (1 : Int) ≤ 1 ∧ (1 : Int) ≤ 16 ∧ 0 ≤ left ∧ left ≤ 16 ∧ 1 ≤ n from ⟨hxk.2, hx, hxk.1, p0, hw0, hw1, hl0, hl1, by omega⟩)
   have HGD := zpS (show 1 ≤ (l ++ [x]).getD 0 1 ∧ (l ++ [x]).getD 0 1 ≤ 16 from zkQ l x (by omega) (by omega) (by have := HLO.out; omega) (by have := HLO.out; omega))
   have hw4 : IntKind.i64.wrap (left - x) = left - x := by rw [IntKind.wrap_i64]; omega
   have HRW := zpS (show Kd.R (Kd.int .i64) 2 wr s (fun _ => True) (.slice A l.length c) l from Kd.R_mono (Kd.R_step (Kd.R_bound HR.out) (fun j hj hlt => KP.out j (Or.inr ⟨hj.2.1, hlt⟩))) (fun _ _ => trivial))
   have HQ := zpS (Below.refl wr.heap.size wr)
   have xlo : 1 ≤ x := by omega
   have xhi : x ≤ 16 := by omega
   have IH := zpS (show ∀ (w8 : World) (A8 : Option Addr) (c8 : Nat), Below wr.heap.size wr w8 → Kd.R (Kd.int .i64) 2 w8 wr.heap.size (fun _ => True) (.slice A8 (l ++ [x]).length c8) (l ++ [x]) → Calls Try.prog 79 #[u0, .slice A8 (l.length + 1) c8, .int .i64 (n - 1), .int .i64 (left - x)] w8 fun e w' => ∃ v', e = .returned v' ∧ Below w.heap.size w w' ∧ Kd.S (Kd.slice 2 (Kd.int .i64)) 22 w' w.heap.size (fun j => ¬ (stay j ∨ (s ≤ j ∧ j < W.heap.size))) v' rows3 ∧ (∀ j, (stay j ∨ (s ≤ j ∧ j < W.heap.size)) → w'.heap[j]? = W.heap[j]?) ∧ W.heap.size ≤ w'.heap.size from fun w8 A8 c8 hq ho => by
    have h_ := ih w w8 (fun j => stay j ∨ (s ≤ j ∧ j < W.heap.size)) wr.heap.size u0 rows2 rows3 A8 c8 (l ++ [x]) (n - 1) (left - x) (by rw [List.length_append, List.length_singleton]; have := HLN.out; omega) (by have := HXR.out; omega) (by have := HXR.out; omega) (by have := HXR.out; omega) HGD.out.1 HGD.out.2 (zkR HB.out hq) (fun j hj => Nat.lt_of_lt_of_le (LT.out j hj) SZ.out) HB.out.size hq.size (Kd.S_old HS.out hq) ho HX.out
    rw [show (l ++ [x]).length = l.length + 1 by simp] at h_
    refine h_.mono ?_
    rintro e w9 ⟨v', rfl, q1, q2, q3, q4⟩
    exact ⟨v', rfl, q1, q2, fun j hj => (q3 j hj).trans ((hq.block j (Nat.lt_of_lt_of_le (LT.out j hj) SZ.out)).trans (KP.out j hj)), Nat.le_trans SZ.out (Nat.le_trans hq.size q4)⟩)
   clear H hx3 hxk hdd HXK hln
   go_wp2_with (first
    | (go_at_call 105; refine (zuY s A c l wr _ HRW.out HLN.out.1 HQ.out).mono ?_; rintro e w5 ⟨A5, c5, rfl, ho, hb⟩; clear HQ; have HQ := zpS hb; have HO5 := zpS ho; clear hb ho)
    | ((with_reducible refine zcL (b := .append) (xs := #[.tmp 46, .tmp 48]) rfl ?_); at_builtin; refine Kd.R_append (Kd.int .i64) (w0 := wr) wr.heap.size rfl (.tmp 46) (.tmp 48) 22 2 (.int .i64 0) 8 rfl Try.underlying22 info2 rfl (by decide) (by omega) (.slice A5 l.length c5) l x [.int .i64 x] (fun _ => True) (fun _ => False) rfl rfl ?aP (fun _ hk => hk.elim) ?aF ?aO ?aB ?aS ?aL ?_; (case aP => exact rfl); (case aF => exact (fun _ _ => trivial)); (case aO => exact HO5.out); (case aB => exact HQ.out); (case aS => exact HQ.out.size); (case aL => have := HLN.out; omega); intro v8 w8 ho hb hgr hat; obtain ⟨A8, c8, rfl⟩ := Kd.R_slice ho; have HO8 := zpS ho; clear HQ HO5; have HQ := zpS hb; clear ho hb hgr hat)
    | (go_at_call 79; refine (IH.out w8 A8 c8 HQ.out HO8.out).mono ?_; rintro e w9 ⟨v', rfl, q1, q2, q3, q4⟩; have Q1 := zpS q1; have Q2 := zpS q2; have Q3 := zpS q3; have Q4 := zpS q4; clear q1 q2 q3 q4))
   go_roundg d
   case measure => have := HXR.out; omega
   case rel => exact ⟨x + 1, rows3, rfl, ⟨by have := HXR.out; omega, by have := HXR.out; omega⟩, HLF, Q1, Q2, Q3, Q4⟩
  ·have cx : decide (x ≤ left - (n - 1)) = false := decide_eq_false hx
   have hgk : gk = 0 := by omega
   subst hgk
   have H := HLF.out
   simp only [zhS] at H
   obtain rfl := Option.some.inj H
   clear hxk hdd hln H
   go_wp2
   go_ret
   exact ⟨_, rfl, HB.out, Kd.S_mono HS.out (fun j hj hh => hj (Or.inl hh)), fun j hj => KP.out j (Or.inl hj), SZ.out⟩
theorem spec_KawasakiSequences_endF_mono (k : Nat) (rows : List (List Int)) (l : List Int) : LeO (zdT k rows l) (zdT (k + 1) rows l) :=
 LeO.bind (zxZ.mono l k) (fun t => LeO.ite (LeO.bind (zeI.mono l k) (fun m => LeO.bind (zlP.mono m l k) (fun b => LeO.refl _))) (LeO.refl _))
theorem zrK {F G : Int → List (List Int) → Option (List (List Int))} (h : ∀ x rows, LeO (F x rows) (G x rows)) : ∀ (d : Nat) (x : Int) (rows : List (List Int)), LeO (zhS F d x rows) (zhS G d x rows)
 | 0, _, _ => LeO.refl _
 | d + 1, x, rows => LeO.bind (h x rows) (fun r => zrK h d (x + 1) r)
theorem zaI (k : Nat) : ∀ (f : Nat) (rows : List (List Int)) (l : List Int) (n left : Int), LeO (zlU k f rows l n left) (zlU (k + 1) f rows l n left)
 | 0, _, _, _, _ => LeO.refl _
 | f + 1, rows, l, n, left => LeO.ite (spec_KawasakiSequences_endF_mono k _ _) (zrK (fun x r => zaI k f r _ _ _) _ _ _)
def zqT.f (k : Nat) (n : Int) : Option (List (List Int) × Int) := (ziE.f n 2 16).bind fun t => if t = true then (if Int.tmod n 2 = 0 then (if 2 ≤ n ∧ n ≤ 16 then (zlU k 20 [] [] n 16).bind fun rows => some (rows, 0) else none) else some ([], 2)) else some ([], 2)
theorem zqT.mono : ∀ a0 k, LeO (zqT.f k a0) (zqT.f (k + 1) a0) := fun a0 k => LeO.bind (LeO.refl _) (fun t => LeO.ite (LeO.ite (LeO.ite (LeO.bind (zaI k _ _ _ _ _) (fun _ => LeO.refl _)) (LeO.refl _)) (LeO.refl _)) (LeO.refl _))
theorem zqT.calls (k : Nat) (a0 : Int) (r1 : List (List Int)) (r2 : Int) (w : World) (h : zqT.f k a0 = some (r1, r2)) :
  Calls Try.prog 39 #[.int .i64 a0] w fun e w' => ∃ v0_ : Value, e = .returned (.tuple #[v0_, .int .i64 r2]) ∧ Kd.S (Kd.slice 2 (Kd.int .i64)) 22 w' w.heap.size (fun _ => True) v0_ r1 ∧ Below w.heap.size w w' := by
 have HB := zpS (Below.refl w.heap.size w)
 obtain ⟨t, A10, H⟩ := Option.bind_eq_some_iff.mp h
 have A1 := zpS A10
 clear A10 h
 cases t with
 | false =>
  simp only [Bool.false_eq_true, if_false, Option.some.injEq, Prod.mk.injEq] at H
  obtain ⟨rfl, rfl⟩ := H
  go_enter Try.func39, Try.ntmps39
  go_wp2_with (go_at_call 78; (with_reducible refine (ziE.calls a0 2 16 false _ A1.out).mono ?_); rintro e w' ⟨rfl, ⟨nd, rfl⟩⟩)
  go_ret2
  exact ⟨_, rfl, Kd.S_nil _ _ _ _ _, by repeat (first | exact HB.out | apply znU | apply zkZ | apply zvF)⟩
 | true =>
  simp only [if_true] at H
  by_cases hm : Int.tmod a0 2 = 0
  ·rw [if_pos hm] at H
   by_cases hn : 2 ≤ a0 ∧ a0 ≤ 16
   ·rw [if_pos hn] at H
    obtain ⟨rows, A20, H⟩ := Option.bind_eq_some_iff.mp H
    simp only [Option.some.injEq, Prod.mk.injEq] at H
    obtain ⟨rfl, rfl⟩ := H
    have A2 := zpS A20
    have HN := zpS hn
    have c1 : (Int.tmod a0 2 != 0) = false := by rw [hm]; rfl
    clear A20 hn hm
    go_enter Try.func39, Try.ntmps39
    go_wp2_with (first
     | (go_at_call 78; (with_reducible refine (ziE.calls a0 2 16 true _ A1.out).mono ?_); rintro e w1 ⟨rfl, ⟨nd, rfl⟩⟩; clear HB; have HB := zpS (show Below w.heap.size w (w.drewN nd) from zkZ (Below.refl _ _) _))
     | ((with_reducible refine gate_dst (N := 12) rfl ?_); refine Kd.R_lit (Kd.tag (fun _ => 0) (Kd.slice 2 (Kd.int .i64))) (w0 := w) w.heap.size 22 ?hg (N := 12) ?hd (xs := []) (inner := []) (ok := fun _ => True) (okp := fun _ => True) ?hr ?hp (fun _ hk => hk) trivial HB.out HB.out.size (by simp) ?_; (case hd => rfl); (case hg => rfl); (case hr => first | (go_simp; done) | (go_simp; rfl)); (case hp => exact (zfH.none _ _)); intro v12 w2 ho hb hg_ hnew_; have HB2 := zpS hb; have HO := zpS (show Kd.S (Kd.slice 2 (Kd.int .i64)) 22 w2 w.heap.size (fun _ => True) v12 [] from ⟨fun _ => 0, ho⟩); clear ho hb hg_ hnew_)
     | ((with_reducible refine gate_dst (N := 13) rfl ?_); refine Kd.R_lit (Kd.int .i64) _ 2 ?hg (N := 13) ?hd (xs := ([] : List Int)) (inner := []) (ok := fun _ => True) (okp := fun _ => True) ?hr ?hp (fun _ hk => hk) trivial (Below.refl _ _) (Nat.le_refl _) (by simp) ?_; (case hd => rfl); (case hg => rfl); (case hr => first | (go_simp; done) | (go_simp; rfl)); (case hp => exact (zfH.none _ _)); intro v13 w3 ho hb hg_ hnew_; obtain ⟨A3, c3, rfl⟩ := Kd.R_slice ho; have HB3 := zpS hb; have HL := zpS ho; clear ho hb hg_ hnew_)
     | (go_at_call 79; refine (spec_KawasakiSequences_grow k 20 w w3 (fun _ => False) w2.heap.size _ [] rows A3 c3 [] a0 16 ?x1 ?x2 (by decide) (by decide) (by decide) (by decide) (zkR HB2.out HB3.out) (fun _ h => h.elim) HB2.out.size HB3.out.size (Kd.S_mono (Kd.S_old HO.out HB3.out) (fun _ hj => ⟨fun h => h, hj.2⟩)) HL.out A2.out).mono ?_; (case x1 => have := HN.out; show ((0 : Nat) : Int) + a0 ≤ 16; omega); (case x2 => have := HN.out; omega); rintro e w9 ⟨v', rfl, q1, q2, q3, q4⟩; have Q1 := zpS q1; have Q2 := zpS q2; clear q1 q2 q3 q4))
    go_ret2
    exact ⟨_, rfl, Kd.S_mono Q2.out (fun _ _ => trivial), Q1.out⟩
   ·rw [if_neg hn] at H; cases H
  ·rw [if_neg hm] at H
   simp only [Option.some.injEq, Prod.mk.injEq] at H
   obtain ⟨rfl, rfl⟩ := H
   have c1 : (Int.tmod a0 2 != 0) = true := bne_iff_ne.2 hm
   have C1 := zpS hm
   clear hm
   go_enter Try.func39, Try.ntmps39
   go_wp2_with (go_at_call 78; (with_reducible refine (ziE.calls a0 2 16 true _ A1.out).mono ?_); rintro e w' ⟨rfl, ⟨nd, rfl⟩⟩)
   go_ret2
   exact ⟨_, rfl, Kd.S_nil _ _ _ _ _, by repeat (first | exact HB.out | apply znU | apply zkZ | apply zvF)⟩

def zrP.f (a0 : Int) (a1 : Int) (a2 : Int) : Option (Bool) := if a0 ≥ a1 then (some (decide (a0 ≤ a2))) else (some false)
theorem zrP.calls (a0 : Int) (a1 : Int) (a2 : Int) (r : Bool) (w : World) (h : zrP.f a0 a1 a2 = some r) :
  Calls Try.prog 60 #[.int .i64 a0, .int .i64 a1, .int .i64 a2] w fun e w' => e = .returned (.bool r) ∧ Drawn0 w w' := by
 have H : (if a0 ≥ a1 then (some (decide (a0 ≤ a2))) else (some false)) = some r := h
 clear h
 by_cases c4 : a0 ≥ a1
 ·rw [if_pos c4] at H
  have c4b0 : decide (a1 ≤ a0) = true := decide_eq_true c4
  clear c4
  obtain rfl := Option.some.inj H
  go_enter Try.func60, Try.ntmps60
  go_wp2
  go_ret
  exact ⟨by first | rfl | (simp; done) | (simp [*]; done), by repeat (first | exact Drawn0.refl _ | apply Drawn0.step)⟩
 ·rw [if_neg c4] at H
  have c4b0 : decide (a1 ≤ a0) = false := decide_eq_false c4
  clear c4
  obtain rfl := Option.some.inj H
  go_enter Try.func60, Try.ntmps60
  go_wp2
  go_ret
  exact ⟨by first | rfl | (simp; done) | (simp [*]; done), by repeat (first | exact Drawn0.refl _ | apply Drawn0.step)⟩

def impl_length_int64.f (l0 : List Int) : Option (Int) := some (l0.length : Int)
theorem impl_length_int64.calls (A0 : Option Addr) (c0 : Nat) (l0 : List Int) (r : Int) (w : World) (hr0 : Kd.C (Kd.int .i64) w A0 l0.length l0) (hc0 : l0.length ≤ c0) (h : impl_length_int64.f l0 = some r) :
  Calls Try.prog 61 #[.slice A0 l0.length c0] w fun e w' => e = .returned (.int .i64 r) ∧ Drawn0 w w' := by
 have HR0 := zpS hr0
 have HC0 := zpS hc0
 clear hr0 hc0
 have H : (some (l0.length : Int)) = some r := h
 clear h
 obtain rfl := Option.some.inj H
 go_enter Try.func61, Try.ntmps61
 go_wp2
 go_ret
 exact ⟨by first | rfl | (simp; done) | (simp [*]; done), by repeat (first | exact Drawn0.refl _ | apply Drawn0.step)⟩

def zaW.l0 : Nat → Int → List Int → Int → Int → Option (Int)
 | 0, _, _, _, _ => none
 | k + 1, x3, x6, x7, x8 => if x8 < x7 then (if 0 ≤ x8 then (if x8 < (x6.length : Int) then (if (Int.tmod x8 2) = 0 then (zaW.l0 k (wrap64 (x3 + (rd x6 x8))) x6 x7 (wrap64 (x8 + 1))) else (zaW.l0 k (wrap64 (x3 - (rd x6 x8))) x6 x7 (wrap64 (x8 + 1)))) else (none)) else (none)) else (some x3)
def zaW.f (k : Nat) (l0 : List Int) : Option (Int) := zaW.l0 k 0 l0 (l0.length : Int) 0
theorem zaW.mono_l : ∀ k, (∀ y0 y1 y2 y3, LeO (zaW.l0 k y0 y1 y2 y3) (zaW.l0 (k + 1) y0 y1 y2 y3))
 | 0 => fun _ _ _ _ r h => by simp [zaW.l0] at h
 | k + 1 => by
  have ih0 := zaW.mono_l k
  ·intro y0 y1 y2 y3
   unfold zaW.l0
   repeat' first
   | (with_reducible exact ih0 _ _ _ _)
   | (with_reducible exact LeO.refl _)
   | (with_reducible exact LeO.none _)
   | (with_reducible refine LeO.ite ?_ ?_)
   | (with_reducible refine LeO.bind ?_ (fun _ => ?_))
   | exact ih0 _ _ _ _
   | exact LeO.none _
   | refine LeO.ite ?_ ?_
   | refine LeO.bind ?_ (fun _ => ?_)
theorem zaW.mono : ∀ a0 k, LeO (zaW.f k a0) (zaW.f (k + 1) a0) := by
 intro a0 k
 have ih0 := zaW.mono_l k
 unfold zaW.f
 repeat' first
   | (with_reducible exact ih0 _ _ _ _)
   | (with_reducible exact LeO.refl _)
   | (with_reducible exact LeO.none _)
   | (with_reducible refine LeO.ite ?_ ?_)
   | (with_reducible refine LeO.bind ?_ (fun _ => ?_))
   | exact ih0 _ _ _ _
   | exact LeO.none _
   | refine LeO.ite ?_ ?_
   | refine LeO.bind ?_ (fun _ => ?_)
theorem zaW.calls (k : Nat) (A0 : Option Addr) (c0 : Nat) (l0 : List Int) (r : Int) (w : World) (hr0 : Kd.C (Kd.int .i64) w A0 l0.length l0) (hc0 : l0.length ≤ c0) (h : zaW.f k l0 = some r) :
  Calls Try.prog 65 #[.slice A0 l0.length c0] w fun e w' => e = .returned (.int .i64 r) ∧ Drawn0 w w' := by
 have HR0 := zpS hr0
 have HC0 := zpS hc0
 clear hr0 hc0
 have H : (zaW.l0 k 0 l0 (l0.length : Int) 0) = some r := h
 clear h
 have H' := zpS H
 clear H
 go_enter Try.func65, Try.ntmps65
 go_wp2
 (try go_simp)
 go_loopg [3, 8] k (fun kq v3 v8 w' => ∃ (x3_1 : Int) (x8_1 : Int), v3 = .int .i64 x3_1 ∧ v8 = .int .i64 x8_1 ∧ Aside0 (zaW.l0 kq x3_1 l0 (l0.length : Int) x8_1 = some r) ∧ Aside0 (kq ≤ k) ∧ Drawn0 w w')
 case atStart => exact ⟨(0), (0), (by first | rfl | (simp; done) | (simp [*]; done)), (by first | rfl | (simp; done) | (simp [*]; done)), H', ⟨Nat.le_refl _⟩, by repeat (first | exact Drawn0.refl _ | apply Drawn0.step)⟩
 case round =>
  clear H'
  obtain ⟨x3_1, x8_1, rfl, rfl, HA, HK1, ⟨m1, rfl⟩⟩ := hrel
  cases gk with
  | zero => exact absurd HA.out (by simp [zaW.l0])
  | succ k1 =>
   have H := HA.out
   clear HA
   simp only [zaW.l0] at H
   by_cases c2 : x8_1 < (l0.length : Int)
   ·rw [if_pos c2] at H
    have c2b0 : decide (x8_1 < (l0.length : Int)) = true := decide_eq_true c2
    clear c2
    by_cases c3 : 0 ≤ x8_1
    ·rw [if_pos c3] at H
     have c3b0 : decide (0 ≤ x8_1) = true := decide_eq_true c3
     clear c3
     by_cases c4 : x8_1 < (l0.length : Int)
     ·rw [if_pos c4] at H
      have c4b0 : decide (x8_1 < (l0.length : Int)) = true := decide_eq_true c4
      clear c4
      by_cases c5 : (Int.tmod x8_1 2) = 0
      ·rw [if_pos c5] at H
       have c5b0 : ((Int.tmod x8_1 2) == 0) = true := beq_iff_eq.mpr c5
       have c5b1 : ((Int.tmod x8_1 2) != 0) = false := bne_eq_false_iff_eq.mpr c5
       clear c5
       have H' := zpS H
       clear H
       have p159 : 0 ≤ (x8_1 : Int) := dt_
       have q159 : x8_1 < (l0.length : Int) := dt_
       obtain ⟨ad159, e159, hx159_0⟩ := Kd.at_int HR0.out x8_1 p159 q159
       cases e159
       replace p159 := eq_true p159
       replace q159 := eq_true q159
       go_wp2
       go_roundg k1
       case measure => have := HK1.out; omega
       case rel => exact ⟨(wrap64 (x3_1 + (rd l0 x8_1))), (wrap64 (x8_1 + 1)), (by first | rfl | (simp; done) | (simp [*]; done)), (by first | rfl | (simp; done) | (simp [*]; done)), H', ⟨by have := HK1.out; omega⟩, by repeat (first | exact Drawn0.refl _ | apply Drawn0.step)⟩
      ·rw [if_neg c5] at H
       have c5b0 : ((Int.tmod x8_1 2) == 0) = false := beq_eq_false_iff_ne.mpr c5
       have c5b1 : ((Int.tmod x8_1 2) != 0) = true := bne_iff_ne.mpr c5
       have H' := zpS H
       clear H
       have p159 : 0 ≤ (x8_1 : Int) := dt_
       have q159 : x8_1 < (l0.length : Int) := dt_
       obtain ⟨ad159, e159, hx159_0⟩ := Kd.at_int HR0.out x8_1 p159 q159
       cases e159
       replace p159 := eq_true p159
       replace q159 := eq_true q159
       go_wp2
       go_roundg k1
       case measure => have := HK1.out; omega
       case rel => exact ⟨(wrap64 (x3_1 - (rd l0 x8_1))), (wrap64 (x8_1 + 1)), (by first | rfl | (simp; done) | (simp [*]; done)), (by first | rfl | (simp; done) | (simp [*]; done)), H', ⟨by have := HK1.out; omega⟩, by repeat (first | exact Drawn0.refl _ | apply Drawn0.step)⟩
     ·rw [if_neg c4] at H
      exact absurd H (by simp)
    ·rw [if_neg c3] at H
     exact absurd H (by simp)
   ·rw [if_neg c2] at H
    have c2b0 : decide (x8_1 < (l0.length : Int)) = false := decide_eq_false c2
    clear c2
    obtain rfl := Option.some.inj H
    go_wp2
    go_ret
    exact ⟨by first | rfl | (simp; done) | (simp [*]; done), by repeat (first | exact Drawn0.refl _ | apply Drawn0.step)⟩

def zzO.f (l0 : List Int) : Option (List Int) := if l0.length < 17592186044416 then some l0 else none
theorem zzO.calls (A0 : Option Addr) (c0 : Nat) (l0 : List Int) (r : List Int) (w : World) (hr0 : Kd.C (Kd.int .i64) w A0 l0.length l0) (hc0 : l0.length ≤ c0) (h : zzO.f l0 = some r) :
  Calls Try.prog 98 #[.slice A0 l0.length c0] w fun e w' => ∃ v0_ : Value, e = .returned (v0_) ∧ Kd.R (Kd.int .i64) 2 w' w.heap.size (fun _ => True) v0_ r ∧ Below w.heap.size w w' := by
 have HR0 := zpS hr0
 have HC0 := zpS hc0
 have HB := zpS (Below.refl w.heap.size w)
 have hlim : l0.length < 17592186044416 := by
  unfold zzO.f at h
  by_cases c : l0.length < 17592186044416
  ·exact c
  ·rw [if_neg c] at h; cases h
 have hr : l0 = r := by unfold zzO.f at h; rw [if_pos hlim] at h; exact Option.some.inj h
 clear h
 subst hr
 have q22 : ∀ (w : World) (a : Option Addr) (n c n' c' : Nat), (binOp .eql 22 (.slice a n c) (.slice none n' c')).run Try.prog w = .ok (.bool a.isNone) w := fun w a n c n' c' => Lib.run_eql_slice_nil w _ _ a n c n' c' Try.underlying22
 cases A0 with
 | none =>
  have h0 : l0 = [] := by
   cases l0 with
   | nil => rfl
   | cons x xs => obtain ⟨ad, e, _⟩ := hr0.2.2 (by simp); cases e
  subst h0
  clear hr0 hc0
  go_enter Try.func98, Try.ntmps98
  go_wp2
  go_ret
  exact ⟨_, rfl, Kd.R_nil _ _ _ _ _, Below.refl _ _⟩
 | some ad =>
  clear hr0 hc0
  obtain ⟨y127, hy127⟩ : ∃ y_ : List Int, y_ = (([] : List Int)) := ⟨_, rfl⟩
  have Ny127 := zpS hy127
  obtain ⟨y130, hy130⟩ : ∃ y_ : List Int, y_ = (y127 ++ l0) := ⟨_, rfl⟩
  have Ny130 := zpS hy130
  have e130 : y130 = l0 := by rw [hy130, hy127]; rfl
  have LMc2 := zpS (show y127.length + l0.length < 17592186044416 by rw [hy127]; simpa using hlim)
  clear hy127 hy130 hlim
  go_enter Try.func98, Try.ntmps98
  go_wp2_with (first | ((with_reducible refine gate_dst (N := 5) rfl ?_); refine Kd.R_lit (Kd.int .i64) _ 2 ?hg (N := 5) ?hd (xs := ([] : List Int)) (inner := []) (ok := fun _ => True) (okp := fun _ => True) ?hr ?hp (fun _ hk => hk) trivial (Below.refl _ _) (Nat.le_refl _) (by simp) ?_; (case hd => rfl); (case hg => rfl); (case hr => first | (go_simp; done) | (go_simp; rfl)); (case hp => exact (zfH.none _ _)); intro v128 w3 ho4 hb hg_ hnew_; clear hg_ hnew_; (first | rw [← Ny127.out] at ho4 | (simp only [Int.reduceToNat] at ho4; rw [← Ny127.out] at ho4)); have n0_ := zpS (Kd.R_lower ho4 (zuA bb_)); have n1_ := (ns_ hb); clear HB; have HO129 := n0_; have HB := n1_; clear n0_ n1_; clear hb ho4) | ((with_reducible refine zcL (b := .append) (xs := #[.tmp 5, .tmp 6]) rfl ?_); at_builtin; refine Kd.R_append_rows (Kd.int .i64) (w0 := w) w.heap.size rfl (.tmp 5) (.tmp 6) 22 2 (.int .i64 0) 8 rfl Try.underlying22 info2 rfl (by decide) (by omega) v128 y127 l0 _ _ _ (fun _ => True) (fun _ => False) rfl rfl ?aO ?aR (fun _ _ h => h) (fun _ h => h.elim) ?aF ?aB ?aS ?aL ?_; (case aR => repeat (first | exact (Kd.C_below HR0.out HB.out) | (with_reducible refine Kd.C_alloc ?_ _) | (with_reducible refine Kd.C_drewN ?_ _) | (with_reducible refine Kd.C_drew ?_))); (case aB => exact bb_); (case aF => exact (fun _ _ => trivial)); (case aO => exact (by (with_reducible repeat (first | apply Kd.R_alloc | apply Kd.R_drewN | apply Kd.R_drew)); exact HO129.out)); (case aS => exact (zuA bb_)); (case aL => have := LMc2.out; omega); intro v131 w5 ho hb hg hat; rw [← Ny130.out] at ho; have n0_ := zpS (hb); have n1_ := zpS (ho); clear HB; clear HO129; have HB := n0_; have HO132 := n1_; clear n0_ n1_; clear ho hb hg hat))
  go_ret
  exact ⟨_, rfl, by rw [← e130]; (with_reducible repeat (first | apply Kd.R_alloc | apply Kd.R_drewN | apply Kd.R_drew)); exact HO132.out, bb_⟩

end Go.Proofs.Ytbpkbllokmplnaa.PFnExactKawasakiSequences
