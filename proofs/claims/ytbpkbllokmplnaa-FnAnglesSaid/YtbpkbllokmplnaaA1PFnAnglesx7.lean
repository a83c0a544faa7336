-- Printed for this claim by this session's program pp.py, which drives the kit's print with additions. Not trusted: Lean checks it.
import Derived.Test.YtbpkbllokmplnaaA1PFnAnglesx0
import Derived.Test.YtbpkbllokmplnaaA1PFnAnglesx1
import Derived.Test.YtbpkbllokmplnaaA1PFnAnglesx2
import Derived.Test.YtbpkbllokmplnaaA1PFnAnglesx3
import Derived.Test.YtbpkbllokmplnaaA1PFnAnglesx4
import Derived.Test.YtbpkbllokmplnaaA1PFnAnglesx5
import Derived.Test.YtbpkbllokmplnaaA1PFnAnglesx6
namespace Go.Proofs.Ytbpkbllokmplnaa.PFnAngles
open Go.RowKit Go.Proofs.YtbpkbllokmplnaaW.PrintWords Go.Proofs.YtbpkbllokmplnaaW.PrintLast Go.Proofs.YtbpkbllokmplnaaW.PrintMore
attribute [local go_sem] max2_int min2_int max_two min_two max_three min_three max_four min_four   -- for this text's walks alone
set_option linter.unusedVariables false
set_option maxHeartbeats 8000000
set_option maxRecDepth 100000
set_option linter.unusedSimpArgs false

mutual
def zzR.l0 : Nat → List Int → Int → Int → Int → Int → Option (Int × Int)
 | 0, _, _, _, _, _ => none
 | k + 1, x0, x4, x5, x11, x12 => if x12 < x11 then ((ztW.f k x0 x12).bind fun t337 => ((zdL.f k t337 x0).bind fun t340 => (if t340 = true then (zzR.j1 k x0 (wrap64 (x4 + 1)) x5 x12 x11 x12) else (zzR.j1 k x0 x4 x5 x12 x11 x12)))) else (some (x4, x5))
def zzR.j1 : Nat → List Int → Int → Int → Int → Int → Int → Option (Int × Int)
 | 0, _, _, _, _, _, _ => none
 | k + 1, x0, x4, x5, x6, x11, x12 => (ziP.f k x0).bind fun t341 => ((ztW.f k t341 x6).bind fun t344 => ((zdL.f k t344 x0).bind fun t347 => (if t347 = true then (zzR.l0 k x0 x4 (wrap64 (x5 + 1)) x11 (wrap64 (x12 + 1))) else (zzR.l0 k x0 x4 x5 x11 (wrap64 (x12 + 1))))))
end
def zzR.f (k : Nat) (l0 : List Int) : Option (Int × Int) := (zfO.f k l0).bind fun t336 => (if t336 = true then (zzR.l0 k l0 0 0 (l0.length : Int) 0) else (some (0, 0)))
theorem zzR.mono_l : ∀ k, (∀ y0 y1 y2 y3 y4, LeO (zzR.l0 k y0 y1 y2 y3 y4) (zzR.l0 (k + 1) y0 y1 y2 y3 y4)) ∧ (∀ y0 y1 y2 y3 y4 y5, LeO (zzR.j1 k y0 y1 y2 y3 y4 y5) (zzR.j1 (k + 1) y0 y1 y2 y3 y4 y5))
 | 0 => ⟨fun _ _ _ _ _ r h => by simp [zzR.l0] at h, fun _ _ _ _ _ _ r h => by simp [zzR.j1] at h⟩
 | k + 1 => by
  obtain ⟨ih0, ih1⟩ := zzR.mono_l k
  refine ⟨?_, ?_⟩
  ·intro y0 y1 y2 y3 y4
   unfold zzR.l0
   repeat' first
   | (with_reducible exact ih0 _ _ _ _ _)
   | (with_reducible exact ih1 _ _ _ _ _ _)
   | (with_reducible exact zfO.mono _ _)
   | (with_reducible exact ziP.mono _ _)
   | (with_reducible exact ztW.mono _ _ _)
   | (with_reducible exact zdL.mono _ _ _)
   | (with_reducible exact LeO.refl _)
   | (with_reducible exact LeO.none _)
   | (with_reducible refine LeO.ite ?_ ?_)
   | (with_reducible refine LeO.bind ?_ (fun _ => ?_))
   | exact ih0 _ _ _ _ _
   | exact ih1 _ _ _ _ _ _
   | exact zfO.mono _ _
   | exact ziP.mono _ _
   | exact ztW.mono _ _ _
   | exact zdL.mono _ _ _
   | exact LeO.none _
   | refine LeO.ite ?_ ?_
   | refine LeO.bind ?_ (fun _ => ?_)
  ·intro y0 y1 y2 y3 y4 y5
   unfold zzR.j1
   repeat' first
   | (with_reducible exact ih0 _ _ _ _ _)
   | (with_reducible exact ih1 _ _ _ _ _ _)
   | (with_reducible exact zfO.mono _ _)
   | (with_reducible exact ziP.mono _ _)
   | (with_reducible exact ztW.mono _ _ _)
   | (with_reducible exact zdL.mono _ _ _)
   | (with_reducible exact LeO.refl _)
   | (with_reducible exact LeO.none _)
   | (with_reducible refine LeO.ite ?_ ?_)
   | (with_reducible refine LeO.bind ?_ (fun _ => ?_))
   | exact ih0 _ _ _ _ _
   | exact ih1 _ _ _ _ _ _
   | exact zfO.mono _ _
   | exact ziP.mono _ _
   | exact ztW.mono _ _ _
   | exact zdL.mono _ _ _
   | exact LeO.none _
   | refine LeO.ite ?_ ?_
   | refine LeO.bind ?_ (fun _ => ?_)
theorem zzR.mono : ∀ a0 k, LeO (zzR.f k a0) (zzR.f (k + 1) a0) := by
 intro a0 k
 obtain ⟨ih0, ih1⟩ := zzR.mono_l k
 unfold zzR.f
 repeat' first
   | (with_reducible exact ih0 _ _ _ _ _)
   | (with_reducible exact ih1 _ _ _ _ _ _)
   | (with_reducible exact zfO.mono _ _)
   | (with_reducible exact ziP.mono _ _)
   | (with_reducible exact ztW.mono _ _ _)
   | (with_reducible exact zdL.mono _ _ _)
   | (with_reducible exact LeO.refl _)
   | (with_reducible exact LeO.none _)
   | (with_reducible refine LeO.ite ?_ ?_)
   | (with_reducible refine LeO.bind ?_ (fun _ => ?_))
   | exact ih0 _ _ _ _ _
   | exact ih1 _ _ _ _ _ _
   | exact zfO.mono _ _
   | exact ziP.mono _ _
   | exact ztW.mono _ _ _
   | exact zdL.mono _ _ _
   | exact LeO.none _
   | refine LeO.ite ?_ ?_
   | refine LeO.bind ?_ (fun _ => ?_)
theorem zzR.calls (k : Nat) (A0 : Option Addr) (c0 : Nat) (l0 : List Int) (r1 : Int) (r2 : Int) (w : World) (hr0 : Kd.C (Kd.int .i64) w A0 l0.length l0) (hc0 : l0.length ≤ c0) (h : zzR.f k l0 = some (r1, r2)) :
  Calls Try.prog 38 #[.slice A0 l0.length c0] w fun e w' => e = .returned (.tuple #[.int .i64 r1, .int .i64 r2]) ∧ Below w.heap.size w w' := by
 have HR0 := zpS hr0
 have HC0 := zpS hc0
 clear hr0 hc0
 have HB := zpS (Below.refl w.heap.size w)
 have H : ((zfO.f k l0).bind fun t336 => (if t336 = true then (zzR.l0 k l0 0 0 (l0.length : Int) 0) else (some (0, 0)))) = some (r1, r2) := h
 clear h
 replace H := Option.bind_eq_some_iff.mp H
 obtain ⟨t336, A20, H⟩ := H
 replace H : (if t336 = true then (zzR.l0 k l0 0 0 (l0.length : Int) 0) else (some (0, 0))) = some (r1, r2) := H
 have A2 := zpS A20
 clear A20
 by_cases c3 : t336 = true
 ·subst c3
  have H1 : (zzR.l0 k l0 0 0 (l0.length : Int) 0) = some (r1, r2) := by rw [if_pos rfl] at H; exact H
  clear H
  have H := H1
  clear H1
  have H' := zpS H
  clear H
  go_enter Try.func38, Try.ntmps38
  go_wp2_with (first | ((with_reducible refine zgK (f := 34) rfl ?_); refine zqQ (some 8) rfl rfl Try.func34 (by kernel_rfl) rfl #[.slice A0 l0.length c0] rfl (by (try simp only [List.map_toArray, List.map_cons, List.map_nil]); first | done | rfl | (simp only [List.length_drop, List.length_take]; rfl)) ?_; (with_reducible refine (zfO.calls k _ _ l0 true _ ?side1 ?side2 A2.out).mono ?_); (case side1 => repeat (first | exact HR0.out | (with_reducible refine Kd.C_alloc ?_ _) | (with_reducible refine Kd.C_drewN ?_ _) | (with_reducible refine Kd.C_drew ?_))); (case side2 => exact HC0.out); rintro e w' ⟨rfl, ⟨nd, rfl⟩⟩; refine ⟨_, rfl, ?_⟩))
  (try go_simp)
  go_loopg [4, 5, 12] k (fun kq v4 v5 v12 w' => ∃ (x4_1 : Int) (x5_1 : Int) (x12_1 : Int), v4 = .int .i64 x4_1 ∧ v5 = .int .i64 x5_1 ∧ v12 = .int .i64 x12_1 ∧ Aside0 (zzR.l0 kq l0 x4_1 x5_1 (l0.length : Int) x12_1 = some (r1, r2)) ∧ Aside0 (kq ≤ k) ∧ Aside0 (Below w.heap.size w w'))
  case atStart => exact ⟨(0), (0), (0), (by first | rfl | (simp; done) | (simp [*]; done)), (by first | rfl | (simp; done) | (simp [*]; done)), (by first | rfl | (simp; done) | (simp [*]; done)), H', ⟨Nat.le_refl _⟩, ⟨bb_⟩⟩
  case round =>
   clear H'
   try clear p2
   try clear c3
   obtain ⟨x4_1, x5_1, x12_1, rfl, rfl, rfl, HA, HK1, HB⟩ := hrel
   cases gk with
   | zero => exact absurd HA.out (by simp [zzR.l0])
   | succ k1 =>
    have H := HA.out
    clear HA
    simp only [zzR.l0] at H
    by_cases c4 : x12_1 < (l0.length : Int)
    ·rw [if_pos c4] at H
     have c4b0 : decide (x12_1 < (l0.length : Int)) = true := decide_eq_true c4
     clear c4
     replace H := Option.bind_eq_some_iff.mp H
     obtain ⟨t337, A50, H⟩ := H
     replace H : ((zdL.f k1 t337 l0).bind fun t340 => (if t340 = true then (zzR.j1 k1 l0 (wrap64 (x4_1 + 1)) x5_1 x12_1 (l0.length : Int) x12_1) else (zzR.j1 k1 l0 x4_1 x5_1 x12_1 (l0.length : Int) x12_1))) = some (r1, r2) := H
     have A5 := zpS A50
     clear A50
     replace H := Option.bind_eq_some_iff.mp H
     obtain ⟨t340, A60, H⟩ := H
     replace H : (if t340 = true then (zzR.j1 k1 l0 (wrap64 (x4_1 + 1)) x5_1 x12_1 (l0.length : Int) x12_1) else (zzR.j1 k1 l0 x4_1 x5_1 x12_1 (l0.length : Int) x12_1)) = some (r1, r2) := H
     have A6 := zpS A60
     clear A60
     have HC7 := zpS H
     clear H
     go_upto_if 19 with (first | ((with_reducible refine zgK (f := 74) rfl ?_); refine zqQ (some 17) rfl rfl Try.func74 (by kernel_rfl) rfl #[.slice A0 l0.length c0, .int .i64 x12_1] rfl (by (try simp only [List.map_toArray, List.map_cons, List.map_nil]); first | done | rfl | (simp only [List.length_drop, List.length_take]; rfl)) ?_; (with_reducible refine (ztW.calls k1 (fun k_ => k_ < w.heap.size) _ _ l0 x12_1 t337 _ ?side1 A5.out).mono ?_); (case side1 => exact Kd.V_mk HC0.out (Kd.F_below (Kd.C_F (Kd.heap_int .i64) HR0.out) bb_)); rintro e w8 ⟨v338, rfl, ho0, hb⟩; refine ⟨_, rfl, ?_⟩; have n0_ := zpS (Kd.R_lower (Kd.R_mono (ok' := fun k_ => True) ho0 (fun _ hk_ => trivial)) (zuA bb_)); have n1_ := (ns_ hb); clear HB; have HO339 := n0_; have HB := n1_; clear n0_ n1_; (try clear hb); (try clear hb2); (try clear ho0); obtain ⟨Ao9, co9, eo9⟩ := Kd.R_slice HO339.out; subst eo9) | ((with_reducible refine zgK (f := 77) rfl ?_); refine zqQ (some 19) rfl rfl Try.func77 (by kernel_rfl) rfl #[.slice Ao9 t337.length co9, .slice A0 l0.length c0] rfl (by (try simp only [List.map_toArray, List.map_cons, List.map_nil]); first | done | rfl | (simp only [List.length_drop, List.length_take]; rfl)) ?_; (with_reducible refine (zdL.calls k1 _ _ t337 _ _ l0 t340 _ ?side1 ?side2 ?side3 ?side4 A6.out).mono ?_); (case side1 => repeat (first | exact (Kd.R_reads' HO339.out).2.2 | (with_reducible refine Kd.C_alloc ?_ _) | (with_reducible refine Kd.C_drewN ?_ _) | (with_reducible refine Kd.C_drew ?_))); (case side2 => exact (Kd.R_reads' HO339.out).2.1); (case side3 => repeat (first | exact (Kd.C_below HR0.out HB.out) | (with_reducible refine Kd.C_alloc ?_ _) | (with_reducible refine Kd.C_drewN ?_ _) | (with_reducible refine Kd.C_drew ?_))); (case side4 => exact HC0.out); rintro e w' ⟨rfl, ⟨nd, rfl⟩⟩; refine ⟨_, rfl, ?_⟩))
     (try simp only [Act.put, set_a_, set_b_, set_c_])
     go_cut [4] (fun v4 wc => ∃ (kq : Nat) (x4_6 : Int), v4 = .int .i64 x4_6 ∧ Aside0 (zzR.j1 kq l0 x4_6 x5_1 x12_1 (l0.length : Int) x12_1 = some (r1, r2)) ∧ Aside0 (kq ≤ k1) ∧ Aside0 (Below w.heap.size w wc))
     case first =>
      have H := HC7.out
      clear HC7
      by_cases c10 : t340 = true
      ·subst c10
       have H1 : (zzR.j1 k1 l0 (wrap64 (x4_1 + 1)) x5_1 x12_1 (l0.length : Int) x12_1) = some (r1, r2) := by rw [if_pos rfl] at H; exact H
       clear H
       have H := H1
       clear H1
       have H' := zpS H
       clear H
       go_wp2
       go_meet
       case rel => exact ⟨_, (wrap64 (x4_1 + 1)), (by first | rfl | (simp; done) | (simp [*]; done)), H', ⟨by have := HK1.out; first | omega | exact Nat.le_refl _⟩, ⟨bb_⟩⟩
      ·replace c10 := Bool.eq_false_iff.mpr c10
       subst c10
       have H1 : (zzR.j1 k1 l0 x4_1 x5_1 x12_1 (l0.length : Int) x12_1) = some (r1, r2) := by rw [if_neg (show ¬ (false = true) by decide)] at H; exact H
       clear H
       have H := H1
       clear H1
       have H' := zpS H
       clear H
       go_wp2
       go_meet
       case rel => exact ⟨_, (x4_1), (by first | rfl | (simp; done) | (simp [*]; done)), H', ⟨by have := HK1.out; first | omega | exact Nat.le_refl _⟩, ⟨bb_⟩⟩
     case rest =>
      clear HC7
      try clear c1
      try clear p2
      try clear c3
      try clear c4
      try clear c4b0
      try clear p6
      try clear c7
      try clear c10
      try clear p2
      obtain ⟨kq, x4_6, rfl, HA, HJ6, HB⟩ := hcut
      cases kq with
      | zero => exact absurd HA.out (by simp [zzR.j1])
      | succ kj6 =>
       have H := HA.out
       clear HA
       simp only [zzR.j1] at H
       replace H := Option.bind_eq_some_iff.mp H
       obtain ⟨t341, A110, H⟩ := H
       replace H : ((ztW.f kj6 t341 x12_1).bind fun t344 => ((zdL.f kj6 t344 l0).bind fun t347 => (if t347 = true then (zzR.l0 kj6 l0 x4_6 (wrap64 (x5_1 + 1)) (l0.length : Int) (wrap64 (x12_1 + 1))) else (zzR.l0 kj6 l0 x4_6 x5_1 (l0.length : Int) (wrap64 (x12_1 + 1)))))) = some (r1, r2) := H
       have A11 := zpS A110
       clear A110
       replace H := Option.bind_eq_some_iff.mp H
       obtain ⟨t344, A120, H⟩ := H
       replace H : ((zdL.f kj6 t344 l0).bind fun t347 => (if t347 = true then (zzR.l0 kj6 l0 x4_6 (wrap64 (x5_1 + 1)) (l0.length : Int) (wrap64 (x12_1 + 1))) else (zzR.l0 kj6 l0 x4_6 x5_1 (l0.length : Int) (wrap64 (x12_1 + 1))))) = some (r1, r2) := H
       have A12 := zpS A120
       clear A120
       replace H := Option.bind_eq_some_iff.mp H
       obtain ⟨t347, A130, H⟩ := H
       replace H : (if t347 = true then (zzR.l0 kj6 l0 x4_6 (wrap64 (x5_1 + 1)) (l0.length : Int) (wrap64 (x12_1 + 1))) else (zzR.l0 kj6 l0 x4_6 x5_1 (l0.length : Int) (wrap64 (x12_1 + 1)))) = some (r1, r2) := H
       have A13 := zpS A130
       clear A130
       by_cases c14 : t347 = true
       ·subst c14
        have H1 : (zzR.l0 kj6 l0 x4_6 (wrap64 (x5_1 + 1)) (l0.length : Int) (wrap64 (x12_1 + 1))) = some (r1, r2) := by rw [if_pos rfl] at H; exact H
        clear H
        have H := H1
        clear H1
        have H' := zpS H
        clear H
        go_wp2_with (first | ((with_reducible refine zgK (f := 73) rfl ?_); refine zqQ (some 23) rfl rfl Try.func73 (by kernel_rfl) rfl #[.slice A0 l0.length c0] rfl (by (try simp only [List.map_toArray, List.map_cons, List.map_nil]); first | done | rfl | (simp only [List.length_drop, List.length_take]; rfl)) ?_; (with_reducible refine (ziP.calls kj6 _ _ l0 t341 _ ?side1 ?side2 A11.out).mono ?_); (case side1 => repeat (first | exact (Kd.C_below HR0.out HB.out) | (with_reducible refine Kd.C_alloc ?_ _) | (with_reducible refine Kd.C_drewN ?_ _) | (with_reducible refine Kd.C_drew ?_))); (case side2 => exact HC0.out); rintro e w15 ⟨v342, rfl, ho0, hb⟩; refine ⟨_, rfl, ?_⟩; have n0_ := zpS (Kd.R_lower ho0 (zuA bb_)); have n1_ := (ns_ hb); clear HB; have HO343 := n0_; have HB := n1_; clear n0_ n1_; (try clear hb); (try clear hb2); (try clear ho0); obtain ⟨Ao16, co16, eo16⟩ := Kd.R_slice HO343.out; subst eo16) | ((with_reducible refine zgK (f := 74) rfl ?_); refine zqQ (some 25) rfl rfl Try.func74 (by kernel_rfl) rfl #[.slice Ao16 t341.length co16, .int .i64 x12_1] rfl (by (try simp only [List.map_toArray, List.map_cons, List.map_nil]); first | done | rfl | (simp only [List.length_drop, List.length_take]; rfl)) ?_; (with_reducible refine (ztW.calls kj6 (fun k_ => some k_ = (.slice Ao16 t341.length co16 : Value).ownBlock) _ _ t341 x12_1 t344 _ ?side1 A12.out).mono ?_); (case side1 => exact Kd.R_V (Kd.R_tight rfl (HO343.out))); rintro e w17 ⟨v345, rfl, ho0, hb⟩; refine ⟨_, rfl, ?_⟩; have n0_ := zpS (Kd.R_elder' (by (with_reducible repeat (first | apply Kd.R_alloc | apply Kd.R_drewN | apply Kd.R_drew)); exact HO343.out) (Kd.R_base ho0) hb); have n1_ := zpS (Kd.R_lower (Kd.R_new' (Kd.R_mono (ok' := fun k_ => True) ho0 (fun _ hk_ => trivial)) (Kd.R_lt (by (with_reducible repeat (first | apply Kd.R_alloc | apply Kd.R_drewN | apply Kd.R_drew)); exact HO343.out))) (zuA bb_)); have n2_ := (ns_ hb); clear HO343; clear HB; have HO343 := n0_; have HO346 := n1_; have HB := n2_; clear n0_ n1_ n2_; (try clear hb); (try clear hb2); (try clear ho0); obtain ⟨Ao18, co18, eo18⟩ := Kd.R_slice HO346.out; subst eo18) | ((with_reducible refine zgK (f := 77) rfl ?_); refine zqQ (some 27) rfl rfl Try.func77 (by kernel_rfl) rfl #[.slice Ao18 t344.length co18, .slice A0 l0.length c0] rfl (by (try simp only [List.map_toArray, List.map_cons, List.map_nil]); first | done | rfl | (simp only [List.length_drop, List.length_take]; rfl)) ?_; (with_reducible refine (zdL.calls kj6 _ _ t344 _ _ l0 true _ ?side1 ?side2 ?side3 ?side4 A13.out).mono ?_); (case side1 => repeat (first | exact (Kd.R_reads' HO346.out).2.2 | (with_reducible refine Kd.C_alloc ?_ _) | (with_reducible refine Kd.C_drewN ?_ _) | (with_reducible refine Kd.C_drew ?_))); (case side2 => exact (Kd.R_reads' HO346.out).2.1); (case side3 => repeat (first | exact (Kd.C_below HR0.out HB.out) | (with_reducible refine Kd.C_alloc ?_ _) | (with_reducible refine Kd.C_drewN ?_ _) | (with_reducible refine Kd.C_drew ?_))); (case side4 => exact HC0.out); rintro e w' ⟨rfl, ⟨nd, rfl⟩⟩; refine ⟨_, rfl, ?_⟩))
        go_roundg kj6
        case measure => have := HK1.out; have := HJ6.out; omega
        case rel => exact ⟨(x4_6), (wrap64 (x5_1 + 1)), (wrap64 (x12_1 + 1)), (by first | rfl | (simp; done) | (simp [*]; done)), (by first | rfl | (simp; done) | (simp [*]; done)), (by first | rfl | (simp; done) | (simp [*]; done)), H', ⟨by have := HK1.out; have := HJ6.out; omega⟩, ⟨bb_⟩⟩
       ·replace c14 := Bool.eq_false_iff.mpr c14
        subst c14
        have H1 : (zzR.l0 kj6 l0 x4_6 x5_1 (l0.length : Int) (wrap64 (x12_1 + 1))) = some (r1, r2) := by rw [if_neg (show ¬ (false = true) by decide)] at H; exact H
        clear H
        have H := H1
        clear H1
        have H' := zpS H
        clear H
        go_wp2_with (first | ((with_reducible refine zgK (f := 73) rfl ?_); refine zqQ (some 23) rfl rfl Try.func73 (by kernel_rfl) rfl #[.slice A0 l0.length c0] rfl (by (try simp only [List.map_toArray, List.map_cons, List.map_nil]); first | done | rfl | (simp only [List.length_drop, List.length_take]; rfl)) ?_; (with_reducible refine (ziP.calls kj6 _ _ l0 t341 _ ?side1 ?side2 A11.out).mono ?_); (case side1 => repeat (first | exact (Kd.C_below HR0.out HB.out) | (with_reducible refine Kd.C_alloc ?_ _) | (with_reducible refine Kd.C_drewN ?_ _) | (with_reducible refine Kd.C_drew ?_))); (case side2 => exact HC0.out); rintro e w19 ⟨v342, rfl, ho0, hb⟩; refine ⟨_, rfl, ?_⟩; have n0_ := zpS (Kd.R_lower ho0 (zuA bb_)); have n1_ := (ns_ hb); clear HB; have HO343 := n0_; have HB := n1_; clear n0_ n1_; (try clear hb); (try clear hb2); (try clear ho0); obtain ⟨Ao20, co20, eo20⟩ := Kd.R_slice HO343.out; subst eo20) | ((with_reducible refine zgK (f := 74) rfl ?_); refine zqQ (some 25) rfl rfl Try.func74 (by kernel_rfl) rfl #[.slice Ao20 t341.length co20, .int .i64 x12_1] rfl (by (try simp only [List.map_toArray, List.map_cons, List.map_nil]); first | done | rfl | (simp only [List.length_drop, List.length_take]; rfl)) ?_; (with_reducible refine (ztW.calls kj6 (fun k_ => some k_ = (.slice Ao20 t341.length co20 : Value).ownBlock) _ _ t341 x12_1 t344 _ ?side1 A12.out).mono ?_); (case side1 => exact Kd.R_V (Kd.R_tight rfl (HO343.out))); rintro e w21 ⟨v345, rfl, ho0, hb⟩; refine ⟨_, rfl, ?_⟩; have n0_ := zpS (Kd.R_elder' (by (with_reducible repeat (first | apply Kd.R_alloc | apply Kd.R_drewN | apply Kd.R_drew)); exact HO343.out) (Kd.R_base ho0) hb); have n1_ := zpS (Kd.R_lower (Kd.R_new' (Kd.R_mono (ok' := fun k_ => True) ho0 (fun _ hk_ => trivial)) (Kd.R_lt (by (with_reducible repeat (first | apply Kd.R_alloc | apply Kd.R_drewN | apply Kd.R_drew)); exact HO343.out))) (zuA bb_)); have n2_ := (ns_ hb); clear HO343; clear HB; have HO343 := n0_; have HO346 := n1_; have HB := n2_; clear n0_ n1_ n2_; (try clear hb); (try clear hb2); (try clear ho0); obtain ⟨Ao22, co22, eo22⟩ := Kd.R_slice HO346.out; subst eo22) | ((with_reducible refine zgK (f := 77) rfl ?_); refine zqQ (some 27) rfl rfl Try.func77 (by kernel_rfl) rfl #[.slice Ao22 t344.length co22, .slice A0 l0.length c0] rfl (by (try simp only [List.map_toArray, List.map_cons, List.map_nil]); first | done | rfl | (simp only [List.length_drop, List.length_take]; rfl)) ?_; (with_reducible refine (zdL.calls kj6 _ _ t344 _ _ l0 false _ ?side1 ?side2 ?side3 ?side4 A13.out).mono ?_); (case side1 => repeat (first | exact (Kd.R_reads' HO346.out).2.2 | (with_reducible refine Kd.C_alloc ?_ _) | (with_reducible refine Kd.C_drewN ?_ _) | (with_reducible refine Kd.C_drew ?_))); (case side2 => exact (Kd.R_reads' HO346.out).2.1); (case side3 => repeat (first | exact (Kd.C_below HR0.out HB.out) | (with_reducible refine Kd.C_alloc ?_ _) | (with_reducible refine Kd.C_drewN ?_ _) | (with_reducible refine Kd.C_drew ?_))); (case side4 => exact HC0.out); rintro e w' ⟨rfl, ⟨nd, rfl⟩⟩; refine ⟨_, rfl, ?_⟩))
        go_roundg kj6
        case measure => have := HK1.out; have := HJ6.out; omega
        case rel => exact ⟨(x4_6), (x5_1), (wrap64 (x12_1 + 1)), (by first | rfl | (simp; done) | (simp [*]; done)), (by first | rfl | (simp; done) | (simp [*]; done)), (by first | rfl | (simp; done) | (simp [*]; done)), H', ⟨by have := HK1.out; have := HJ6.out; omega⟩, ⟨bb_⟩⟩
    ·rw [if_neg c4] at H
     have c4b0 : decide (x12_1 < (l0.length : Int)) = false := decide_eq_false c4
     clear c4
     simp only [Option.some.injEq, Prod.mk.injEq] at H
     obtain ⟨rfl, rfl⟩ := H
     go_wp2
     go_ret2
     exact ⟨by first | rfl | (simp [ziS, znJ] <;> rfl) | (simp [*, ziS, znJ] <;> rfl), bb_⟩
 ·replace c3 := Bool.eq_false_iff.mpr c3
  subst c3
  have H1 : (some (0, 0)) = some (r1, r2) := by rw [if_neg (show ¬ (false = true) by decide)] at H; exact H
  clear H
  have H := H1
  clear H1
  simp only [Option.some.injEq, Prod.mk.injEq] at H
  obtain ⟨rfl, rfl⟩ := H
  go_enter Try.func38, Try.ntmps38
  go_wp2_with (first | ((with_reducible refine zgK (f := 34) rfl ?_); refine zqQ (some 8) rfl rfl Try.func34 (by kernel_rfl) rfl #[.slice A0 l0.length c0] rfl (by (try simp only [List.map_toArray, List.map_cons, List.map_nil]); first | done | rfl | (simp only [List.length_drop, List.length_take]; rfl)) ?_; (with_reducible refine (zfO.calls k _ _ l0 false _ ?side1 ?side2 A2.out).mono ?_); (case side1 => repeat (first | exact HR0.out | (with_reducible refine Kd.C_alloc ?_ _) | (with_reducible refine Kd.C_drewN ?_ _) | (with_reducible refine Kd.C_drew ?_))); (case side2 => exact HC0.out); rintro e w' ⟨rfl, ⟨nd, rfl⟩⟩; refine ⟨_, rfl, ?_⟩))
  go_ret2
  exact ⟨by first | rfl | (simp [ziS, znJ] <;> rfl) | (simp [*, ziS, znJ] <;> rfl), bb_⟩

def zoX (k : Nat) (l lst x : List Int) (fd : Bool) (rows : List (List Int)) : Option (Bool × List (List Int)) :=
 (zfO.f k x).bind fun v => (zlA.f k x lst).bind fun b => (zyD.f k x).bind fun c => (zwI.f k c lst).bind fun s => (zmD.f k x).bind fun p => (zmD.f k l).bind fun q => (zwI.f k x lst).bind fun t => (zfH.f k rows x).bind fun g => if rows.length ≤ 1000 ∧ v = true ∧ b = false ∧ s = true ∧ p = q then some (fd || t, if g = true then rows else rows ++ [x]) else none
def zsZ (k : Nat) (l lst mir : List Int) : Nat → Int → Bool → List (List Int) → Option (Bool × List (List Int))
 | 0, _, fd, rows => some (fd, rows)
 | d + 1, j, fd, rows => (zaB.f k l j).bind fun x1 => (zaB.f k mir j).bind fun x2 => (zoX k l lst x1 fd rows).bind fun z1 => (zoX k l lst x2 z1.1 z1.2).bind fun z2 => zsZ k l lst mir d (j + 1) z2.1 z2.2
def laws_FnAngles.f (k : Nat) (l0 : List Int) : Option Bool := (zpR.f l0 []).bind fun t => if t = true then some true else (zyA.f k l0).bind fun l => (zkC.f k 0 l).bind fun D => (zvJ.f k D.1).bind fun B => (zwI.f k B.1 l).bind fun e => (zyD.f k l).bind fun lst => (zkV.f k l).bind fun mir => (zsZ k l lst mir l.length 0 false []).bind fun z => (zzR.f k l).bind fun y => if l.length ≤ 100 ∧ D.2 = true ∧ B.2 = true ∧ e = true ∧ z.1 = true ∧ wrap64 (wrap64 (y.1 + y.2) * z.2.length) = wrap64 (2 * l.length) then some true else none
def zaI (k : Nat) (l lst x1 x2 : List Int) (i : Nat) (fd : Bool) (rows : List (List Int)) : Option (Bool × List (List Int)) :=
 if i = 0 then (zoX k l lst x1 fd rows).bind fun z => zoX k l lst x2 z.1 z.2 else if i = 1 then zoX k l lst x2 fd rows else some (fd, rows)
def zxG (g : Nat) (o1 o2 : Option Nat) (i q : Nat) : Prop := q = g ∨ (i = 0 ∧ some q = o1) ∨ (i ≤ 1 ∧ some q = o2)
theorem laws_FnAngles_at (k i g2 : Nat) (l lst x1 x2 : List Int) (fd fb : Bool) (rows rb : List (List Int)) (X1a X2a : Option Addr) (X1c X2c base : Nat) (W1 wr : World) (hi : i < 2)
  (hbk : W1.heap[g2]? = some (.cells #[.slice X1a x1.length X1c, .slice X2a x2.length X2c] 22 (0, 0)))
  (h1 : Kd.R (Kd.int .i64) 2 W1 base (fun q => some q = (Value.slice X1a x1.length X1c).ownBlock) (.slice X1a x1.length X1c) x1) (h2 : Kd.R (Kd.int .i64) 2 W1 base (fun q => some q = (Value.slice X2a x2.length X2c).ownBlock) (.slice X2a x2.length X2c) x2)
  (hd : ∀ q, some q = (Value.slice X1a x1.length X1c).ownBlock → some q ≠ (Value.slice X2a x2.length X2c).ownBlock ∧ q ≠ g2 ∧ q < W1.heap.size) (he : ∀ q, some q = (Value.slice X2a x2.length X2c).ownBlock → q ≠ g2 ∧ q < W1.heap.size) (hg : g2 < W1.heap.size)
  (hk : ∀ q, zxG g2 (Value.slice X1a x1.length X1c).ownBlock (Value.slice X2a x2.length X2c).ownBlock i q → wr.heap[q]? = W1.heap[q]?) (ha : zaI k l lst x1 x2 i fd rows = some (fb, rb)) :
  ∃ (Xa : Option Addr) (Xc : Nat) (x : List Int) (fe : Bool) (re : List (List Int)), wr.cell? ⟨g2, i, none⟩ = some (.slice Xa x.length Xc) ∧ Kd.R (Kd.int .i64) 2 wr base (fun q => some q = (Value.slice Xa x.length Xc).ownBlock) (.slice Xa x.length Xc) x ∧ zoX k l lst x fd rows = some (fe, re) ∧ zaI k l lst x1 x2 (i + 1) fe re = some (fb, rb)
   ∧ (∀ q, zxG g2 (Value.slice X1a x1.length X1c).ownBlock (Value.slice X2a x2.length X2c).ownBlock (i + 1) q → zxG g2 (Value.slice X1a x1.length X1c).ownBlock (Value.slice X2a x2.length X2c).ownBlock i q ∧ some q ≠ (Value.slice Xa x.length Xc).ownBlock) ∧ (∀ q, some q = (Value.slice Xa x.length Xc).ownBlock → zxG g2 (Value.slice X1a x1.length X1c).ownBlock (Value.slice X2a x2.length X2c).ownBlock i q) ∧ (∀ q, zxG g2 (Value.slice X1a x1.length X1c).ownBlock (Value.slice X2a x2.length X2c).ownBlock i q → q < W1.heap.size) := by
 have hgs : zxG g2 (Value.slice X1a x1.length X1c).ownBlock (Value.slice X2a x2.length X2c).ownBlock i g2 := Or.inl rfl
 have hlt : ∀ q, zxG g2 (Value.slice X1a x1.length X1c).ownBlock (Value.slice X2a x2.length X2c).ownBlock i q → q < W1.heap.size := by
  rintro q (rfl | ⟨_, h⟩ | ⟨_, h⟩)
  ·exact hg
  ·exact (hd q h).2.2
  ·exact (he q h).2
 have hce : ∀ n, wr.cell? ⟨g2, n, none⟩ = W1.cell? ⟨g2, n, none⟩ := fun n => World.cell?_of_block (hk g2 hgs)
 unfold zaI at ha
 rcases (show i = 0 ∨ i = 1 by omega) with rfl | rfl
 ·rw [if_pos rfl] at ha
  obtain ⟨⟨fe, re⟩, ha1, ha2⟩ := Option.bind_eq_some_iff.mp ha
  refine ⟨X1a, X1c, x1, fe, re, (hce 0).trans ((blk_cell hbk 0).trans rfl), Kd.R_move h1 (fun q hq => hk q (Or.inr (Or.inl ⟨rfl, hq⟩))), ha1, ?_, ?_, fun q hq => Or.inr (Or.inl ⟨rfl, hq⟩), hlt⟩
  ·unfold zaI
   rw [if_neg (by decide), if_pos rfl]
   exact ha2
  ·rintro q (rfl | ⟨h, _⟩ | ⟨_, h⟩)
   ·exact ⟨Or.inl rfl, fun c => (hd _ c).2.1 rfl⟩
   ·cases h
   ·exact ⟨Or.inr (Or.inr ⟨by omega, h⟩), fun c => (hd _ c).1 h⟩
 ·rw [if_neg (by decide), if_pos rfl] at ha
  refine ⟨X2a, X2c, x2, fb, rb, (hce 1).trans ((blk_cell hbk 1).trans rfl), Kd.R_move h2 (fun q hq => hk q (Or.inr (Or.inr ⟨by omega, hq⟩))), ha, ?_, ?_, fun q hq => Or.inr (Or.inr ⟨by omega, hq⟩), hlt⟩
  ·unfold zaI
   rw [if_neg (by decide), if_neg (by decide)]
  ·rintro q (rfl | ⟨h, _⟩ | ⟨h, _⟩)
   ·exact ⟨Or.inl rfl, fun c => (he _ c).1 rfl⟩
   ·cases h
   ·omega
theorem laws_FnAngles_two {P : Program} {ops : Array Oper} {rest : List Oper} {o : Oper} {a : Act} {Q : Exit → Act → World → Prop} {W : World} (hgd : o.guard = none) (u v : Value) (t : TypeId)
  (hrun : (execOp a.eval o).run P W = .ok (.value (.slice (some ⟨W.heap.size, 0, none⟩) 2 2)) (W.alloc (.cells #[u, v] t (0, 0))))
  (h : ∀ g w1, g = W.heap.size → w1.heap[g]? = some (.cells #[u, v] t (0, 0)) → Below W.heap.size W w1 → wpList P ops Q rest (a.put o.dst (.slice (some ⟨g, 0, none⟩) 2 2)) w1) : wpList P ops Q (o :: rest) a W :=
 Kd.event_run hgd hrun (h _ _ rfl (blk_new W _) (znU (Below.refl _ _) _))
theorem laws_FnAngles.calls (k : Nat) (A0 : Option Addr) (c0 : Nat) (l0 : List Int) (r : Bool) (w : World) (hr0 : Kd.C (Kd.int .u8) w A0 l0.length l0) (hc0 : l0.length ≤ c0) (h : laws_FnAngles.f k l0 = some r) :
  Calls Try.prog 6 #[.slice A0 l0.length c0] w fun e w' => e = .returned (.bool r) ∧ Below w.heap.size w w' := by
 have HR0 := zpS hr0
 have HC0 := zpS hc0
 clear hr0 hc0
 have HB := zpS (Below.refl w.heap.size w)
 unfold laws_FnAngles.f at h
 obtain ⟨t, A10, h⟩ := Option.bind_eq_some_iff.mp h
 have A1 := zpS A10
 clear A10
 cases t with
 | true =>
  rw [if_pos rfl] at h
  obtain rfl := Option.some.inj h
  go_enter Try.func6, Try.ntmps6
  go_wp2_with ((with_reducible refine zgK (f := 18) rfl ?_); refine zqQ (some 18) rfl rfl Try.func18 (by kernel_rfl) rfl #[.slice A0 l0.length c0, .slice none 0 0] rfl (by (try simp only [List.map_toArray, List.map_cons, List.map_nil]); first | done | rfl) ?_; (refine (zpR.calls _ _ l0 _ _ ([] : List Int) true _ ?s1 ?s2 ?s3 ?s4 A1.out).mono ?_); (case s1 => exact HR0.out); (case s2 => exact HC0.out); (case s3 => exact Kd.C_nil _ _); (case s4 => exact Nat.le_refl _); rintro e wa ⟨rfl, hd⟩; refine ⟨_, rfl, ?_⟩; have hb := hd.below; have n_ := zpS (zkR HB.out hb); clear HB; have HB := n_; clear n_; (try (have n_ := zpS (Kd.C_below HR0.out hb); clear HR0; have HR0 := n_; clear n_)); (try (have n_ := zpS (Kd.C_below HLC.out hb); clear HLC; have HLC := n_; clear n_)); (try (have n_ := zpS (Kd.C_below HDC.out hb); clear HDC; have HDC := n_; clear n_)); (try (have n_ := zpS (Kd.C_below HBC.out hb); clear HBC; have HBC := n_; clear n_)); (try (have n_ := zpS (Kd.C_below HTC.out hb); clear HTC; have HTC := n_; clear n_)); (try (have n_ := zpS (Kd.C_below HMC.out hb); clear HMC; have HMC := n_; clear n_)); clear hd hb)
  go_ret
  exact ⟨rfl, HB.out⟩
 | false =>
  rw [if_neg (by decide)] at h
  obtain ⟨l, A20, h⟩ := Option.bind_eq_some_iff.mp h
  obtain ⟨⟨D1, D2⟩, A30, h⟩ := Option.bind_eq_some_iff.mp h
  obtain ⟨⟨B1, B2⟩, A40, h⟩ := Option.bind_eq_some_iff.mp h
  obtain ⟨e1, A50, h⟩ := Option.bind_eq_some_iff.mp h
  obtain ⟨lst, A60, h⟩ := Option.bind_eq_some_iff.mp h
  obtain ⟨mir, A70, h⟩ := Option.bind_eq_some_iff.mp h
  obtain ⟨⟨z1, z2⟩, A80, h⟩ := Option.bind_eq_some_iff.mp h
  obtain ⟨⟨y1, y2⟩, A90, h⟩ := Option.bind_eq_some_iff.mp h
  dsimp only at A40 A50 h
  by_cases hc : l.length ≤ 100 ∧ D2 = true ∧ B2 = true ∧ e1 = true ∧ z1 = true ∧ wrap64 (wrap64 (y1 + y2) * z2.length) = wrap64 (2 * l.length)
  case neg => rw [if_neg hc] at h; cases h
  rw [if_pos hc] at h
  obtain rfl := Option.some.inj h
  obtain ⟨hl, rfl, rfl, rfl, rfl, hy⟩ := hc
  have A2 := zpS A20
  have A3 := zpS A30
  have A4 := zpS A40
  have A5 := zpS A50
  have A6 := zpS A60
  have A7 := zpS A70
  have A8 := zpS A80
  have A9 := zpS A90
  have HL := zpS hl
  have HY := zpS hy
  clear A20 A30 A40 A50 A60 A70 A80 A90 h hl hy
  go_enter Try.func6, Try.ntmps6
  go_wp2_with (first
   | ((with_reducible refine zgK (f := 18) rfl ?_); refine zqQ (some 18) rfl rfl Try.func18 (by kernel_rfl) rfl #[.slice A0 l0.length c0, .slice none 0 0] rfl (by (try simp only [List.map_toArray, List.map_cons, List.map_nil]); first | done | rfl) ?_; (refine (zpR.calls _ _ l0 _ _ ([] : List Int) false _ ?s1 ?s2 ?s3 ?s4 A1.out).mono ?_); (case s1 => exact HR0.out); (case s2 => exact HC0.out); (case s3 => exact Kd.C_nil _ _); (case s4 => exact Nat.le_refl _); rintro e wa ⟨rfl, hd⟩; refine ⟨_, rfl, ?_⟩; have hb := hd.below; have n_ := zpS (zkR HB.out hb); clear HB; have HB := n_; clear n_; (try (have n_ := zpS (Kd.C_below HR0.out hb); clear HR0; have HR0 := n_; clear n_)); (try (have n_ := zpS (Kd.C_below HLC.out hb); clear HLC; have HLC := n_; clear n_)); (try (have n_ := zpS (Kd.C_below HDC.out hb); clear HDC; have HDC := n_; clear n_)); (try (have n_ := zpS (Kd.C_below HBC.out hb); clear HBC; have HBC := n_; clear n_)); (try (have n_ := zpS (Kd.C_below HTC.out hb); clear HTC; have HTC := n_; clear n_)); (try (have n_ := zpS (Kd.C_below HMC.out hb); clear HMC; have HMC := n_; clear n_)); clear hd hb)
   | (go_at_call 27; (with_reducible refine (zyA.calls k _ _ l0 l _ ?s1 ?s2 A2.out).mono ?_); (case s1 => exact HR0.out); (case s2 => exact HC0.out); rintro e wb ⟨v0, rfl, ho, hb⟩; obtain ⟨Al, cl, rfl⟩ := Kd.R_slice ho; have n_ := zpS (zkR HB.out hb); clear HB; have HB := n_; clear n_; (try (have n_ := zpS (Kd.C_below HR0.out hb); clear HR0; have HR0 := n_; clear n_)); (try (have n_ := zpS (Kd.C_below HLC.out hb); clear HLC; have HLC := n_; clear n_)); (try (have n_ := zpS (Kd.C_below HDC.out hb); clear HDC; have HDC := n_; clear n_)); (try (have n_ := zpS (Kd.C_below HBC.out hb); clear HBC; have HBC := n_; clear n_)); (try (have n_ := zpS (Kd.C_below HTC.out hb); clear HTC; have HTC := n_; clear n_)); (try (have n_ := zpS (Kd.C_below HMC.out hb); clear HMC; have HMC := n_; clear n_)); have HLC := zpS (Kd.R_reads' ho).2.2; have HLL := zpS (Kd.R_reads' ho).2.1; clear ho hb)
   | (go_at_call 28; (with_reducible refine (zkC.calls k 0 _ _ l D1 true _ ?s1 ?s2 A3.out).mono ?_); (case s1 => exact HLC.out); (case s2 => exact HLL.out); rintro e wc ⟨v0, rfl, ho, hb⟩; obtain ⟨Ad, cd, rfl⟩ := Kd.R_slice ho; have n_ := zpS (zkR HB.out hb); clear HB; have HB := n_; clear n_; (try (have n_ := zpS (Kd.C_below HR0.out hb); clear HR0; have HR0 := n_; clear n_)); (try (have n_ := zpS (Kd.C_below HLC.out hb); clear HLC; have HLC := n_; clear n_)); (try (have n_ := zpS (Kd.C_below HDC.out hb); clear HDC; have HDC := n_; clear n_)); (try (have n_ := zpS (Kd.C_below HBC.out hb); clear HBC; have HBC := n_; clear n_)); (try (have n_ := zpS (Kd.C_below HTC.out hb); clear HTC; have HTC := n_; clear n_)); (try (have n_ := zpS (Kd.C_below HMC.out hb); clear HMC; have HMC := n_; clear n_)); have HDC := zpS (Kd.R_reads' ho).2.2; have HDL := zpS (Kd.R_reads' ho).2.1; clear ho hb)
   | (go_at_call 29; (with_reducible refine (zvJ.calls k _ _ D1 B1 true _ ?s1 ?s2 A4.out).mono ?_); (case s1 => exact HDC.out); (case s2 => exact HDL.out); rintro e wd ⟨v0, rfl, ho, hb⟩; obtain ⟨Ab, cb, rfl⟩ := Kd.R_slice ho; have n_ := zpS (zkR HB.out hb); clear HB; have HB := n_; clear n_; (try (have n_ := zpS (Kd.C_below HR0.out hb); clear HR0; have HR0 := n_; clear n_)); (try (have n_ := zpS (Kd.C_below HLC.out hb); clear HLC; have HLC := n_; clear n_)); (try (have n_ := zpS (Kd.C_below HDC.out hb); clear HDC; have HDC := n_; clear n_)); (try (have n_ := zpS (Kd.C_below HBC.out hb); clear HBC; have HBC := n_; clear n_)); (try (have n_ := zpS (Kd.C_below HTC.out hb); clear HTC; have HTC := n_; clear n_)); (try (have n_ := zpS (Kd.C_below HMC.out hb); clear HMC; have HMC := n_; clear n_)); have HBC := zpS (Kd.R_reads' ho).2.2; have HBL := zpS (Kd.R_reads' ho).2.1; clear ho hb)
   | (go_at_call 30; (with_reducible refine (zwI.calls k _ _ B1 _ _ l true _ ?s1 ?s2 ?s3 ?s4 A5.out).mono ?_); (case s1 => exact HBC.out); (case s2 => exact HBL.out); (case s3 => exact HLC.out); (case s4 => exact HLL.out); rintro e we ⟨rfl, hd⟩; have hb := hd.below; have n_ := zpS (zkR HB.out hb); clear HB; have HB := n_; clear n_; (try (have n_ := zpS (Kd.C_below HR0.out hb); clear HR0; have HR0 := n_; clear n_)); (try (have n_ := zpS (Kd.C_below HLC.out hb); clear HLC; have HLC := n_; clear n_)); (try (have n_ := zpS (Kd.C_below HDC.out hb); clear HDC; have HDC := n_; clear n_)); (try (have n_ := zpS (Kd.C_below HBC.out hb); clear HBC; have HBC := n_; clear n_)); (try (have n_ := zpS (Kd.C_below HTC.out hb); clear HTC; have HTC := n_; clear n_)); (try (have n_ := zpS (Kd.C_below HMC.out hb); clear HMC; have HMC := n_; clear n_)); clear hd hb)
   | (go_at_call 31; (with_reducible refine (zyD.calls k _ _ l lst _ ?s1 ?s2 A6.out).mono ?_); (case s1 => exact HLC.out); (case s2 => exact HLL.out); rintro e wf ⟨v0, rfl, ho, hb⟩; obtain ⟨At, ct, rfl⟩ := Kd.R_slice ho; have n_ := zpS (zkR HB.out hb); clear HB; have HB := n_; clear n_; (try (have n_ := zpS (Kd.C_below HR0.out hb); clear HR0; have HR0 := n_; clear n_)); (try (have n_ := zpS (Kd.C_below HLC.out hb); clear HLC; have HLC := n_; clear n_)); (try (have n_ := zpS (Kd.C_below HDC.out hb); clear HDC; have HDC := n_; clear n_)); (try (have n_ := zpS (Kd.C_below HBC.out hb); clear HBC; have HBC := n_; clear n_)); (try (have n_ := zpS (Kd.C_below HTC.out hb); clear HTC; have HTC := n_; clear n_)); (try (have n_ := zpS (Kd.C_below HMC.out hb); clear HMC; have HMC := n_; clear n_)); have HTC := zpS (Kd.R_reads' ho).2.2; have HTL := zpS (Kd.R_reads' ho).2.1; clear ho hb)
   | (go_at_call 32; (with_reducible refine (zkV.calls k _ _ l mir _ ?s1 ?s2 A7.out).mono ?_); (case s1 => exact HLC.out); (case s2 => exact HLL.out); rintro e W0 ⟨v0, rfl, ho, hb⟩; obtain ⟨Am, cm, rfl⟩ := Kd.R_slice ho; have n_ := zpS (zkR HB.out hb); clear HB; have HB := n_; clear n_; (try (have n_ := zpS (Kd.C_below HR0.out hb); clear HR0; have HR0 := n_; clear n_)); (try (have n_ := zpS (Kd.C_below HLC.out hb); clear HLC; have HLC := n_; clear n_)); (try (have n_ := zpS (Kd.C_below HDC.out hb); clear HDC; have HDC := n_; clear n_)); (try (have n_ := zpS (Kd.C_below HBC.out hb); clear HBC; have HBC := n_; clear n_)); (try (have n_ := zpS (Kd.C_below HTC.out hb); clear HTC; have HTC := n_; clear n_)); (try (have n_ := zpS (Kd.C_below HMC.out hb); clear HMC; have HMC := n_; clear n_)); have HMC := zpS (Kd.R_reads' ho).2.2; have HML := zpS (Kd.R_reads' ho).2.1; clear ho hb; have HB0 := zpS (Below.refl W0.heap.size W0))
   | ((with_reducible refine gate_dst (N := 45) rfl ?_); refine Kd.S_lit (Kd.slice 2 (Kd.int .i64)) (w0 := W0) W0.heap.size 22 ?hg (N := 45) ?hd (xs := ([] : List (List Int))) (zlR := []) (ok := fun _ => True) (okp := fun _ => True) ?hr ?hp (fun _ _ => trivial) trivial ?hB ?hs (by simp) ?_; (case hd => rfl); (case hg => rfl); (case hr => first | (go_simp; done) | (go_simp; rfl)); (case hp => exact zfI.none _ _); (case hB => exact HB0.out); (case hs => exact HB0.out.size); intro v1 w1 ho hb hgr hat; obtain ⟨AL, cL, rfl⟩ := Kd.S_slice ho; have HS := zpS ho; clear HB0; have HB0 := zpS hb; clear ho hb hgr hat))
  (try simp only [Act.put, set_a_, set_b_, set_c_])
  go_loopg [9, 10, 11] l.length (fun kq v9 v10 v11 w' => ∃ (fd : Bool) (rows : List (List Int)) (Av : Option Addr) (cv j : Nat), v9 = .bool fd ∧ v10 = .slice Av rows.length cv ∧ v11 = .int .i64 (j : Int) ∧ Aside0 (kq + j = l.length) ∧ Aside0 (zsZ k l lst mir kq (j : Int) fd rows = some (true, z2)) ∧ Aside0 (Below W0.heap.size W0 w') ∧ Aside0 (Kd.S (Kd.slice 2 (Kd.int .i64)) 22 w' W0.heap.size (fun _ => True) (.slice Av rows.length cv) rows))
  case atStart => exact ⟨false, [], AL, cL, 0, rfl, rfl, rfl, ⟨rfl⟩, A8, HB0, HS⟩
  case round =>
   clear A8 HB0 HS
   obtain ⟨fd, rows, Av, cv, j, rfl, rfl, rfl, HK, HA, HB0, HS⟩ := hrel
   cases gk with
   | zero =>
    have hk := HK.out
    have hA := HA.out
    simp only [zsZ, Option.some.injEq, Prod.mk.injEq] at hA
    obtain ⟨rfl, rfl⟩ := hA
    have c1 : decide ((j : Int) < (l.length : Int)) = false := decide_eq_false (by omega)
    have c1b : decide (j < l.length) = false := decide_eq_false (by omega)
    have c2 : (wrap64 (wrap64 (y1 + y2) * (rows.length : Int)) == wrap64 (2 * (l.length : Int))) = true := beq_iff_eq.2 HY.out
    clear hk HA
    go_wp2_with (go_at_call 38; (with_reducible refine (zzR.calls k _ _ l y1 y2 _ ?s1 ?s2 A9.out).mono ?_); (case s1 => exact Kd.C_below HLC.out HB0.out); (case s2 => exact HLL.out); rintro e wz ⟨rfl, hb⟩; have n_ := zpS (zkR HB0.out hb); clear HB0; have HB0 := n_; clear n_ hb)
    go_ret
    exact ⟨rfl, zkR HB.out HB0.out⟩
   | succ d =>
    have hk := HK.out
    have hA := HA.out
    rw [zsZ] at hA
    obtain ⟨x1, R10, hA⟩ := Option.bind_eq_some_iff.mp hA
    obtain ⟨x2, R20, hA⟩ := Option.bind_eq_some_iff.mp hA
    obtain ⟨⟨fa, ra⟩, F10, hA⟩ := Option.bind_eq_some_iff.mp hA
    obtain ⟨⟨fb, rb⟩, F20, hA⟩ := Option.bind_eq_some_iff.mp hA
    dsimp only at F20 hA
    have R1 := zpS R10
    have R2 := zpS R20
    have F1 := zpS F10
    have F2 := zpS F20
    have HA' := zpS hA
    have HWR := zpS HB0.out.size
    have c1 : decide ((j : Int) < (l.length : Int)) = true := decide_eq_true (by omega)
    have c1b : decide (j < l.length) = true := decide_eq_true (by omega)
    clear HA R10 R20 F10 F20 hA hk
    go_wp2_with (first
     | (go_at_call 33; (with_reducible refine (zaB.calls k _ _ l (j : Int) x1 _ ?s1 ?s2 R1.out).mono ?_); (case s1 => exact Kd.C_below HLC.out HB0.out); (case s2 => exact HLL.out); rintro e wx ⟨v0, rfl, ho, hb⟩; obtain ⟨X1a, X1c, rfl⟩ := Kd.R_slice ho; have HX1 := zpS ho; have HN1 := zpS (Kd.R_base ho); have HT1 := zpS (Kd.R_lt ho); have n_ := zpS (Kd.S_below (Kd.S_mono (ok' := fun k_ => k_ < wr.heap.size) (Kd.S_bound HS.out) (fun _ hk => hk.2.2.1)) hb); clear HS; have HS := n_; clear n_; have n_ := zpS (zkR HB0.out hb); clear HB0; have HB0 := n_; clear n_; have HZ1 := zpS hb.size; clear ho hb)
     | (go_at_call 33; (with_reducible refine (zaB.calls k _ _ mir (j : Int) x2 _ ?s1 ?s2 R2.out).mono ?_); (case s1 => exact Kd.C_below HMC.out HB0.out); (case s2 => exact HML.out); rintro e wy ⟨v0, rfl, ho, hb⟩; obtain ⟨X2a, X2c, rfl⟩ := Kd.R_slice ho; have HX2 := zpS ho; have HN2 := zpS (Kd.R_base ho); have HT2 := zpS (Kd.R_lt ho); have n_ := zpS (Kd.S_below HS.out hb); clear HS; have HS := n_; clear n_; have n_ := zpS (Kd.R_below HX1.out hb); clear HX1; have HX1 := n_; clear n_; have n_ := zpS (zkR HB0.out hb); clear HB0; have HB0 := n_; clear n_; have HZ2 := zpS hb.size; clear ho hb)
     | ((with_reducible refine gate_dst (N := 58) rfl ?_); refine laws_FnAngles_two ?hg (.slice X1a x1.length X1c) (.slice X2a x2.length X2c) 22 ?hr ?_; (case hg => rfl); (case hr => first | (go_simp; done) | (go_simp; rfl)); intro g2 W1 hg2 hbk hb; have HG2 := zpS hg2; have BK := zpS hbk; have n_ := zpS (Kd.S_below HS.out hb); clear HS; have HS := n_; clear n_; have n_ := zpS (Kd.R_below HX1.out hb); clear HX1; have HX1 := n_; clear n_; have n_ := zpS (Kd.R_below HX2.out hb); clear HX2; have HX2 := n_; clear n_; have n_ := zpS (zkR HB0.out hb); clear HB0; have HB0 := n_; clear n_; have HZ3 := zpS hb.size; have HZW := zpS (blk_lt hbk); clear hg2 hbk hb))
    (try simp only [Act.put, set_a_, set_b_, set_c_])
    have HD := zpS (show ∀ q, some q = (Value.slice X1a x1.length X1c).ownBlock → some q ≠ (Value.slice X2a x2.length X2c).ownBlock ∧ q ≠ g2 ∧ wr.heap.size ≤ q ∧ q < W1.heap.size from fun q hq => by
     have h1 := HN1.out q hq.symm
     have h2 := HT1.out q hq.symm
     have h3 := HG2.out
     have h4 := HZ2.out
     have h5 := HZ3.out
     exact ⟨fun e => by have := HN2.out q e.symm; omega, by omega, h1, by omega⟩)
    have HE := zpS (show ∀ q, some q = (Value.slice X2a x2.length X2c).ownBlock → q ≠ g2 ∧ wr.heap.size ≤ q ∧ q < W1.heap.size from fun q hq => by
     have h1 := HN2.out q hq.symm
     have h2 := HT2.out q hq.symm
     have h3 := HG2.out
     have h4 := HZ1.out
     have h5 := HZ3.out
     exact ⟨by omega, by omega, by omega⟩)
    have HGG := zpS (show wr.heap.size ≤ g2 from by have h3 := HG2.out; have h4 := HZ1.out; have h5 := HZ2.out; omega)
    have HSS := zpS (Kd.S_mono (ok' := fun q => ¬ zxG g2 (Value.slice X1a x1.length X1c).ownBlock (Value.slice X2a x2.length X2c).ownBlock 0 q) HS.out (fun q hq hs => by
     rcases hs with rfl | ⟨_, hs⟩ | ⟨_, hs⟩
     ·exact Nat.lt_irrefl _ (Nat.lt_of_lt_of_le hq HGG.out)
     ·exact Nat.lt_irrefl _ (Nat.lt_of_lt_of_le hq (HD.out q hs).2.2.1)
     ·exact Nat.lt_irrefl _ (Nat.lt_of_lt_of_le hq (HE.out q hs).2.1)))
    have X1T := zpS (Kd.R_tight rfl (Kd.R_lower HX1.out HWR.out))
    have X2T := zpS (Kd.R_tight rfl (Kd.R_lower HX2.out (Nat.le_trans HWR.out HZ1.out)))
    clear HN1 HT1 HN2 HT2 HG2 HZ1 HZ2 HZ3 HX1 HX2 HS R1 R2
    have F0 := zpS (show zaI k l lst x1 x2 0 fd rows = some (fb, rb) from by unfold zaI; rw [if_pos rfl, F1.out, Option.bind_some]; exact F2.out)
    clear F1 F2
    go_loopg [9, 10, 13] 2 (fun kq v9 v10 v13 w' => ∃ (fd : Bool) (rows : List (List Int)) (Av : Option Addr) (cv i : Nat), v9 = .bool fd ∧ v10 = .slice Av rows.length cv ∧ v13 = .int .i64 (i : Int) ∧ Aside0 (kq + i = 2) ∧ Aside0 (zaI k l lst x1 x2 i fd rows = some (fb, rb)) ∧ Aside0 (Below W0.heap.size W0 w') ∧ Aside0 (Kd.S (Kd.slice 2 (Kd.int .i64)) 22 w' W0.heap.size (fun q => ¬ zxG g2 (Value.slice X1a x1.length X1c).ownBlock (Value.slice X2a x2.length X2c).ownBlock i q) (.slice Av rows.length cv) rows) ∧ Aside0 (∀ q, zxG g2 (Value.slice X1a x1.length X1c).ownBlock (Value.slice X2a x2.length X2c).ownBlock i q → w'.heap[q]? = W1.heap[q]?) ∧ Aside0 (W1.heap.size ≤ w'.heap.size))
    case atStart => exact ⟨fd, rows, Av, cv, 0, rfl, rfl, rfl, ⟨rfl⟩, F0, HB0, HSS, ⟨fun _ _ => rfl⟩, ⟨Nat.le_refl _⟩⟩
    case round =>
     clear F0 HB0 HSS
     obtain ⟨fd, rows, Av, cv, i, rfl, rfl, rfl, HK2, HR, HB0, HS, HKP, HSZ⟩ := hrel
     cases gk with
     | zero =>
      have hk := HK2.out
      obtain rfl : i = 2 := by omega
      have hR := HR.out
      unfold zaI at hR
      rw [if_neg (by decide), if_neg (by decide)] at hR
      simp only [Option.some.injEq, Prod.mk.injEq] at hR
      obtain ⟨rfl, rfl⟩ := hR
      clear HR hk HKP
      have hjN : (j : Int) ≤ 9223372036854775806 := by have := HK.out; have := HL.out; omega
      go_wp2
      go_roundg d
      case measure => omega
      case rel => exact ⟨fd, rows, Av, cv, j + 1, rfl, rfl, (by (try rw [wrap64]); go_num), ⟨by have := HK.out; omega⟩, ⟨HA'.out⟩, HB0, ⟨Kd.S_mono HS.out (fun _ _ => trivial)⟩⟩
     | succ e =>
      have hi : i < 2 := by have := HK2.out; omega
      obtain ⟨Xa, Xc, x, fe, re, hcell, hX, hF, hR', hP1, hP2, hLT⟩ := laws_FnAngles_at k i g2 l lst x1 x2 fd fb rows rb X1a X2a X1c X2c W0.heap.size W1 wr hi BK.out X1T.out X2T.out (fun q hq => ⟨(HD.out q hq).1, (HD.out q hq).2.1, (HD.out q hq).2.2.2⟩) (fun q hq => ⟨(HE.out q hq).1, (HE.out q hq).2.2⟩) HZW.out HKP.out HR.out
      have HX := zpS hX
      have HR' := zpS hR'
      have HP1 := zpS hP1
      have HP2 := zpS hP2
      have HLT := zpS hLT
      clear hX hR' hP1 hP2 hLT HR
      unfold zoX at hF
      obtain ⟨v, V10, hF1⟩ := Option.bind_eq_some_iff.mp hF
      clear hF
      obtain ⟨bb, V20, hF2⟩ := Option.bind_eq_some_iff.mp hF1
      clear hF1
      obtain ⟨cn, V30, hF3⟩ := Option.bind_eq_some_iff.mp hF2
      clear hF2
      obtain ⟨s, V40, hF4⟩ := Option.bind_eq_some_iff.mp hF3
      clear hF3
      obtain ⟨p, V50, hF5⟩ := Option.bind_eq_some_iff.mp hF4
      clear hF4
      obtain ⟨q0, V60, hF6⟩ := Option.bind_eq_some_iff.mp hF5
      clear hF5
      obtain ⟨t, V70, hF7⟩ := Option.bind_eq_some_iff.mp hF6
      clear hF6
      obtain ⟨gg, V80, hF8⟩ := Option.bind_eq_some_iff.mp hF7
      clear hF7
      by_cases hc : rows.length ≤ 1000 ∧ v = true ∧ bb = false ∧ s = true ∧ p = q0
      case neg => rw [if_neg hc] at hF8; cases hF8
      rw [if_pos hc] at hF8
      obtain ⟨hrl, rfl, rfl, rfl, rfl⟩ := hc
      simp only [Option.some.injEq, Prod.mk.injEq] at hF8
      obtain ⟨rfl, rfl⟩ := hF8
      have HRL := zpS hrl
      have V1 := zpS V10
      have V2 := zpS V20
      have V3 := zpS V30
      have V4 := zpS V40
      have V5 := zpS V50
      have V6 := zpS V60
      have V7 := zpS V70
      have V8 := zpS V80
      clear V10 V20 V30 V40 V50 V60 V70 V80 hrl
      have c2 : decide ((i : Int) < 2) = true := decide_eq_true (by omega)
      have c3 : decide (i < 2) = true := decide_eq_true hi
      have c4 : decide (0 ≤ (i : Int)) = true := decide_eq_true (by omega)
      have c5 : (p != p) = false := by cases p <;> rfl
      cases gg with
      | false =>
       cases fd with
       | false =>
        go_wp2_with (first
         | (go_at_call 34; (with_reducible refine (zfO.calls k _ _ x true _ ?s1 ?s2 V1.out).mono ?_); (case s1 => exact (Kd.R_reads' HX.out).2.2); (case s2 => exact (Kd.R_reads' HX.out).2.1); rintro e wa ⟨rfl, hd⟩; have hb := hd.below; clear hd; have n_ := zpS (fun q hq => (hb.block q (Nat.lt_of_lt_of_le (HLT.out q hq) HSZ.out)).trans (HKP.out q hq)); clear HKP; have HKP := n_; clear n_; have n_ := zpS (Nat.le_trans HSZ.out hb.size); clear HSZ; have HSZ := n_; clear n_; have n_ := zpS (Kd.R_below HX.out hb); clear HX; have HX := n_; clear n_; have n_ := zpS (Kd.S_below HS.out hb); clear HS; have HS := n_; clear n_; have n_ := zpS (zkR HB0.out hb); clear HB0; have HB0 := n_; clear n_; (try (have n_ := zpS (Kd.C_below HCC.out hb); clear HCC; have HCC := n_; clear n_)); clear hb)
         | (go_at_call 35; (with_reducible refine (zlA.calls k _ _ x _ _ lst false _ ?s1 ?s2 ?s3 ?s4 V2.out).mono ?_); (case s1 => exact (Kd.R_reads' HX.out).2.2); (case s2 => exact (Kd.R_reads' HX.out).2.1); (case s3 => exact Kd.C_below HTC.out HB0.out); (case s4 => exact HTL.out); rintro e wb ⟨rfl, hd⟩; have hb := hd.below; clear hd; have n_ := zpS (fun q hq => (hb.block q (Nat.lt_of_lt_of_le (HLT.out q hq) HSZ.out)).trans (HKP.out q hq)); clear HKP; have HKP := n_; clear n_; have n_ := zpS (Nat.le_trans HSZ.out hb.size); clear HSZ; have HSZ := n_; clear n_; have n_ := zpS (Kd.R_below HX.out hb); clear HX; have HX := n_; clear n_; have n_ := zpS (Kd.S_below HS.out hb); clear HS; have HS := n_; clear n_; have n_ := zpS (zkR HB0.out hb); clear HB0; have HB0 := n_; clear n_; (try (have n_ := zpS (Kd.C_below HCC.out hb); clear HCC; have HCC := n_; clear n_)); clear hb)
         | (go_at_call 31; (with_reducible refine (zyD.calls k _ _ x cn _ ?s1 ?s2 V3.out).mono ?_); (case s1 => exact (Kd.R_reads' HX.out).2.2); (case s2 => exact (Kd.R_reads' HX.out).2.1); rintro e wc ⟨v0, rfl, ho, hb⟩; obtain ⟨Ac, cc, rfl⟩ := Kd.R_slice ho; have n_ := zpS (fun q hq => (hb.block q (Nat.lt_of_lt_of_le (HLT.out q hq) HSZ.out)).trans (HKP.out q hq)); clear HKP; have HKP := n_; clear n_; have n_ := zpS (Nat.le_trans HSZ.out hb.size); clear HSZ; have HSZ := n_; clear n_; have n_ := zpS (Kd.R_below HX.out hb); clear HX; have HX := n_; clear n_; have n_ := zpS (Kd.S_below HS.out hb); clear HS; have HS := n_; clear n_; have n_ := zpS (zkR HB0.out hb); clear HB0; have HB0 := n_; clear n_; (try (have n_ := zpS (Kd.C_below HCC.out hb); clear HCC; have HCC := n_; clear n_)); have HCC := zpS (Kd.R_reads' ho).2.2; have HCL := zpS (Kd.R_reads' ho).2.1; clear ho hb)
         | (go_at_call 30; (with_reducible refine (zwI.calls k _ _ cn _ _ lst true _ ?s1 ?s2 ?s3 ?s4 V4.out).mono ?_); (case s1 => exact HCC.out); (case s2 => exact HCL.out); (case s3 => exact Kd.C_below HTC.out HB0.out); (case s4 => exact HTL.out); rintro e wd ⟨rfl, hd⟩; have hb := hd.below; clear hd; have n_ := zpS (fun q hq => (hb.block q (Nat.lt_of_lt_of_le (HLT.out q hq) HSZ.out)).trans (HKP.out q hq)); clear HKP; have HKP := n_; clear n_; have n_ := zpS (Nat.le_trans HSZ.out hb.size); clear HSZ; have HSZ := n_; clear n_; have n_ := zpS (Kd.R_below HX.out hb); clear HX; have HX := n_; clear n_; have n_ := zpS (Kd.S_below HS.out hb); clear HS; have HS := n_; clear n_; have n_ := zpS (zkR HB0.out hb); clear HB0; have HB0 := n_; clear n_; (try (have n_ := zpS (Kd.C_below HCC.out hb); clear HCC; have HCC := n_; clear n_)); clear hb)
         | (go_at_call 36; (with_reducible refine (zmD.calls k _ _ x p _ ?s1 ?s2 V5.out).mono ?_); (case s1 => exact (Kd.R_reads' HX.out).2.2); (case s2 => exact (Kd.R_reads' HX.out).2.1); rintro e we ⟨rfl, hd⟩; have hb := hd.below; clear hd; have n_ := zpS (fun q hq => (hb.block q (Nat.lt_of_lt_of_le (HLT.out q hq) HSZ.out)).trans (HKP.out q hq)); clear HKP; have HKP := n_; clear n_; have n_ := zpS (Nat.le_trans HSZ.out hb.size); clear HSZ; have HSZ := n_; clear n_; have n_ := zpS (Kd.R_below HX.out hb); clear HX; have HX := n_; clear n_; have n_ := zpS (Kd.S_below HS.out hb); clear HS; have HS := n_; clear n_; have n_ := zpS (zkR HB0.out hb); clear HB0; have HB0 := n_; clear n_; (try (have n_ := zpS (Kd.C_below HCC.out hb); clear HCC; have HCC := n_; clear n_)); clear hb)
         | (go_at_call 36; (with_reducible refine (zmD.calls k _ _ l p _ ?s1 ?s2 V6.out).mono ?_); (case s1 => exact Kd.C_below HLC.out HB0.out); (case s2 => exact HLL.out); rintro e we ⟨rfl, hd⟩; have hb := hd.below; clear hd; have n_ := zpS (fun q hq => (hb.block q (Nat.lt_of_lt_of_le (HLT.out q hq) HSZ.out)).trans (HKP.out q hq)); clear HKP; have HKP := n_; clear n_; have n_ := zpS (Nat.le_trans HSZ.out hb.size); clear HSZ; have HSZ := n_; clear n_; have n_ := zpS (Kd.R_below HX.out hb); clear HX; have HX := n_; clear n_; have n_ := zpS (Kd.S_below HS.out hb); clear HS; have HS := n_; clear n_; have n_ := zpS (zkR HB0.out hb); clear HB0; have HB0 := n_; clear n_; (try (have n_ := zpS (Kd.C_below HCC.out hb); clear HCC; have HCC := n_; clear n_)); clear hb)
         | (go_at_call 30; (with_reducible refine (zwI.calls k _ _ x _ _ lst t _ ?s1 ?s2 ?s3 ?s4 V7.out).mono ?_); (case s1 => exact (Kd.R_reads' HX.out).2.2); (case s2 => exact (Kd.R_reads' HX.out).2.1); (case s3 => exact Kd.C_below HTC.out HB0.out); (case s4 => exact HTL.out); rintro e wf ⟨rfl, hd⟩; have hb := hd.below; clear hd; have n_ := zpS (fun q hq => (hb.block q (Nat.lt_of_lt_of_le (HLT.out q hq) HSZ.out)).trans (HKP.out q hq)); clear HKP; have HKP := n_; clear n_; have n_ := zpS (Nat.le_trans HSZ.out hb.size); clear HSZ; have HSZ := n_; clear n_; have n_ := zpS (Kd.R_below HX.out hb); clear HX; have HX := n_; clear n_; have n_ := zpS (Kd.S_below HS.out hb); clear HS; have HS := n_; clear n_; have n_ := zpS (zkR HB0.out hb); clear HB0; have HB0 := n_; clear n_; (try (have n_ := zpS (Kd.C_below HCC.out hb); clear HCC; have HCC := n_; clear n_)); clear hb)
         | (go_at_call 37; (with_reducible refine (zfH.calls k _ _ rows _ _ x false _ ?s1 ?s2 ?s3 ?s4 V8.out).mono ?_); (case s1 => exact (Kd.S_reads' HS.out).2.2); (case s2 => exact (Kd.S_reads' HS.out).2.1); (case s3 => exact (Kd.R_reads' HX.out).2.2); (case s4 => exact (Kd.R_reads' HX.out).2.1); rintro e wg ⟨rfl, hd⟩; have hb := hd.below; clear hd; have n_ := zpS (fun q hq => (hb.block q (Nat.lt_of_lt_of_le (HLT.out q hq) HSZ.out)).trans (HKP.out q hq)); clear HKP; have HKP := n_; clear n_; have n_ := zpS (Nat.le_trans HSZ.out hb.size); clear HSZ; have HSZ := n_; clear n_; have n_ := zpS (Kd.R_below HX.out hb); clear HX; have HX := n_; clear n_; have n_ := zpS (Kd.S_below HS.out hb); clear HS; have HS := n_; clear n_; have n_ := zpS (zkR HB0.out hb); clear HB0; have HB0 := n_; clear n_; (try (have n_ := zpS (Kd.C_below HCC.out hb); clear HCC; have HCC := n_; clear n_)); clear hb)
         | ((with_reducible refine zcL (b := .append) (xs := #[.tmp 99, .tmp 101]) rfl ?_); at_builtin; have HOWN := zpS (Kd.S_R HS.out).1; refine Kd.S_append (Kd.slice 2 (Kd.int .i64)) (w0 := W0) W0.heap.size rfl (.tmp 99) (.tmp 101) 23 22 (.slice none 0 0) 24 rfl Try.underlying23 info22 rfl (by decide) (by omega) (.slice Av rows.length cv) rows x [.slice Xa x.length Xc] (fun q => ¬ zxG g2 (Value.slice X1a x1.length X1c).ownBlock (Value.slice X2a x2.length X2c).ownBlock (i + 1) q) (fun q => some q = (Value.slice Xa x.length Xc).ownBlock) rfl rfl ?aP ?aK ?aF ?aO ?aB ?aS ?aL ?_; (case aP => exact Kd.M_row HX.out); (case aK => exact fun q hq => ⟨fun hs => (HP1.out q hs).2 hq, fun e => HOWN.out q e.symm (HP2.out q hq)⟩); (case aF => exact fun q hq hs => Nat.lt_irrefl _ (Nat.lt_of_lt_of_le (HLT.out q (HP1.out q hs).1) (Nat.le_trans HSZ.out hq))); (case aO => exact Kd.S_mono HS.out (fun q hq => ⟨fun hs => hq (HP1.out q hs).1, fun hp => hq (HP2.out q hp)⟩)); (case aB => exact HB0.out); (case aS => exact HB0.out.size); (case aL => have := HRL.out; omega); intro v1 w1 ho hb1 hgr hat; obtain ⟨A1, c1_, rfl⟩ := Kd.S_slice ho; have n1_ := zpS (show ∀ q, zxG g2 (Value.slice X1a x1.length X1c).ownBlock (Value.slice X2a x2.length X2c).ownBlock (i + 1) q → w1.heap[q]? = W1.heap[q]? from fun q hq => (hgr.block q (Nat.lt_of_lt_of_le (HLT.out q (HP1.out q hq).1) HSZ.out) (fun e => HOWN.out q e.symm (HP1.out q hq).1)).trans (HKP.out q (HP1.out q hq).1)); have n2_ := zpS (Nat.le_trans HSZ.out hgr.size); have n3_ := zpS hb1; have n4_ := zpS ho; clear HKP HSZ HB0 HS HX HOWN ho hb1 hgr hat; have HKP := n1_; have HSZ := n2_; have HB0 := n3_; have HS := n4_; clear n1_ n2_ n3_ n4_))
        go_roundg e
        case measure => omega
        case rel => exact ⟨t, rows ++ [x], A1, c1_, i + 1, rfl, (by simp), (by (try rw [wrap64]); go_num), ⟨by have := HK2.out; omega⟩, ⟨HR'.out⟩, HB0, HS, HKP, HSZ⟩
       | true =>
        go_wp2_with (first
         | (go_at_call 34; (with_reducible refine (zfO.calls k _ _ x true _ ?s1 ?s2 V1.out).mono ?_); (case s1 => exact (Kd.R_reads' HX.out).2.2); (case s2 => exact (Kd.R_reads' HX.out).2.1); rintro e wa ⟨rfl, hd⟩; have hb := hd.below; clear hd; have n_ := zpS (fun q hq => (hb.block q (Nat.lt_of_lt_of_le (HLT.out q hq) HSZ.out)).trans (HKP.out q hq)); clear HKP; have HKP := n_; clear n_; have n_ := zpS (Nat.le_trans HSZ.out hb.size); clear HSZ; have HSZ := n_; clear n_; have n_ := zpS (Kd.R_below HX.out hb); clear HX; have HX := n_; clear n_; have n_ := zpS (Kd.S_below HS.out hb); clear HS; have HS := n_; clear n_; have n_ := zpS (zkR HB0.out hb); clear HB0; have HB0 := n_; clear n_; (try (have n_ := zpS (Kd.C_below HCC.out hb); clear HCC; have HCC := n_; clear n_)); clear hb)
         | (go_at_call 35; (with_reducible refine (zlA.calls k _ _ x _ _ lst false _ ?s1 ?s2 ?s3 ?s4 V2.out).mono ?_); (case s1 => exact (Kd.R_reads' HX.out).2.2); (case s2 => exact (Kd.R_reads' HX.out).2.1); (case s3 => exact Kd.C_below HTC.out HB0.out); (case s4 => exact HTL.out); rintro e wb ⟨rfl, hd⟩; have hb := hd.below; clear hd; have n_ := zpS (fun q hq => (hb.block q (Nat.lt_of_lt_of_le (HLT.out q hq) HSZ.out)).trans (HKP.out q hq)); clear HKP; have HKP := n_; clear n_; have n_ := zpS (Nat.le_trans HSZ.out hb.size); clear HSZ; have HSZ := n_; clear n_; have n_ := zpS (Kd.R_below HX.out hb); clear HX; have HX := n_; clear n_; have n_ := zpS (Kd.S_below HS.out hb); clear HS; have HS := n_; clear n_; have n_ := zpS (zkR HB0.out hb); clear HB0; have HB0 := n_; clear n_; (try (have n_ := zpS (Kd.C_below HCC.out hb); clear HCC; have HCC := n_; clear n_)); clear hb)
         | (go_at_call 31; (with_reducible refine (zyD.calls k _ _ x cn _ ?s1 ?s2 V3.out).mono ?_); (case s1 => exact (Kd.R_reads' HX.out).2.2); (case s2 => exact (Kd.R_reads' HX.out).2.1); rintro e wc ⟨v0, rfl, ho, hb⟩; obtain ⟨Ac, cc, rfl⟩ := Kd.R_slice ho; have n_ := zpS (fun q hq => (hb.block q (Nat.lt_of_lt_of_le (HLT.out q hq) HSZ.out)).trans (HKP.out q hq)); clear HKP; have HKP := n_; clear n_; have n_ := zpS (Nat.le_trans HSZ.out hb.size); clear HSZ; have HSZ := n_; clear n_; have n_ := zpS (Kd.R_below HX.out hb); clear HX; have HX := n_; clear n_; have n_ := zpS (Kd.S_below HS.out hb); clear HS; have HS := n_; clear n_; have n_ := zpS (zkR HB0.out hb); clear HB0; have HB0 := n_; clear n_; (try (have n_ := zpS (Kd.C_below HCC.out hb); clear HCC; have HCC := n_; clear n_)); have HCC := zpS (Kd.R_reads' ho).2.2; have HCL := zpS (Kd.R_reads' ho).2.1; clear ho hb)
         | (go_at_call 30; (with_reducible refine (zwI.calls k _ _ cn _ _ lst true _ ?s1 ?s2 ?s3 ?s4 V4.out).mono ?_); (case s1 => exact HCC.out); (case s2 => exact HCL.out); (case s3 => exact Kd.C_below HTC.out HB0.out); (case s4 => exact HTL.out); rintro e wd ⟨rfl, hd⟩; have hb := hd.below; clear hd; have n_ := zpS (fun q hq => (hb.block q (Nat.lt_of_lt_of_le (HLT.out q hq) HSZ.out)).trans (HKP.out q hq)); clear HKP; have HKP := n_; clear n_; have n_ := zpS (Nat.le_trans HSZ.out hb.size); clear HSZ; have HSZ := n_; clear n_; have n_ := zpS (Kd.R_below HX.out hb); clear HX; have HX := n_; clear n_; have n_ := zpS (Kd.S_below HS.out hb); clear HS; have HS := n_; clear n_; have n_ := zpS (zkR HB0.out hb); clear HB0; have HB0 := n_; clear n_; (try (have n_ := zpS (Kd.C_below HCC.out hb); clear HCC; have HCC := n_; clear n_)); clear hb)
         | (go_at_call 36; (with_reducible refine (zmD.calls k _ _ x p _ ?s1 ?s2 V5.out).mono ?_); (case s1 => exact (Kd.R_reads' HX.out).2.2); (case s2 => exact (Kd.R_reads' HX.out).2.1); rintro e we ⟨rfl, hd⟩; have hb := hd.below; clear hd; have n_ := zpS (fun q hq => (hb.block q (Nat.lt_of_lt_of_le (HLT.out q hq) HSZ.out)).trans (HKP.out q hq)); clear HKP; have HKP := n_; clear n_; have n_ := zpS (Nat.le_trans HSZ.out hb.size); clear HSZ; have HSZ := n_; clear n_; have n_ := zpS (Kd.R_below HX.out hb); clear HX; have HX := n_; clear n_; have n_ := zpS (Kd.S_below HS.out hb); clear HS; have HS := n_; clear n_; have n_ := zpS (zkR HB0.out hb); clear HB0; have HB0 := n_; clear n_; (try (have n_ := zpS (Kd.C_below HCC.out hb); clear HCC; have HCC := n_; clear n_)); clear hb)
         | (go_at_call 36; (with_reducible refine (zmD.calls k _ _ l p _ ?s1 ?s2 V6.out).mono ?_); (case s1 => exact Kd.C_below HLC.out HB0.out); (case s2 => exact HLL.out); rintro e we ⟨rfl, hd⟩; have hb := hd.below; clear hd; have n_ := zpS (fun q hq => (hb.block q (Nat.lt_of_lt_of_le (HLT.out q hq) HSZ.out)).trans (HKP.out q hq)); clear HKP; have HKP := n_; clear n_; have n_ := zpS (Nat.le_trans HSZ.out hb.size); clear HSZ; have HSZ := n_; clear n_; have n_ := zpS (Kd.R_below HX.out hb); clear HX; have HX := n_; clear n_; have n_ := zpS (Kd.S_below HS.out hb); clear HS; have HS := n_; clear n_; have n_ := zpS (zkR HB0.out hb); clear HB0; have HB0 := n_; clear n_; (try (have n_ := zpS (Kd.C_below HCC.out hb); clear HCC; have HCC := n_; clear n_)); clear hb)
         | (go_at_call 30; (with_reducible refine (zwI.calls k _ _ x _ _ lst t _ ?s1 ?s2 ?s3 ?s4 V7.out).mono ?_); (case s1 => exact (Kd.R_reads' HX.out).2.2); (case s2 => exact (Kd.R_reads' HX.out).2.1); (case s3 => exact Kd.C_below HTC.out HB0.out); (case s4 => exact HTL.out); rintro e wf ⟨rfl, hd⟩; have hb := hd.below; clear hd; have n_ := zpS (fun q hq => (hb.block q (Nat.lt_of_lt_of_le (HLT.out q hq) HSZ.out)).trans (HKP.out q hq)); clear HKP; have HKP := n_; clear n_; have n_ := zpS (Nat.le_trans HSZ.out hb.size); clear HSZ; have HSZ := n_; clear n_; have n_ := zpS (Kd.R_below HX.out hb); clear HX; have HX := n_; clear n_; have n_ := zpS (Kd.S_below HS.out hb); clear HS; have HS := n_; clear n_; have n_ := zpS (zkR HB0.out hb); clear HB0; have HB0 := n_; clear n_; (try (have n_ := zpS (Kd.C_below HCC.out hb); clear HCC; have HCC := n_; clear n_)); clear hb)
         | (go_at_call 37; (with_reducible refine (zfH.calls k _ _ rows _ _ x false _ ?s1 ?s2 ?s3 ?s4 V8.out).mono ?_); (case s1 => exact (Kd.S_reads' HS.out).2.2); (case s2 => exact (Kd.S_reads' HS.out).2.1); (case s3 => exact (Kd.R_reads' HX.out).2.2); (case s4 => exact (Kd.R_reads' HX.out).2.1); rintro e wg ⟨rfl, hd⟩; have hb := hd.below; clear hd; have n_ := zpS (fun q hq => (hb.block q (Nat.lt_of_lt_of_le (HLT.out q hq) HSZ.out)).trans (HKP.out q hq)); clear HKP; have HKP := n_; clear n_; have n_ := zpS (Nat.le_trans HSZ.out hb.size); clear HSZ; have HSZ := n_; clear n_; have n_ := zpS (Kd.R_below HX.out hb); clear HX; have HX := n_; clear n_; have n_ := zpS (Kd.S_below HS.out hb); clear HS; have HS := n_; clear n_; have n_ := zpS (zkR HB0.out hb); clear HB0; have HB0 := n_; clear n_; (try (have n_ := zpS (Kd.C_below HCC.out hb); clear HCC; have HCC := n_; clear n_)); clear hb)
         | ((with_reducible refine zcL (b := .append) (xs := #[.tmp 99, .tmp 101]) rfl ?_); at_builtin; have HOWN := zpS (Kd.S_R HS.out).1; refine Kd.S_append (Kd.slice 2 (Kd.int .i64)) (w0 := W0) W0.heap.size rfl (.tmp 99) (.tmp 101) 23 22 (.slice none 0 0) 24 rfl Try.underlying23 info22 rfl (by decide) (by omega) (.slice Av rows.length cv) rows x [.slice Xa x.length Xc] (fun q => ¬ zxG g2 (Value.slice X1a x1.length X1c).ownBlock (Value.slice X2a x2.length X2c).ownBlock (i + 1) q) (fun q => some q = (Value.slice Xa x.length Xc).ownBlock) rfl rfl ?aP ?aK ?aF ?aO ?aB ?aS ?aL ?_; (case aP => exact Kd.M_row HX.out); (case aK => exact fun q hq => ⟨fun hs => (HP1.out q hs).2 hq, fun e => HOWN.out q e.symm (HP2.out q hq)⟩); (case aF => exact fun q hq hs => Nat.lt_irrefl _ (Nat.lt_of_lt_of_le (HLT.out q (HP1.out q hs).1) (Nat.le_trans HSZ.out hq))); (case aO => exact Kd.S_mono HS.out (fun q hq => ⟨fun hs => hq (HP1.out q hs).1, fun hp => hq (HP2.out q hp)⟩)); (case aB => exact HB0.out); (case aS => exact HB0.out.size); (case aL => have := HRL.out; omega); intro v1 w1 ho hb1 hgr hat; obtain ⟨A1, c1_, rfl⟩ := Kd.S_slice ho; have n1_ := zpS (show ∀ q, zxG g2 (Value.slice X1a x1.length X1c).ownBlock (Value.slice X2a x2.length X2c).ownBlock (i + 1) q → w1.heap[q]? = W1.heap[q]? from fun q hq => (hgr.block q (Nat.lt_of_lt_of_le (HLT.out q (HP1.out q hq).1) HSZ.out) (fun e => HOWN.out q e.symm (HP1.out q hq).1)).trans (HKP.out q (HP1.out q hq).1)); have n2_ := zpS (Nat.le_trans HSZ.out hgr.size); have n3_ := zpS hb1; have n4_ := zpS ho; clear HKP HSZ HB0 HS HX HOWN ho hb1 hgr hat; have HKP := n1_; have HSZ := n2_; have HB0 := n3_; have HS := n4_; clear n1_ n2_ n3_ n4_))
        go_roundg e
        case measure => omega
        case rel => exact ⟨true, rows ++ [x], A1, c1_, i + 1, rfl, (by simp), (by (try rw [wrap64]); go_num), ⟨by have := HK2.out; omega⟩, ⟨HR'.out⟩, HB0, HS, HKP, HSZ⟩
      | true =>
       cases fd with
       | false =>
        go_wp2_with (first
         | (go_at_call 34; (with_reducible refine (zfO.calls k _ _ x true _ ?s1 ?s2 V1.out).mono ?_); (case s1 => exact (Kd.R_reads' HX.out).2.2); (case s2 => exact (Kd.R_reads' HX.out).2.1); rintro e wa ⟨rfl, hd⟩; have hb := hd.below; clear hd; have n_ := zpS (fun q hq => (hb.block q (Nat.lt_of_lt_of_le (HLT.out q hq) HSZ.out)).trans (HKP.out q hq)); clear HKP; have HKP := n_; clear n_; have n_ := zpS (Nat.le_trans HSZ.out hb.size); clear HSZ; have HSZ := n_; clear n_; have n_ := zpS (Kd.R_below HX.out hb); clear HX; have HX := n_; clear n_; have n_ := zpS (Kd.S_below HS.out hb); clear HS; have HS := n_; clear n_; have n_ := zpS (zkR HB0.out hb); clear HB0; have HB0 := n_; clear n_; (try (have n_ := zpS (Kd.C_below HCC.out hb); clear HCC; have HCC := n_; clear n_)); clear hb)
         | (go_at_call 35; (with_reducible refine (zlA.calls k _ _ x _ _ lst false _ ?s1 ?s2 ?s3 ?s4 V2.out).mono ?_); (case s1 => exact (Kd.R_reads' HX.out).2.2); (case s2 => exact (Kd.R_reads' HX.out).2.1); (case s3 => exact Kd.C_below HTC.out HB0.out); (case s4 => exact HTL.out); rintro e wb ⟨rfl, hd⟩; have hb := hd.below; clear hd; have n_ := zpS (fun q hq => (hb.block q (Nat.lt_of_lt_of_le (HLT.out q hq) HSZ.out)).trans (HKP.out q hq)); clear HKP; have HKP := n_; clear n_; have n_ := zpS (Nat.le_trans HSZ.out hb.size); clear HSZ; have HSZ := n_; clear n_; have n_ := zpS (Kd.R_below HX.out hb); clear HX; have HX := n_; clear n_; have n_ := zpS (Kd.S_below HS.out hb); clear HS; have HS := n_; clear n_; have n_ := zpS (zkR HB0.out hb); clear HB0; have HB0 := n_; clear n_; (try (have n_ := zpS (Kd.C_below HCC.out hb); clear HCC; have HCC := n_; clear n_)); clear hb)
         | (go_at_call 31; (with_reducible refine (zyD.calls k _ _ x cn _ ?s1 ?s2 V3.out).mono ?_); (case s1 => exact (Kd.R_reads' HX.out).2.2); (case s2 => exact (Kd.R_reads' HX.out).2.1); rintro e wc ⟨v0, rfl, ho, hb⟩; obtain ⟨Ac, cc, rfl⟩ := Kd.R_slice ho; have n_ := zpS (fun q hq => (hb.block q (Nat.lt_of_lt_of_le (HLT.out q hq) HSZ.out)).trans (HKP.out q hq)); clear HKP; have HKP := n_; clear n_; have n_ := zpS (Nat.le_trans HSZ.out hb.size); clear HSZ; have HSZ := n_; clear n_; have n_ := zpS (Kd.R_below HX.out hb); clear HX; have HX := n_; clear n_; have n_ := zpS (Kd.S_below HS.out hb); clear HS; have HS := n_; clear n_; have n_ := zpS (zkR HB0.out hb); clear HB0; have HB0 := n_; clear n_; (try (have n_ := zpS (Kd.C_below HCC.out hb); clear HCC; have HCC := n_; clear n_)); have HCC := zpS (Kd.R_reads' ho).2.2; have HCL := zpS (Kd.R_reads' ho).2.1; clear ho hb)
         | (go_at_call 30; (with_reducible refine (zwI.calls k _ _ cn _ _ lst true _ ?s1 ?s2 ?s3 ?s4 V4.out).mono ?_); (case s1 => exact HCC.out); (case s2 => exact HCL.out); (case s3 => exact Kd.C_below HTC.out HB0.out); (case s4 => exact HTL.out); rintro e wd ⟨rfl, hd⟩; have hb := hd.below; clear hd; have n_ := zpS (fun q hq => (hb.block q (Nat.lt_of_lt_of_le (HLT.out q hq) HSZ.out)).trans (HKP.out q hq)); clear HKP; have HKP := n_; clear n_; have n_ := zpS (Nat.le_trans HSZ.out hb.size); clear HSZ; have HSZ := n_; clear n_; have n_ := zpS (Kd.R_below HX.out hb); clear HX; have HX := n_; clear n_; have n_ := zpS (Kd.S_below HS.out hb); clear HS; have HS := n_; clear n_; have n_ := zpS (zkR HB0.out hb); clear HB0; have HB0 := n_; clear n_; (try (have n_ := zpS (Kd.C_below HCC.out hb); clear HCC; have HCC := n_; clear n_)); clear hb)
         | (go_at_call 36; (with_reducible refine (zmD.calls k _ _ x p _ ?s1 ?s2 V5.out).mono ?_); (case s1 => exact (Kd.R_reads' HX.out).2.2); (case s2 => exact (Kd.R_reads' HX.out).2.1); rintro e we ⟨rfl, hd⟩; have hb := hd.below; clear hd; have n_ := zpS (fun q hq => (hb.block q (Nat.lt_of_lt_of_le (HLT.out q hq) HSZ.out)).trans (HKP.out q hq)); clear HKP; have HKP := n_; clear n_; have n_ := zpS (Nat.le_trans HSZ.out hb.size); clear HSZ; have HSZ := n_; clear n_; have n_ := zpS (Kd.R_below HX.out hb); clear HX; have HX := n_; clear n_; have n_ := zpS (Kd.S_below HS.out hb); clear HS; have HS := n_; clear n_; have n_ := zpS (zkR HB0.out hb); clear HB0; have HB0 := n_; clear n_; (try (have n_ := zpS (Kd.C_below HCC.out hb); clear HCC; have HCC := n_; clear n_)); clear hb)
         | (go_at_call 36; (with_reducible refine (zmD.calls k _ _ l p _ ?s1 ?s2 V6.out).mono ?_); (case s1 => exact Kd.C_below HLC.out HB0.out); (case s2 => exact HLL.out); rintro e we ⟨rfl, hd⟩; have hb := hd.below; clear hd; have n_ := zpS (fun q hq => (hb.block q (Nat.lt_of_lt_of_le (HLT.out q hq) HSZ.out)).trans (HKP.out q hq)); clear HKP; have HKP := n_; clear n_; have n_ := zpS (Nat.le_trans HSZ.out hb.size); clear HSZ; have HSZ := n_; clear n_; have n_ := zpS (Kd.R_below HX.out hb); clear HX; have HX := n_; clear n_; have n_ := zpS (Kd.S_below HS.out hb); clear HS; have HS := n_; clear n_; have n_ := zpS (zkR HB0.out hb); clear HB0; have HB0 := n_; clear n_; (try (have n_ := zpS (Kd.C_below HCC.out hb); clear HCC; have HCC := n_; clear n_)); clear hb)
         | (go_at_call 30; (with_reducible refine (zwI.calls k _ _ x _ _ lst t _ ?s1 ?s2 ?s3 ?s4 V7.out).mono ?_); (case s1 => exact (Kd.R_reads' HX.out).2.2); (case s2 => exact (Kd.R_reads' HX.out).2.1); (case s3 => exact Kd.C_below HTC.out HB0.out); (case s4 => exact HTL.out); rintro e wf ⟨rfl, hd⟩; have hb := hd.below; clear hd; have n_ := zpS (fun q hq => (hb.block q (Nat.lt_of_lt_of_le (HLT.out q hq) HSZ.out)).trans (HKP.out q hq)); clear HKP; have HKP := n_; clear n_; have n_ := zpS (Nat.le_trans HSZ.out hb.size); clear HSZ; have HSZ := n_; clear n_; have n_ := zpS (Kd.R_below HX.out hb); clear HX; have HX := n_; clear n_; have n_ := zpS (Kd.S_below HS.out hb); clear HS; have HS := n_; clear n_; have n_ := zpS (zkR HB0.out hb); clear HB0; have HB0 := n_; clear n_; (try (have n_ := zpS (Kd.C_below HCC.out hb); clear HCC; have HCC := n_; clear n_)); clear hb)
         | (go_at_call 37; (with_reducible refine (zfH.calls k _ _ rows _ _ x true _ ?s1 ?s2 ?s3 ?s4 V8.out).mono ?_); (case s1 => exact (Kd.S_reads' HS.out).2.2); (case s2 => exact (Kd.S_reads' HS.out).2.1); (case s3 => exact (Kd.R_reads' HX.out).2.2); (case s4 => exact (Kd.R_reads' HX.out).2.1); rintro e wg ⟨rfl, hd⟩; have hb := hd.below; clear hd; have n_ := zpS (fun q hq => (hb.block q (Nat.lt_of_lt_of_le (HLT.out q hq) HSZ.out)).trans (HKP.out q hq)); clear HKP; have HKP := n_; clear n_; have n_ := zpS (Nat.le_trans HSZ.out hb.size); clear HSZ; have HSZ := n_; clear n_; have n_ := zpS (Kd.R_below HX.out hb); clear HX; have HX := n_; clear n_; have n_ := zpS (Kd.S_below HS.out hb); clear HS; have HS := n_; clear n_; have n_ := zpS (zkR HB0.out hb); clear HB0; have HB0 := n_; clear n_; (try (have n_ := zpS (Kd.C_below HCC.out hb); clear HCC; have HCC := n_; clear n_)); clear hb))
        go_roundg e
        case measure => omega
        case rel => exact ⟨t, rows, Av, cv, i + 1, rfl, (by simp), (by (try rw [wrap64]); go_num), ⟨by have := HK2.out; omega⟩, ⟨HR'.out⟩, HB0, ⟨Kd.S_mono HS.out (fun q hq hs => hq (HP1.out q hs).1)⟩, ⟨fun q hq => HKP.out q (HP1.out q hq).1⟩, HSZ⟩
       | true =>
        go_wp2_with (first
         | (go_at_call 34; (with_reducible refine (zfO.calls k _ _ x true _ ?s1 ?s2 V1.out).mono ?_); (case s1 => exact (Kd.R_reads' HX.out).2.2); (case s2 => exact (Kd.R_reads' HX.out).2.1); rintro e wa ⟨rfl, hd⟩; have hb := hd.below; clear hd; have n_ := zpS (fun q hq => (hb.block q (Nat.lt_of_lt_of_le (HLT.out q hq) HSZ.out)).trans (HKP.out q hq)); clear HKP; have HKP := n_; clear n_; have n_ := zpS (Nat.le_trans HSZ.out hb.size); clear HSZ; have HSZ := n_; clear n_; have n_ := zpS (Kd.R_below HX.out hb); clear HX; have HX := n_; clear n_; have n_ := zpS (Kd.S_below HS.out hb); clear HS; have HS := n_; clear n_; have n_ := zpS (zkR HB0.out hb); clear HB0; have HB0 := n_; clear n_; (try (have n_ := zpS (Kd.C_below HCC.out hb); clear HCC; have HCC := n_; clear n_)); clear hb)
         | (go_at_call 35; (with_reducible refine (zlA.calls k _ _ x _ _ lst false _ ?s1 ?s2 ?s3 ?s4 V2.out).mono ?_); (case s1 => exact (Kd.R_reads' HX.out).2.2); (case s2 => exact (Kd.R_reads' HX.out).2.1); (case s3 => exact Kd.C_below HTC.out HB0.out); (case s4 => exact HTL.out); rintro e wb ⟨rfl, hd⟩; have hb := hd.below; clear hd; have n_ := zpS (fun q hq => (hb.block q (Nat.lt_of_lt_of_le (HLT.out q hq) HSZ.out)).trans (HKP.out q hq)); clear HKP; have HKP := n_; clear n_; have n_ := zpS (Nat.le_trans HSZ.out hb.size); clear HSZ; have HSZ := n_; clear n_; have n_ := zpS (Kd.R_below HX.out hb); clear HX; have HX := n_; clear n_; have n_ := zpS (Kd.S_below HS.out hb); clear HS; have HS := n_; clear n_; have n_ := zpS (zkR HB0.out hb); clear HB0; have HB0 := n_; clear n_; (try (have n_ := zpS (Kd.C_below HCC.out hb); clear HCC; have HCC := n_; clear n_)); clear hb)
         | (go_at_call 31; (with_reducible refine (zyD.calls k _ _ x cn _ ?s1 ?s2 V3.out).mono ?_); (case s1 => exact (Kd.R_reads' HX.out).2.2); (case s2 => exact (Kd.R_reads' HX.out).2.1); rintro e wc ⟨v0, rfl, ho, hb⟩; obtain ⟨Ac, cc, rfl⟩ := Kd.R_slice ho; have n_ := zpS (fun q hq => (hb.block q (Nat.lt_of_lt_of_le (HLT.out q hq) HSZ.out)).trans (HKP.out q hq)); clear HKP; have HKP := n_; clear n_; have n_ := zpS (Nat.le_trans HSZ.out hb.size); clear HSZ; have HSZ := n_; clear n_; have n_ := zpS (Kd.R_below HX.out hb); clear HX; have HX := n_; clear n_; have n_ := zpS (Kd.S_below HS.out hb); clear HS; have HS := n_; clear n_; have n_ := zpS (zkR HB0.out hb); clear HB0; have HB0 := n_; clear n_; (try (have n_ := zpS (Kd.C_below HCC.out hb); clear HCC; have HCC := n_; clear n_)); have HCC := zpS (Kd.R_reads' ho).2.2; have HCL := zpS (Kd.R_reads' ho).2.1; clear ho hb)
         | (go_at_call 30; (with_reducible refine (zwI.calls k _ _ cn _ _ lst true _ ?s1 ?s2 ?s3 ?s4 V4.out).mono ?_); (case s1 => exact HCC.out); (case s2 => exact HCL.out); (case s3 => exact Kd.C_below HTC.out HB0.out); (case s4 => exact HTL.out); rintro e wd ⟨rfl, hd⟩; have hb := hd.below; clear hd; have n_ := zpS (fun q hq => (hb.block q (Nat.lt_of_lt_of_le (HLT.out q hq) HSZ.out)).trans (HKP.out q hq)); clear HKP; have HKP := n_; clear n_; have n_ := zpS (Nat.le_trans HSZ.out hb.size); clear HSZ; have HSZ := n_; clear n_; have n_ := zpS (Kd.R_below HX.out hb); clear HX; have HX := n_; clear n_; have n_ := zpS (Kd.S_below HS.out hb); clear HS; have HS := n_; clear n_; have n_ := zpS (zkR HB0.out hb); clear HB0; have HB0 := n_; clear n_; (try (have n_ := zpS (Kd.C_below HCC.out hb); clear HCC; have HCC := n_; clear n_)); clear hb)
         | (go_at_call 36; (with_reducible refine (zmD.calls k _ _ x p _ ?s1 ?s2 V5.out).mono ?_); (case s1 => exact (Kd.R_reads' HX.out).2.2); (case s2 => exact (Kd.R_reads' HX.out).2.1); rintro e we ⟨rfl, hd⟩; have hb := hd.below; clear hd; have n_ := zpS (fun q hq => (hb.block q (Nat.lt_of_lt_of_le (HLT.out q hq) HSZ.out)).trans (HKP.out q hq)); clear HKP; have HKP := n_; clear n_; have n_ := zpS (Nat.le_trans HSZ.out hb.size); clear HSZ; have HSZ := n_; clear n_; have n_ := zpS (Kd.R_below HX.out hb); clear HX; have HX := n_; clear n_; have n_ := zpS (Kd.S_below HS.out hb); clear HS; have HS := n_; clear n_; have n_ := zpS (zkR HB0.out hb); clear HB0; have HB0 := n_; clear n_; (try (have n_ := zpS (Kd.C_below HCC.out hb); clear HCC; have HCC := n_; clear n_)); clear hb)
         | (go_at_call 36; (with_reducible refine (zmD.calls k _ _ l p _ ?s1 ?s2 V6.out).mono ?_); (case s1 => exact Kd.C_below HLC.out HB0.out); (case s2 => exact HLL.out); rintro e we ⟨rfl, hd⟩; have hb := hd.below; clear hd; have n_ := zpS (fun q hq => (hb.block q (Nat.lt_of_lt_of_le (HLT.out q hq) HSZ.out)).trans (HKP.out q hq)); clear HKP; have HKP := n_; clear n_; have n_ := zpS (Nat.le_trans HSZ.out hb.size); clear HSZ; have HSZ := n_; clear n_; have n_ := zpS (Kd.R_below HX.out hb); clear HX; have HX := n_; clear n_; have n_ := zpS (Kd.S_below HS.out hb); clear HS; have HS := n_; clear n_; have n_ := zpS (zkR HB0.out hb); clear HB0; have HB0 := n_; clear n_; (try (have n_ := zpS (Kd.C_below HCC.out hb); clear HCC; have HCC := n_; clear n_)); clear hb)
         | (go_at_call 30; (with_reducible refine (zwI.calls k _ _ x _ _ lst t _ ?s1 ?s2 ?s3 ?s4 V7.out).mono ?_); (case s1 => exact (Kd.R_reads' HX.out).2.2); (case s2 => exact (Kd.R_reads' HX.out).2.1); (case s3 => exact Kd.C_below HTC.out HB0.out); (case s4 => exact HTL.out); rintro e wf ⟨rfl, hd⟩; have hb := hd.below; clear hd; have n_ := zpS (fun q hq => (hb.block q (Nat.lt_of_lt_of_le (HLT.out q hq) HSZ.out)).trans (HKP.out q hq)); clear HKP; have HKP := n_; clear n_; have n_ := zpS (Nat.le_trans HSZ.out hb.size); clear HSZ; have HSZ := n_; clear n_; have n_ := zpS (Kd.R_below HX.out hb); clear HX; have HX := n_; clear n_; have n_ := zpS (Kd.S_below HS.out hb); clear HS; have HS := n_; clear n_; have n_ := zpS (zkR HB0.out hb); clear HB0; have HB0 := n_; clear n_; (try (have n_ := zpS (Kd.C_below HCC.out hb); clear HCC; have HCC := n_; clear n_)); clear hb)
         | (go_at_call 37; (with_reducible refine (zfH.calls k _ _ rows _ _ x true _ ?s1 ?s2 ?s3 ?s4 V8.out).mono ?_); (case s1 => exact (Kd.S_reads' HS.out).2.2); (case s2 => exact (Kd.S_reads' HS.out).2.1); (case s3 => exact (Kd.R_reads' HX.out).2.2); (case s4 => exact (Kd.R_reads' HX.out).2.1); rintro e wg ⟨rfl, hd⟩; have hb := hd.below; clear hd; have n_ := zpS (fun q hq => (hb.block q (Nat.lt_of_lt_of_le (HLT.out q hq) HSZ.out)).trans (HKP.out q hq)); clear HKP; have HKP := n_; clear n_; have n_ := zpS (Nat.le_trans HSZ.out hb.size); clear HSZ; have HSZ := n_; clear n_; have n_ := zpS (Kd.R_below HX.out hb); clear HX; have HX := n_; clear n_; have n_ := zpS (Kd.S_below HS.out hb); clear HS; have HS := n_; clear n_; have n_ := zpS (zkR HB0.out hb); clear HB0; have HB0 := n_; clear n_; (try (have n_ := zpS (Kd.C_below HCC.out hb); clear HCC; have HCC := n_; clear n_)); clear hb))
        go_roundg e
        case measure => omega
        case rel => exact ⟨true, rows, Av, cv, i + 1, rfl, (by simp), (by (try rw [wrap64]); go_num), ⟨by have := HK2.out; omega⟩, ⟨HR'.out⟩, HB0, ⟨Kd.S_mono HS.out (fun q hq hs => hq (HP1.out q hs).1)⟩, ⟨fun q hq => HKP.out q (HP1.out q hq).1⟩, HSZ⟩

def laws_FnAngles.Pure : Prop := ∀ (l0 : List Int), (l0.length ≤ maxLen ∧ ∀ x_ ∈ l0, (Lit.int .u8 x_).wf = true) → ∃ k, laws_FnAngles.f k l0 = some true

end Go.Proofs.Ytbpkbllokmplnaa.PFnAngles
