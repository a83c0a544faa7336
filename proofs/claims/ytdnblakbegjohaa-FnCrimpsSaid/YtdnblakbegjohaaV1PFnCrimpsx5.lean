-- Printed for this claim by this session's program pp.py, which drives the kit's print with additions. Not trusted: Lean checks it.
import Derived.Test.YtdnblakbegjohaaV1PFnCrimpsx0
import Derived.Test.YtdnblakbegjohaaV1PFnCrimpsx1
import Derived.Test.YtdnblakbegjohaaV1PFnCrimpsx2
import Derived.Test.YtdnblakbegjohaaV1PFnCrimpsx4
namespace Go.Proofs.Ytdnblakbegjohaa.PFnCrimps
open Go.RowKit Go.Proofs.YtdnblakbegjohaaW.PrintWords Go.Proofs.YtdnblakbegjohaaW.PrintLast Go.Proofs.YtdnblakbegjohaaW.PrintMore
attribute [local go_sem] max2_int min2_int max_two min_two znE zuB max_four min_four   -- for this text's walks alone
set_option linter.unusedVariables false
set_option linter.unusedSimpArgs false

def zjC.l0 : Nat → List Int → List Int → Option (Bool)
 | 0, _, _ => none
 | k + 1, x0, x1 => (zgL.f k x0 x1).bind fun bt262 => (if bt262.2.2 = 6 then ((ziN.f k x1).bind fun t269 => (if t269 = 2 then (some true) else (some (t269 == (-2))))) else (if bt262.2.2 = 0 then (zjC.l0 k bt262.1 bt262.2.1) else (some false)))
def zjC.f (k : Nat) (l0 : List Int) (l1 : List Int) : Option (Bool) := zjC.l0 k l0 l1
theorem zjC.mono_l : ∀ k, (∀ y0 y1, LeO (zjC.l0 k y0 y1) (zjC.l0 (k + 1) y0 y1))
 | 0 => fun _ _ r h => by simp [zjC.l0] at h
 | k + 1 => by
  have ih0 := zjC.mono_l k
  ·intro y0 y1
   unfold zjC.l0
   repeat' first
   | (with_reducible exact ih0 _ _)
   | (with_reducible exact zgL.mono _ _ _)
   | (with_reducible exact ziN.mono _ _)
   | (with_reducible exact LeO.refl _)
   | (with_reducible exact LeO.none _)
   | (with_reducible refine LeO.ite ?_ ?_)
   | (with_reducible refine LeO.bind ?_ (fun _ => ?_))
   | exact ih0 _ _
   | exact zgL.mono _ _ _
   | exact ziN.mono _ _
   | exact LeO.none _
   | refine LeO.ite ?_ ?_
   | refine LeO.bind ?_ (fun _ => ?_)
theorem zjC.mono : ∀ a0 a1 k, LeO (zjC.f k a0 a1) (zjC.f (k + 1) a0 a1) := by
 intro a0 a1 k
 have ih0 := zjC.mono_l k
 unfold zjC.f
 repeat' first
   | (with_reducible exact ih0 _ _)
   | (with_reducible exact zgL.mono _ _ _)
   | (with_reducible exact ziN.mono _ _)
   | (with_reducible exact LeO.refl _)
   | (with_reducible exact LeO.none _)
   | (with_reducible refine LeO.ite ?_ ?_)
   | (with_reducible refine LeO.bind ?_ (fun _ => ?_))
   | exact ih0 _ _
   | exact zgL.mono _ _ _
   | exact ziN.mono _ _
   | exact LeO.none _
   | refine LeO.ite ?_ ?_
   | refine LeO.bind ?_ (fun _ => ?_)
set_option maxHeartbeats 8000000 in
set_option maxRecDepth 100000 in
theorem zjC.calls (k : Nat) (P0_ : Nat → Prop) (A0 : Option Addr) (c0 : Nat) (l0 : List Int) (P1_ : Nat → Prop) (A1 : Option Addr) (c1 : Nat) (l1 : List Int) (r : Bool) (w : World) (hs0 : Kd.V (Kd.int .i64) 2 w w.heap.size (fun k_ => P0_ k_) (.slice A0 l0.length c0) l0) (hs1 : Kd.V (Kd.int .i64) 2 w w.heap.size (fun k_ => P1_ k_) (.slice A1 l1.length c1) l1) (h : zjC.f k l0 l1 = some r) :
  Calls Try.prog 28 #[.slice A0 l0.length c0, .slice A1 l1.length c1] w fun e w' => e = .returned (.bool r) ∧ Below w.heap.size w w' := by
 have HO0 := zpS (show Kd.V (Kd.int .i64) 2 w w.heap.size (fun k_ => ((P0_ k_ ∨ P1_ k_) ∨ w.heap.size ≤ k_)) (.slice A0 l0.length c0) l0 from Kd.V_mono hs0 (fun k_ hk => .inl (.inl hk)))
 have HO1 := zpS (show Kd.V (Kd.int .i64) 2 w w.heap.size (fun k_ => ((P0_ k_ ∨ P1_ k_) ∨ w.heap.size ≤ k_)) (.slice A1 l1.length c1) l1 from Kd.V_mono hs1 (fun k_ hk => .inl (.inr hk)))
 have HB := zpS (Below.refl w.heap.size w)
 have H : (zjC.l0 k l0 l1) = some r := h
 clear h
 have H' := zpS H
 clear H
 go_enter Try.func28, Try.ntmps28
 go_wp2
 (try go_simp)
 go_loopg [0, 1] k (fun kq v0 v1 w' => ∃ (x0_1 : List Int) (x1_1 : List Int), Aside0 (zjC.l0 kq x0_1 x1_1 = some r) ∧ Aside0 (kq ≤ k) ∧ Aside0 (Kd.V (Kd.int .i64) 2 w' w.heap.size (fun k_ => ((P0_ k_ ∨ P1_ k_) ∨ w.heap.size ≤ k_)) v0 x0_1) ∧ Aside0 (Kd.V (Kd.int .i64) 2 w' w.heap.size (fun k_ => ((P0_ k_ ∨ P1_ k_) ∨ w.heap.size ≤ k_)) v1 x1_1) ∧ Aside0 (Below w.heap.size w w'))
 case atStart => exact ⟨(l0), (l1), H', ⟨Nat.le_refl _⟩, ⟨by (with_reducible repeat (first | apply Kd.V_alloc | apply Kd.V_drewN | apply Kd.V_drew)); exact HO0.out⟩, ⟨by (with_reducible repeat (first | apply Kd.V_alloc | apply Kd.V_drewN | apply Kd.V_drew)); exact HO1.out⟩, ⟨bb_⟩⟩
 case round =>
  clear H'
  try clear c1
  try clear c2
  try clear p2
  obtain ⟨x0_1, x1_1, HA, HK1, HO_0, HO_1, HB⟩ := hrel
  cases gk with
  | zero => exact absurd HA.out (by simp [zjC.l0])
  | succ k1 =>
   have H := HA.out
   clear HA
   simp only [zjC.l0] at H
   replace H := Option.bind_eq_some_iff.mp H
   obtain ⟨⟨t262, t263, t264⟩, A30, H⟩ := H
   replace H : (if t264 = 6 then ((ziN.f k1 x1_1).bind fun t269 => (if t269 = 2 then (some true) else (some (t269 == (-2))))) else (if t264 = 0 then (zjC.l0 k1 t262 t263) else (some false))) = some r := H
   have A3 := zpS A30
   clear A30
   by_cases c4 : t264 = 6
   ·rw [if_pos c4] at H
    have c4b0 : (t264 == 6) = true := beq_iff_eq.mpr c4
    have c4b1 : (t264 != 6) = false := bne_eq_false_iff_eq.mpr c4
    clear c4
    replace H := Option.bind_eq_some_iff.mp H
    obtain ⟨t269, A50, H⟩ := H
    replace H : (if t269 = 2 then (some true) else (some (t269 == (-2)))) = some r := H
    have A5 := zpS A50
    clear A50
    by_cases c6 : t269 = 2
    ·rw [if_pos c6] at H
     have c6b0 : (t269 == 2) = true := beq_iff_eq.mpr c6
     have c6b1 : (t269 != 2) = false := bne_eq_false_iff_eq.mpr c6
     clear c6
     obtain rfl := Option.some.inj H
     obtain ⟨Ao7, co7, eo7⟩ := Kd.V_slice HO_0.out
     subst eo7
     obtain ⟨Ao8, co8, eo8⟩ := Kd.V_slice HO_1.out
     subst eo8
     go_wp2_with (first | ((with_reducible refine zgM (f := 40) rfl ?_); refine zqQ (some 12) rfl rfl Try.func40 (by kernel_rfl) rfl #[.slice Ao7 x0_1.length co7, .slice Ao8 x1_1.length co8] rfl (by (try simp only [List.map_toArray, List.map_cons, List.map_nil]); first | done | rfl | (simp only [List.length_drop, List.length_take]; rfl)) ?_; (with_reducible refine (zgL.calls k1 _ _ x0_1 _ _ x1_1 t262 t263 t264 _ ?side1 ?side2 ?side3 ?side4 A3.out).mono ?_); (case side1 => repeat (first | exact (Kd.V_reads' HO_0.out).2.2 | (with_reducible refine Kd.C_alloc ?_ _) | (with_reducible refine Kd.C_drewN ?_ _) | (with_reducible refine Kd.C_drew ?_))); (case side2 => exact (Kd.V_reads' HO_0.out).2.1); (case side3 => repeat (first | exact (Kd.V_reads' HO_1.out).2.2 | (with_reducible refine Kd.C_alloc ?_ _) | (with_reducible refine Kd.C_drewN ?_ _) | (with_reducible refine Kd.C_drew ?_))); (case side4 => exact (Kd.V_reads' HO_1.out).2.1); rintro e w9 ⟨v265, v267, rfl, ho0, ho1, hb⟩; refine ⟨_, rfl, ?_⟩; have n0_ := zpS (Kd.V_mono (Kd.V_told (Kd.V_told (Kd.V_old (by (with_reducible repeat (first | apply Kd.V_alloc | apply Kd.V_drewN | apply Kd.V_drew)); exact HO_0.out) hb) (Kd.R_base ho0)) (Kd.R_base ho1)) (fun _ h_ => h_.1)); have n1_ := zpS (Kd.V_mono (Kd.V_told (Kd.V_told (Kd.V_old (by (with_reducible repeat (first | apply Kd.V_alloc | apply Kd.V_drewN | apply Kd.V_drew)); exact HO_1.out) hb) (Kd.R_base ho0)) (Kd.R_base ho1)) (fun _ h_ => h_.1)); have n2_ := zpS (Kd.R_lower (Kd.R_newM (M := fun k_ => (w.heap.size ≤ k_)) ho0 (zuA bb_) (fun k_ h_ => h_)) (zuA bb_)); have n3_ := zpS (Kd.R_lower (Kd.R_newM (M := fun k_ => (w.heap.size ≤ k_)) ho1 (zuA bb_) (fun k_ h_ => h_)) (zuA bb_)); have n4_ := (ns_ hb); clear HO_0; clear HO_1; clear HB; have HO_0 := n0_; have HO_1 := n1_; have HO266 := n2_; have HO268 := n3_; have HB := n4_; clear n0_ n1_ n2_ n3_ n4_; (try clear hb); (try clear hb2); (try clear ho0); (try clear ho1)) | ((with_reducible refine zgM (f := 41) rfl ?_); refine zqQ (some 19) rfl rfl Try.func41 (by kernel_rfl) rfl #[.slice Ao8 x1_1.length co8] rfl (by (try simp only [List.map_toArray, List.map_cons, List.map_nil]); first | done | rfl | (simp only [List.length_drop, List.length_take]; rfl)) ?_; (with_reducible refine (ziN.calls k1 _ _ x1_1 t269 _ ?side1 ?side2 A5.out).mono ?_); (case side1 => repeat (first | exact (Kd.V_reads' HO_1.out).2.2 | (with_reducible refine Kd.C_alloc ?_ _) | (with_reducible refine Kd.C_drewN ?_ _) | (with_reducible refine Kd.C_drew ?_))); (case side2 => exact (Kd.V_reads' HO_1.out).2.1); rintro e w' ⟨rfl, ⟨nd, rfl⟩⟩; refine ⟨_, rfl, ?_⟩))
     go_ret
     exact ⟨by first | rfl | (simp [ziS, znJ] <;> rfl) | (simp [*, ziS, znJ] <;> rfl), bb_⟩
    ·rw [if_neg c6] at H
     have c6b0 : (t269 == 2) = false := beq_eq_false_iff_ne.mpr c6
     have c6b1 : (t269 != 2) = true := bne_iff_ne.mpr c6
     obtain rfl := Option.some.inj H
     obtain ⟨Ao10, co10, eo10⟩ := Kd.V_slice HO_0.out
     subst eo10
     obtain ⟨Ao11, co11, eo11⟩ := Kd.V_slice HO_1.out
     subst eo11
     go_wp2_with (first | ((with_reducible refine zgM (f := 40) rfl ?_); refine zqQ (some 12) rfl rfl Try.func40 (by kernel_rfl) rfl #[.slice Ao10 x0_1.length co10, .slice Ao11 x1_1.length co11] rfl (by (try simp only [List.map_toArray, List.map_cons, List.map_nil]); first | done | rfl | (simp only [List.length_drop, List.length_take]; rfl)) ?_; (with_reducible refine (zgL.calls k1 _ _ x0_1 _ _ x1_1 t262 t263 t264 _ ?side1 ?side2 ?side3 ?side4 A3.out).mono ?_); (case side1 => repeat (first | exact (Kd.V_reads' HO_0.out).2.2 | (with_reducible refine Kd.C_alloc ?_ _) | (with_reducible refine Kd.C_drewN ?_ _) | (with_reducible refine Kd.C_drew ?_))); (case side2 => exact (Kd.V_reads' HO_0.out).2.1); (case side3 => repeat (first | exact (Kd.V_reads' HO_1.out).2.2 | (with_reducible refine Kd.C_alloc ?_ _) | (with_reducible refine Kd.C_drewN ?_ _) | (with_reducible refine Kd.C_drew ?_))); (case side4 => exact (Kd.V_reads' HO_1.out).2.1); rintro e w12 ⟨v265, v267, rfl, ho0, ho1, hb⟩; refine ⟨_, rfl, ?_⟩; have n0_ := zpS (Kd.V_mono (Kd.V_told (Kd.V_told (Kd.V_old (by (with_reducible repeat (first | apply Kd.V_alloc | apply Kd.V_drewN | apply Kd.V_drew)); exact HO_0.out) hb) (Kd.R_base ho0)) (Kd.R_base ho1)) (fun _ h_ => h_.1)); have n1_ := zpS (Kd.V_mono (Kd.V_told (Kd.V_told (Kd.V_old (by (with_reducible repeat (first | apply Kd.V_alloc | apply Kd.V_drewN | apply Kd.V_drew)); exact HO_1.out) hb) (Kd.R_base ho0)) (Kd.R_base ho1)) (fun _ h_ => h_.1)); have n2_ := zpS (Kd.R_lower (Kd.R_newM (M := fun k_ => (w.heap.size ≤ k_)) ho0 (zuA bb_) (fun k_ h_ => h_)) (zuA bb_)); have n3_ := zpS (Kd.R_lower (Kd.R_newM (M := fun k_ => (w.heap.size ≤ k_)) ho1 (zuA bb_) (fun k_ h_ => h_)) (zuA bb_)); have n4_ := (ns_ hb); clear HO_0; clear HO_1; clear HB; have HO_0 := n0_; have HO_1 := n1_; have HO266 := n2_; have HO268 := n3_; have HB := n4_; clear n0_ n1_ n2_ n3_ n4_; (try clear hb); (try clear hb2); (try clear ho0); (try clear ho1)) | ((with_reducible refine zgM (f := 41) rfl ?_); refine zqQ (some 19) rfl rfl Try.func41 (by kernel_rfl) rfl #[.slice Ao11 x1_1.length co11] rfl (by (try simp only [List.map_toArray, List.map_cons, List.map_nil]); first | done | rfl | (simp only [List.length_drop, List.length_take]; rfl)) ?_; (with_reducible refine (ziN.calls k1 _ _ x1_1 t269 _ ?side1 ?side2 A5.out).mono ?_); (case side1 => repeat (first | exact (Kd.V_reads' HO_1.out).2.2 | (with_reducible refine Kd.C_alloc ?_ _) | (with_reducible refine Kd.C_drewN ?_ _) | (with_reducible refine Kd.C_drew ?_))); (case side2 => exact (Kd.V_reads' HO_1.out).2.1); rintro e w' ⟨rfl, ⟨nd, rfl⟩⟩; refine ⟨_, rfl, ?_⟩))
     go_ret
     exact ⟨by first | rfl | (simp [ziS, znJ] <;> rfl) | (simp [*, ziS, znJ] <;> rfl), bb_⟩
   ·rw [if_neg c4] at H
    have c4b0 : (t264 == 6) = false := beq_eq_false_iff_ne.mpr c4
    have c4b1 : (t264 != 6) = true := bne_iff_ne.mpr c4
    by_cases c13 : t264 = 0
    ·rw [if_pos c13] at H
     have c13b0 : (t264 == 0) = true := beq_iff_eq.mpr c13
     have c13b1 : (t264 != 0) = false := bne_eq_false_iff_eq.mpr c13
     clear c13
     have H' := zpS H
     clear H
     obtain ⟨Ao14, co14, eo14⟩ := Kd.V_slice HO_0.out
     subst eo14
     obtain ⟨Ao15, co15, eo15⟩ := Kd.V_slice HO_1.out
     subst eo15
     go_wp2_with (first | ((with_reducible refine zgM (f := 40) rfl ?_); refine zqQ (some 12) rfl rfl Try.func40 (by kernel_rfl) rfl #[.slice Ao14 x0_1.length co14, .slice Ao15 x1_1.length co15] rfl (by (try simp only [List.map_toArray, List.map_cons, List.map_nil]); first | done | rfl | (simp only [List.length_drop, List.length_take]; rfl)) ?_; (with_reducible refine (zgL.calls k1 _ _ x0_1 _ _ x1_1 t262 t263 t264 _ ?side1 ?side2 ?side3 ?side4 A3.out).mono ?_); (case side1 => repeat (first | exact (Kd.V_reads' HO_0.out).2.2 | (with_reducible refine Kd.C_alloc ?_ _) | (with_reducible refine Kd.C_drewN ?_ _) | (with_reducible refine Kd.C_drew ?_))); (case side2 => exact (Kd.V_reads' HO_0.out).2.1); (case side3 => repeat (first | exact (Kd.V_reads' HO_1.out).2.2 | (with_reducible refine Kd.C_alloc ?_ _) | (with_reducible refine Kd.C_drewN ?_ _) | (with_reducible refine Kd.C_drew ?_))); (case side4 => exact (Kd.V_reads' HO_1.out).2.1); rintro e w16 ⟨v265, v267, rfl, ho0, ho1, hb⟩; refine ⟨_, rfl, ?_⟩; have n0_ := zpS (Kd.V_mono (Kd.V_told (Kd.V_told (Kd.V_old (by (with_reducible repeat (first | apply Kd.V_alloc | apply Kd.V_drewN | apply Kd.V_drew)); exact HO_0.out) hb) (Kd.R_base ho0)) (Kd.R_base ho1)) (fun _ h_ => h_.1)); have n1_ := zpS (Kd.V_mono (Kd.V_told (Kd.V_told (Kd.V_old (by (with_reducible repeat (first | apply Kd.V_alloc | apply Kd.V_drewN | apply Kd.V_drew)); exact HO_1.out) hb) (Kd.R_base ho0)) (Kd.R_base ho1)) (fun _ h_ => h_.1)); have n2_ := zpS (Kd.R_lower (Kd.R_newM (M := fun k_ => (w.heap.size ≤ k_)) ho0 (zuA bb_) (fun k_ h_ => h_)) (zuA bb_)); have n3_ := zpS (Kd.R_lower (Kd.R_newM (M := fun k_ => (w.heap.size ≤ k_)) ho1 (zuA bb_) (fun k_ h_ => h_)) (zuA bb_)); have n4_ := (ns_ hb); clear HO_0; clear HO_1; clear HB; have HO_0 := n0_; have HO_1 := n1_; have HO266 := n2_; have HO268 := n3_; have HB := n4_; clear n0_ n1_ n2_ n3_ n4_; (try clear hb); (try clear hb2); (try clear ho0); (try clear ho1)))
     go_roundg k1
     case measure => have := HK1.out; omega
     case rel => exact ⟨(t262), (t263), H', ⟨by have := HK1.out; omega⟩, ⟨Kd.V_mono (Kd.R_V (by (with_reducible repeat (first | apply Kd.R_alloc | apply Kd.R_drewN | apply Kd.R_drew)); exact Kd.R_mono HO266.out (fun _ hk => hk.1))) (fun k_ hk => by first | exact ⟨(.inr (hk.1)), hk.2⟩ | exact (.inr (hk)))⟩, ⟨Kd.V_mono (Kd.R_V (by (with_reducible repeat (first | apply Kd.R_alloc | apply Kd.R_drewN | apply Kd.R_drew)); exact Kd.R_mono HO268.out (fun _ hk => hk.1))) (fun k_ hk => by first | exact ⟨(.inr (hk.1)), hk.2⟩ | exact (.inr (hk)))⟩, ⟨bb_⟩⟩
    ·rw [if_neg c13] at H
     have c13b0 : (t264 == 0) = false := beq_eq_false_iff_ne.mpr c13
     have c13b1 : (t264 != 0) = true := bne_iff_ne.mpr c13
     obtain rfl := Option.some.inj H
     obtain ⟨Ao17, co17, eo17⟩ := Kd.V_slice HO_0.out
     subst eo17
     obtain ⟨Ao18, co18, eo18⟩ := Kd.V_slice HO_1.out
     subst eo18
     go_wp2_with (first | ((with_reducible refine zgM (f := 40) rfl ?_); refine zqQ (some 12) rfl rfl Try.func40 (by kernel_rfl) rfl #[.slice Ao17 x0_1.length co17, .slice Ao18 x1_1.length co18] rfl (by (try simp only [List.map_toArray, List.map_cons, List.map_nil]); first | done | rfl | (simp only [List.length_drop, List.length_take]; rfl)) ?_; (with_reducible refine (zgL.calls k1 _ _ x0_1 _ _ x1_1 t262 t263 t264 _ ?side1 ?side2 ?side3 ?side4 A3.out).mono ?_); (case side1 => repeat (first | exact (Kd.V_reads' HO_0.out).2.2 | (with_reducible refine Kd.C_alloc ?_ _) | (with_reducible refine Kd.C_drewN ?_ _) | (with_reducible refine Kd.C_drew ?_))); (case side2 => exact (Kd.V_reads' HO_0.out).2.1); (case side3 => repeat (first | exact (Kd.V_reads' HO_1.out).2.2 | (with_reducible refine Kd.C_alloc ?_ _) | (with_reducible refine Kd.C_drewN ?_ _) | (with_reducible refine Kd.C_drew ?_))); (case side4 => exact (Kd.V_reads' HO_1.out).2.1); rintro e w19 ⟨v265, v267, rfl, ho0, ho1, hb⟩; refine ⟨_, rfl, ?_⟩; have n0_ := zpS (Kd.V_mono (Kd.V_told (Kd.V_told (Kd.V_old (by (with_reducible repeat (first | apply Kd.V_alloc | apply Kd.V_drewN | apply Kd.V_drew)); exact HO_0.out) hb) (Kd.R_base ho0)) (Kd.R_base ho1)) (fun _ h_ => h_.1)); have n1_ := zpS (Kd.V_mono (Kd.V_told (Kd.V_told (Kd.V_old (by (with_reducible repeat (first | apply Kd.V_alloc | apply Kd.V_drewN | apply Kd.V_drew)); exact HO_1.out) hb) (Kd.R_base ho0)) (Kd.R_base ho1)) (fun _ h_ => h_.1)); have n2_ := zpS (Kd.R_lower (Kd.R_newM (M := fun k_ => (w.heap.size ≤ k_)) ho0 (zuA bb_) (fun k_ h_ => h_)) (zuA bb_)); have n3_ := zpS (Kd.R_lower (Kd.R_newM (M := fun k_ => (w.heap.size ≤ k_)) ho1 (zuA bb_) (fun k_ h_ => h_)) (zuA bb_)); have n4_ := (ns_ hb); clear HO_0; clear HO_1; clear HB; have HO_0 := n0_; have HO_1 := n1_; have HO266 := n2_; have HO268 := n3_; have HB := n4_; clear n0_ n1_ n2_ n3_ n4_; (try clear hb); (try clear hb2); (try clear ho0); (try clear ho1)))
     go_ret
     exact ⟨by first | rfl | (simp [ziS, znJ] <;> rfl) | (simp [*, ziS, znJ] <;> rfl), bb_⟩

def zzC.l0 : Nat → List Int → Int → List Int → Int → List Int → Int → Int → Option (List Int × Int × Int)
 | 0, _, _, _, _, _, _, _ => none
 | k + 1, x1, x5, x6, x7, x1000, x1001, x1002 => if x7 < 12 then ((zjC.f k x1 x6).bind fun t276 => (if t276 = true then (some (x6, x1001, x1002)) else ((zyC.f k (x1.length : Int) (wrap64 (x5 + (wrap64 (x7 * 13))))).bind fun t277 => (zzC.l0 k x1 x5 t277 (wrap64 (x7 + 1)) x1000 x1001 x1002)))) else (some (x6, x1001, x1002))
def zzC.f (k : Nat) (s0_0 : List Int) (s0_1 : Int) (s0_2 : Int) (l1 : List Int) : Option (List Int × Int × Int) := (zcB.f s0_0 s0_1 s0_2 100).bind fun bt270 => ((zyC.f k (l1.length : Int) (wrap64 (bt270.1 * 41))).bind fun t273 => (zzC.l0 k l1 (wrap64 (bt270.1 * 41)) t273 0 s0_0 bt270.2.1 bt270.2.2))
theorem zzC.mono_l : ∀ k, (∀ y0 y1 y2 y3 y4 y5 y6, LeO (zzC.l0 k y0 y1 y2 y3 y4 y5 y6) (zzC.l0 (k + 1) y0 y1 y2 y3 y4 y5 y6))
 | 0 => fun _ _ _ _ _ _ _ r h => by simp [zzC.l0] at h
 | k + 1 => by
  have ih0 := zzC.mono_l k
  ·intro y0 y1 y2 y3 y4 y5 y6
   unfold zzC.l0
   repeat' first
   | (with_reducible exact ih0 _ _ _ _ _ _ _)
   | (with_reducible exact zjC.mono _ _ _)
   | (with_reducible exact zyC.mono _ _ _)
   | (with_reducible exact LeO.refl _)
   | (with_reducible exact LeO.none _)
   | (with_reducible refine LeO.ite ?_ ?_)
   | (with_reducible refine LeO.bind ?_ (fun _ => ?_))
   | exact ih0 _ _ _ _ _ _ _
   | exact zjC.mono _ _ _
   | exact zyC.mono _ _ _
   | exact LeO.none _
   | refine LeO.ite ?_ ?_
   | refine LeO.bind ?_ (fun _ => ?_)
theorem zzC.mono : ∀ a0 a1 a2 a3 k, LeO (zzC.f k a0 a1 a2 a3) (zzC.f (k + 1) a0 a1 a2 a3) := by
 intro a0 a1 a2 a3 k
 have ih0 := zzC.mono_l k
 unfold zzC.f
 repeat' first
   | (with_reducible exact ih0 _ _ _ _ _ _ _)
   | (with_reducible exact zjC.mono _ _ _)
   | (with_reducible exact zyC.mono _ _ _)
   | (with_reducible exact LeO.refl _)
   | (with_reducible exact LeO.none _)
   | (with_reducible refine LeO.ite ?_ ?_)
   | (with_reducible refine LeO.bind ?_ (fun _ => ?_))
   | exact ih0 _ _ _ _ _ _ _
   | exact zjC.mono _ _ _
   | exact zyC.mono _ _ _
   | exact LeO.none _
   | refine LeO.ite ?_ ?_
   | refine LeO.bind ?_ (fun _ => ?_)
set_option maxHeartbeats 8000000 in
set_option maxRecDepth 100000 in
theorem zzC.calls (k : Nat) (g : Nat) (s0_0 : List Int) (s0_1 : Int) (s0_2 : Int) (P1_ : Nat → Prop) (A1 : Option Addr) (c1 : Nat) (l1 : List Int) (r1 : List Int) (r2 : Int) (r3 : Int) (w0 w : World) (hI : zoE w0 w g s0_0 s0_1 s0_2) (hB : Below w0.heap.size w0 w) (hs1 : Kd.V (Kd.int .i64) 2 w w.heap.size (fun k_ => P1_ k_ ∧ k_ ≠ g) (.slice A1 l1.length c1) l1) (h : zzC.f k s0_0 s0_1 s0_2 l1 = some (r1, r2, r3)) :
  Calls Try.prog 13 #[.pointer (some ⟨g, 0, none⟩), .slice A1 l1.length c1] w fun e w' => ∃ v0_ : Value, e = .returned (v0_) ∧ Kd.R (Kd.int .i64) 2 w' w.heap.size (fun k_ => (w.heap.size ≤ k_)) v0_ r1 ∧ zoE w0 w' g s0_0 r2 r3 ∧ Below w0.heap.size w0 w' ∧ zwG w w' g none := by
 have HO1 := zpS (show Kd.V (Kd.int .i64) 2 w w.heap.size (fun k_ => (P1_ k_ ∨ w.heap.size ≤ k_) ∧ k_ ≠ g) (.slice A1 l1.length c1) l1 from Kd.V_mono hs1 (fun k_ hk => ⟨.inl hk.1, hk.2⟩))
 have HI0 := zpS hI
 have HK := zpS (zwG.refl w g none)
 have HL := zpS hB.size
 clear hI
 have HW0 := zpS hB.size
 have HB := zpS hB
 clear hB
 have H : ((zcB.f s0_0 s0_1 s0_2 100).bind fun bt270 => ((zyC.f k (l1.length : Int) (wrap64 (bt270.1 * 41))).bind fun t273 => (zzC.l0 k l1 (wrap64 (bt270.1 * 41)) t273 0 s0_0 bt270.2.1 bt270.2.2))) = some (r1, r2, r3) := h
 clear h
 replace H := Option.bind_eq_some_iff.mp H
 obtain ⟨⟨t270, t271, t272⟩, A30, H⟩ := H
 replace H : ((zyC.f k (l1.length : Int) (wrap64 (t270 * 41))).bind fun t273 => (zzC.l0 k l1 (wrap64 (t270 * 41)) t273 0 s0_0 t271 t272)) = some (r1, r2, r3) := H
 have A3 := zpS A30
 clear A30
 replace H := Option.bind_eq_some_iff.mp H
 obtain ⟨t273, A40, H⟩ := H
 replace H : (zzC.l0 k l1 (wrap64 (t270 * 41)) t273 0 s0_0 t271 t272) = some (r1, r2, r3) := H
 have A4 := zpS A40
 clear A40
 have H' := zpS H
 clear H
 go_enter Try.func13, Try.ntmps13
 go_wp2_with (first | ((with_reducible refine zgM (f := 23) rfl ?_); refine zqQ (some 9) rfl rfl Try.func23 (by kernel_rfl) rfl #[.pointer (some ⟨g, 0, none⟩), .int .i64 100] rfl (by (try simp only [List.map_toArray, List.map_cons, List.map_nil]); first | done | rfl | (simp only [List.length_drop, List.length_take]; rfl)) ?_; (with_reducible refine (zcB.calls g s0_0 s0_1 s0_2 100 t270 t271 t272 w0 _ ?side1 ?side2 A3.out).mono ?_); (case side1 => repeat (first | (with_reducible first | exact HI0.out | apply zoE.alloc | apply zoE.drewN | apply zoE.drew | apply zoE.set_1 | apply zoE.set_2) | exact HI0.out)); (case side2 => repeat (first | (with_reducible first | exact HB.out | apply znU | apply zkZ | apply zvF | refine zjF ?_ (zoE.ge HI0.out)) | exact HB.out)); rintro e w5 ⟨rfl, hi, hb, hk⟩; refine ⟨_, rfl, ?_⟩; have n0_ := zpS (Kd.V_mono (Kd.V_keep (Kd.V_mono (ok := fun k_ => (((P1_ k_ ∨ w.heap.size ≤ k_)) ∧ k_ ≠ g)) (by (with_reducible repeat (first | apply Kd.V_alloc | apply Kd.V_drewN | apply Kd.V_drew)); exact HO1.out) (fun k_ hk_ => (⟨hk_, hk_.2⟩ : _ ∧ k_ ≠ g))) hk (fun _ h => h.2)) (fun _ h => h.1)); have n1_ := zpS (zwG.trans (by repeat (first | (with_reducible first | exact HK.out | apply zwG.set_ | apply zeS | apply zwU | apply zbV) | exact HK.out)) hk (.inl rfl)); have n2_ := zpS (hb); have n3_ := zpS (hi); clear HO1; clear HK; clear HB; clear HI0; have HO1 := n0_; have HK := n1_; have HB := n2_; have HI0 := n3_; clear n0_ n1_ n2_ n3_; (try clear hb); (try clear hb2)) | ((with_reducible refine zgM (f := 27) rfl ?_); refine zqQ (some 14) rfl rfl Try.func27 (by kernel_rfl) rfl #[.int .i64 (l1.length : Int), .int .i64 (wrap64 (t270 * 41))] rfl (by (try simp only [List.map_toArray, List.map_cons, List.map_nil]); first | done | rfl | (simp only [List.length_drop, List.length_take]; rfl)) ?_; (with_reducible refine (zyC.calls k (l1.length : Int) (wrap64 (t270 * 41)) t273 _ A4.out).mono ?_); rintro e w6 ⟨v274, rfl, ho0, hb⟩; refine ⟨_, rfl, ?_⟩; have n0_ := zpS (Kd.V_elder' (by (with_reducible repeat (first | apply Kd.V_alloc | apply Kd.V_drewN | apply Kd.V_drew)); exact HO1.out) (Kd.R_base ho0) hb); have n1_ := zpS (Kd.R_lower (Kd.R_newM (M := fun k_ => (w.heap.size ≤ k_)) ho0 (zaV (w := w) (g := g) (row := none) (by repeat (first | (with_reducible first | exact HK.out | apply zwG.set_ | apply zeS | apply zwU | apply zbV) | exact HK.out))) (fun k_ h_ => h_)) (zaV (w := w) (g := g) (row := none) (by repeat (first | (with_reducible first | exact HK.out | apply zwG.set_ | apply zeS | apply zwU | apply zbV) | exact HK.out)))); have n2_ := zpS (zoE.below (by repeat (first | (with_reducible first | exact HI0.out | apply zoE.alloc | apply zoE.drewN | apply zoE.drew | apply zoE.set_1 | apply zoE.set_2) | exact HI0.out)) hb); have n3_ := zpS (zwG.trans (by repeat (first | (with_reducible first | exact HK.out | apply zwG.set_ | apply zeS | apply zwU | apply zbV) | exact HK.out)) (zwG.of_below hb g none) (.inl rfl)); have n4_ := zpS (zkR (by repeat (first | (with_reducible first | exact HB.out | apply znU | apply zkZ | apply zvF | refine zjF ?_ (zoE.ge HI0.out)) | exact HB.out)) hb); clear HO1; clear HI0; clear HK; clear HB; have HO1 := n0_; have HO275 := n1_; have HI0 := n2_; have HK := n3_; have HB := n4_; clear n0_ n1_ n2_ n3_ n4_; (try clear hb); (try clear hb2); (try clear ho0)))
 (try go_simp)
 go_loopg [6, 7] k (fun kq v6 v7 w' => ∃ (x6_1 : List Int) (x7_1 : Int), v7 = .int .i64 x7_1 ∧ Aside0 (zzC.l0 kq l1 (wrap64 (t270 * 41)) x6_1 x7_1 s0_0 t271 t272 = some (r1, r2, r3)) ∧ Aside0 (kq ≤ k) ∧ Aside0 (Kd.V (Kd.int .i64) 2 w' w.heap.size (fun k_ => (P1_ k_ ∨ w.heap.size ≤ k_) ∧ some k_ ≠ (v6 : Value).ownBlock ∧ k_ ≠ g) (.slice A1 l1.length c1) l1) ∧ Aside0 (Kd.R (Kd.int .i64) 2 w' w.heap.size (fun k_ => (w.heap.size ≤ k_)) v6 x6_1) ∧ Aside0 (zoE w0 w' g s0_0 t271 t272) ∧ Aside0 (zwG w w' g none) ∧ Aside0 (Below w0.heap.size w0 w'))
 case atStart => exact ⟨(t273), (0), (by first | rfl | (simp; done) | (simp [*]; done)), H', ⟨Nat.le_refl _⟩, ⟨by (with_reducible repeat (first | apply Kd.V_alloc | apply Kd.V_drewN | apply Kd.V_drew)); exact Kd.V_mono HO1.out (fun _ hk => ⟨hk.1.1, ⟨hk.2, hk.1.2⟩⟩)⟩, ⟨by (with_reducible repeat (first | apply Kd.R_alloc | apply Kd.R_drewN | apply Kd.R_drew)); exact Kd.R_mono HO275.out (fun _ hk => hk.1)⟩, ⟨by repeat (first | (with_reducible first | exact HI0.out | apply zoE.alloc | apply zoE.drewN | apply zoE.drew | apply zoE.set_1 | apply zoE.set_2) | exact HI0.out)⟩, ⟨by repeat (first | (with_reducible first | exact HK.out | apply zwG.set_ | apply zeS | apply zwU | apply zbV) | exact HK.out)⟩, ⟨by repeat (first | (with_reducible first | exact HB.out | apply znU | apply zkZ | apply zvF | refine zjF ?_ (zoE.ge HI0.out)) | exact HB.out)⟩⟩
 case round =>
  clear H'
  try clear c1
  try clear c2
  try clear p2
  try clear p6
  obtain ⟨x6_1, x7_1, rfl, HA, HK1, HO_1, HO_6, HI0, HK, HB⟩ := hrel
  cases gk with
  | zero => exact absurd HA.out (by simp [zzC.l0])
  | succ k1 =>
   have H := HA.out
   clear HA
   simp only [zzC.l0] at H
   by_cases c7 : x7_1 < 12
   ·rw [if_pos c7] at H
    have c7b0 : decide (x7_1 < 12) = true := decide_eq_true c7
    clear c7
    replace H := Option.bind_eq_some_iff.mp H
    obtain ⟨t276, A80, H⟩ := H
    replace H : (if t276 = true then (some (x6_1, t271, t272)) else ((zyC.f k1 (l1.length : Int) (wrap64 ((wrap64 (t270 * 41)) + (wrap64 (x7_1 * 13))))).bind fun t277 => (zzC.l0 k1 l1 (wrap64 (t270 * 41)) t277 (wrap64 (x7_1 + 1)) s0_0 t271 t272))) = some (r1, r2, r3) := H
    have A8 := zpS A80
    clear A80
    by_cases c9 : t276 = true
    ·subst c9
     have H1 : (some (x6_1, t271, t272)) = some (r1, r2, r3) := by rw [if_pos rfl] at H; exact H
     clear H
     have H := H1
     clear H1
     simp only [Option.some.injEq, Prod.mk.injEq] at H
     obtain ⟨rfl, rfl, rfl⟩ := H
     obtain ⟨Ao10, co10, eo10⟩ := Kd.R_slice HO_6.out
     subst eo10
     go_wp2_with (first | (go_at_call 28; (with_reducible refine (zjC.calls k1 (fun k_ => ((P1_ k_ ∨ w.heap.size ≤ k_) ∧ (some k_ ≠ (.slice Ao10 x6_1.length co10 : Value).ownBlock ∧ k_ ≠ g))) _ _ l1 (fun k_ => some k_ = (.slice Ao10 x6_1.length co10 : Value).ownBlock) _ _ x6_1 true _ ?side1 ?side2 A8.out).mono ?_); (case side1 => exact HO_1.out); (case side2 => exact Kd.R_V (Kd.R_tight rfl (zoE.apart HI0.out (HO_6.out) (by decide)))); rintro e w11 ⟨rfl, hb⟩; have n0_ := zpS (Kd.V_below (by (with_reducible repeat (first | apply Kd.V_alloc | apply Kd.V_drewN | apply Kd.V_drew)); exact HO_1.out) hb); have n1_ := zpS (Kd.R_below (by (with_reducible repeat (first | apply Kd.R_alloc | apply Kd.R_drewN | apply Kd.R_drew)); exact HO_6.out) hb); have n2_ := zpS (zoE.below (by repeat (first | (with_reducible first | exact HI0.out | apply zoE.alloc | apply zoE.drewN | apply zoE.drew | apply zoE.set_1 | apply zoE.set_2) | exact HI0.out)) hb); have n3_ := zpS (zwG.trans (by repeat (first | (with_reducible first | exact HK.out | apply zwG.set_ | apply zeS | apply zwU | apply zbV) | exact HK.out)) (zwG.of_below hb g none) (.inl rfl)); have n4_ := zpS (zkR (by repeat (first | (with_reducible first | exact HB.out | apply znU | apply zkZ | apply zvF | refine zjF ?_ (zoE.ge HI0.out)) | exact HB.out)) hb); clear HO_1; clear HO_6; clear HI0; clear HK; clear HB; have HO_1 := n0_; have HO_6 := n1_; have HI0 := n2_; have HK := n3_; have HB := n4_; clear n0_ n1_ n2_ n3_ n4_; (try clear hb); (try clear hb2)))
     go_ret
     exact ⟨_, by first | rfl | (simp [ziS, znJ] <;> rfl) | (simp [*, ziS, znJ] <;> rfl), by (with_reducible repeat (first | apply Kd.R_alloc | apply Kd.R_drewN | apply Kd.R_drew)); exact HO_6.out, by repeat (first | (with_reducible first | exact HI0.out | apply zoE.alloc | apply zoE.drewN | apply zoE.drew | apply zoE.set_1 | apply zoE.set_2) | exact HI0.out), by repeat (first | (with_reducible first | exact HB.out | apply znU | apply zkZ | apply zvF | refine zjF ?_ (zoE.ge HI0.out)) | exact HB.out), by repeat (first | (with_reducible first | exact HK.out | apply zwG.set_ | apply zeS | apply zwU | apply zbV) | exact HK.out)⟩
    ·replace c9 := Bool.eq_false_iff.mpr c9
     subst c9
     have H1 : ((zyC.f k1 (l1.length : Int) (wrap64 ((wrap64 (t270 * 41)) + (wrap64 (x7_1 * 13))))).bind fun t277 => (zzC.l0 k1 l1 (wrap64 (t270 * 41)) t277 (wrap64 (x7_1 + 1)) s0_0 t271 t272)) = some (r1, r2, r3) := by rw [if_neg (show ¬ (false = true) by decide)] at H; exact H
     clear H
     have H := H1
     clear H1
     replace H := Option.bind_eq_some_iff.mp H
     obtain ⟨t277, A120, H⟩ := H
     replace H : (zzC.l0 k1 l1 (wrap64 (t270 * 41)) t277 (wrap64 (x7_1 + 1)) s0_0 t271 t272) = some (r1, r2, r3) := H
     have A12 := zpS A120
     clear A120
     have H' := zpS H
     clear H
     obtain ⟨Ao13, co13, eo13⟩ := Kd.R_slice HO_6.out
     subst eo13
     go_wp2_with (first | (go_at_call 28; (with_reducible refine (zjC.calls k1 (fun k_ => ((P1_ k_ ∨ w.heap.size ≤ k_) ∧ (some k_ ≠ (.slice Ao13 x6_1.length co13 : Value).ownBlock ∧ k_ ≠ g))) _ _ l1 (fun k_ => some k_ = (.slice Ao13 x6_1.length co13 : Value).ownBlock) _ _ x6_1 false _ ?side1 ?side2 A8.out).mono ?_); (case side1 => exact HO_1.out); (case side2 => exact Kd.R_V (Kd.R_tight rfl (zoE.apart HI0.out (HO_6.out) (by decide)))); rintro e w14 ⟨rfl, hb⟩; have n0_ := zpS (Kd.V_below (by (with_reducible repeat (first | apply Kd.V_alloc | apply Kd.V_drewN | apply Kd.V_drew)); exact HO_1.out) hb); have n1_ := zpS (Kd.R_below (by (with_reducible repeat (first | apply Kd.R_alloc | apply Kd.R_drewN | apply Kd.R_drew)); exact HO_6.out) hb); have n2_ := zpS (zoE.below (by repeat (first | (with_reducible first | exact HI0.out | apply zoE.alloc | apply zoE.drewN | apply zoE.drew | apply zoE.set_1 | apply zoE.set_2) | exact HI0.out)) hb); have n3_ := zpS (zwG.trans (by repeat (first | (with_reducible first | exact HK.out | apply zwG.set_ | apply zeS | apply zwU | apply zbV) | exact HK.out)) (zwG.of_below hb g none) (.inl rfl)); have n4_ := zpS (zkR (by repeat (first | (with_reducible first | exact HB.out | apply znU | apply zkZ | apply zvF | refine zjF ?_ (zoE.ge HI0.out)) | exact HB.out)) hb); clear HO_1; clear HO_6; clear HI0; clear HK; clear HB; have HO_1 := n0_; have HO_6 := n1_; have HI0 := n2_; have HK := n3_; have HB := n4_; clear n0_ n1_ n2_ n3_ n4_; (try clear hb); (try clear hb2)) | ((with_reducible refine zgM (f := 27) rfl ?_); refine zqQ (some 31) rfl rfl Try.func27 (by kernel_rfl) rfl #[.int .i64 (l1.length : Int), .int .i64 (wrap64 ((wrap64 (t270 * 41)) + (wrap64 (x7_1 * 13))))] rfl (by (try simp only [List.map_toArray, List.map_cons, List.map_nil]); first | done | rfl | (simp only [List.length_drop, List.length_take]; rfl)) ?_; (with_reducible refine (zyC.calls k1 (l1.length : Int) (wrap64 ((wrap64 (t270 * 41)) + (wrap64 (x7_1 * 13)))) t277 _ A12.out).mono ?_); rintro e w15 ⟨v278, rfl, ho0, hb⟩; refine ⟨_, rfl, ?_⟩; have n0_ := zpS (Kd.V_elder' (by (with_reducible repeat (first | apply Kd.V_alloc | apply Kd.V_drewN | apply Kd.V_drew)); exact HO_1.out) (Kd.R_base ho0) hb); have n1_ := zpS (Kd.R_elder' (by (with_reducible repeat (first | apply Kd.R_alloc | apply Kd.R_drewN | apply Kd.R_drew)); exact HO_6.out) (Kd.R_base ho0) hb); have n2_ := zpS (Kd.R_lower (Kd.R_new' (Kd.R_newM (M := fun k_ => (w.heap.size ≤ k_)) ho0 (zaV (w := w) (g := g) (row := none) (by repeat (first | (with_reducible first | exact HK.out | apply zwG.set_ | apply zeS | apply zwU | apply zbV) | exact HK.out))) (fun k_ h_ => h_)) (Kd.R_lt (by (with_reducible repeat (first | apply Kd.R_alloc | apply Kd.R_drewN | apply Kd.R_drew)); exact HO_6.out))) (zaV (w := w) (g := g) (row := none) (by repeat (first | (with_reducible first | exact HK.out | apply zwG.set_ | apply zeS | apply zwU | apply zbV) | exact HK.out)))); have n3_ := zpS (zoE.below (by repeat (first | (with_reducible first | exact HI0.out | apply zoE.alloc | apply zoE.drewN | apply zoE.drew | apply zoE.set_1 | apply zoE.set_2) | exact HI0.out)) hb); have n4_ := zpS (zwG.trans (by repeat (first | (with_reducible first | exact HK.out | apply zwG.set_ | apply zeS | apply zwU | apply zbV) | exact HK.out)) (zwG.of_below hb g none) (.inl rfl)); have n5_ := zpS (zkR (by repeat (first | (with_reducible first | exact HB.out | apply znU | apply zkZ | apply zvF | refine zjF ?_ (zoE.ge HI0.out)) | exact HB.out)) hb); clear HO_1; clear HO_6; clear HI0; clear HK; clear HB; have HO_1 := n0_; have HO_6 := n1_; have HO279 := n2_; have HI0 := n3_; have HK := n4_; have HB := n5_; clear n0_ n1_ n2_ n3_ n4_ n5_; (try clear hb); (try clear hb2); (try clear ho0)))
     go_roundg k1
     case measure => have := HK1.out; omega
     case rel => exact ⟨(t277), (wrap64 (x7_1 + 1)), (by first | rfl | (simp; done) | (simp [*]; done)), H', ⟨by have := HK1.out; omega⟩, ⟨by (with_reducible repeat (first | apply Kd.V_alloc | apply Kd.V_drewN | apply Kd.V_drew)); exact Kd.V_mono HO_1.out (fun _ hk => ⟨hk.1.1, ⟨hk.2, hk.1.2.2⟩⟩)⟩, ⟨by (with_reducible repeat (first | apply Kd.R_alloc | apply Kd.R_drewN | apply Kd.R_drew)); exact Kd.R_mono HO279.out (fun _ hk => hk.1.1)⟩, ⟨by repeat (first | (with_reducible first | exact HI0.out | apply zoE.alloc | apply zoE.drewN | apply zoE.drew | apply zoE.set_1 | apply zoE.set_2) | exact HI0.out)⟩, ⟨by repeat (first | (with_reducible first | exact HK.out | apply zwG.set_ | apply zeS | apply zwU | apply zbV) | exact HK.out)⟩, ⟨by repeat (first | (with_reducible first | exact HB.out | apply znU | apply zkZ | apply zvF | refine zjF ?_ (zoE.ge HI0.out)) | exact HB.out)⟩⟩
   ·rw [if_neg c7] at H
    have c7b0 : decide (x7_1 < 12) = false := decide_eq_false c7
    clear c7
    simp only [Option.some.injEq, Prod.mk.injEq] at H
    obtain ⟨rfl, rfl, rfl⟩ := H
    go_wp2
    go_ret
    exact ⟨_, by first | rfl | (simp [ziS, znJ] <;> rfl) | (simp [*, ziS, znJ] <;> rfl), by (with_reducible repeat (first | apply Kd.R_alloc | apply Kd.R_drewN | apply Kd.R_drew)); exact HO_6.out, by repeat (first | (with_reducible first | exact HI0.out | apply zoE.alloc | apply zoE.drewN | apply zoE.drew | apply zoE.set_1 | apply zoE.set_2) | exact HI0.out), by repeat (first | (with_reducible first | exact HB.out | apply znU | apply zkZ | apply zvF | refine zjF ?_ (zoE.ge HI0.out)) | exact HB.out), by repeat (first | (with_reducible first | exact HK.out | apply zwG.set_ | apply zeS | apply zwU | apply zbV) | exact HK.out)⟩

def zuY.f (k : Nat) (l0 : List Int) (l1 : List Int) : Option (List Int) := (zqP.f l0).bind fun s => (zzC.f k s.1 s.2.1 s.2.2 l1).bind fun r => some r.1
theorem zuY.mono : ∀ a0 a1 k, LeO (zuY.f k a0 a1) (zuY.f (k + 1) a0 a1) := fun a0 a1 k => LeO.bind (LeO.refl _) (fun s => LeO.bind (zzC.mono _ _ _ _ k) (fun _ => LeO.refl _))
set_option maxHeartbeats 8000000 in
set_option maxRecDepth 100000 in
theorem zuY.calls (k : Nat) (A0 : Option Addr) (c0 : Nat) (l0 : List Int) (A1 : Option Addr) (c1 : Nat) (l1 : List Int) (r : List Int) (w : World) (hr0 : Kd.C (Kd.int .u8) w A0 l0.length l0) (hc0 : l0.length ≤ c0) (hr1 : Kd.C (Kd.int .i64) w A1 l1.length l1) (hc1 : l1.length ≤ c1) (h : zuY.f k l0 l1 = some r) :
  Calls Try.prog 6 #[.slice A0 l0.length c0, .slice A1 l1.length c1] w fun e w' => ∃ v0_ : Value, e = .returned (v0_) ∧ Kd.R (Kd.int .i64) 2 w' w.heap.size (fun _ => True) v0_ r ∧ Below w.heap.size w w' := by
 have HR0 := zpS hr0
 have HC0 := zpS hc0
 have HR1 := zpS hr1
 have HC1 := zpS hc1
 clear hr0 hc0 hr1 hc1
 have HB := zpS (Below.refl w.heap.size w)
 obtain ⟨⟨s0, s1, s2⟩, A10, H⟩ := Option.bind_eq_some_iff.mp h
 obtain ⟨⟨r1, r2, r3⟩, A20, H⟩ := Option.bind_eq_some_iff.mp H
 obtain rfl := Option.some.inj H
 have A1_ := zpS A10
 have A2_ := zpS A20
 clear A10 A20 h H
 go_enter Try.func6, Try.ntmps6
 go_wp2_with (first | (go_at_call 12; (with_reducible refine (zqP.calls _ _ l0 s0 s1 s2 w _ HB.out HR0.out HC0.out A1_.out).mono ?_); rintro e wa ⟨ga, rfl, hi, hb, hb2⟩; have n0_ := zpS hb; have HI := zpS hi; clear HB hi hb hb2; have HB := n0_; clear n0_) | (go_at_call 13; (with_reducible refine (zzC.calls k ga s0 s1 s2 (fun k_ => k_ < w.heap.size) _ _ l1 r1 r2 r3 w _ HI.out HB.out ?hs A2_.out).mono ?_); (case hs => exact Kd.V_mono (Kd.V_mk HC1.out (Kd.F_below (Kd.C_F (Kd.heap_int .i64) HR1.out) HB.out)) (fun k_ hk_ => ⟨hk_, fun e_ => by have h1_ := HI.out.ge; omega⟩)); rintro e wb ⟨v0, rfl, ho, hi, hb, hk⟩; have n0_ := zpS hb; have HO := zpS (Kd.R_mono (Kd.R_lower ho (zuA HB.out)) (ok' := fun _ => True) (fun _ _ => trivial)); clear HB hi hb hk ho; have HB := n0_; clear n0_))
 go_ret
 exact ⟨_, rfl, HO.out, HB.out⟩

def zrP.f (a0 : Int) (a1 : Int) (a2 : Int) : Option (Bool) := if a0 ≥ a1 then (some (decide (a0 ≤ a2))) else (some false)
set_option maxHeartbeats 8000000 in
set_option maxRecDepth 100000 in
theorem zrP.calls (a0 : Int) (a1 : Int) (a2 : Int) (r : Bool) (w : World) (h : zrP.f a0 a1 a2 = some r) :
  Calls Try.prog 17 #[.int .i64 a0, .int .i64 a1, .int .i64 a2] w fun e w' => e = .returned (.bool r) ∧ Drawn0 w w' := by
 have H : (if a0 ≥ a1 then (some (decide (a0 ≤ a2))) else (some false)) = some r := h
 clear h
 by_cases c4 : a0 ≥ a1
 ·rw [if_pos c4] at H
  have c4b0 : decide (a1 ≤ a0) = true := decide_eq_true c4
  clear c4
  obtain rfl := Option.some.inj H
  go_enter Try.func17, Try.ntmps17
  go_wp2
  go_ret
  exact ⟨by first | rfl | (simp; done) | (simp [*]; done), by repeat (first | exact Drawn0.refl _ | apply Drawn0.step)⟩
 ·rw [if_neg c4] at H
  have c4b0 : decide (a1 ≤ a0) = false := decide_eq_false c4
  clear c4
  obtain rfl := Option.some.inj H
  go_enter Try.func17, Try.ntmps17
  go_wp2
  go_ret
  exact ⟨by first | rfl | (simp; done) | (simp [*]; done), by repeat (first | exact Drawn0.refl _ | apply Drawn0.step)⟩

def zfN.f (l0 : List Int) : Option (Int) := some (l0.length : Int)
set_option maxHeartbeats 8000000 in
set_option maxRecDepth 100000 in
theorem zfN.calls (A0 : Option Addr) (c0 : Nat) (l0 : List Int) (r : Int) (w : World) (hr0 : Kd.C (Kd.int .i64) w A0 l0.length l0) (hc0 : l0.length ≤ c0) (h : zfN.f l0 = some r) :
  Calls Try.prog 18 #[.slice A0 l0.length c0] w fun e w' => e = .returned (.int .i64 r) ∧ Drawn0 w w' := by
 have HR0 := zpS hr0
 have HC0 := zpS hc0
 clear hr0 hc0
 have H : (some (l0.length : Int)) = some r := h
 clear h
 obtain rfl := Option.some.inj H
 go_enter Try.func18, Try.ntmps18
 go_wp2
 go_ret
 exact ⟨by first | rfl | (simp; done) | (simp [*]; done), by repeat (first | exact Drawn0.refl _ | apply Drawn0.step)⟩

-- NOT PRINTED: function 36 (slices_IndexFunc_int64_int64)

-- NOT PRINTED: function 19 (slices_ContainsFunc_int64_int64)

def zzT.f (a0 : Int) : Option (Bool) := (zrP.f a0 1 16).bind fun t280 => (some (!t280))
set_option maxHeartbeats 8000000 in
set_option maxRecDepth 100000 in
theorem zzT.calls (a0 : Int) (r : Bool) (w : World) (h : zzT.f a0 = some r) :
  Calls Try.prog 20 #[.int .i64 a0] w fun e w' => e = .returned (.bool r) ∧ Drawn0 w w' := by
 have H : ((zrP.f a0 1 16).bind fun t280 => (some (!t280))) = some r := h
 clear h
 replace H := Option.bind_eq_some_iff.mp H
 obtain ⟨t280, A20, H⟩ := H
 replace H : (some (!t280)) = some r := H
 have A2 := zpS A20
 clear A20
 obtain rfl := Option.some.inj H
 go_enter Try.func20, Try.ntmps20
 go_wp2_with (first | ((with_reducible refine zgM (f := 17) rfl ?_); refine zqQ (some 4) rfl rfl Try.func17 (by kernel_rfl) rfl #[.int .i64 a0, .int .i64 1, .int .i64 16] rfl (by (try simp only [List.map_toArray, List.map_cons, List.map_nil]); first | done | rfl | (simp only [List.length_drop, List.length_take]; rfl)) ?_; (with_reducible refine (zrP.calls a0 1 16 t280 _ A2.out).mono ?_); rintro e w' ⟨rfl, ⟨nd, rfl⟩⟩; refine ⟨_, rfl, ?_⟩))
 go_ret
 exact ⟨by first | rfl | (simp; done) | (simp [*]; done), by repeat (first | exact Drawn0.refl _ | apply Drawn0.step)⟩

def zcG.l0 : Nat → Int → List Int → Int → Int → Option (Int)
 | 0, _, _, _, _ => none
 | k + 1, x3, x6, x7, x8 => if x8 < x7 then (if 0 ≤ x8 then (if x8 < (x6.length : Int) then (zcG.l0 k (wrap64 (x3 + (rd x6 x8))) x6 x7 (wrap64 (x8 + 1))) else (none)) else (none)) else (some x3)
def zcG.f (k : Nat) (l0 : List Int) : Option (Int) := zcG.l0 k 0 l0 (l0.length : Int) 0
theorem zcG.mono_l : ∀ k, (∀ y0 y1 y2 y3, LeO (zcG.l0 k y0 y1 y2 y3) (zcG.l0 (k + 1) y0 y1 y2 y3))
 | 0 => fun _ _ _ _ r h => by simp [zcG.l0] at h
 | k + 1 => by
  have ih0 := zcG.mono_l k
  ·intro y0 y1 y2 y3
   unfold zcG.l0
   repeat' first
   | (with_reducible exact ih0 _ _ _ _)
   | (with_reducible exact LeO.refl _)
   | (with_reducible exact LeO.none _)
   | (with_reducible refine LeO.ite ?_ ?_)
   | (with_reducible refine LeO.bind ?_ (fun _ => ?_))
   | exact ih0 _ _ _ _
   | exact LeO.none _
   | refine LeO.ite ?_ ?_
   | refine LeO.bind ?_ (fun _ => ?_)
theorem zcG.mono : ∀ a0 k, LeO (zcG.f k a0) (zcG.f (k + 1) a0) := by
 intro a0 k
 have ih0 := zcG.mono_l k
 unfold zcG.f
 repeat' first
   | (with_reducible exact ih0 _ _ _ _)
   | (with_reducible exact LeO.refl _)
   | (with_reducible exact LeO.none _)
   | (with_reducible refine LeO.ite ?_ ?_)
   | (with_reducible refine LeO.bind ?_ (fun _ => ?_))
   | exact ih0 _ _ _ _
   | exact LeO.none _
   | refine LeO.ite ?_ ?_
   | refine LeO.bind ?_ (fun _ => ?_)
set_option maxHeartbeats 8000000 in
set_option maxRecDepth 100000 in
theorem zcG.calls (k : Nat) (A0 : Option Addr) (c0 : Nat) (l0 : List Int) (r : Int) (w : World) (hr0 : Kd.C (Kd.int .i64) w A0 l0.length l0) (hc0 : l0.length ≤ c0) (h : zcG.f k l0 = some r) :
  Calls Try.prog 21 #[.slice A0 l0.length c0] w fun e w' => e = .returned (.int .i64 r) ∧ Drawn0 w w' := by
 have HR0 := zpS hr0
 have HC0 := zpS hc0
 clear hr0 hc0
 have H : (zcG.l0 k 0 l0 (l0.length : Int) 0) = some r := h
 clear h
 have H' := zpS H
 clear H
 go_enter Try.func21, Try.ntmps21
 go_wp2
 (try go_simp)
 go_loopg [3, 8] k (fun kq v3 v8 w' => ∃ (x3_1 : Int) (x8_1 : Int), v3 = .int .i64 x3_1 ∧ v8 = .int .i64 x8_1 ∧ Aside0 (zcG.l0 kq x3_1 l0 (l0.length : Int) x8_1 = some r) ∧ Aside0 (kq ≤ k) ∧ Drawn0 w w')
 case atStart => exact ⟨(0), (0), (by first | rfl | (simp; done) | (simp [*]; done)), (by first | rfl | (simp; done) | (simp [*]; done)), H', ⟨Nat.le_refl _⟩, by repeat (first | exact Drawn0.refl _ | apply Drawn0.step)⟩
 case round =>
  clear H'
  obtain ⟨x3_1, x8_1, rfl, rfl, HA, HK1, ⟨m1, rfl⟩⟩ := hrel
  cases gk with
  | zero => exact absurd HA.out (by simp [zcG.l0])
  | succ k1 =>
   have H := HA.out
   clear HA
   simp only [zcG.l0] at H
   by_cases c2 : x8_1 < (l0.length : Int)
   ·rw [if_pos c2] at H
    have c2b0 : decide (x8_1 < (l0.length : Int)) = true := decide_eq_true c2
    clear c2
    by_cases c3 : 0 ≤ x8_1
    ·rw [if_pos c3] at H
     have c3b0 : decide (0 ≤ x8_1) = true := decide_eq_true c3
     clear c3
     by_cases c4 : x8_1 < (l0.length : Int)
     ·rw [if_pos c4] at H
      have c4b0 : decide (x8_1 < (l0.length : Int)) = true := decide_eq_true c4
      clear c4
      have H' := zpS H
      clear H
      have p281 : 0 ≤ (x8_1 : Int) := of_decide_eq_true (by first | (with_reducible assumption) | assumption)
      have q281 : x8_1 < (l0.length : Int) := of_decide_eq_true (by first | (with_reducible assumption) | assumption)
      obtain ⟨ad281, e281, hx281_0⟩ := Kd.at_int HR0.out x8_1 p281 q281
      cases e281
      replace p281 := eq_true p281
      replace q281 := eq_true q281
      go_wp2
      go_roundg k1
      case measure => have := HK1.out; omega
      case rel => exact ⟨(wrap64 (x3_1 + (rd l0 x8_1))), (wrap64 (x8_1 + 1)), (by first | rfl | (simp; done) | (simp [*]; done)), (by first | rfl | (simp; done) | (simp [*]; done)), H', ⟨by have := HK1.out; omega⟩, by repeat (first | exact Drawn0.refl _ | apply Drawn0.step)⟩
     ·rw [if_neg c4] at H
      exact absurd H (by simp)
    ·rw [if_neg c3] at H
     exact absurd H (by simp)
   ·rw [if_neg c2] at H
    have c2b0 : decide (x8_1 < (l0.length : Int)) = false := decide_eq_false c2
    clear c2
    obtain rfl := Option.some.inj H
    go_wp2
    go_ret
    exact ⟨by first | rfl | (simp; done) | (simp [*]; done), by repeat (first | exact Drawn0.refl _ | apply Drawn0.step)⟩

def zaW.l0 : Nat → Int → List Int → Int → Int → Option (Int)
 | 0, _, _, _, _ => none
 | k + 1, x3, x6, x7, x8 => if x8 < x7 then (if 0 ≤ x8 then (if x8 < (x6.length : Int) then (if (Int.tmod x8 2) = 0 then (zaW.l0 k (wrap64 (x3 + (rd x6 x8))) x6 x7 (wrap64 (x8 + 1))) else (zaW.l0 k (wrap64 (x3 - (rd x6 x8))) x6 x7 (wrap64 (x8 + 1)))) else (none)) else (none)) else (some x3)
def zaW.f (k : Nat) (l0 : List Int) : Option (Int) := zaW.l0 k 0 l0 (l0.length : Int) 0
theorem zaW.mono_l : ∀ k, (∀ y0 y1 y2 y3, LeO (zaW.l0 k y0 y1 y2 y3) (zaW.l0 (k + 1) y0 y1 y2 y3))
 | 0 => fun _ _ _ _ r h => by simp [zaW.l0] at h
 | k + 1 => by
  have ih0 := zaW.mono_l k
  ·intro y0 y1 y2 y3
   unfold zaW.l0
   repeat' first
   | (with_reducible exact ih0 _ _ _ _)
   | (with_reducible exact LeO.refl _)
   | (with_reducible exact LeO.none _)
   | (with_reducible refine LeO.ite ?_ ?_)
   | (with_reducible refine LeO.bind ?_ (fun _ => ?_))
   | exact ih0 _ _ _ _
   | exact LeO.none _
   | refine LeO.ite ?_ ?_
   | refine LeO.bind ?_ (fun _ => ?_)
theorem zaW.mono : ∀ a0 k, LeO (zaW.f k a0) (zaW.f (k + 1) a0) := by
 intro a0 k
 have ih0 := zaW.mono_l k
 unfold zaW.f
 repeat' first
   | (with_reducible exact ih0 _ _ _ _)
   | (with_reducible exact LeO.refl _)
   | (with_reducible exact LeO.none _)
   | (with_reducible refine LeO.ite ?_ ?_)
   | (with_reducible refine LeO.bind ?_ (fun _ => ?_))
   | exact ih0 _ _ _ _
   | exact LeO.none _
   | refine LeO.ite ?_ ?_
   | refine LeO.bind ?_ (fun _ => ?_)
set_option maxHeartbeats 8000000 in
set_option maxRecDepth 100000 in
theorem zaW.calls (k : Nat) (A0 : Option Addr) (c0 : Nat) (l0 : List Int) (r : Int) (w : World) (hr0 : Kd.C (Kd.int .i64) w A0 l0.length l0) (hc0 : l0.length ≤ c0) (h : zaW.f k l0 = some r) :
  Calls Try.prog 22 #[.slice A0 l0.length c0] w fun e w' => e = .returned (.int .i64 r) ∧ Drawn0 w w' := by
 have HR0 := zpS hr0
 have HC0 := zpS hc0
 clear hr0 hc0
 have H : (zaW.l0 k 0 l0 (l0.length : Int) 0) = some r := h
 clear h
 have H' := zpS H
 clear H
 go_enter Try.func22, Try.ntmps22
 go_wp2
 (try go_simp)
 go_loopg [3, 8] k (fun kq v3 v8 w' => ∃ (x3_1 : Int) (x8_1 : Int), v3 = .int .i64 x3_1 ∧ v8 = .int .i64 x8_1 ∧ Aside0 (zaW.l0 kq x3_1 l0 (l0.length : Int) x8_1 = some r) ∧ Aside0 (kq ≤ k) ∧ Drawn0 w w')
 case atStart => exact ⟨(0), (0), (by first | rfl | (simp; done) | (simp [*]; done)), (by first | rfl | (simp; done) | (simp [*]; done)), H', ⟨Nat.le_refl _⟩, by repeat (first | exact Drawn0.refl _ | apply Drawn0.step)⟩
 case round =>
  clear H'
  obtain ⟨x3_1, x8_1, rfl, rfl, HA, HK1, ⟨m1, rfl⟩⟩ := hrel
  cases gk with
  | zero => exact absurd HA.out (by simp [zaW.l0])
  | succ k1 =>
   have H := HA.out
   clear HA
   simp only [zaW.l0] at H
   by_cases c2 : x8_1 < (l0.length : Int)
   ·rw [if_pos c2] at H
    have c2b0 : decide (x8_1 < (l0.length : Int)) = true := decide_eq_true c2
    clear c2
    by_cases c3 : 0 ≤ x8_1
    ·rw [if_pos c3] at H
     have c3b0 : decide (0 ≤ x8_1) = true := decide_eq_true c3
     clear c3
     by_cases c4 : x8_1 < (l0.length : Int)
     ·rw [if_pos c4] at H
      have c4b0 : decide (x8_1 < (l0.length : Int)) = true := decide_eq_true c4
      clear c4
      by_cases c5 : (Int.tmod x8_1 2) = 0
      ·rw [if_pos c5] at H
       have c5b0 : ((Int.tmod x8_1 2) == 0) = true := beq_iff_eq.mpr c5
       have c5b1 : ((Int.tmod x8_1 2) != 0) = false := bne_eq_false_iff_eq.mpr c5
       clear c5
       have H' := zpS H
       clear H
       have p282 : 0 ≤ (x8_1 : Int) := of_decide_eq_true (by first | (with_reducible assumption) | assumption)
       have q282 : x8_1 < (l0.length : Int) := of_decide_eq_true (by first | (with_reducible assumption) | assumption)
       obtain ⟨ad282, e282, hx282_0⟩ := Kd.at_int HR0.out x8_1 p282 q282
       cases e282
       replace p282 := eq_true p282
       replace q282 := eq_true q282
       go_wp2
       go_roundg k1
       case measure => have := HK1.out; omega
       case rel => exact ⟨(wrap64 (x3_1 + (rd l0 x8_1))), (wrap64 (x8_1 + 1)), (by first | rfl | (simp; done) | (simp [*]; done)), (by first | rfl | (simp; done) | (simp [*]; done)), H', ⟨by have := HK1.out; omega⟩, by repeat (first | exact Drawn0.refl _ | apply Drawn0.step)⟩
      ·rw [if_neg c5] at H
       have c5b0 : ((Int.tmod x8_1 2) == 0) = false := beq_eq_false_iff_ne.mpr c5
       have c5b1 : ((Int.tmod x8_1 2) != 0) = true := bne_iff_ne.mpr c5
       have H' := zpS H
       clear H
       have p282 : 0 ≤ (x8_1 : Int) := of_decide_eq_true (by first | (with_reducible assumption) | assumption)
       have q282 : x8_1 < (l0.length : Int) := of_decide_eq_true (by first | (with_reducible assumption) | assumption)
       obtain ⟨ad282, e282, hx282_0⟩ := Kd.at_int HR0.out x8_1 p282 q282
       cases e282
       replace p282 := eq_true p282
       replace q282 := eq_true q282
       go_wp2
       go_roundg k1
       case measure => have := HK1.out; omega
       case rel => exact ⟨(wrap64 (x3_1 - (rd l0 x8_1))), (wrap64 (x8_1 + 1)), (by first | rfl | (simp; done) | (simp [*]; done)), (by first | rfl | (simp; done) | (simp [*]; done)), H', ⟨by have := HK1.out; omega⟩, by repeat (first | exact Drawn0.refl _ | apply Drawn0.step)⟩
     ·rw [if_neg c4] at H
      exact absurd H (by simp)
    ·rw [if_neg c3] at H
     exact absurd H (by simp)
   ·rw [if_neg c2] at H
    have c2b0 : decide (x8_1 < (l0.length : Int)) = false := decide_eq_false c2
    clear c2
    obtain rfl := Option.some.inj H
    go_wp2
    go_ret
    exact ⟨by first | rfl | (simp; done) | (simp [*]; done), by repeat (first | exact Drawn0.refl _ | apply Drawn0.step)⟩

def zqM.i : Nat → List Int → Option Int
 | _, [] => some (-1)
 | j, x :: xs => (zzT.f x).bind fun b => if b = true then some (j : Int) else zqM.i (j + 1) xs
def zqM.f (l0 : List Int) : Option Bool := (zqM.i 0 l0).bind fun j => some (decide (0 ≤ j))
set_option maxHeartbeats 8000000 in
set_option maxRecDepth 100000 in
theorem zqM.icalls (A0 : Option Addr) (c0 : Nat) (l0 : List Int) (r : Int) (w : World) (hr0 : Kd.C (Kd.int .i64) w A0 l0.length l0) (hc0 : l0.length ≤ c0) (h : zqM.i 0 l0 = some r) :
  Calls Try.prog 36 #[.slice A0 l0.length c0, .func (.func 20) #[] #[]] w fun e w' => e = .returned (.int .i64 r) ∧ Drawn0 w w' := by
 have hmx := hr0.2.1
 have HR0 := zpS hr0
 have HC0 := zpS hc0
 clear hr0 hc0
 have H' := zpS h
 clear h
 go_enter Try.func36, Try.ntmps36
 go_wp2
 go_loopg [8] l0.length (fun kq v8 w' => ∃ j : Nat, v8 = .int .i64 j ∧ Aside0 (zqM.i j (l0.drop j) = some r) ∧ Aside0 (kq + j = l0.length) ∧ Drawn0 w w')
 case atStart => exact ⟨0, rfl, H', ⟨rfl⟩, Drawn0.refl _⟩
 case round =>
  clear H'
  obtain ⟨j, rfl, HA, HK1, ⟨m1, rfl⟩⟩ := hrel
  by_cases hlt : j < l0.length
  ·have H := HA.out
   rw [List.drop_eq_getElem_cons hlt] at H
   simp only [zqM.i] at H
   obtain ⟨b, A20, H⟩ := Option.bind_eq_some_iff.mp H
   have hrd : l0[j] = rd l0 (j : Int) := by
    unfold rd
    rw [Int.toNat_natCast, List.getD_eq_getElem?_getD, List.getElem?_eq_getElem hlt]
    rfl
   rw [hrd] at A20
   have A2 := zpS A20
   clear A20 HA hrd
   have c2b0 : decide ((j : Int) < (l0.length : Int)) = true := decide_eq_true (by omega)
   have c3b0 : decide (0 ≤ (j : Int)) = true := decide_eq_true (by omega)
   obtain ⟨ad111, e111, hx111_0⟩ := Kd.at_int HR0.out (j : Int) (by omega) (by omega)
   cases e111
   rw [Int.toNat_natCast] at hx111_0
   cases b with
   | true =>
    simp only [if_true, Option.some.injEq] at H
    subst H
    go_wp2_with (go_at_call 20; (with_reducible refine (zzT.calls _ true _ A2.out).mono ?_); rintro e w' ⟨rfl, ⟨nd, rfl⟩⟩)
    go_ret
    exact ⟨rfl, by repeat (first | exact Drawn0.refl _ | apply Drawn0.step)⟩
   | false =>
    have H2 := zpS (show zqM.i (j + 1) (l0.drop (j + 1)) = some r from by simpa using H)
    clear H
    go_wp2_with (go_at_call 20; (with_reducible refine (zzT.calls _ false _ A2.out).mono ?_); rintro e w' ⟨rfl, ⟨nd, rfl⟩⟩)
    go_roundg (l0.length - (j + 1))
    case measure => have := HK1.out; omega
    case rel => exact ⟨j + 1, by (try rw [wrap64]); go_num, H2, ⟨by omega⟩, by repeat (first | exact Drawn0.refl _ | apply Drawn0.step)⟩
  ·have H := HA.out
   rw [List.drop_eq_nil_of_le (by omega)] at H
   simp only [zqM.i, Option.some.injEq] at H
   subst H
   have c2b0 : decide ((j : Int) < (l0.length : Int)) = false := decide_eq_false (by omega)
   go_wp2
   go_ret
   exact ⟨rfl, by repeat (first | exact Drawn0.refl _ | apply Drawn0.step)⟩
set_option maxHeartbeats 8000000 in
set_option maxRecDepth 100000 in
theorem zqM.calls (A0 : Option Addr) (c0 : Nat) (l0 : List Int) (r : Bool) (w : World) (hr0 : Kd.C (Kd.int .i64) w A0 l0.length l0) (hc0 : l0.length ≤ c0) (h : zqM.f l0 = some r) :
  Calls Try.prog 19 #[.slice A0 l0.length c0, .func (.func 20) #[] #[]] w fun e w' => e = .returned (.bool r) ∧ Drawn0 w w' := by
 obtain ⟨q, hq, h⟩ := Option.bind_eq_some_iff.mp h
 obtain rfl := Option.some.inj h
 have HQ := zpS hq
 clear hq
 go_enter Try.func19, Try.ntmps19
 go_wp2_with (go_at_call 36; (with_reducible refine (zqM.icalls _ _ l0 q _ ?h1 ?h2 HQ.out).mono ?_); (case h1 => exact hr0); (case h2 => exact hc0); rintro e w' ⟨rfl, ⟨nd, rfl⟩⟩)
 go_ret
 exact ⟨rfl, by repeat (first | exact Drawn0.refl _ | apply Drawn0.step)⟩
theorem zqM.i_any (p : Int → Bool) : ∀ (l : List Int) (j : Nat), (∀ x ∈ l, zzT.f x = some (p x)) → ∃ q : Int, zqM.i j l = some q ∧ (0 ≤ q ↔ l.any p = true)
 | [], j, _ => ⟨-1, rfl, by simp⟩
 | x :: xs, j, hp => by
  simp only [zqM.i, hp x List.mem_cons_self, Option.bind_some]
  cases h : p x with
  | true => exact ⟨j, by simp, by simp [h]⟩
  | false =>
   obtain ⟨q, hq, hq2⟩ := zqM.i_any p xs (j + 1) (fun y hy => hp y (List.mem_cons_of_mem _ hy))
   exact ⟨q, by simpa using hq, by simpa [h] using hq2⟩
theorem zqM.eq_any (p : Int → Bool) (l : List Int) (hp : ∀ x ∈ l, zzT.f x = some (p x)) : zqM.f l = some (l.any p) := by
 obtain ⟨q, hq, hq2⟩ := zqM.i_any p l 0 hp
 unfold zqM.f
 rw [hq, Option.bind_some]
 by_cases h : 0 ≤ q
 ·rw [decide_eq_true h, hq2.1 h]
 ·rw [decide_eq_false h, Bool.eq_false_iff.2 (fun e => h (hq2.2 e))]

def ziL.j0 : Nat → List Int → Bool → Option (Bool)
 | 0, _, _ => none
 | k + 1, x0, x12 => if x12 = true then (some false) else ((zqM.f x0).bind fun t285 => (if t285 = true then (some false) else ((zcG.f k x0).bind fun t286 => (if t286 ≤ 16 then ((zaW.f k x0).bind fun t287 => (some (t287 == 0))) else (some false)))))
def ziL.f (k : Nat) (l0 : List Int) : Option (Bool) := (zfN.f l0).bind fun t283 => ((zrP.f t283 2 16).bind fun t284 => (if t284 = true then (ziL.j0 k l0 (((l0.length : Int) % 2) == 1)) else (ziL.j0 k l0 true)))
theorem ziL.mono_l : ∀ k, (∀ y0 y1, LeO (ziL.j0 k y0 y1) (ziL.j0 (k + 1) y0 y1))
 | 0 => fun _ _ r h => by simp [ziL.j0] at h
 | k + 1 => by
  have ih0 := ziL.mono_l k
  ·intro y0 y1
   unfold ziL.j0
   repeat' first
   | (with_reducible exact ih0 _ _)
   | (with_reducible exact zaW.mono _ _)
   | (with_reducible exact zcG.mono _ _)
   | (with_reducible exact LeO.refl _)
   | (with_reducible exact LeO.none _)
   | (with_reducible refine LeO.ite ?_ ?_)
   | (with_reducible refine LeO.bind ?_ (fun _ => ?_))
   | exact ih0 _ _
   | exact zaW.mono _ _
   | exact zcG.mono _ _
   | exact LeO.none _
   | refine LeO.ite ?_ ?_
   | refine LeO.bind ?_ (fun _ => ?_)
theorem ziL.mono : ∀ a0 k, LeO (ziL.f k a0) (ziL.f (k + 1) a0) := by
 intro a0 k
 have ih0 := ziL.mono_l k
 unfold ziL.f
 repeat' first
   | (with_reducible exact ih0 _ _)
   | (with_reducible exact zaW.mono _ _)
   | (with_reducible exact zcG.mono _ _)
   | (with_reducible exact LeO.refl _)
   | (with_reducible exact LeO.none _)
   | (with_reducible refine LeO.ite ?_ ?_)
   | (with_reducible refine LeO.bind ?_ (fun _ => ?_))
   | exact ih0 _ _
   | exact zaW.mono _ _
   | exact zcG.mono _ _
   | exact LeO.none _
   | refine LeO.ite ?_ ?_
   | refine LeO.bind ?_ (fun _ => ?_)
set_option maxHeartbeats 8000000 in
set_option maxRecDepth 100000 in
theorem ziL.calls (k : Nat) (A0 : Option Addr) (c0 : Nat) (l0 : List Int) (r : Bool) (w : World) (hr0 : Kd.C (Kd.int .i64) w A0 l0.length l0) (hc0 : l0.length ≤ c0) (h : ziL.f k l0 = some r) :
  Calls Try.prog 10 #[.slice A0 l0.length c0] w fun e w' => e = .returned (.bool r) ∧ Drawn0 w w' := by
 have HR0 := zpS hr0
 have HC0 := zpS hc0
 clear hr0 hc0
 have H : ((zfN.f l0).bind fun t283 => ((zrP.f t283 2 16).bind fun t284 => (if t284 = true then (ziL.j0 k l0 (((l0.length : Int) % 2) == 1)) else (ziL.j0 k l0 true)))) = some r := h
 clear h
 have HC2 := zpS H
 clear H
 go_enter Try.func10, Try.ntmps10
 go_upto_region 1 with (fail)
 go_cut [12] (fun v12 wc => ∃ (kq : Nat) (x12_1 : Bool), v12 = .bool x12_1 ∧ Aside0 (ziL.j0 kq l0 x12_1 = some r) ∧ Aside0 (kq ≤ k) ∧ Drawn0 w wc)
 case first =>
  have H := HC2.out
  clear HC2
  replace H := Option.bind_eq_some_iff.mp H
  obtain ⟨t283, A30, H⟩ := H
  replace H : ((zrP.f t283 2 16).bind fun t284 => (if t284 = true then (ziL.j0 k l0 (((l0.length : Int) % 2) == 1)) else (ziL.j0 k l0 true))) = some r := H
  have A3 := zpS A30
  clear A30
  replace H := Option.bind_eq_some_iff.mp H
  obtain ⟨t284, A40, H⟩ := H
  replace H : (if t284 = true then (ziL.j0 k l0 (((l0.length : Int) % 2) == 1)) else (ziL.j0 k l0 true)) = some r := H
  have A4 := zpS A40
  clear A40
  by_cases c5 : t284 = true
  ·subst c5
   have H1 : (ziL.j0 k l0 (((l0.length : Int) % 2) == 1)) = some r := by rw [if_pos rfl] at H; exact H
   clear H
   have H := H1
   clear H1
   have H' := zpS H
   clear H
   go_wp2_with (first | ((with_reducible refine zgM (f := 18) rfl ?_); refine zqQ (some 4) rfl rfl Try.func18 (by kernel_rfl) rfl #[.slice A0 l0.length c0] rfl (by (try simp only [List.map_toArray, List.map_cons, List.map_nil]); first | done | rfl | (simp only [List.length_drop, List.length_take]; rfl)) ?_; (with_reducible refine (zfN.calls _ _ l0 t283 _ ?side1 ?side2 A3.out).mono ?_); (case side1 => repeat (first | exact HR0.out | (with_reducible refine Kd.C_alloc ?_ _) | (with_reducible refine Kd.C_drewN ?_ _) | (with_reducible refine Kd.C_drew ?_))); (case side2 => exact HC0.out); rintro e w' ⟨rfl, ⟨nd, rfl⟩⟩; refine ⟨_, rfl, ?_⟩) | ((with_reducible refine zgM (f := 17) rfl ?_); refine zqQ (some 5) rfl rfl Try.func17 (by kernel_rfl) rfl #[.int .i64 t283, .int .i64 2, .int .i64 16] rfl (by (try simp only [List.map_toArray, List.map_cons, List.map_nil]); first | done | rfl | (simp only [List.length_drop, List.length_take]; rfl)) ?_; (with_reducible refine (zrP.calls t283 2 16 true _ A4.out).mono ?_); rintro e w' ⟨rfl, ⟨nd, rfl⟩⟩; refine ⟨_, rfl, ?_⟩))
   go_meet
   case rel => exact ⟨_, ((((l0.length : Int) % 2) == 1)), (by first | rfl | (simp; done) | (simp [*]; done)), H', ⟨by first | omega | exact Nat.le_refl _⟩, by repeat (first | exact Drawn0.refl _ | apply Drawn0.step)⟩
  ·replace c5 := Bool.eq_false_iff.mpr c5
   subst c5
   have H1 : (ziL.j0 k l0 true) = some r := by rw [if_neg (show ¬ (false = true) by decide)] at H; exact H
   clear H
   have H := H1
   clear H1
   have H' := zpS H
   clear H
   go_wp2_with (first | ((with_reducible refine zgM (f := 18) rfl ?_); refine zqQ (some 4) rfl rfl Try.func18 (by kernel_rfl) rfl #[.slice A0 l0.length c0] rfl (by (try simp only [List.map_toArray, List.map_cons, List.map_nil]); first | done | rfl | (simp only [List.length_drop, List.length_take]; rfl)) ?_; (with_reducible refine (zfN.calls _ _ l0 t283 _ ?side1 ?side2 A3.out).mono ?_); (case side1 => repeat (first | exact HR0.out | (with_reducible refine Kd.C_alloc ?_ _) | (with_reducible refine Kd.C_drewN ?_ _) | (with_reducible refine Kd.C_drew ?_))); (case side2 => exact HC0.out); rintro e w' ⟨rfl, ⟨nd, rfl⟩⟩; refine ⟨_, rfl, ?_⟩) | ((with_reducible refine zgM (f := 17) rfl ?_); refine zqQ (some 5) rfl rfl Try.func17 (by kernel_rfl) rfl #[.int .i64 t283, .int .i64 2, .int .i64 16] rfl (by (try simp only [List.map_toArray, List.map_cons, List.map_nil]); first | done | rfl | (simp only [List.length_drop, List.length_take]; rfl)) ?_; (with_reducible refine (zrP.calls t283 2 16 false _ A4.out).mono ?_); rintro e w' ⟨rfl, ⟨nd, rfl⟩⟩; refine ⟨_, rfl, ?_⟩))
   go_meet
   case rel => exact ⟨_, (true), (by first | rfl | (simp; done) | (simp [*]; done)), H', ⟨by first | omega | exact Nat.le_refl _⟩, by repeat (first | exact Drawn0.refl _ | apply Drawn0.step)⟩
 case rest =>
  clear HC2
  try clear c1
  try clear p2
  try clear c5
  obtain ⟨kq, x12_1, rfl, HA, HJ1, ⟨mc1, rfl⟩⟩ := hcut
  cases kq with
  | zero => exact absurd HA.out (by simp [ziL.j0])
  | succ kj1 =>
   have H := HA.out
   clear HA
   simp only [ziL.j0] at H
   by_cases c6 : x12_1 = true
   ·subst c6
    have H1 : (some false) = some r := by rw [if_pos rfl] at H; exact H
    clear H
    have H := H1
    clear H1
    obtain rfl := Option.some.inj H
    go_wp2
    go_ret
    exact ⟨by first | rfl | (simp; done) | (simp [*]; done), by repeat (first | exact Drawn0.refl _ | apply Drawn0.step)⟩
   ·replace c6 := Bool.eq_false_iff.mpr c6
    subst c6
    have H1 : ((zqM.f l0).bind fun t285 => (if t285 = true then (some false) else ((zcG.f kj1 l0).bind fun t286 => (if t286 ≤ 16 then ((zaW.f kj1 l0).bind fun t287 => (some (t287 == 0))) else (some false))))) = some r := by rw [if_neg (show ¬ (false = true) by decide)] at H; exact H
    clear H
    have H := H1
    clear H1
    replace H := Option.bind_eq_some_iff.mp H
    obtain ⟨t285, A70, H⟩ := H
    replace H : (if t285 = true then (some false) else ((zcG.f kj1 l0).bind fun t286 => (if t286 ≤ 16 then ((zaW.f kj1 l0).bind fun t287 => (some (t287 == 0))) else (some false)))) = some r := H
    have A7 := zpS A70
    clear A70
    by_cases c8 : t285 = true
    ·subst c8
     have H1 : (some false) = some r := by rw [if_pos rfl] at H; exact H
     clear H
     have H := H1
     clear H1
     obtain rfl := Option.some.inj H
     go_wp2_with (first | ((with_reducible refine zgM (f := 19) rfl ?_); refine zqQ (some 14) rfl rfl Try.func19 (by kernel_rfl) rfl #[.slice A0 l0.length c0, .func (.func 20) #[] #[]] rfl (by (try simp only [List.map_toArray, List.map_cons, List.map_nil]); first | done | rfl | (simp only [List.length_drop, List.length_take]; rfl)) ?_; (with_reducible refine (zqM.calls _ _ l0  true _ ?side1 ?side2 A7.out).mono ?_); (case side1 => repeat (first | exact HR0.out | (with_reducible refine Kd.C_alloc ?_ _) | (with_reducible refine Kd.C_drewN ?_ _) | (with_reducible refine Kd.C_drew ?_))); (case side2 => exact HC0.out); rintro e w' ⟨rfl, ⟨nd, rfl⟩⟩; refine ⟨_, rfl, ?_⟩))
     go_ret
     exact ⟨by first | rfl | (simp; done) | (simp [*]; done), by repeat (first | exact Drawn0.refl _ | apply Drawn0.step)⟩
    ·replace c8 := Bool.eq_false_iff.mpr c8
     subst c8
     have H1 : ((zcG.f kj1 l0).bind fun t286 => (if t286 ≤ 16 then ((zaW.f kj1 l0).bind fun t287 => (some (t287 == 0))) else (some false))) = some r := by rw [if_neg (show ¬ (false = true) by decide)] at H; exact H
     clear H
     have H := H1
     clear H1
     replace H := Option.bind_eq_some_iff.mp H
     obtain ⟨t286, A90, H⟩ := H
     replace H : (if t286 ≤ 16 then ((zaW.f kj1 l0).bind fun t287 => (some (t287 == 0))) else (some false)) = some r := H
     have A9 := zpS A90
     clear A90
     by_cases c10 : t286 ≤ 16
     ·rw [if_pos c10] at H
      have c10b0 : decide (t286 ≤ 16) = true := decide_eq_true c10
      clear c10
      replace H := Option.bind_eq_some_iff.mp H
      obtain ⟨t287, A110, H⟩ := H
      replace H : (some (t287 == 0)) = some r := H
      have A11 := zpS A110
      clear A110
      obtain rfl := Option.some.inj H
      go_wp2_with (first | ((with_reducible refine zgM (f := 19) rfl ?_); refine zqQ (some 14) rfl rfl Try.func19 (by kernel_rfl) rfl #[.slice A0 l0.length c0, .func (.func 20) #[] #[]] rfl (by (try simp only [List.map_toArray, List.map_cons, List.map_nil]); first | done | rfl | (simp only [List.length_drop, List.length_take]; rfl)) ?_; (with_reducible refine (zqM.calls _ _ l0  false _ ?side1 ?side2 A7.out).mono ?_); (case side1 => repeat (first | exact HR0.out | (with_reducible refine Kd.C_alloc ?_ _) | (with_reducible refine Kd.C_drewN ?_ _) | (with_reducible refine Kd.C_drew ?_))); (case side2 => exact HC0.out); rintro e w' ⟨rfl, ⟨nd, rfl⟩⟩; refine ⟨_, rfl, ?_⟩) | (go_at_call 21; (with_reducible refine (zcG.calls kj1 _ _ l0 t286 _ ?side1 ?side2 A9.out).mono ?_); (case side1 => repeat (first | exact HR0.out | (with_reducible refine Kd.C_alloc ?_ _) | (with_reducible refine Kd.C_drewN ?_ _) | (with_reducible refine Kd.C_drew ?_))); (case side2 => exact HC0.out); rintro e w' ⟨rfl, ⟨nd, rfl⟩⟩) | (go_at_call 22; (with_reducible refine (zaW.calls kj1 _ _ l0 t287 _ ?side1 ?side2 A11.out).mono ?_); (case side1 => repeat (first | exact HR0.out | (with_reducible refine Kd.C_alloc ?_ _) | (with_reducible refine Kd.C_drewN ?_ _) | (with_reducible refine Kd.C_drew ?_))); (case side2 => exact HC0.out); rintro e w' ⟨rfl, ⟨nd, rfl⟩⟩))
      go_ret
      exact ⟨by first | rfl | (simp; done) | (simp [*]; done), by repeat (first | exact Drawn0.refl _ | apply Drawn0.step)⟩
     ·rw [if_neg c10] at H
      have c10b0 : decide (t286 ≤ 16) = false := decide_eq_false c10
      clear c10
      obtain rfl := Option.some.inj H
      go_wp2_with (first | ((with_reducible refine zgM (f := 19) rfl ?_); refine zqQ (some 14) rfl rfl Try.func19 (by kernel_rfl) rfl #[.slice A0 l0.length c0, .func (.func 20) #[] #[]] rfl (by (try simp only [List.map_toArray, List.map_cons, List.map_nil]); first | done | rfl | (simp only [List.length_drop, List.length_take]; rfl)) ?_; (with_reducible refine (zqM.calls _ _ l0  false _ ?side1 ?side2 A7.out).mono ?_); (case side1 => repeat (first | exact HR0.out | (with_reducible refine Kd.C_alloc ?_ _) | (with_reducible refine Kd.C_drewN ?_ _) | (with_reducible refine Kd.C_drew ?_))); (case side2 => exact HC0.out); rintro e w' ⟨rfl, ⟨nd, rfl⟩⟩; refine ⟨_, rfl, ?_⟩) | (go_at_call 21; (with_reducible refine (zcG.calls kj1 _ _ l0 t286 _ ?side1 ?side2 A9.out).mono ?_); (case side1 => repeat (first | exact HR0.out | (with_reducible refine Kd.C_alloc ?_ _) | (with_reducible refine Kd.C_drewN ?_ _) | (with_reducible refine Kd.C_drew ?_))); (case side2 => exact HC0.out); rintro e w' ⟨rfl, ⟨nd, rfl⟩⟩))
      go_ret
      exact ⟨by first | rfl | (simp; done) | (simp [*]; done), by repeat (first | exact Drawn0.refl _ | apply Drawn0.step)⟩

end Go.Proofs.Ytdnblakbegjohaa.PFnCrimps
