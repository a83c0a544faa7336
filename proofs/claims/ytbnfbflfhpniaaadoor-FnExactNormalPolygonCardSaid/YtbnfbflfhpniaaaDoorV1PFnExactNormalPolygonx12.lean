-- Printed for this claim by this session's program pp.py, which drives the kit's print with additions. Not trusted: Lean checks it.
import Derived.Test.YtbnfbflfhpniaaaDoorV1PFnExactNormalPolygonx0
import Derived.Test.YtbnfbflfhpniaaaDoorV1PFnExactNormalPolygonx9
import Derived.Test.YtbnfbflfhpniaaaDoorV1PFnExactNormalPolygonx10
import Derived.Test.YtbnfbflfhpniaaaDoorV1PFnExactNormalPolygonx11
namespace Go.Proofs.YtbnfbflfhpniaaaDoor.PFnExactNormalPolygon
open Go.RowKit Go.Proofs.YtbnfbflfhpniaaaDoorW.PrintWords Go.Proofs.YtbnfbflfhpniaaaDoorW.PrintLast Go.Proofs.YtbnfbflfhpniaaaDoorW.PrintMore
attribute [local go_sem] zbB ziC zrC zhD znE zuB znH zkT   -- for this text's walks alone
set_option linter.unusedVariables false
set_option maxHeartbeats 8000000
set_option maxRecDepth 100000
set_option linter.unusedSimpArgs false

def zzE.f (k : Nat) (l0 : List (S35)) : Option ((List (S35))) := if (l0.length : Int) = 0 then (some ([] : List (S35))) else ((ztP.f k l0).bind fun t382 => (if 0 ≤ t382 then (if t382 ≤ (l0.length : Int) then ((ziJ.f k (([(l0.drop (t382 : Int).toNat), (l0.take (t382 : Int).toNat)] : List (List (S35))))).bind fun t396 => (some t396)) else (none)) else (none)))
theorem zzE.mono : ∀ a0 k, LeO (zzE.f k a0) (zzE.f (k + 1) a0) := by
 intro a0 k
 unfold zzE.f
 repeat' first
   | (with_reducible exact ziJ.mono _ _)
   | (with_reducible exact ztP.mono _ _)
   | (with_reducible exact LeO.refl _)
   | (with_reducible exact LeO.none _)
   | (with_reducible refine LeO.ite ?_ ?_)
   | (with_reducible refine LeO.bind ?_ (fun _ => ?_))
   | exact ziJ.mono _ _
   | exact ztP.mono _ _
   | exact LeO.none _
   | refine LeO.ite ?_ ?_
   | refine LeO.bind ?_ (fun _ => ?_)
def zzE.T4 : Bool × List (List Nat × List Nat) := (true, [([], []), ([], []), ([0, 1], [0, 1]), ([], []), ([], []), ([3, 4], [3, 4]), ([2, 5], [2, 5]), ([6], [6]), ([7, 7, 0, 1, 2, 3, 4, 5, 6, 7], [7])])
def zzE.B4 : List Nat := [0, 0, 3, 0, 0, 24, 63, 127, 255]
theorem zzE.tab4 : rtab .any (opsOf Tryd.f19 4) = zzE.T4 := by kernel_rfl
theorem zzE.bits4 : ztG zzE.T4.2 zzE.B4 = true := by kernel_rfl
theorem zzE.calls (k : Nat) (P0_ : Nat → Prop) (A0 : Option Addr) (c0 : Nat) (l0 : List (S35)) (r : List (S35)) (w : World) (hs0 : Kd.V k35 35 w w.heap.size (fun k_ => P0_ k_) (.slice A0 l0.length c0) l0) (h : zzE.f k l0 = some r) :
  Calls Tryd.prog 19 #[.slice A0 l0.length c0] w fun e w' => ∃ v0_ : Value, e = .returned (v0_) ∧ Kd.R k35 35 w' w.heap.size (fun k_ => (w.heap.size ≤ k_)) v0_ r ∧ Below w.heap.size w w' := by
 have HO0 := zpS (show Kd.V k35 35 w w.heap.size (fun k_ => (P0_ k_ ∨ w.heap.size ≤ k_)) (.slice A0 l0.length c0) l0 from Kd.V_mono hs0 (fun k_ hk => .inl hk))
 have HB := zpS (Below.refl w.heap.size w)
 have H : (if (l0.length : Int) = 0 then (some ([] : List (S35))) else ((ztP.f k l0).bind fun t382 => (if 0 ≤ t382 then (if t382 ≤ (l0.length : Int) then ((ziJ.f k (([(l0.drop (t382 : Int).toNat), (l0.take (t382 : Int).toNat)] : List (List (S35))))).bind fun t396 => (some t396)) else (none)) else (none)))) = some r := h
 clear h
 by_cases c2 : (l0.length : Int) = 0
 ·rw [if_pos c2] at H
  have c2b0 : ((l0.length : Int) == 0) = true := beq_iff_eq.mpr c2
  have c2b1 : ((l0.length : Int) != 0) = false := bne_eq_false_iff_eq.mpr c2
  clear c2
  obtain rfl := Option.some.inj H
  go_enter Tryd.func19, Tryd.ntmps19
  go_wp2
  go_ret
  exact ⟨_, by first | rfl | (simp [ziS, znJ] <;> rfl) | (simp [*, ziS, znJ] <;> rfl), by first | exact Kd.R_nil _ _ _ _ _ | exact Kd.N_nil _ _ _ _ _ | exact Kd.V_nil _ _ _ _ _ | exact Kd.Q_nil _ _ _ _ _ | exact Kd.S_nil _ _ _ _ _, bb_⟩
 ·rw [if_neg c2] at H
  have c2b0 : ((l0.length : Int) == 0) = false := beq_eq_false_iff_ne.mpr c2
  have c2b1 : ((l0.length : Int) != 0) = true := bne_iff_ne.mpr c2
  have c2b2 : ¬ (l0 = []) := fun h_ => c2 (by rw [h_]; rfl)
  replace H := Option.bind_eq_some_iff.mp H
  obtain ⟨t382, A30, H⟩ := H
  replace H : (if 0 ≤ t382 then (if t382 ≤ (l0.length : Int) then ((ziJ.f k (([(l0.drop (t382 : Int).toNat), (l0.take (t382 : Int).toNat)] : List (List (S35))))).bind fun t396 => (some t396)) else (none)) else (none)) = some r := H
  have A3 := zpS A30
  clear A30
  by_cases c4 : 0 ≤ t382
  ·rw [if_pos c4] at H
   have c4b0 := eq_true c4
   have c4b1 : decide (0 ≤ t382) = true := decide_eq_true c4
   clear c4
   by_cases c5 : t382 ≤ (l0.length : Int)
   ·rw [if_pos c5] at H
    have c5b0 := eq_true c5
    have c5b1 : decide (t382 ≤ (l0.length : Int)) = true := decide_eq_true c5
    clear c5
    obtain ⟨y383, hy383⟩ : ∃ y_ : List (S35), y_ = (l0.drop (t382 : Int).toNat) := ⟨_, rfl⟩
    replace H : ((ziJ.f k (([y383, (l0.take (t382 : Int).toNat)] : List (List (S35))))).bind fun t396 => (some t396)) = some r := by first | (rw [hy383]; with_reducible exact H) | (have H2_ := (Option.bind_some _ _).symm.trans H; rw [hy383]; with_reducible exact H2_) | (have H2_ := (Option.bind_some _ _).symm.trans H; with_reducible exact H2_) | with_reducible exact H | (rw [hy383]; exact H) | exact H
    have Ny383 := zpS hy383
    clear hy383
    have c6b0 := eq_true (dt_ : 0 ≤ t382)
    have c7b0 := eq_true (dt_ : t382 ≤ (l0.length : Int))
    obtain ⟨y388, hy388⟩ : ∃ y_ : List (S35), y_ = (l0.take (t382 : Int).toNat) := ⟨_, rfl⟩
    replace H : ((ziJ.f k (([y383, y388] : List (List (S35))))).bind fun t396 => (some t396)) = some r := by first | (rw [hy388]; with_reducible exact H) | (have H2_ := (Option.bind_some _ _).symm.trans H; rw [hy388]; with_reducible exact H2_) | (have H2_ := (Option.bind_some _ _).symm.trans H; with_reducible exact H2_) | with_reducible exact H | (rw [hy388]; exact H) | exact H
    have Ny388 := zpS hy388
    clear hy388
    obtain ⟨y393, hy393⟩ : ∃ y_ : List (List (S35)), y_ = (([y383, y388] : List (List (S35)))) := ⟨_, rfl⟩
    replace H : ((ziJ.f k y393).bind fun t396 => (some t396)) = some r := by first | (rw [hy393]; with_reducible exact H) | (have H2_ := (Option.bind_some _ _).symm.trans H; rw [hy393]; with_reducible exact H2_) | (have H2_ := (Option.bind_some _ _).symm.trans H; with_reducible exact H2_) | with_reducible exact H | (rw [hy393]; exact H) | exact H
    have Ny393 := zpS hy393
    clear hy393
    replace H := Option.bind_eq_some_iff.mp H
    obtain ⟨t396, A80, H⟩ := H
    replace H : (some t396) = some r := H
    have A8 := zpS A80
    clear A80
    obtain rfl := Option.some.inj H
    go_enter Tryd.func19, Tryd.ntmps19
    try go_wp2_with (first | ((with_reducible refine zgK (f := 32) rfl ?_); refine zqQ (some 8) rfl rfl Tryd.func32 (by kernel_rfl) rfl #[.slice A0 l0.length c0] rfl (by (try simp only [List.map_toArray, List.map_cons, List.map_nil]); first | done | rfl | (simp only [List.length_drop, List.length_take]; rfl)) ?_; (with_reducible refine (ztP.calls k _ _ l0 t382 _ ?side1 ?side2 A3.out).mono ?_); (case side1 => repeat (first | exact (Kd.V_reads' HO0.out).2.2 | (with_reducible refine Kd.C_alloc ?_ _) | (with_reducible refine Kd.C_drewN ?_ _) | (with_reducible refine Kd.C_drew ?_))); (case side2 => exact (Kd.V_reads' HO0.out).2.1); rintro e w9 ⟨rfl, hb⟩; refine ⟨_, rfl, ?_⟩; have n0_ := zpS (Kd.V_below (by (with_reducible repeat (first | apply Kd.V_alloc | apply Kd.V_drewN | apply Kd.V_drew)); exact HO0.out) hb); have n1_ := (ns_ hb); clear HO0; clear HB; have HO0 := n0_; have HB := n1_; clear n0_ n1_; (try clear hb); (try clear hb2)))
    have n0_ := zpS (Kd.V_drew HO0.out)
    have n1_ := zpS (zvF HB.out)
    clear HO0
    clear HB
    have HO0 := n0_
    have HB := n1_
    clear n0_ n1_
    have q11 : (t382 : Int) ≤ ((l0.length : Int) : Int) := dt_
    obtain ⟨i011, hi011, _, hsz11, _⟩ := info_parts info35
    have hroom11 : l0.length ≤ c0 := (Kd.V_reads' HO0.out).2.1
    have hC11 : Kd.F k35 _ _ A0 l0.length l0 := (Kd.V_at (base := w.heap.size) HO0.out).2.2
    have q011 : (0 : Int) ≤ (t382 : Int) := dt_
    have hcut11 := cut_from (P := Tryd.prog) 24 35 .i64 Tryd.underlying24 hi011 6 hsz11 A0 l0.length c0 t382 q011 q11
    have hr11 := Kd.F_cut (m := (t382 : Int).toNat) (c := c0) hC11 (by omega) hroom11
    obtain ⟨A11, hA11⟩ : ∃ A1, A1 = (if c0 = (t382 : Int).toNat then A0 else (A0 : Option Addr).map (·.add ((t382 : Int).toNat * 6))) := ⟨_, rfl⟩
    obtain ⟨c11, hc11⟩ : ∃ c1, c1 = c0 - (t382 : Int).toNat := ⟨_, rfl⟩
    have hy11 : y383.length = l0.length - (t382 : Int).toNat := (by rw [Ny383.out, List.length_drop] <;> omega)
    rw [show (l0).drop (t382 : Int).toNat = y383 from Ny383.out.symm] at hr11
    replace hr11 : Kd.F k35 _ _ A11 y383.length y383 := (by rw [hA11]; exact hr11)
    rw [← hy11, ← hA11, ← hc11] at hcut11
    have HO387 := zpS (show Kd.V k35 35 _ w.heap.size _ (.slice A11 y383.length c11) y383 from Kd.V_mk (by rw [hy11, hc11]; exact Nat.sub_le_sub_right hroom11 _) hr11)
    have HC387 := zpS (show y383.length ≤ c11 from by rw [hy11, hc11]; exact Nat.sub_le_sub_right hroom11 _)
    clear hr11 hC11 hroom11 hi011 hsz11 hc11
    have KY11 := zpS hy11
    have KA11 := zpS hA11
    clear hy11 hA11
    replace q11 := eq_true q11
    have q12 : (t382 : Int) ≤ ((l0.length : Int) : Int) := dt_
    obtain ⟨i012, hi012, _, hsz12, _⟩ := info_parts info35
    have hroom12 : l0.length ≤ c0 := (Kd.V_reads' HO0.out).2.1
    have hC12 : Kd.F k35 _ _ A0 l0.length l0 := (Kd.V_at (base := w.heap.size) HO0.out).2.2
    have hcut12 := cut_to (P := Tryd.prog) 24 35 .i64 Tryd.underlying24 hi012 A0 l0.length c0 t382 dt_ q12 hroom12
    have hr12 := Kd.F_take (m := (t382 : Int).toNat) hC12 (by omega)
    have hy12 : y388.length = (t382 : Int).toNat := (by rw [Ny388.out, List.length_take]; omega)
    rw [← Ny388.out] at hr12
    rw [← hy12] at hcut12
    have HO392 := zpS (show Kd.V k35 35 _ w.heap.size _ (.slice A0 y388.length c0) y388 from Kd.V_mk (by omega) hr12)
    have HC392 := zpS (show y388.length ≤ c0 from by omega)
    clear hr12 hC12 hroom12 hi012 hsz12
    have KY12 := zpS hy12
    clear hy12
    replace q12 := eq_true q12
    refine zpB (n := 9) (S := fun w' => True) (ds := []) #[false, false, false, false, false, false, false, false, false] (by kernel_rfl) rfl rfl trivial (fun hHeld => ?_); refine zwI zzE.tab4 zzE.bits4 (fun HT_ HW_ => ?_)
    generalize w9.drew = w10 at HO0 HB HO387 HO392 hHeld ⊢
    refine pu_ 0 (some 9) (bl_ 9 1) ?_
    refine pu_ 1 (some 10) (bl_ 9 3) ?_
    refine pu_ 2 (some 11) (bl_ 9 7) ?_
    refine pu_ 3 (some 12) (bl_ 9 15) ?_
    refine pu_ 4 (some 13) (bl_ 9 31) ?_
    refine pu_ 5 (some 14) (bl_ 9 63) ?_
    refine zdC (i := 6) (N := some 15) (bl_ 9 127) rfl rfl (zeO HT_.out (by kernel_rfl)) (by decide) (fun K hK => ?_)
    refine Kd.N_lit_step (Kd.slice 35 k35) _ 24 ?hg (N' := 15) ?hd (xs := ([y383, y388] : List (List (S35)))) (inner := [.slice A11 y383.length c11, .slice A0 y388.length c0]) (ok := (fun k_ => (P0_ k_ ∨ w.heap.size ≤ k_))) (okp := (fun k_ => (P0_ k_ ∨ w.heap.size ≤ k_))) ?hr ?hp (fun _ hk => hk) ((show ∀ k_, w10.heap.size ≤ k_ → (fun k_ => (P0_ k_ ∨ w.heap.size ≤ k_)) k_ from fun k_ hk => (.inr (Nat.le_trans (zuA bb_) hk))) _ (Nat.le_refl _)) (Below.refl _ _) (Nat.le_refl _) (by simp) ?_; (case hd => rfl); (case hg => rfl); (case hr => first | (go_simp; done) | (go_simp; rfl)); (case hp => exact (zfH.one (show Kd.FK (Kd.slice 35 k35) _ _ y383 [.slice A11 y383.length c11] from (Kd.FK_slice_mk (Kd.V_reads' (Kd.V_mono (ok' := (fun k_ => (P0_ k_ ∨ w.heap.size ≤ k_))) (HO387.out) (fun k_ hk => hk))).2.1 (Kd.V_F (Kd.V_mono (ok' := (fun k_ => (P0_ k_ ∨ w.heap.size ≤ k_))) (HO387.out) (fun k_ hk => hk))))) (zfH.one (show Kd.FK (Kd.slice 35 k35) _ _ y388 [.slice A0 y388.length c0] from (Kd.FK_slice_mk (Kd.V_reads' (Kd.V_mono (ok' := (fun k_ => (P0_ k_ ∨ w.heap.size ≤ k_))) (HO392.out) (fun k_ hk => hk))).2.1 (Kd.V_F (Kd.V_mono (ok' := (fun k_ => (P0_ k_ ∨ w.heap.size ≤ k_))) (HO392.out) (fun k_ hk => hk))))) (zfH.none _ _))))
    intro v394 w13 ho14 hb hg_ hnew_
    clear hg_ hnew_
    (first | rw [← Ny393.out] at ho14 | (simp only [Int.reduceToNat] at ho14; rw [← Ny393.out] at ho14))
    have n0_ := zpS (Kd.V_elder' (by (with_reducible repeat (first | apply Kd.V_alloc | apply Kd.V_drewN | apply Kd.V_drew)); exact HO0.out) (Kd.N_base ho14) hb)
    have n1_ := zpS (Kd.V_elder' (by (with_reducible repeat (first | apply Kd.V_alloc | apply Kd.V_drewN | apply Kd.V_drew)); exact HO387.out) (Kd.N_base ho14) hb)
    have n2_ := zpS (Kd.V_elder' (by (with_reducible repeat (first | apply Kd.V_alloc | apply Kd.V_drewN | apply Kd.V_drew)); exact HO392.out) (Kd.N_base ho14) hb)
    have n3_ := zpS (Kd.N_lower ho14 (zuA bb_))
    have n4_ := (ns_ hb)
    clear HO0
    clear HO387
    clear HO392
    clear HB
    have HO0 := n0_
    have HO387 := n1_
    have HO392 := n2_
    have HO395 := n3_
    have HB := n4_
    clear n0_ n1_ n2_ n3_ n4_
    clear hb ho14
    obtain ⟨Ao15, co15, eo15⟩ := Kd.N_slice HO395.out
    (first | subst eo15 | (injection eo15 with f1_ f2_ f3_; have f4_ := f1_.symm; have f5_ := f3_.symm; clear f1_ f2_ f3_; subst f4_; subst f5_))
    refine hK.out _ _ trivial (fun hHeld => ?_)
    clear hK K
    refine zaN (a' := ?_) ?_ ?_
    rotate_left
    ·show Act.put _ (some 15) _ = _
     simp only [Act.put, List.setIfInBounds_toArray, List.set_cons_zero, List.set_cons_succ, zcM, ziK]
     rfl
    refine zdC (i := 7) (N := some 16) (bl_ 9 255) rfl rfl (zeO HT_.out (by kernel_rfl)) (by decide) (fun K hK => ?_)
    refine zqW Tryd.func33 (by kernel_rfl) rfl #[.slice Ao15 y393.length co15] (by rfl) rfl rfl (by (try simp only [List.map_toArray, List.map_cons, List.map_nil]); first | done | rfl | (simp only [List.length_drop, List.length_take]; rfl)) ?_
    with_reducible refine (ziJ.calls k _ _ y393 t396 _ ?side1 ?side2 A8.out).mono ?_
    (case side1 => repeat (first | exact (Kd.N_reads' HO395.out).2.2 | (with_reducible refine Kd.C_alloc ?_ _) | (with_reducible refine Kd.C_drewN ?_ _) | (with_reducible refine Kd.C_drew ?_)))
    (case side2 => exact (Kd.N_reads' HO395.out).2.1)
    rintro e w16 ⟨v397, rfl, ho0, hb⟩
    refine ⟨_, rfl, ?_⟩
    have n0_ := zpS (Kd.V_elder' (by (with_reducible repeat (first | apply Kd.V_alloc | apply Kd.V_drewN | apply Kd.V_drew)); exact HO0.out) (Kd.R_base ho0) hb)
    have n1_ := zpS (Kd.V_elder' (by (with_reducible repeat (first | apply Kd.V_alloc | apply Kd.V_drewN | apply Kd.V_drew)); exact HO387.out) (Kd.R_base ho0) hb)
    have n2_ := zpS (Kd.V_elder' (by (with_reducible repeat (first | apply Kd.V_alloc | apply Kd.V_drewN | apply Kd.V_drew)); exact HO392.out) (Kd.R_base ho0) hb)
    have n3_ := zpS (Kd.N_elder' (by (with_reducible repeat (first | apply Kd.N_alloc | apply Kd.N_drewN | apply Kd.N_drew)); exact HO395.out) (Kd.R_base ho0) hb)
    have n4_ := zpS (Kd.R_lower (Kd.R_newM (M := fun k_ => (w.heap.size ≤ k_)) ho0 (zuA bb_) (fun k_ h_ => h_)) (zuA bb_))
    have n5_ := (ns_ hb)
    clear HO0
    clear HO387
    clear HO392
    clear HO395
    clear HB
    have HO0 := n0_
    have HO387 := n1_
    have HO392 := n2_
    have HO395 := n3_
    have HO398 := n4_
    have HB := n5_
    clear n0_ n1_ n2_ n3_ n4_ n5_
    (try clear hb)
    (try clear hb2)
    (try clear hk)
    (try clear hi)
    (try clear ho0)
    refine hK.out _ _ trivial (fun hHeld => ?_)
    clear hK K
    refine zaN (a' := ?_) ?_ ?_
    rotate_left
    ·show Act.put _ (some 16) _ = _
     simp only [Act.put, List.setIfInBounds_toArray, List.set_cons_zero, List.set_cons_succ, zcM, ziK]
     rfl
    refine pu_ 8 (some 2) (bl_ 9 511) ?_
    refine znK (zzP HT_.out (by kernel_rfl)) ?_
    try go_wp2
    go_ret
    exact ⟨_, by first | rfl | (simp [ziS, znJ] <;> rfl) | (simp [*, ziS, znJ] <;> rfl), by (with_reducible repeat (first | apply Kd.R_alloc | apply Kd.R_drewN | apply Kd.R_drew)); exact Kd.R_mono HO398.out (fun _ hk => hk.1), bb_⟩
   ·rw [if_neg c5] at H
    exact absurd H (by simp)
  ·rw [if_neg c4] at H
   exact absurd H (by simp)

def zsU.f (l0 : List (S35)) : Option (Int) := some (l0.length : Int)
theorem zsU.calls (A0 : Option Addr) (c0 : Nat) (l0 : List (S35)) (r : Int) (w : World) (hr0 : Kd.C k35 w A0 l0.length l0) (hc0 : l0.length ≤ c0) (h : zsU.f l0 = some r) :
  Calls Tryd.prog 35 #[.slice A0 l0.length c0] w fun e w' => e = .returned (.int .i64 r) ∧ Drawn0 w w' := by
 have HR0 := zpS hr0
 have HC0 := zpS hc0
 clear hr0 hc0
 have H : (some (l0.length : Int)) = some r := h
 clear h
 obtain rfl := Option.some.inj H
 go_enter Tryd.func35, Tryd.ntmps35
 go_wp2
 go_ret
 exact ⟨by first | rfl | (simp; done) | (simp [*]; done), by repeat (first | exact Drawn0.refl _ | apply Drawn0.step)⟩

def zdY.f (k : Nat) (a0_0 : Int) (a0_1 : Int) (a0_2 : Int) (a0_3 : Int) (a0_4 : Int) (a0_5 : Int) (a1_0 : Int) (a1_1 : Int) (a1_2 : Int) (a1_3 : Int) (a1_4 : Int) (a1_5 : Int) : Option (Int × Int × Int × Int × Int × Int) := (zpR.f k a0_0 a0_1 a0_2 a1_0 a1_1 a1_2).bind fun bt402 => ((zpR.f k a0_3 a0_4 a0_5 a1_3 a1_4 a1_5).bind fun bt405 => (some (bt402.1, bt402.2.1, bt402.2.2, bt405.1, bt405.2.1, bt405.2.2)))
theorem zdY.mono : ∀ a0 a1 a2 a3 a4 a5 a6 a7 a8 a9 a10 a11 k, LeO (zdY.f k a0 a1 a2 a3 a4 a5 a6 a7 a8 a9 a10 a11) (zdY.f (k + 1) a0 a1 a2 a3 a4 a5 a6 a7 a8 a9 a10 a11) := by
 intro a0 a1 a2 a3 a4 a5 a6 a7 a8 a9 a10 a11 k
 unfold zdY.f
 repeat' first
   | (with_reducible exact zpR.mono _ _ _ _ _ _ _)
   | (with_reducible exact LeO.refl _)
   | (with_reducible exact LeO.none _)
   | (with_reducible refine LeO.ite ?_ ?_)
   | (with_reducible refine LeO.bind ?_ (fun _ => ?_))
   | exact zpR.mono _ _ _ _ _ _ _
   | exact LeO.none _
   | refine LeO.ite ?_ ?_
   | refine LeO.bind ?_ (fun _ => ?_)
def zdY.T1 : Bool × List (List Nat × List Nat) := (true, [([], []), ([0], [0]), ([], []), ([2], [2]), ([1, 3], [1, 3]), ([], []), ([5], [5]), ([], []), ([7], [7]), ([6, 8, 4], [6, 8]), ([4, 9], [4, 9]), ([10, 9, 0, 1, 2, 3, 4, 5, 6, 7, 8, 9, 10], [10])])
def zdY.B1 : List Nat := [0, 1, 0, 4, 15, 0, 32, 0, 128, 511, 1023, 2047]
theorem zdY.tab1 : rtab .any (opsOf Tryd.f54 1) = zdY.T1 := by kernel_rfl
theorem zdY.bits1 : ztG zdY.T1.2 zdY.B1 = true := by kernel_rfl
theorem zdY.calls (k : Nat) (a0_0 : Int) (a0_1 : Int) (a0_2 : Int) (a0_3 : Int) (a0_4 : Int) (a0_5 : Int) (a1_0 : Int) (a1_1 : Int) (a1_2 : Int) (a1_3 : Int) (a1_4 : Int) (a1_5 : Int) (r1 : Int) (r2 : Int) (r3 : Int) (r4 : Int) (r5 : Int) (r6 : Int) (w : World) (h : zdY.f k a0_0 a0_1 a0_2 a0_3 a0_4 a0_5 a1_0 a1_1 a1_2 a1_3 a1_4 a1_5 = some (r1, r2, r3, r4, r5, r6)) :
  Calls Tryd.prog 54 #[.agg #[.int .i64 a0_0, .int .i64 a0_1, .int .i64 a0_2, .int .i64 a0_3, .int .i64 a0_4, .int .i64 a0_5], .agg #[.int .i64 a1_0, .int .i64 a1_1, .int .i64 a1_2, .int .i64 a1_3, .int .i64 a1_4, .int .i64 a1_5]] w fun e w' => e = .returned (.agg #[.int .i64 r1, .int .i64 r2, .int .i64 r3, .int .i64 r4, .int .i64 r5, .int .i64 r6]) ∧ Below w.heap.size w w' := by
 have hu35 := Tryd.underlying35
 have hu33 := Tryd.underlying33
 have HB := zpS (Below.refl w.heap.size w)
 have H : ((zpR.f k a0_0 a0_1 a0_2 a1_0 a1_1 a1_2).bind fun bt402 => ((zpR.f k a0_3 a0_4 a0_5 a1_3 a1_4 a1_5).bind fun bt405 => (some (bt402.1, bt402.2.1, bt402.2.2, bt405.1, bt405.2.1, bt405.2.2)))) = some (r1, r2, r3, r4, r5, r6) := h
 clear h
 replace H := Option.bind_eq_some_iff.mp H
 obtain ⟨⟨t402, t403, t404⟩, A30, H⟩ := H
 replace H : ((zpR.f k a0_3 a0_4 a0_5 a1_3 a1_4 a1_5).bind fun bt405 => (some (t402, t403, t404, bt405.1, bt405.2.1, bt405.2.2))) = some (r1, r2, r3, r4, r5, r6) := H
 have A3 := zpS A30
 clear A30
 replace H := Option.bind_eq_some_iff.mp H
 obtain ⟨⟨t405, t406, t407⟩, A40, H⟩ := H
 replace H : (some (t402, t403, t404, t405, t406, t407)) = some (r1, r2, r3, r4, r5, r6) := H
 have A4 := zpS A40
 clear A40
 simp only [Option.some.injEq, Prod.mk.injEq] at H
 obtain ⟨rfl, rfl, rfl, rfl, rfl, rfl⟩ := H
 go_enter Tryd.func54, Tryd.ntmps54
 try go_wp2_with (first | ((with_reducible refine zpZ (N := 2) rfl ?_); refine bx_ 2 #[.int .i64 a0_0, .int .i64 a0_1, .int .i64 a0_2, .int .i64 a0_3, .int .i64 a0_4, .int .i64 a0_5] 35 ?_; intro gb399 hg w5 hbox hb; have n0_ := (ns_ hb); have n1_ := zpS (hbox); have n2_ := (ng_ hg); have n3_ := n2_; clear HB; have HB := n0_; have BK399 := n1_; have GW399 := n2_; have GE399 := n3_; clear n0_ n1_ n2_ n3_; clear hb hbox hg) | ((with_reducible refine zpZ (N := 3) rfl ?_); refine bx_ 3 #[.int .i64 a1_0, .int .i64 a1_1, .int .i64 a1_2, .int .i64 a1_3, .int .i64 a1_4, .int .i64 a1_5] 35 ?_; intro gb400 hg w6 hbox hb; have n0_ := zpS (zgM (g := gb399) (o := .cells #[.int .i64 a0_0, .int .i64 a0_1, .int .i64 a0_2, .int .i64 a0_3, .int .i64 a0_4, .int .i64 a0_5] 35 (0, 0)) bk_ hb); have n1_ := (ns_ hb); have n2_ := zpS (hbox); have n3_ := (ng_ hg); have n4_ := n3_; have n5_ := zpS ((by rw [hg]; exact Nat.ne_of_lt (zmN (g := gb399) (o := .cells #[.int .i64 a0_0, .int .i64 a0_1, .int .i64 a0_2, .int .i64 a0_3, .int .i64 a0_4, .int .i64 a0_5] 35 (0, 0)) bk_) : gb399 ≠ gb400)); have n6_ := zpS ((by rw [hg]; exact Nat.ne_of_gt (zmN (g := gb399) (o := .cells #[.int .i64 a0_0, .int .i64 a0_1, .int .i64 a0_2, .int .i64 a0_3, .int .i64 a0_4, .int .i64 a0_5] 35 (0, 0)) bk_) : gb400 ≠ gb399)); clear BK399; clear HB; have BK399 := n0_; have HB := n1_; have BK400 := n2_; have GW400 := n3_; have GE400 := n4_; have NB399_400 := n5_; have NB400_399 := n6_; clear n0_ n1_ n2_ n3_ n4_ n5_ n6_; clear hb hbox hg) | ((with_reducible refine zpZ (N := 4) rfl ?_); refine bx_ 4 #[.int .i64 0, .int .i64 0, .int .i64 0, .int .i64 0, .int .i64 0, .int .i64 0] 35 ?_; intro gb401 hg w7 hbox hb; have n0_ := zpS (zgM (g := gb399) (o := .cells #[.int .i64 a0_0, .int .i64 a0_1, .int .i64 a0_2, .int .i64 a0_3, .int .i64 a0_4, .int .i64 a0_5] 35 (0, 0)) bk_ hb); have n1_ := zpS (zgM (g := gb400) (o := .cells #[.int .i64 a1_0, .int .i64 a1_1, .int .i64 a1_2, .int .i64 a1_3, .int .i64 a1_4, .int .i64 a1_5] 35 (0, 0)) bk_ hb); have n2_ := (ns_ hb); have n3_ := zpS (hbox); have n4_ := (ng_ hg); have n5_ := n4_; have n6_ := zpS ((by rw [hg]; exact Nat.ne_of_lt (zmN (g := gb399) (o := .cells #[.int .i64 a0_0, .int .i64 a0_1, .int .i64 a0_2, .int .i64 a0_3, .int .i64 a0_4, .int .i64 a0_5] 35 (0, 0)) bk_) : gb399 ≠ gb401)); have n7_ := zpS ((by rw [hg]; exact Nat.ne_of_gt (zmN (g := gb399) (o := .cells #[.int .i64 a0_0, .int .i64 a0_1, .int .i64 a0_2, .int .i64 a0_3, .int .i64 a0_4, .int .i64 a0_5] 35 (0, 0)) bk_) : gb401 ≠ gb399)); have n8_ := zpS ((by rw [hg]; exact Nat.ne_of_lt (zmN (g := gb400) (o := .cells #[.int .i64 a1_0, .int .i64 a1_1, .int .i64 a1_2, .int .i64 a1_3, .int .i64 a1_4, .int .i64 a1_5] 35 (0, 0)) bk_) : gb400 ≠ gb401)); have n9_ := zpS ((by rw [hg]; exact Nat.ne_of_gt (zmN (g := gb400) (o := .cells #[.int .i64 a1_0, .int .i64 a1_1, .int .i64 a1_2, .int .i64 a1_3, .int .i64 a1_4, .int .i64 a1_5] 35 (0, 0)) bk_) : gb401 ≠ gb400)); clear BK399; clear BK400; clear HB; have BK399 := n0_; have BK400 := n1_; have HB := n2_; have BK401 := n3_; have GW401 := n4_; have GE401 := n5_; have NB399_401 := n6_; have NB401_399 := n7_; have NB400_401 := n8_; have NB401_400 := n9_; clear n0_ n1_ n2_ n3_ n4_ n5_ n6_ n7_ n8_ n9_; clear hb hbox hg))
 have n0_ := zpS (ztN BK399.out)
 have n1_ := zpS (ztN BK400.out)
 have n2_ := zpS (ztN BK401.out)
 have n3_ := zpS (zvF HB.out)
 clear BK399
 clear BK400
 clear BK401
 clear HB
 have BK399 := n0_
 have BK400 := n1_
 have BK401 := n2_
 have HB := n3_
 clear n0_ n1_ n2_ n3_
 refine zpB (n := 12) (S := fun w' => w'.cell? ⟨gb399, 0, none⟩ = some (.int .i64 a0_0) ∧ w'.cell? ⟨gb399, 1, none⟩ = some (.int .i64 a0_1) ∧ w'.cell? ⟨gb399, 2, none⟩ = some (.int .i64 a0_2) ∧ w'.cell? ⟨gb399, 3, none⟩ = some (.int .i64 a0_3) ∧ w'.cell? ⟨gb399, 4, none⟩ = some (.int .i64 a0_4) ∧ w'.cell? ⟨gb399, 5, none⟩ = some (.int .i64 a0_5) ∧ w'.cell? ⟨gb400, 0, none⟩ = some (.int .i64 a1_0) ∧ w'.cell? ⟨gb400, 1, none⟩ = some (.int .i64 a1_1) ∧ w'.cell? ⟨gb400, 2, none⟩ = some (.int .i64 a1_2) ∧ w'.cell? ⟨gb400, 3, none⟩ = some (.int .i64 a1_3) ∧ w'.cell? ⟨gb400, 4, none⟩ = some (.int .i64 a1_4) ∧ w'.cell? ⟨gb400, 5, none⟩ = some (.int .i64 a1_5)) (ds := []) #[false, false, false, false, false, false, false, false, false, false, false, false] (by kernel_rfl) rfl rfl ⟨(zzS BK399.out 0).trans rfl, (zzS BK399.out 1).trans rfl, (zzS BK399.out 2).trans rfl, (zzS BK399.out 3).trans rfl, (zzS BK399.out 4).trans rfl, (zzS BK399.out 5).trans rfl, (zzS BK400.out 0).trans rfl, (zzS BK400.out 1).trans rfl, (zzS BK400.out 2).trans rfl, (zzS BK400.out 3).trans rfl, (zzS BK400.out 4).trans rfl, (zzS BK400.out 5).trans rfl⟩ (fun hHeld => ?_); refine zwI zdY.tab1 zdY.bits1 (fun HT_ HW_ => ?_)
 generalize w7.drew = w8 at BK399 BK400 BK401 HB hHeld ⊢
 refine pu_ 0 (some 5) (bl_ 12 1) ?_
 refine pu_ 2 (some 7) (bl_ 12 5) ?_
 refine pu_ 5 (some 10) (bl_ 12 37) ?_
 refine pu_ 7 (some 12) (bl_ 12 165) ?_
 refine zmW 1 (some 6) (bl_ 12 167) hHeld ?_
 refine zmW 3 (some 8) (bl_ 12 175) hHeld ?_
 refine zmW 6 (some 11) (bl_ 12 239) hHeld ?_
 refine zmW 8 (some 13) (bl_ 12 495) hHeld ?_
 refine zdC (i := 4) (N := some 9) (bl_ 12 511) rfl rfl (zeO HT_.out (by kernel_rfl)) (by decide) (fun K hK => ?_)
 refine zqW Tryd.func64 (by kernel_rfl) rfl #[.agg #[.int .i64 a0_0, .int .i64 a0_1, .int .i64 a0_2], .agg #[.int .i64 a1_0, .int .i64 a1_1, .int .i64 a1_2]] (by rfl) rfl rfl (by (try simp only [List.map_toArray, List.map_cons, List.map_nil]); first | done | rfl | (simp only [List.length_drop, List.length_take]; rfl)) ?_
 with_reducible refine (zpR.calls k a0_0 a0_1 a0_2 a1_0 a1_1 a1_2 t402 t403 t404 _ A3.out).mono ?_
 rintro e w9 ⟨rfl, hb⟩
 refine ⟨_, rfl, ?_⟩
 have n0_ := zpS (zgM (g := gb399) (o := .cells #[.int .i64 a0_0, .int .i64 a0_1, .int .i64 a0_2, .int .i64 a0_3, .int .i64 a0_4, .int .i64 a0_5] 35 (0, 0)) bk_ hb)
 have n1_ := zpS (zgM (g := gb400) (o := .cells #[.int .i64 a1_0, .int .i64 a1_1, .int .i64 a1_2, .int .i64 a1_3, .int .i64 a1_4, .int .i64 a1_5] 35 (0, 0)) bk_ hb)
 have n2_ := zpS (zgM (g := gb401) (o := .cells #[.int .i64 0, .int .i64 0, .int .i64 0, .int .i64 0, .int .i64 0, .int .i64 0] 35 (0, 0)) bk_ hb)
 have n3_ := (ns_ hb)
 clear BK399
 clear BK400
 clear BK401
 clear HB
 have BK399 := n0_
 have BK400 := n1_
 have BK401 := n2_
 have HB := n3_
 clear n0_ n1_ n2_ n3_
 (try clear hb)
 (try clear hb2)
 (try clear hk)
 (try clear hi)
 refine hK.out _ _ ⟨(zzS BK399.out 0).trans rfl, (zzS BK399.out 1).trans rfl, (zzS BK399.out 2).trans rfl, (zzS BK399.out 3).trans rfl, (zzS BK399.out 4).trans rfl, (zzS BK399.out 5).trans rfl, (zzS BK400.out 0).trans rfl, (zzS BK400.out 1).trans rfl, (zzS BK400.out 2).trans rfl, (zzS BK400.out 3).trans rfl, (zzS BK400.out 4).trans rfl, (zzS BK400.out 5).trans rfl⟩ (fun hHeld => ?_)
 clear hK K
 refine zaN (a' := ?_) ?_ ?_
 rotate_left
 ·show Act.put _ (some 9) _ = _
  simp only [Act.put, List.setIfInBounds_toArray, List.set_cons_zero, List.set_cons_succ, zcM, ziK]
  rfl
 refine zdC (i := 9) (N := some 14) (bl_ 12 1023) rfl rfl (zeO HT_.out (by kernel_rfl)) (by decide) (fun K hK => ?_)
 refine zqW Tryd.func64 (by kernel_rfl) rfl #[.agg #[.int .i64 a0_3, .int .i64 a0_4, .int .i64 a0_5], .agg #[.int .i64 a1_3, .int .i64 a1_4, .int .i64 a1_5]] (by rfl) rfl rfl (by (try simp only [List.map_toArray, List.map_cons, List.map_nil]); first | done | rfl | (simp only [List.length_drop, List.length_take]; rfl)) ?_
 with_reducible refine (zpR.calls k a0_3 a0_4 a0_5 a1_3 a1_4 a1_5 t405 t406 t407 _ A4.out).mono ?_
 rintro e w10 ⟨rfl, hb⟩
 refine ⟨_, rfl, ?_⟩
 have n0_ := zpS (zgM (g := gb399) (o := .cells #[.int .i64 a0_0, .int .i64 a0_1, .int .i64 a0_2, .int .i64 a0_3, .int .i64 a0_4, .int .i64 a0_5] 35 (0, 0)) bk_ hb)
 have n1_ := zpS (zgM (g := gb400) (o := .cells #[.int .i64 a1_0, .int .i64 a1_1, .int .i64 a1_2, .int .i64 a1_3, .int .i64 a1_4, .int .i64 a1_5] 35 (0, 0)) bk_ hb)
 have n2_ := zpS (zgM (g := gb401) (o := .cells #[.int .i64 0, .int .i64 0, .int .i64 0, .int .i64 0, .int .i64 0, .int .i64 0] 35 (0, 0)) bk_ hb)
 have n3_ := (ns_ hb)
 clear BK399
 clear BK400
 clear BK401
 clear HB
 have BK399 := n0_
 have BK400 := n1_
 have BK401 := n2_
 have HB := n3_
 clear n0_ n1_ n2_ n3_
 (try clear hb)
 (try clear hb2)
 (try clear hk)
 (try clear hi)
 refine hK.out _ _ ⟨(zzS BK399.out 0).trans rfl, (zzS BK399.out 1).trans rfl, (zzS BK399.out 2).trans rfl, (zzS BK399.out 3).trans rfl, (zzS BK399.out 4).trans rfl, (zzS BK399.out 5).trans rfl, (zzS BK400.out 0).trans rfl, (zzS BK400.out 1).trans rfl, (zzS BK400.out 2).trans rfl, (zzS BK400.out 3).trans rfl, (zzS BK400.out 4).trans rfl, (zzS BK400.out 5).trans rfl⟩ (fun hHeld => ?_)
 clear hK K
 refine zaN (a' := ?_) ?_ ?_
 rotate_left
 ·show Act.put _ (some 14) _ = _
  simp only [Act.put, List.setIfInBounds_toArray, List.set_cons_zero, List.set_cons_succ, zcM, ziK]
  rfl
 refine pu_ 10 (some 15) (bl_ 12 2047) ?_
 refine zdC (i := 11) (N := none) (bl_ 12 4095) rfl rfl (zeO HT_.out (by kernel_rfl)) (by decide) (fun K hK => ?_)
 have hs11 : w10.cell? ⟨gb401, 0, none⟩ = some (.int .i64 0) := (zzS BK401.out 0).trans rfl
 have hfs11 := zjF BK401.out 0
 have hns11_0 := NB399_401.out
 have hns11_1 := NB400_401.out
 have hms11_0 := NB401_399.out
 have hms11_1 := NB401_400.out
 have hs12 : w10.cell? ⟨gb401, 1, none⟩ = some (.int .i64 0) := (zzS BK401.out 1).trans rfl
 have hfs12 := zjF BK401.out 1
 have hns12_0 := NB399_401.out
 have hns12_1 := NB400_401.out
 have hms12_0 := NB401_399.out
 have hms12_1 := NB401_400.out
 have hs13 : w10.cell? ⟨gb401, 2, none⟩ = some (.int .i64 0) := (zzS BK401.out 2).trans rfl
 have hfs13 := zjF BK401.out 2
 have hns13_0 := NB399_401.out
 have hns13_1 := NB400_401.out
 have hms13_0 := NB401_399.out
 have hms13_1 := NB401_400.out
 have hs14 : w10.cell? ⟨gb401, 3, none⟩ = some (.int .i64 0) := (zzS BK401.out 3).trans rfl
 have hfs14 := zjF BK401.out 3
 have hns14_0 := NB399_401.out
 have hns14_1 := NB400_401.out
 have hms14_0 := NB401_399.out
 have hms14_1 := NB401_400.out
 have hs15 : w10.cell? ⟨gb401, 4, none⟩ = some (.int .i64 0) := (zzS BK401.out 4).trans rfl
 have hfs15 := zjF BK401.out 4
 have hns15_0 := NB399_401.out
 have hns15_1 := NB400_401.out
 have hms15_0 := NB401_399.out
 have hms15_1 := NB401_400.out
 have hs16 : w10.cell? ⟨gb401, 5, none⟩ = some (.int .i64 0) := (zzS BK401.out 5).trans rfl
 have hfs16 := zjF BK401.out 5
 have hns16_0 := NB399_401.out
 have hns16_1 := NB400_401.out
 have hms16_0 := NB401_399.out
 have hms16_1 := NB401_400.out
 refine skip_ (w1 := ?_) (by rfl) rfl ?_ ?_
 rotate_left
 ·go_simp
  rfl
 refine hK.out _ _ ⟨((zgQ (p := ⟨gb401, _, none⟩) NB399_401.out _).trans (((zgQ (p := ⟨gb401, _, none⟩) NB399_401.out _).trans (((zgQ (p := ⟨gb401, _, none⟩) NB399_401.out _).trans (((zgQ (p := ⟨gb401, _, none⟩) NB399_401.out _).trans (((zgQ (p := ⟨gb401, _, none⟩) NB399_401.out _).trans (((zgQ (p := ⟨gb401, _, none⟩) NB399_401.out _).trans (hHeld.1)))))))))))), ((zgQ (p := ⟨gb401, _, none⟩) NB399_401.out _).trans (((zgQ (p := ⟨gb401, _, none⟩) NB399_401.out _).trans (((zgQ (p := ⟨gb401, _, none⟩) NB399_401.out _).trans (((zgQ (p := ⟨gb401, _, none⟩) NB399_401.out _).trans (((zgQ (p := ⟨gb401, _, none⟩) NB399_401.out _).trans (((zgQ (p := ⟨gb401, _, none⟩) NB399_401.out _).trans (hHeld.2.1)))))))))))), ((zgQ (p := ⟨gb401, _, none⟩) NB399_401.out _).trans (((zgQ (p := ⟨gb401, _, none⟩) NB399_401.out _).trans (((zgQ (p := ⟨gb401, _, none⟩) NB399_401.out _).trans (((zgQ (p := ⟨gb401, _, none⟩) NB399_401.out _).trans (((zgQ (p := ⟨gb401, _, none⟩) NB399_401.out _).trans (((zgQ (p := ⟨gb401, _, none⟩) NB399_401.out _).trans (hHeld.2.2.1)))))))))))), ((zgQ (p := ⟨gb401, _, none⟩) NB399_401.out _).trans (((zgQ (p := ⟨gb401, _, none⟩) NB399_401.out _).trans (((zgQ (p := ⟨gb401, _, none⟩) NB399_401.out _).trans (((zgQ (p := ⟨gb401, _, none⟩) NB399_401.out _).trans (((zgQ (p := ⟨gb401, _, none⟩) NB399_401.out _).trans (((zgQ (p := ⟨gb401, _, none⟩) NB399_401.out _).trans (hHeld.2.2.2.1)))))))))))), ((zgQ (p := ⟨gb401, _, none⟩) NB399_401.out _).trans (((zgQ (p := ⟨gb401, _, none⟩) NB399_401.out _).trans (((zgQ (p := ⟨gb401, _, none⟩) NB399_401.out _).trans (((zgQ (p := ⟨gb401, _, none⟩) NB399_401.out _).trans (((zgQ (p := ⟨gb401, _, none⟩) NB399_401.out _).trans (((zgQ (p := ⟨gb401, _, none⟩) NB399_401.out _).trans (hHeld.2.2.2.2.1)))))))))))), ((zgQ (p := ⟨gb401, _, none⟩) NB399_401.out _).trans (((zgQ (p := ⟨gb401, _, none⟩) NB399_401.out _).trans (((zgQ (p := ⟨gb401, _, none⟩) NB399_401.out _).trans (((zgQ (p := ⟨gb401, _, none⟩) NB399_401.out _).trans (((zgQ (p := ⟨gb401, _, none⟩) NB399_401.out _).trans (((zgQ (p := ⟨gb401, _, none⟩) NB399_401.out _).trans (hHeld.2.2.2.2.2.1)))))))))))), ((zgQ (p := ⟨gb401, _, none⟩) NB400_401.out _).trans (((zgQ (p := ⟨gb401, _, none⟩) NB400_401.out _).trans (((zgQ (p := ⟨gb401, _, none⟩) NB400_401.out _).trans (((zgQ (p := ⟨gb401, _, none⟩) NB400_401.out _).trans (((zgQ (p := ⟨gb401, _, none⟩) NB400_401.out _).trans (((zgQ (p := ⟨gb401, _, none⟩) NB400_401.out _).trans (hHeld.2.2.2.2.2.2.1)))))))))))), ((zgQ (p := ⟨gb401, _, none⟩) NB400_401.out _).trans (((zgQ (p := ⟨gb401, _, none⟩) NB400_401.out _).trans (((zgQ (p := ⟨gb401, _, none⟩) NB400_401.out _).trans (((zgQ (p := ⟨gb401, _, none⟩) NB400_401.out _).trans (((zgQ (p := ⟨gb401, _, none⟩) NB400_401.out _).trans (((zgQ (p := ⟨gb401, _, none⟩) NB400_401.out _).trans (hHeld.2.2.2.2.2.2.2.1)))))))))))), ((zgQ (p := ⟨gb401, _, none⟩) NB400_401.out _).trans (((zgQ (p := ⟨gb401, _, none⟩) NB400_401.out _).trans (((zgQ (p := ⟨gb401, _, none⟩) NB400_401.out _).trans (((zgQ (p := ⟨gb401, _, none⟩) NB400_401.out _).trans (((zgQ (p := ⟨gb401, _, none⟩) NB400_401.out _).trans (((zgQ (p := ⟨gb401, _, none⟩) NB400_401.out _).trans (hHeld.2.2.2.2.2.2.2.2.1)))))))))))), ((zgQ (p := ⟨gb401, _, none⟩) NB400_401.out _).trans (((zgQ (p := ⟨gb401, _, none⟩) NB400_401.out _).trans (((zgQ (p := ⟨gb401, _, none⟩) NB400_401.out _).trans (((zgQ (p := ⟨gb401, _, none⟩) NB400_401.out _).trans (((zgQ (p := ⟨gb401, _, none⟩) NB400_401.out _).trans (((zgQ (p := ⟨gb401, _, none⟩) NB400_401.out _).trans (hHeld.2.2.2.2.2.2.2.2.2.1)))))))))))), ((zgQ (p := ⟨gb401, _, none⟩) NB400_401.out _).trans (((zgQ (p := ⟨gb401, _, none⟩) NB400_401.out _).trans (((zgQ (p := ⟨gb401, _, none⟩) NB400_401.out _).trans (((zgQ (p := ⟨gb401, _, none⟩) NB400_401.out _).trans (((zgQ (p := ⟨gb401, _, none⟩) NB400_401.out _).trans (((zgQ (p := ⟨gb401, _, none⟩) NB400_401.out _).trans (hHeld.2.2.2.2.2.2.2.2.2.2.1)))))))))))), ((zgQ (p := ⟨gb401, _, none⟩) NB400_401.out _).trans (((zgQ (p := ⟨gb401, _, none⟩) NB400_401.out _).trans (((zgQ (p := ⟨gb401, _, none⟩) NB400_401.out _).trans (((zgQ (p := ⟨gb401, _, none⟩) NB400_401.out _).trans (((zgQ (p := ⟨gb401, _, none⟩) NB400_401.out _).trans (((zgQ (p := ⟨gb401, _, none⟩) NB400_401.out _).trans (hHeld.2.2.2.2.2.2.2.2.2.2.2))))))))))))⟩ (fun hHeld => ?_)
 clear hK K
 refine znK (zzP HT_.out (by kernel_rfl)) ?_
 try go_wp2
 refine bodyPost_ret (results_cell_row rfl _ _ gb401 35 #[.int .i64 t402, .int .i64 t403, .int .i64 t404, .int .i64 t405, .int .i64 t406, .int .i64 t407] (0, 0) _ rfl (by (with_reducible repeat (first | apply zuW | apply ztN | apply zqY)); refine zlL (cs := #[.int .i64 t402, .int .i64 t403, .int .i64 t404, .int .i64 t405, .int .i64 t406, .int .i64 0]) ?_ 5 _ rfl; (with_reducible repeat (first | apply zuW | apply ztN | apply zqY)); refine zlL (cs := #[.int .i64 t402, .int .i64 t403, .int .i64 t404, .int .i64 t405, .int .i64 0, .int .i64 0]) ?_ 4 _ rfl; (with_reducible repeat (first | apply zuW | apply ztN | apply zqY)); refine zlL (cs := #[.int .i64 t402, .int .i64 t403, .int .i64 t404, .int .i64 0, .int .i64 0, .int .i64 0]) ?_ 3 _ rfl; (with_reducible repeat (first | apply zuW | apply ztN | apply zqY)); refine zlL (cs := #[.int .i64 t402, .int .i64 t403, .int .i64 0, .int .i64 0, .int .i64 0, .int .i64 0]) ?_ 2 _ rfl; (with_reducible repeat (first | apply zuW | apply ztN | apply zqY)); refine zlL (cs := #[.int .i64 t402, .int .i64 0, .int .i64 0, .int .i64 0, .int .i64 0, .int .i64 0]) ?_ 1 _ rfl; (with_reducible repeat (first | apply zuW | apply ztN | apply zqY)); refine zlL (cs := #[.int .i64 0, .int .i64 0, .int .i64 0, .int .i64 0, .int .i64 0, .int .i64 0]) ?_ 0 _ rfl; (with_reducible repeat (first | apply zuW | apply ztN | apply zqY)); exact BK401.out) Tryd.underlying35 rfl (by kernel_rfl)) rfl ?_
 exact ⟨by first | rfl | (simp [ziS, znJ] <;> rfl) | (simp [*, ziS, znJ] <;> rfl), bb_⟩

def gv0 : List S35 := [⟨⟨1, 0, 0⟩, ⟨0, 0, 0⟩⟩, ⟨⟨1, 0, 0⟩, ⟨-1, 1, 0⟩⟩, ⟨⟨1, 0, 0⟩, ⟨1, 0, 0⟩⟩, ⟨⟨-1, 1, 0⟩, ⟨1, 0, 0⟩⟩, ⟨⟨0, 0, 0⟩, ⟨1, 0, 0⟩⟩, ⟨⟨1, -1, 0⟩, ⟨1, 0, 0⟩⟩, ⟨⟨-1, 0, 0⟩, ⟨1, 0, 0⟩⟩, ⟨⟨-1, 0, 0⟩, ⟨-1, 1, 0⟩⟩]
def LaidV0 (w : World) : Prop := ∀ (j : Nat) (p : S35), gv0[j]? = some p → ∀ (i : Nat) (u : Value), [Value.int .i64 p.f0.f0, .int .i64 p.f0.f1, .int .i64 p.f0.f2, .int .i64 p.f1.f0, .int .i64 p.f1.f1, .int .i64 p.f1.f2][i]? = some u → w.cell? ((⟨0, 0, none⟩ : Addr).add (j * 6 + i)) = some u
theorem LaidV0.below {w w' : World} (h : LaidV0 w) (hB : Below w.heap.size w w') : LaidV0 w' := fun j p hp i u hu => (hB.cell (World.block_lt_of_cell? w _ (h j p hp i u hu))).trans (h j p hp i u hu)
theorem LaidV0.C {w : World} (h : LaidV0 w) : Kd.C k35 w (some ⟨0, 0, none⟩) gv0.length gv0 :=
 ⟨rfl, by decide, fun _ => ⟨_, rfl, fun j p hp => ⟨_, rfl, k35_mk w p, fun i u hu => h j p hp i u hu⟩⟩⟩
def gvCells0 : List Value := gv0.flatMap fun p => [Value.int .i64 p.f0.f0, .int .i64 p.f0.f1, .int .i64 p.f0.f2, .int .i64 p.f1.f0, .int .i64 p.f1.f1, .int .i64 p.f1.f2]
theorem LaidV0.of_cells {w : World} (h : ∀ off : Nat, w.cell? ⟨0, off, none⟩ = gvCells0[off]?) : LaidV0 w := by
 intro j p hp i u hu
 have hj : j < 8 := (List.getElem?_eq_some_iff.1 hp).1
 have hi : i < 6 := (List.getElem?_eq_some_iff.1 hu).1
 have ha : (⟨0, 0, none⟩ : Addr).add (j * 6 + i) = ⟨0, j * 6 + i, none⟩ := by rw [zyK]
 rw [ha, h]
 have : j = 0 ∨ j = 1 ∨ j = 2 ∨ j = 3 ∨ j = 4 ∨ j = 5 ∨ j = 6 ∨ j = 7 := by omega
 have : i = 0 ∨ i = 1 ∨ i = 2 ∨ i = 3 ∨ i = 4 ∨ i = 5 := by omega
 rcases ‹j = 0 ∨ _› with rfl | rfl | rfl | rfl | rfl | rfl | rfl | rfl <;> cases hp <;> rcases ‹i = 0 ∨ _› with rfl | rfl | rfl | rfl | rfl | rfl <;> cases hu <;> rfl
structure LaidV (w : World) : Prop where
 v0 : LaidV0 w
theorem LaidV.below {w w' : World} (h : LaidV w) (hB : Below w.heap.size w w') : LaidV w' := ⟨LaidV0.below h.v0 hB⟩

def zdP.f (a0 : Int) : Option (Int × Int × Int × Int × Int × Int) := if a0 ≥ 8 then (if 0 ≤ (wrap64 (a0 - 8)) then (if (wrap64 (a0 - 8)) < 8 then ((zjD.f ((zmE gv0 (wrap64 (a0 - 8))).f0.f0) ((zmE gv0 (wrap64 (a0 - 8))).f0.f1) ((zmE gv0 (wrap64 (a0 - 8))).f0.f2)).bind fun bt411 => ((zjD.f ((zmE gv0 (wrap64 (a0 - 8))).f1.f0) ((zmE gv0 (wrap64 (a0 - 8))).f1.f1) ((zmE gv0 (wrap64 (a0 - 8))).f1.f2)).bind fun bt414 => (some (bt411.1, bt411.2.1, bt411.2.2, bt414.1, bt414.2.1, bt414.2.2)))) else (none)) else (none)) else (if 0 ≤ a0 then (if a0 < 8 then (some ((zmE gv0 a0).f0.f0, (zmE gv0 a0).f0.f1, (zmE gv0 a0).f0.f2, (zmE gv0 a0).f1.f0, (zmE gv0 a0).f1.f1, (zmE gv0 a0).f1.f2)) else (none)) else (none))
def zdP.T3 : Bool × List (List Nat × List Nat) := (true, [([], []), ([0], [0]), ([1], [1]), ([], []), ([3], [3]), ([4, 2], [4]), ([2, 5], [2, 5]), ([6, 5, 0, 1, 2, 3, 4, 5, 6], [6])])
def zdP.B3 : List Nat := [0, 1, 3, 0, 8, 31, 63, 127]
theorem zdP.tab3 : rtab .any (opsOf Tryd.f55 3) = zdP.T3 := by kernel_rfl
theorem zdP.bits3 : ztG zdP.T3.2 zdP.B3 = true := by kernel_rfl
theorem zdP.calls (a0 : Int) (r1 : Int) (r2 : Int) (r3 : Int) (r4 : Int) (r5 : Int) (r6 : Int) (w : World) (hG : LaidV w) (h : zdP.f a0 = some (r1, r2, r3, r4, r5, r6)) :
  Calls Tryd.prog 55 #[.int .i64 a0] w fun e w' => e = .returned (.agg #[.int .i64 r1, .int .i64 r2, .int .i64 r3, .int .i64 r4, .int .i64 r5, .int .i64 r6]) ∧ Below w.heap.size w w' := by
 have hu35 := Tryd.underlying35
 have hu33 := Tryd.underlying33
 have HB := zpS (Below.refl w.heap.size w)
 have HRg0 := zpS (LaidV0.C hG.v0)
 have H : (if a0 ≥ 8 then (if 0 ≤ (wrap64 (a0 - 8)) then (if (wrap64 (a0 - 8)) < 8 then ((zjD.f ((zmE gv0 (wrap64 (a0 - 8))).f0.f0) ((zmE gv0 (wrap64 (a0 - 8))).f0.f1) ((zmE gv0 (wrap64 (a0 - 8))).f0.f2)).bind fun bt411 => ((zjD.f ((zmE gv0 (wrap64 (a0 - 8))).f1.f0) ((zmE gv0 (wrap64 (a0 - 8))).f1.f1) ((zmE gv0 (wrap64 (a0 - 8))).f1.f2)).bind fun bt414 => (some (bt411.1, bt411.2.1, bt411.2.2, bt414.1, bt414.2.1, bt414.2.2)))) else (none)) else (none)) else (if 0 ≤ a0 then (if a0 < 8 then (some ((zmE gv0 a0).f0.f0, (zmE gv0 a0).f0.f1, (zmE gv0 a0).f0.f2, (zmE gv0 a0).f1.f0, (zmE gv0 a0).f1.f1, (zmE gv0 a0).f1.f2)) else (none)) else (none))) = some (r1, r2, r3, r4, r5, r6) := h
 clear h
 by_cases c2 : a0 ≥ 8
 ·rw [if_pos c2] at H
  have c2b0 : decide (8 ≤ a0) = true := decide_eq_true c2
  clear c2
  obtain ⟨ji3, hji3⟩ : ∃ j_ : Int, (wrap64 (a0 - 8)) = j_ := ⟨_, rfl⟩
  replace H : (if 0 ≤ (ji3) then (if (ji3) < 8 then ((zjD.f ((zmE gv0 (ji3)).f0.f0) ((zmE gv0 (ji3)).f0.f1) ((zmE gv0 (ji3)).f0.f2)).bind fun bt411 => ((zjD.f ((zmE gv0 (ji3)).f1.f0) ((zmE gv0 (ji3)).f1.f1) ((zmE gv0 (ji3)).f1.f2)).bind fun bt414 => (some (bt411.1, bt411.2.1, bt411.2.2, bt414.1, bt414.2.1, bt414.2.2)))) else (none)) else (none)) = some (r1, r2, r3, r4, r5, r6) := by first | (rw [hji3] at H; exact H) | (simp only [hji3] at H ⊢; exact H)
  have hji3w : (IntKind.i64.wrap (a0 - 8)) = ji3 := (zcM _).trans hji3
  by_cases c4 : 0 ≤ (ji3)
  ·rw [if_pos c4] at H
   have c4b0 : decide (0 ≤ (ji3)) = true := decide_eq_true c4
   clear c4
   by_cases c5 : (ji3) < 8
   ·rw [if_pos c5] at H
    have c5b0 : decide ((ji3) < 8) = true := decide_eq_true c5
    clear c5
    replace H := Option.bind_eq_some_iff.mp H
    obtain ⟨⟨t411, t412, t413⟩, A60, H⟩ := H
    replace H : ((zjD.f ((zmE gv0 (ji3)).f1.f0) ((zmE gv0 (ji3)).f1.f1) ((zmE gv0 (ji3)).f1.f2)).bind fun bt414 => (some (t411, t412, t413, bt414.1, bt414.2.1, bt414.2.2))) = some (r1, r2, r3, r4, r5, r6) := H
    have A6 := zpS A60
    clear A60
    replace H := Option.bind_eq_some_iff.mp H
    obtain ⟨⟨t414, t415, t416⟩, A70, H⟩ := H
    replace H : (some (t411, t412, t413, t414, t415, t416)) = some (r1, r2, r3, r4, r5, r6) := H
    have A7 := zpS A70
    clear A70
    simp only [Option.some.injEq, Prod.mk.injEq] at H
    obtain ⟨rfl, rfl, rfl, rfl, rfl, rfl⟩ := H
    go_enter Tryd.func55, Tryd.ntmps55
    try go_wp2_with (first | ((with_reducible refine zpZ (N := 2) rfl ?_); refine bx_ 2 #[.int .i64 0, .int .i64 0, .int .i64 0, .int .i64 0, .int .i64 0, .int .i64 0] 35 ?_; intro gb408 hg w8 hbox hb; have n0_ := (ns_ hb); have n1_ := zpS (hbox); have n2_ := (ng_ hg); have n3_ := n2_; clear HB; have HB := n0_; have BK408 := n1_; have GW408 := n2_; have GE408 := n3_; clear n0_ n1_ n2_ n3_; clear hb hbox hg; have p409 : 0 ≤ ((ji3) : Int) := dt_; have q409 : (ji3) < (gv0.length : Int) := dt_; have ql409 : (((ji3) : Int) < (8 : Int)) = True := eq_true dt_; obtain ⟨ad409, e409, hx409_0, hx409_1, hx409_2, hx409_3, hx409_4, hx409_5⟩ := zcN HRg0.out (ji3) p409 q409; obtain rfl : (⟨0, 0, none⟩ : Addr) = ad409 := (by injection e409); (first | simp only [zyK] at hx409_0 | simp only [add_at] at hx409_0 | simp only [Addr.add, Nat.zero_add] at hx409_0 | skip); (first | simp only [zyK] at hx409_1 | simp only [add_at] at hx409_1 | simp only [Addr.add, Nat.zero_add] at hx409_1 | skip); (first | simp only [zyK] at hx409_2 | simp only [add_at] at hx409_2 | simp only [Addr.add, Nat.zero_add] at hx409_2 | skip); (first | simp only [zyK] at hx409_3 | simp only [add_at] at hx409_3 | simp only [Addr.add, Nat.zero_add] at hx409_3 | skip); (first | simp only [zyK] at hx409_4 | simp only [add_at] at hx409_4 | simp only [Addr.add, Nat.zero_add] at hx409_4 | skip); (first | simp only [zyK] at hx409_5 | simp only [add_at] at hx409_5 | simp only [Addr.add, Nat.zero_add] at hx409_5 | skip); replace hx409_0 := zeA HB.out hx409_0; replace hx409_1 := zeA HB.out hx409_1; replace hx409_2 := zeA HB.out hx409_2; replace hx409_3 := zeA HB.out hx409_3; replace hx409_4 := zeA HB.out hx409_4; replace hx409_5 := zeA HB.out hx409_5; replace p409 := eq_true p409; replace q409 := eq_true q409) | ((with_reducible refine zpZ (N := 3) rfl ?_); refine bx_ 3 #[.int .i64 0, .int .i64 0, .int .i64 0, .int .i64 0, .int .i64 0, .int .i64 0] 35 ?_; intro gb410 hg w9 hbox hb; have n0_ := zpS (zgM (g := gb408) (o := .cells #[.int .i64 0, .int .i64 0, .int .i64 0, .int .i64 0, .int .i64 0, .int .i64 0] 35 (0, 0)) bk_ hb); have n1_ := (ns_ hb); have n2_ := zpS (hbox); have n3_ := (ng_ hg); have n4_ := n3_; have n5_ := zpS ((by rw [hg]; exact Nat.ne_of_lt (zmN (g := gb408) (o := .cells #[.int .i64 0, .int .i64 0, .int .i64 0, .int .i64 0, .int .i64 0, .int .i64 0] 35 (0, 0)) bk_) : gb408 ≠ gb410)); have n6_ := zpS ((by rw [hg]; exact Nat.ne_of_gt (zmN (g := gb408) (o := .cells #[.int .i64 0, .int .i64 0, .int .i64 0, .int .i64 0, .int .i64 0, .int .i64 0] 35 (0, 0)) bk_) : gb410 ≠ gb408)); clear BK408; clear HB; have BK408 := n0_; have HB := n1_; have BK410 := n2_; have GW410 := n3_; have GE410 := n4_; have NB408_410 := n5_; have NB410_408 := n6_; clear n0_ n1_ n2_ n3_ n4_ n5_ n6_; clear hb hbox hg; have hnb10 := NB410_408.out; have hnc10 := NB408_410.out; obtain ⟨hcz11_0, hcz11_1, hcz11_2, hcz11_3, hcz11_4, hcz11_5⟩ := zrN BK410.out; obtain ⟨hfz11_0, hfz11_1, hfz11_2, hfz11_3, hfz11_4, hfz11_5⟩ := zoO BK410.out))
    have n0_ : Aside0 (((((((w9.setCell ⟨gb410, 0, none⟩ (.int .i64 ((zmE gv0 (ji3)).f0.f0))).setCell ⟨gb410, 1, none⟩ (.int .i64 ((zmE gv0 (ji3)).f0.f1))).setCell ⟨gb410, 2, none⟩ (.int .i64 ((zmE gv0 (ji3)).f0.f2))).setCell ⟨gb410, 3, none⟩ (.int .i64 ((zmE gv0 (ji3)).f1.f0))).setCell ⟨gb410, 4, none⟩ (.int .i64 ((zmE gv0 (ji3)).f1.f1))).setCell ⟨gb410, 5, none⟩ (.int .i64 ((zmE gv0 (ji3)).f1.f2))).heap[gb408]? = some (.cells #[.int .i64 0, .int .i64 0, .int .i64 0, .int .i64 0, .int .i64 0, .int .i64 0] 35 (0, 0))) := ⟨by (with_reducible repeat (first | apply zuW | apply ztN | apply zqY)); refine znI ?_ NB408_410.out _; (with_reducible repeat (first | apply zuW | apply ztN | apply zqY)); refine znI ?_ NB408_410.out _; (with_reducible repeat (first | apply zuW | apply ztN | apply zqY)); refine znI ?_ NB408_410.out _; (with_reducible repeat (first | apply zuW | apply ztN | apply zqY)); refine znI ?_ NB408_410.out _; (with_reducible repeat (first | apply zuW | apply ztN | apply zqY)); refine znI ?_ NB408_410.out _; (with_reducible repeat (first | apply zuW | apply ztN | apply zqY)); refine znI ?_ NB408_410.out _; (with_reducible repeat (first | apply zuW | apply ztN | apply zqY)); exact BK408.out⟩
    have n1_ : Aside0 (((((((w9.setCell ⟨gb410, 0, none⟩ (.int .i64 ((zmE gv0 (ji3)).f0.f0))).setCell ⟨gb410, 1, none⟩ (.int .i64 ((zmE gv0 (ji3)).f0.f1))).setCell ⟨gb410, 2, none⟩ (.int .i64 ((zmE gv0 (ji3)).f0.f2))).setCell ⟨gb410, 3, none⟩ (.int .i64 ((zmE gv0 (ji3)).f1.f0))).setCell ⟨gb410, 4, none⟩ (.int .i64 ((zmE gv0 (ji3)).f1.f1))).setCell ⟨gb410, 5, none⟩ (.int .i64 ((zmE gv0 (ji3)).f1.f2))).heap[gb410]? = some (.cells #[.int .i64 ((zmE gv0 (ji3)).f0.f0), .int .i64 ((zmE gv0 (ji3)).f0.f1), .int .i64 ((zmE gv0 (ji3)).f0.f2), .int .i64 ((zmE gv0 (ji3)).f1.f0), .int .i64 ((zmE gv0 (ji3)).f1.f1), .int .i64 ((zmE gv0 (ji3)).f1.f2)] 35 (0, 0))) := ⟨by (with_reducible repeat (first | apply zuW | apply ztN | apply zqY)); refine zlL (cs := #[.int .i64 ((zmE gv0 (ji3)).f0.f0), .int .i64 ((zmE gv0 (ji3)).f0.f1), .int .i64 ((zmE gv0 (ji3)).f0.f2), .int .i64 ((zmE gv0 (ji3)).f1.f0), .int .i64 ((zmE gv0 (ji3)).f1.f1), .int .i64 0]) ?_ 5 _ rfl; (with_reducible repeat (first | apply zuW | apply ztN | apply zqY)); refine zlL (cs := #[.int .i64 ((zmE gv0 (ji3)).f0.f0), .int .i64 ((zmE gv0 (ji3)).f0.f1), .int .i64 ((zmE gv0 (ji3)).f0.f2), .int .i64 ((zmE gv0 (ji3)).f1.f0), .int .i64 0, .int .i64 0]) ?_ 4 _ rfl; (with_reducible repeat (first | apply zuW | apply ztN | apply zqY)); refine zlL (cs := #[.int .i64 ((zmE gv0 (ji3)).f0.f0), .int .i64 ((zmE gv0 (ji3)).f0.f1), .int .i64 ((zmE gv0 (ji3)).f0.f2), .int .i64 0, .int .i64 0, .int .i64 0]) ?_ 3 _ rfl; (with_reducible repeat (first | apply zuW | apply ztN | apply zqY)); refine zlL (cs := #[.int .i64 ((zmE gv0 (ji3)).f0.f0), .int .i64 ((zmE gv0 (ji3)).f0.f1), .int .i64 0, .int .i64 0, .int .i64 0, .int .i64 0]) ?_ 2 _ rfl; (with_reducible repeat (first | apply zuW | apply ztN | apply zqY)); refine zlL (cs := #[.int .i64 ((zmE gv0 (ji3)).f0.f0), .int .i64 0, .int .i64 0, .int .i64 0, .int .i64 0, .int .i64 0]) ?_ 1 _ rfl; (with_reducible repeat (first | apply zuW | apply ztN | apply zqY)); refine zlL (cs := #[.int .i64 0, .int .i64 0, .int .i64 0, .int .i64 0, .int .i64 0, .int .i64 0]) ?_ 0 _ rfl; (with_reducible repeat (first | apply zuW | apply ztN | apply zqY)); exact BK410.out⟩
    have n2_ : Aside0 (Below w.heap.size w ((((((w9.setCell ⟨gb410, 0, none⟩ (.int .i64 ((zmE gv0 (ji3)).f0.f0))).setCell ⟨gb410, 1, none⟩ (.int .i64 ((zmE gv0 (ji3)).f0.f1))).setCell ⟨gb410, 2, none⟩ (.int .i64 ((zmE gv0 (ji3)).f0.f2))).setCell ⟨gb410, 3, none⟩ (.int .i64 ((zmE gv0 (ji3)).f1.f0))).setCell ⟨gb410, 4, none⟩ (.int .i64 ((zmE gv0 (ji3)).f1.f1))).setCell ⟨gb410, 5, none⟩ (.int .i64 ((zmE gv0 (ji3)).f1.f2)))) := ⟨bb_⟩
    (try clear BK408)
    (try clear BK410)
    (try clear HB)
    generalize ((((((w9.setCell ⟨gb410, 0, none⟩ (.int .i64 ((zmE gv0 (ji3)).f0.f0))).setCell ⟨gb410, 1, none⟩ (.int .i64 ((zmE gv0 (ji3)).f0.f1))).setCell ⟨gb410, 2, none⟩ (.int .i64 ((zmE gv0 (ji3)).f0.f2))).setCell ⟨gb410, 3, none⟩ (.int .i64 ((zmE gv0 (ji3)).f1.f0))).setCell ⟨gb410, 4, none⟩ (.int .i64 ((zmE gv0 (ji3)).f1.f1))).setCell ⟨gb410, 5, none⟩ (.int .i64 ((zmE gv0 (ji3)).f1.f2))) = w12 at n0_ n1_ n2_ ⊢
    have BK408 := n0_
    have BK410 := n1_
    have HB := n2_
    clear n0_ n1_ n2_
    have n0_ := zpS (ztN BK408.out)
    have n1_ := zpS (ztN BK410.out)
    have n2_ := zpS (zvF HB.out)
    clear BK408
    clear BK410
    clear HB
    have BK408 := n0_
    have BK410 := n1_
    have HB := n2_
    clear n0_ n1_ n2_
    refine zpB (n := 8) (S := fun w' => w'.cell? ⟨gb410, 0, none⟩ = some (.int .i64 ((zmE gv0 (ji3)).f0.f0)) ∧ w'.cell? ⟨gb410, 1, none⟩ = some (.int .i64 ((zmE gv0 (ji3)).f0.f1)) ∧ w'.cell? ⟨gb410, 2, none⟩ = some (.int .i64 ((zmE gv0 (ji3)).f0.f2)) ∧ w'.cell? ⟨gb410, 3, none⟩ = some (.int .i64 ((zmE gv0 (ji3)).f1.f0)) ∧ w'.cell? ⟨gb410, 4, none⟩ = some (.int .i64 ((zmE gv0 (ji3)).f1.f1)) ∧ w'.cell? ⟨gb410, 5, none⟩ = some (.int .i64 ((zmE gv0 (ji3)).f1.f2))) (ds := []) #[false, false, false, false, false, false, false, false] (by kernel_rfl) rfl rfl ⟨(zzS BK410.out 0).trans rfl, (zzS BK410.out 1).trans rfl, (zzS BK410.out 2).trans rfl, (zzS BK410.out 3).trans rfl, (zzS BK410.out 4).trans rfl, (zzS BK410.out 5).trans rfl⟩ (fun hHeld => ?_); refine zwI zdP.tab3 zdP.bits3 (fun HT_ HW_ => ?_)
    generalize w12.drew = w13 at BK408 BK410 HB hHeld ⊢
    refine pu_ 0 (some 10) (bl_ 8 1) ?_
    refine pu_ 3 (some 13) (bl_ 8 9) ?_
    refine tk6_ 1 (some 11) (bl_ 8 11) hHeld ?_
    refine tk6_ 4 (some 14) (bl_ 8 27) hHeld ?_
    refine zdC (i := 2) (N := some 12) (bl_ 8 31) rfl rfl (zeO HT_.out (by kernel_rfl)) (by decide) (fun K hK => ?_)
    refine zqW Tryd.func65 (by kernel_rfl) rfl #[.agg #[.int .i64 ((zmE gv0 (ji3)).f0.f0), .int .i64 ((zmE gv0 (ji3)).f0.f1), .int .i64 ((zmE gv0 (ji3)).f0.f2)]] (by rfl) rfl rfl (by (try simp only [List.map_toArray, List.map_cons, List.map_nil]); first | done | (simp only [hji3]; rfl) | rfl | (simp only [List.length_drop, List.length_take]; rfl)) ?_
    with_reducible refine (zjD.calls ((zmE gv0 (ji3)).f0.f0) ((zmE gv0 (ji3)).f0.f1) ((zmE gv0 (ji3)).f0.f2) t411 t412 t413 _ A6.out).mono ?_
    rintro e w14 ⟨rfl, hb⟩
    refine ⟨_, rfl, ?_⟩
    have n0_ := zpS (zgM (g := gb408) (o := .cells #[.int .i64 0, .int .i64 0, .int .i64 0, .int .i64 0, .int .i64 0, .int .i64 0] 35 (0, 0)) bk_ hb)
    have n1_ := zpS (zgM (g := gb410) (o := .cells #[.int .i64 ((zmE gv0 (ji3)).f0.f0), .int .i64 ((zmE gv0 (ji3)).f0.f1), .int .i64 ((zmE gv0 (ji3)).f0.f2), .int .i64 ((zmE gv0 (ji3)).f1.f0), .int .i64 ((zmE gv0 (ji3)).f1.f1), .int .i64 ((zmE gv0 (ji3)).f1.f2)] 35 (0, 0)) bk_ hb)
    have n2_ := (ns_ hb)
    clear BK408
    clear BK410
    clear HB
    have BK408 := n0_
    have BK410 := n1_
    have HB := n2_
    clear n0_ n1_ n2_
    (try clear hb)
    (try clear hb2)
    (try clear hk)
    (try clear hi)
    refine hK.out _ _ ⟨(zzS BK410.out 0).trans rfl, (zzS BK410.out 1).trans rfl, (zzS BK410.out 2).trans rfl, (zzS BK410.out 3).trans rfl, (zzS BK410.out 4).trans rfl, (zzS BK410.out 5).trans rfl⟩ (fun hHeld => ?_)
    clear hK K
    refine zaN (a' := ?_) ?_ ?_
    rotate_left
    ·show Act.put _ (some 12) _ = _
     simp only [Act.put, List.setIfInBounds_toArray, List.set_cons_zero, List.set_cons_succ, zcM, ziK]
     rfl
    refine zdC (i := 5) (N := some 15) (bl_ 8 63) rfl rfl (zeO HT_.out (by kernel_rfl)) (by decide) (fun K hK => ?_)
    refine zqW Tryd.func65 (by kernel_rfl) rfl #[.agg #[.int .i64 ((zmE gv0 (ji3)).f1.f0), .int .i64 ((zmE gv0 (ji3)).f1.f1), .int .i64 ((zmE gv0 (ji3)).f1.f2)]] (by rfl) rfl rfl (by (try simp only [List.map_toArray, List.map_cons, List.map_nil]); first | done | (simp only [hji3]; rfl) | rfl | (simp only [List.length_drop, List.length_take]; rfl)) ?_
    with_reducible refine (zjD.calls ((zmE gv0 (ji3)).f1.f0) ((zmE gv0 (ji3)).f1.f1) ((zmE gv0 (ji3)).f1.f2) t414 t415 t416 _ A7.out).mono ?_
    rintro e w15 ⟨rfl, hb⟩
    refine ⟨_, rfl, ?_⟩
    have n0_ := zpS (zgM (g := gb408) (o := .cells #[.int .i64 0, .int .i64 0, .int .i64 0, .int .i64 0, .int .i64 0, .int .i64 0] 35 (0, 0)) bk_ hb)
    have n1_ := zpS (zgM (g := gb410) (o := .cells #[.int .i64 ((zmE gv0 (ji3)).f0.f0), .int .i64 ((zmE gv0 (ji3)).f0.f1), .int .i64 ((zmE gv0 (ji3)).f0.f2), .int .i64 ((zmE gv0 (ji3)).f1.f0), .int .i64 ((zmE gv0 (ji3)).f1.f1), .int .i64 ((zmE gv0 (ji3)).f1.f2)] 35 (0, 0)) bk_ hb)
    have n2_ := (ns_ hb)
    clear BK408
    clear BK410
    clear HB
    have BK408 := n0_
    have BK410 := n1_
    have HB := n2_
    clear n0_ n1_ n2_
    (try clear hb)
    (try clear hb2)
    (try clear hk)
    (try clear hi)
    refine hK.out _ _ ⟨(zzS BK410.out 0).trans rfl, (zzS BK410.out 1).trans rfl, (zzS BK410.out 2).trans rfl, (zzS BK410.out 3).trans rfl, (zzS BK410.out 4).trans rfl, (zzS BK410.out 5).trans rfl⟩ (fun hHeld => ?_)
    clear hK K
    refine zaN (a' := ?_) ?_ ?_
    rotate_left
    ·show Act.put _ (some 15) _ = _
     simp only [Act.put, List.setIfInBounds_toArray, List.set_cons_zero, List.set_cons_succ, zcM, ziK]
     rfl
    refine pu_ 6 (some 16) (bl_ 8 127) ?_
    refine zdC (i := 7) (N := none) (bl_ 8 255) rfl rfl (zeO HT_.out (by kernel_rfl)) (by decide) (fun K hK => ?_)
    have hs16 : w15.cell? ⟨gb408, 0, none⟩ = some (.int .i64 0) := (zzS BK408.out 0).trans rfl
    have hfs16 := zjF BK408.out 0
    have hns16_1 := NB410_408.out
    have hms16_1 := NB408_410.out
    have hs17 : w15.cell? ⟨gb408, 1, none⟩ = some (.int .i64 0) := (zzS BK408.out 1).trans rfl
    have hfs17 := zjF BK408.out 1
    have hns17_1 := NB410_408.out
    have hms17_1 := NB408_410.out
    have hs18 : w15.cell? ⟨gb408, 2, none⟩ = some (.int .i64 0) := (zzS BK408.out 2).trans rfl
    have hfs18 := zjF BK408.out 2
    have hns18_1 := NB410_408.out
    have hms18_1 := NB408_410.out
    have hs19 : w15.cell? ⟨gb408, 3, none⟩ = some (.int .i64 0) := (zzS BK408.out 3).trans rfl
    have hfs19 := zjF BK408.out 3
    have hns19_1 := NB410_408.out
    have hms19_1 := NB408_410.out
    have hs20 : w15.cell? ⟨gb408, 4, none⟩ = some (.int .i64 0) := (zzS BK408.out 4).trans rfl
    have hfs20 := zjF BK408.out 4
    have hns20_1 := NB410_408.out
    have hms20_1 := NB408_410.out
    have hs21 : w15.cell? ⟨gb408, 5, none⟩ = some (.int .i64 0) := (zzS BK408.out 5).trans rfl
    have hfs21 := zjF BK408.out 5
    have hns21_1 := NB410_408.out
    have hms21_1 := NB408_410.out
    refine skip_ (w1 := ?_) (by rfl) rfl ?_ ?_
    rotate_left
    ·go_simp
     rfl
    refine hK.out _ _ ⟨((zgQ (p := ⟨gb408, _, none⟩) NB410_408.out _).trans (((zgQ (p := ⟨gb408, _, none⟩) NB410_408.out _).trans (((zgQ (p := ⟨gb408, _, none⟩) NB410_408.out _).trans (((zgQ (p := ⟨gb408, _, none⟩) NB410_408.out _).trans (((zgQ (p := ⟨gb408, _, none⟩) NB410_408.out _).trans (((zgQ (p := ⟨gb408, _, none⟩) NB410_408.out _).trans (hHeld.1)))))))))))), ((zgQ (p := ⟨gb408, _, none⟩) NB410_408.out _).trans (((zgQ (p := ⟨gb408, _, none⟩) NB410_408.out _).trans (((zgQ (p := ⟨gb408, _, none⟩) NB410_408.out _).trans (((zgQ (p := ⟨gb408, _, none⟩) NB410_408.out _).trans (((zgQ (p := ⟨gb408, _, none⟩) NB410_408.out _).trans (((zgQ (p := ⟨gb408, _, none⟩) NB410_408.out _).trans (hHeld.2.1)))))))))))), ((zgQ (p := ⟨gb408, _, none⟩) NB410_408.out _).trans (((zgQ (p := ⟨gb408, _, none⟩) NB410_408.out _).trans (((zgQ (p := ⟨gb408, _, none⟩) NB410_408.out _).trans (((zgQ (p := ⟨gb408, _, none⟩) NB410_408.out _).trans (((zgQ (p := ⟨gb408, _, none⟩) NB410_408.out _).trans (((zgQ (p := ⟨gb408, _, none⟩) NB410_408.out _).trans (hHeld.2.2.1)))))))))))), ((zgQ (p := ⟨gb408, _, none⟩) NB410_408.out _).trans (((zgQ (p := ⟨gb408, _, none⟩) NB410_408.out _).trans (((zgQ (p := ⟨gb408, _, none⟩) NB410_408.out _).trans (((zgQ (p := ⟨gb408, _, none⟩) NB410_408.out _).trans (((zgQ (p := ⟨gb408, _, none⟩) NB410_408.out _).trans (((zgQ (p := ⟨gb408, _, none⟩) NB410_408.out _).trans (hHeld.2.2.2.1)))))))))))), ((zgQ (p := ⟨gb408, _, none⟩) NB410_408.out _).trans (((zgQ (p := ⟨gb408, _, none⟩) NB410_408.out _).trans (((zgQ (p := ⟨gb408, _, none⟩) NB410_408.out _).trans (((zgQ (p := ⟨gb408, _, none⟩) NB410_408.out _).trans (((zgQ (p := ⟨gb408, _, none⟩) NB410_408.out _).trans (((zgQ (p := ⟨gb408, _, none⟩) NB410_408.out _).trans (hHeld.2.2.2.2.1)))))))))))), ((zgQ (p := ⟨gb408, _, none⟩) NB410_408.out _).trans (((zgQ (p := ⟨gb408, _, none⟩) NB410_408.out _).trans (((zgQ (p := ⟨gb408, _, none⟩) NB410_408.out _).trans (((zgQ (p := ⟨gb408, _, none⟩) NB410_408.out _).trans (((zgQ (p := ⟨gb408, _, none⟩) NB410_408.out _).trans (((zgQ (p := ⟨gb408, _, none⟩) NB410_408.out _).trans (hHeld.2.2.2.2.2))))))))))))⟩ (fun hHeld => ?_)
    clear hK K
    refine znK (zzP HT_.out (by kernel_rfl)) ?_
    try go_wp2
    refine bodyPost_ret (results_cell_row rfl _ _ gb408 35 #[.int .i64 t411, .int .i64 t412, .int .i64 t413, .int .i64 t414, .int .i64 t415, .int .i64 t416] (0, 0) _ rfl (by (with_reducible repeat (first | apply zuW | apply ztN | apply zqY)); refine zlL (cs := #[.int .i64 t411, .int .i64 t412, .int .i64 t413, .int .i64 t414, .int .i64 t415, .int .i64 0]) ?_ 5 _ rfl; (with_reducible repeat (first | apply zuW | apply ztN | apply zqY)); refine zlL (cs := #[.int .i64 t411, .int .i64 t412, .int .i64 t413, .int .i64 t414, .int .i64 0, .int .i64 0]) ?_ 4 _ rfl; (with_reducible repeat (first | apply zuW | apply ztN | apply zqY)); refine zlL (cs := #[.int .i64 t411, .int .i64 t412, .int .i64 t413, .int .i64 0, .int .i64 0, .int .i64 0]) ?_ 3 _ rfl; (with_reducible repeat (first | apply zuW | apply ztN | apply zqY)); refine zlL (cs := #[.int .i64 t411, .int .i64 t412, .int .i64 0, .int .i64 0, .int .i64 0, .int .i64 0]) ?_ 2 _ rfl; (with_reducible repeat (first | apply zuW | apply ztN | apply zqY)); refine zlL (cs := #[.int .i64 t411, .int .i64 0, .int .i64 0, .int .i64 0, .int .i64 0, .int .i64 0]) ?_ 1 _ rfl; (with_reducible repeat (first | apply zuW | apply ztN | apply zqY)); refine zlL (cs := #[.int .i64 0, .int .i64 0, .int .i64 0, .int .i64 0, .int .i64 0, .int .i64 0]) ?_ 0 _ rfl; (with_reducible repeat (first | apply zuW | apply ztN | apply zqY)); exact BK408.out) Tryd.underlying35 rfl (by kernel_rfl)) rfl ?_
    exact ⟨by first | rfl | (simp [ziS, znJ] <;> rfl) | (simp only [← hji3]; first | rfl | (simp [ziS, znJ] <;> rfl)) | (simp [*, ziS, znJ] <;> rfl), bb_⟩
   ·rw [if_neg c5] at H
    exact absurd H (by simp)
  ·rw [if_neg c4] at H
   exact absurd H (by simp)
 ·rw [if_neg c2] at H
  have c2b0 : decide (8 ≤ a0) = false := decide_eq_false c2
  clear c2
  by_cases c22 : 0 ≤ a0
  ·rw [if_pos c22] at H
   have c22b0 : decide (0 ≤ a0) = true := decide_eq_true c22
   clear c22
   by_cases c23 : a0 < 8
   ·rw [if_pos c23] at H
    have c23b0 : decide (a0 < 8) = true := decide_eq_true c23
    clear c23
    simp only [Option.some.injEq, Prod.mk.injEq] at H
    obtain ⟨rfl, rfl, rfl, rfl, rfl, rfl⟩ := H
    go_enter Tryd.func55, Tryd.ntmps55
    go_wp2_with (first | ((with_reducible refine zpZ (N := 2) rfl ?_); refine bx_ 2 #[.int .i64 0, .int .i64 0, .int .i64 0, .int .i64 0, .int .i64 0, .int .i64 0] 35 ?_; intro gb408 hg w24 hbox hb; have n0_ := (ns_ hb); have n1_ := zpS (hbox); have n2_ := (ng_ hg); have n3_ := n2_; clear HB; have HB := n0_; have BK408 := n1_; have GW408 := n2_; have GE408 := n3_; clear n0_ n1_ n2_ n3_; clear hb hbox hg; have p417 : 0 ≤ (a0 : Int) := dt_; have q417 : a0 < (gv0.length : Int) := dt_; have ql417 : ((a0 : Int) < (8 : Int)) = True := eq_true dt_; obtain ⟨ad417, e417, hx417_0, hx417_1, hx417_2, hx417_3, hx417_4, hx417_5⟩ := zcN HRg0.out a0 p417 q417; obtain rfl : (⟨0, 0, none⟩ : Addr) = ad417 := (by injection e417); (first | simp only [zyK] at hx417_0 | simp only [add_at] at hx417_0 | simp only [Addr.add, Nat.zero_add] at hx417_0 | skip); (first | simp only [zyK] at hx417_1 | simp only [add_at] at hx417_1 | simp only [Addr.add, Nat.zero_add] at hx417_1 | skip); (first | simp only [zyK] at hx417_2 | simp only [add_at] at hx417_2 | simp only [Addr.add, Nat.zero_add] at hx417_2 | skip); (first | simp only [zyK] at hx417_3 | simp only [add_at] at hx417_3 | simp only [Addr.add, Nat.zero_add] at hx417_3 | skip); (first | simp only [zyK] at hx417_4 | simp only [add_at] at hx417_4 | simp only [Addr.add, Nat.zero_add] at hx417_4 | skip); (first | simp only [zyK] at hx417_5 | simp only [add_at] at hx417_5 | simp only [Addr.add, Nat.zero_add] at hx417_5 | skip); replace hx417_0 := zeA HB.out hx417_0; replace hx417_1 := zeA HB.out hx417_1; replace hx417_2 := zeA HB.out hx417_2; replace hx417_3 := zeA HB.out hx417_3; replace hx417_4 := zeA HB.out hx417_4; replace hx417_5 := zeA HB.out hx417_5; replace p417 := eq_true p417; replace q417 := eq_true q417; obtain ⟨hcz25_0, hcz25_1, hcz25_2, hcz25_3, hcz25_4, hcz25_5⟩ := zrN BK408.out; obtain ⟨hfz25_0, hfz25_1, hfz25_2, hfz25_3, hfz25_4, hfz25_5⟩ := zoO BK408.out))
    refine bodyPost_ret (results_cell_row rfl _ _ gb408 35 #[.int .i64 ((zmE gv0 a0).f0.f0), .int .i64 ((zmE gv0 a0).f0.f1), .int .i64 ((zmE gv0 a0).f0.f2), .int .i64 ((zmE gv0 a0).f1.f0), .int .i64 ((zmE gv0 a0).f1.f1), .int .i64 ((zmE gv0 a0).f1.f2)] (0, 0) _ rfl (by (with_reducible repeat (first | apply zuW | apply ztN | apply zqY)); refine zlL (cs := #[.int .i64 ((zmE gv0 a0).f0.f0), .int .i64 ((zmE gv0 a0).f0.f1), .int .i64 ((zmE gv0 a0).f0.f2), .int .i64 ((zmE gv0 a0).f1.f0), .int .i64 ((zmE gv0 a0).f1.f1), .int .i64 0]) ?_ 5 _ rfl; (with_reducible repeat (first | apply zuW | apply ztN | apply zqY)); refine zlL (cs := #[.int .i64 ((zmE gv0 a0).f0.f0), .int .i64 ((zmE gv0 a0).f0.f1), .int .i64 ((zmE gv0 a0).f0.f2), .int .i64 ((zmE gv0 a0).f1.f0), .int .i64 0, .int .i64 0]) ?_ 4 _ rfl; (with_reducible repeat (first | apply zuW | apply ztN | apply zqY)); refine zlL (cs := #[.int .i64 ((zmE gv0 a0).f0.f0), .int .i64 ((zmE gv0 a0).f0.f1), .int .i64 ((zmE gv0 a0).f0.f2), .int .i64 0, .int .i64 0, .int .i64 0]) ?_ 3 _ rfl; (with_reducible repeat (first | apply zuW | apply ztN | apply zqY)); refine zlL (cs := #[.int .i64 ((zmE gv0 a0).f0.f0), .int .i64 ((zmE gv0 a0).f0.f1), .int .i64 0, .int .i64 0, .int .i64 0, .int .i64 0]) ?_ 2 _ rfl; (with_reducible repeat (first | apply zuW | apply ztN | apply zqY)); refine zlL (cs := #[.int .i64 ((zmE gv0 a0).f0.f0), .int .i64 0, .int .i64 0, .int .i64 0, .int .i64 0, .int .i64 0]) ?_ 1 _ rfl; (with_reducible repeat (first | apply zuW | apply ztN | apply zqY)); refine zlL (cs := #[.int .i64 0, .int .i64 0, .int .i64 0, .int .i64 0, .int .i64 0, .int .i64 0]) ?_ 0 _ rfl; (with_reducible repeat (first | apply zuW | apply ztN | apply zqY)); exact BK408.out) Tryd.underlying35 rfl (by kernel_rfl)) rfl ?_
    exact ⟨by first | rfl | (simp [ziS, znJ] <;> rfl) | (simp [*, ziS, znJ] <;> rfl), bb_⟩
   ·rw [if_neg c23] at H
    exact absurd H (by simp)
  ·rw [if_neg c22] at H
   exact absurd H (by simp)

def zeF.f (k : Nat) (a0_0 : Int) (a0_1 : Int) (a0_2 : Int) (a1_0 : Int) (a1_1 : Int) (a1_2 : Int) : Option (Int × Int × Int) := (zbI.f k (wrap64 ((wrap64 (a0_0 * a1_0)) + (wrap64 ((wrap64 (2 * a0_1)) * a1_1)))) (wrap64 ((wrap64 (a0_0 * a1_1)) + (wrap64 (a0_1 * a1_0)))) (wrap64 (a0_2 + a1_2))).bind fun bt421 => (some (bt421.1, bt421.2.1, bt421.2.2))
theorem zeF.mono : ∀ a0 a1 a2 a3 a4 a5 k, LeO (zeF.f k a0 a1 a2 a3 a4 a5) (zeF.f (k + 1) a0 a1 a2 a3 a4 a5) := by
 intro a0 a1 a2 a3 a4 a5 k
 unfold zeF.f
 repeat' first
   | (with_reducible exact zbI.mono _ _ _ _)
   | (with_reducible exact LeO.refl _)
   | (with_reducible exact LeO.none _)
   | (with_reducible refine LeO.ite ?_ ?_)
   | (with_reducible refine LeO.bind ?_ (fun _ => ?_))
   | exact zbI.mono _ _ _ _
   | exact LeO.none _
   | refine LeO.ite ?_ ?_
   | refine LeO.bind ?_ (fun _ => ?_)
theorem zeF.calls (k : Nat) (a0_0 : Int) (a0_1 : Int) (a0_2 : Int) (a1_0 : Int) (a1_1 : Int) (a1_2 : Int) (r1 : Int) (r2 : Int) (r3 : Int) (w : World) (h : zeF.f k a0_0 a0_1 a0_2 a1_0 a1_1 a1_2 = some (r1, r2, r3)) :
  Calls Tryd.prog 66 #[.agg #[.int .i64 a0_0, .int .i64 a0_1, .int .i64 a0_2], .agg #[.int .i64 a1_0, .int .i64 a1_1, .int .i64 a1_2]] w fun e w' => e = .returned (.agg #[.int .i64 r1, .int .i64 r2, .int .i64 r3]) ∧ Below w.heap.size w w' := by
 have hu33 := Tryd.underlying33
 have HB := zpS (Below.refl w.heap.size w)
 have H : ((zbI.f k (wrap64 ((wrap64 (a0_0 * a1_0)) + (wrap64 ((wrap64 (2 * a0_1)) * a1_1)))) (wrap64 ((wrap64 (a0_0 * a1_1)) + (wrap64 (a0_1 * a1_0)))) (wrap64 (a0_2 + a1_2))).bind fun bt421 => (some (bt421.1, bt421.2.1, bt421.2.2))) = some (r1, r2, r3) := h
 clear h
 replace H := Option.bind_eq_some_iff.mp H
 obtain ⟨⟨t421, t422, t423⟩, A30, H⟩ := H
 replace H : (some (t421, t422, t423)) = some (r1, r2, r3) := H
 have A3 := zpS A30
 clear A30
 simp only [Option.some.injEq, Prod.mk.injEq] at H
 obtain ⟨rfl, rfl, rfl⟩ := H
 go_enter Tryd.func66, Tryd.ntmps66
 go_wp2_with (first | ((with_reducible refine zpZ (N := 2) rfl ?_); refine bx_ 2 #[.int .i64 a0_0, .int .i64 a0_1, .int .i64 a0_2] 33 ?_; intro gb418 hg w4 hbox hb; have n0_ := (ns_ hb); have n1_ := zpS (hbox); have n2_ := (ng_ hg); have n3_ := n2_; clear HB; have HB := n0_; have BK418 := n1_; have GW418 := n2_; have GE418 := n3_; clear n0_ n1_ n2_ n3_; clear hb hbox hg) | ((with_reducible refine zpZ (N := 3) rfl ?_); refine bx_ 3 #[.int .i64 a1_0, .int .i64 a1_1, .int .i64 a1_2] 33 ?_; intro gb419 hg w5 hbox hb; have n0_ := zpS (zgM (g := gb418) (o := .cells #[.int .i64 a0_0, .int .i64 a0_1, .int .i64 a0_2] 33 (0, 0)) bk_ hb); have n1_ := (ns_ hb); have n2_ := zpS (hbox); have n3_ := (ng_ hg); have n4_ := n3_; have n5_ := zpS ((by rw [hg]; exact Nat.ne_of_lt (zmN (g := gb418) (o := .cells #[.int .i64 a0_0, .int .i64 a0_1, .int .i64 a0_2] 33 (0, 0)) bk_) : gb418 ≠ gb419)); have n6_ := zpS ((by rw [hg]; exact Nat.ne_of_gt (zmN (g := gb418) (o := .cells #[.int .i64 a0_0, .int .i64 a0_1, .int .i64 a0_2] 33 (0, 0)) bk_) : gb419 ≠ gb418)); clear BK418; clear HB; have BK418 := n0_; have HB := n1_; have BK419 := n2_; have GW419 := n3_; have GE419 := n4_; have NB418_419 := n5_; have NB419_418 := n6_; clear n0_ n1_ n2_ n3_ n4_ n5_ n6_; clear hb hbox hg) | ((with_reducible refine zpZ (N := 4) rfl ?_); refine bx_ 4 #[.int .i64 0, .int .i64 0, .int .i64 0] 33 ?_; intro gb420 hg w6 hbox hb; have n0_ := zpS (zgM (g := gb418) (o := .cells #[.int .i64 a0_0, .int .i64 a0_1, .int .i64 a0_2] 33 (0, 0)) bk_ hb); have n1_ := zpS (zgM (g := gb419) (o := .cells #[.int .i64 a1_0, .int .i64 a1_1, .int .i64 a1_2] 33 (0, 0)) bk_ hb); have n2_ := (ns_ hb); have n3_ := zpS (hbox); have n4_ := (ng_ hg); have n5_ := n4_; have n6_ := zpS ((by rw [hg]; exact Nat.ne_of_lt (zmN (g := gb418) (o := .cells #[.int .i64 a0_0, .int .i64 a0_1, .int .i64 a0_2] 33 (0, 0)) bk_) : gb418 ≠ gb420)); have n7_ := zpS ((by rw [hg]; exact Nat.ne_of_gt (zmN (g := gb418) (o := .cells #[.int .i64 a0_0, .int .i64 a0_1, .int .i64 a0_2] 33 (0, 0)) bk_) : gb420 ≠ gb418)); have n8_ := zpS ((by rw [hg]; exact Nat.ne_of_lt (zmN (g := gb419) (o := .cells #[.int .i64 a1_0, .int .i64 a1_1, .int .i64 a1_2] 33 (0, 0)) bk_) : gb419 ≠ gb420)); have n9_ := zpS ((by rw [hg]; exact Nat.ne_of_gt (zmN (g := gb419) (o := .cells #[.int .i64 a1_0, .int .i64 a1_1, .int .i64 a1_2] 33 (0, 0)) bk_) : gb420 ≠ gb419)); clear BK418; clear BK419; clear HB; have BK418 := n0_; have BK419 := n1_; have HB := n2_; have BK420 := n3_; have GW420 := n4_; have GE420 := n5_; have NB418_420 := n6_; have NB420_418 := n7_; have NB419_420 := n8_; have NB420_419 := n9_; clear n0_ n1_ n2_ n3_ n4_ n5_ n6_ n7_ n8_ n9_; clear hb hbox hg; have hnb7 := NB418_419.out; have hnc7 := NB419_418.out; have hnb8 := NB418_420.out; have hnc8 := NB420_418.out; obtain ⟨hcz9_0, hcz9_1, hcz9_2⟩ := zdT BK418.out; obtain ⟨hfz9_0, hfz9_1, hfz9_2⟩ := zqD BK418.out; have hnb10 := NB419_420.out; have hnc10 := NB420_419.out; obtain ⟨hcz11_0, hcz11_1, hcz11_2⟩ := zdT BK419.out; obtain ⟨hfz11_0, hfz11_1, hfz11_2⟩ := zqD BK419.out) | ((with_reducible refine zgK (f := 72) rfl ?_); refine zqQ (some 34) rfl rfl Tryd.func72 (by kernel_rfl) rfl #[.agg #[.int .i64 (wrap64 ((wrap64 (a0_0 * a1_0)) + (wrap64 ((wrap64 (2 * a0_1)) * a1_1)))), .int .i64 (wrap64 ((wrap64 (a0_0 * a1_1)) + (wrap64 (a0_1 * a1_0)))), .int .i64 (wrap64 (a0_2 + a1_2))]] rfl (by (try simp only [List.map_toArray, List.map_cons, List.map_nil]); first | done | rfl | (simp only [List.length_drop, List.length_take]; rfl)) ?_; (with_reducible refine (zbI.calls k (wrap64 ((wrap64 (a0_0 * a1_0)) + (wrap64 ((wrap64 (2 * a0_1)) * a1_1)))) (wrap64 ((wrap64 (a0_0 * a1_1)) + (wrap64 (a0_1 * a1_0)))) (wrap64 (a0_2 + a1_2)) t421 t422 t423 _ A3.out).mono ?_); rintro e w12 ⟨rfl, hb⟩; refine ⟨_, rfl, ?_⟩; have n0_ := zpS (zgM (g := gb418) (o := .cells #[.int .i64 a0_0, .int .i64 a0_1, .int .i64 a0_2] 33 (0, 0)) bk_ hb); have n1_ := zpS (zgM (g := gb419) (o := .cells #[.int .i64 a1_0, .int .i64 a1_1, .int .i64 a1_2] 33 (0, 0)) bk_ hb); have n2_ := zpS (zgM (g := gb420) (o := .cells #[.int .i64 0, .int .i64 0, .int .i64 0] 33 (0, 0)) bk_ hb); have n3_ := (ns_ hb); clear BK418; clear BK419; clear BK420; clear HB; have BK418 := n0_; have BK419 := n1_; have BK420 := n2_; have HB := n3_; clear n0_ n1_ n2_ n3_; (try clear hb); (try clear hb2); obtain ⟨hcz13_0, hcz13_1, hcz13_2⟩ := zdT BK420.out; obtain ⟨hfz13_0, hfz13_1, hfz13_2⟩ := zqD BK420.out))
 refine bodyPost_ret (results_cell_row rfl _ _ gb420 33 #[.int .i64 t421, .int .i64 t422, .int .i64 t423] (0, 0) _ rfl (by (with_reducible repeat (first | apply zuW | apply ztN | apply zqY)); refine zlL (cs := #[.int .i64 t421, .int .i64 t422, .int .i64 0]) ?_ 2 _ rfl; (with_reducible repeat (first | apply zuW | apply ztN | apply zqY)); refine zlL (cs := #[.int .i64 t421, .int .i64 0, .int .i64 0]) ?_ 1 _ rfl; (with_reducible repeat (first | apply zuW | apply ztN | apply zqY)); refine zlL (cs := #[.int .i64 0, .int .i64 0, .int .i64 0]) ?_ 0 _ rfl; (with_reducible repeat (first | apply zuW | apply ztN | apply zqY)); exact BK420.out) Tryd.underlying33 rfl (by kernel_rfl)) rfl ?_
 exact ⟨by first | rfl | (simp [ziS, znJ] <;> rfl) | (simp [*, ziS, znJ] <;> rfl), bb_⟩

end Go.Proofs.YtbnfbflfhpniaaaDoor.PFnExactNormalPolygon
