-- Printed for this claim by this session's program pp.py, which drives the kit's print with additions. Not trusted: Lean checks it.
import Derived.Test.YtbpkbllokmplnaaV2PFnVertexCountx0
import Derived.Test.YtbpkbllokmplnaaV2PFnVertexCountx1
import Derived.Test.YtbpkbllokmplnaaV2PFnVertexCountx2
namespace Go.Proofs.Ytbpkbllokmplnaa.PFnVertexCount
open Go.RowKit Go.Proofs.YtbpkbllokmplnaaW.PrintWords Go.Proofs.YtbpkbllokmplnaaW.PrintLast Go.Proofs.YtbpkbllokmplnaaW.PrintMore
attribute [local go_sem] max2_int min2_int max_two min_two znE zuB max_four min_four   -- for this text's walks alone
set_option linter.unusedVariables false
set_option linter.unusedSimpArgs false

def zbF.f (k : Nat) (a0_0 : Int) (a0_1 : Int) (a0_2 : Int) (l1 : List Int) : Option (Bool) := (zfN.f l1).bind fun t134 => ((zgK.f k a0_0 a0_1 a0_2 t134).bind fun t135 => ((zrS.f k l1 t135).bind fun t138 => ((zyZ.f k t138).bind fun t141 => (some (t141 == (Int.tmod (wrap64 (a0_1 + 1)) 2))))))
theorem zbF.mono : ∀ a0 a1 a2 a3 k, LeO (zbF.f k a0 a1 a2 a3) (zbF.f (k + 1) a0 a1 a2 a3) := by
 intro a0 a1 a2 a3 k
 unfold zbF.f
 repeat' first
   | (with_reducible exact zrS.mono _ _ _)
   | (with_reducible exact zyZ.mono _ _)
   | (with_reducible exact zgK.mono _ _ _ _ _)
   | (with_reducible exact LeO.refl _)
   | (with_reducible exact LeO.none _)
   | (with_reducible refine LeO.ite ?_ ?_)
   | (with_reducible refine LeO.bind ?_ (fun _ => ?_))
   | exact zrS.mono _ _ _
   | exact zyZ.mono _ _
   | exact zgK.mono _ _ _ _ _
   | exact LeO.none _
   | refine LeO.ite ?_ ?_
   | refine LeO.bind ?_ (fun _ => ?_)
def zbF.T1 : Bool × List (List Nat × List Nat) := (true, [([], []), ([], []), ([], []), ([2], [2]), ([1, 3, 3], [1, 3]), ([0, 4, 4], [0, 4]), ([5, 5], [5]), ([], []), ([7], [7]), ([8], [8]), ([9], [9]), ([6, 10], [6, 10]), ([11, 6, 0, 1, 2, 3, 4, 5, 6, 7, 8, 9, 10, 11], [11])])
def zbF.B1 : List Nat := [0, 0, 0, 4, 14, 31, 63, 0, 128, 384, 896, 2047, 4095]
theorem zbF.tab1 : rtab .any (opsOf Try.f93 1) = zbF.T1 := by kernel_rfl
theorem zbF.bits1 : ztE zbF.T1.2 zbF.B1 = true := by kernel_rfl
set_option maxHeartbeats 8000000 in
set_option maxRecDepth 100000 in
theorem zbF.calls (k : Nat) (a0_0 : Int) (a0_1 : Int) (a0_2 : Int) (A1 : Option Addr) (c1 : Nat) (l1 : List Int) (r : Bool) (w : World) (hr1 : Kd.C (Kd.int .i64) w A1 l1.length l1) (hc1 : l1.length ≤ c1) (h : zbF.f k a0_0 a0_1 a0_2 l1 = some r) :
  Calls Try.prog 93 #[.agg #[.int .i64 a0_0, .int .i64 a0_1, .int .i64 a0_2], .slice A1 l1.length c1] w fun e w' => e = .returned (.bool r) ∧ Below w.heap.size w w' := by
 have hu87 := Try.underlying87
 have HR1 := zpS hr1
 have HC1 := zpS hc1
 clear hr1 hc1
 have HB := zpS (Below.refl w.heap.size w)
 have H : ((zfN.f l1).bind fun t134 => ((zgK.f k a0_0 a0_1 a0_2 t134).bind fun t135 => ((zrS.f k l1 t135).bind fun t138 => ((zyZ.f k t138).bind fun t141 => (some (t141 == (Int.tmod (wrap64 (a0_1 + 1)) 2))))))) = some r := h
 clear h
 replace H := Option.bind_eq_some_iff.mp H
 obtain ⟨t134, A30, H⟩ := H
 replace H : ((zgK.f k a0_0 a0_1 a0_2 t134).bind fun t135 => ((zrS.f k l1 t135).bind fun t138 => ((zyZ.f k t138).bind fun t141 => (some (t141 == (Int.tmod (wrap64 (a0_1 + 1)) 2)))))) = some r := H
 have A3 := zpS A30
 clear A30
 replace H := Option.bind_eq_some_iff.mp H
 obtain ⟨t135, A40, H⟩ := H
 replace H : ((zrS.f k l1 t135).bind fun t138 => ((zyZ.f k t138).bind fun t141 => (some (t141 == (Int.tmod (wrap64 (a0_1 + 1)) 2))))) = some r := H
 have A4 := zpS A40
 clear A40
 replace H := Option.bind_eq_some_iff.mp H
 obtain ⟨t138, A50, H⟩ := H
 replace H : ((zyZ.f k t138).bind fun t141 => (some (t141 == (Int.tmod (wrap64 (a0_1 + 1)) 2)))) = some r := H
 have A5 := zpS A50
 clear A50
 replace H := Option.bind_eq_some_iff.mp H
 obtain ⟨t141, A60, H⟩ := H
 replace H : (some (t141 == (Int.tmod (wrap64 (a0_1 + 1)) 2))) = some r := H
 have A6 := zpS A60
 clear A60
 obtain rfl := Option.some.inj H
 go_enter Try.func93, Try.ntmps93
 try go_wp2_with (first | ((with_reducible refine gate_dst (N := 2) rfl ?_); refine bx_ 2 #[.int .i64 a0_0, .int .i64 a0_1, .int .i64 a0_2] 87 ?_; intro gb133 hg w7 hbox hb; have n0_ := (ns_ hb); have n1_ := zpS (hbox); have n2_ := (ng_ hg); have n3_ := n2_; clear HB; have HB := n0_; have BK133 := n1_; have GW133 := n2_; have GE133 := n3_; clear n0_ n1_ n2_ n3_; clear hb hbox hg))
 have n0_ := zpS (ztN BK133.out)
 have n1_ := zpS (zvF HB.out)
 clear BK133
 clear HB
 have BK133 := n0_
 have HB := n1_
 clear n0_ n1_
 refine start_ (n := 13) (S := fun w' => w'.cell? ⟨gb133, 0, none⟩ = some (.int .i64 a0_0) ∧ w'.cell? ⟨gb133, 1, none⟩ = some (.int .i64 a0_1) ∧ w'.cell? ⟨gb133, 2, none⟩ = some (.int .i64 a0_2)) (ds := []) #[false, false, false, false, false, false, false, false, false, false, false, false, false] (by kernel_rfl) rfl rfl ⟨(zzS BK133.out 0).trans rfl, (zzS BK133.out 1).trans rfl, (zzS BK133.out 2).trans rfl⟩ (fun hHeld => ?_); refine with_tabW zbF.tab1 zbF.bits1 (fun HT_ HW_ => ?_)
 generalize w7.drew = w8 at BK133 HB hHeld ⊢
 refine pu_ 0 (some 5) (bl_ 13 1) ?_
 refine pu_ 2 (some 7) (bl_ 13 5) ?_
 refine pu_ 7 (some 12) (bl_ 13 133) ?_
 refine tk3_ 1 (some 6) (bl_ 13 135) hHeld ?_
 refine tk3_ 8 (some 13) (bl_ 13 391) hHeld ?_
 refine pu_ 9 (some 14) (bl_ 13 903) ?_
 refine pu_ 10 (some 15) (bl_ 13 1927) ?_
 refine one_ (i := 3) (N := some 8) (bl_ 13 1935) rfl rfl (one_of HT_.out (by kernel_rfl)) (by decide) (fun K hK => ?_)
 refine goes_ Try.func61 (by kernel_rfl) rfl #[.slice A1 l1.length c1] (by rfl) rfl rfl (by (try simp only [List.map_toArray, List.map_cons, List.map_nil]); first | done | rfl | (simp only [List.length_drop, List.length_take]; rfl)) ?_
 with_reducible refine (zfN.calls _ _ l1 t134 _ ?side1 ?side2 A3.out).mono ?_
 (case side1 => repeat (first | exact (Kd.C_below HR1.out HB.out) | (with_reducible refine Kd.C_alloc ?_ _) | (with_reducible refine Kd.C_drewN ?_ _) | (with_reducible refine Kd.C_drew ?_)))
 (case side2 => exact HC1.out)
 rintro e w' ⟨rfl, ⟨nd, rfl⟩⟩
 refine ⟨_, rfl, ?_⟩
 refine hK.out _ _ ⟨(zzS BK133.out 0).trans rfl, (zzS BK133.out 1).trans rfl, (zzS BK133.out 2).trans rfl⟩ (fun hHeld => ?_)
 clear hK K
 refine norm_ (a' := ?_) ?_ ?_
 rotate_left
 ·show Act.put _ (some 8) _ = _
  simp only [Act.put, List.setIfInBounds_toArray, List.set_cons_zero, List.set_cons_succ, zcO, i32_w]
  rfl
 refine one_ (i := 4) (N := some 9) (bl_ 13 1951) rfl rfl (one_of HT_.out (by kernel_rfl)) (by decide) (fun K hK => ?_)
 refine goes_ Try.func95 (by kernel_rfl) rfl #[.agg #[.int .i64 a0_0, .int .i64 a0_1, .int .i64 a0_2], .int .i64 t134] (by rfl) rfl rfl (by (try simp only [List.map_toArray, List.map_cons, List.map_nil]); first | done | rfl | (simp only [List.length_drop, List.length_take]; rfl)) ?_
 with_reducible refine (zgK.calls k a0_0 a0_1 a0_2 t134 t135 _ A4.out).mono ?_
 rintro e w9 ⟨v136, rfl, ho0, hb⟩
 refine ⟨_, rfl, ?_⟩
 have n0_ := zpS (Kd.R_lower ho0 (zuA bb_))
 have n1_ := zpS (zgM (g := gb133) (o := .cells #[.int .i64 a0_0, .int .i64 a0_1, .int .i64 a0_2] 87 (0, 0)) bk_ hb)
 have n2_ := (ns_ hb)
 clear BK133
 clear HB
 have HO137 := n0_
 have BK133 := n1_
 have HB := n2_
 clear n0_ n1_ n2_
 (try clear hb)
 (try clear hb2)
 (try clear hk)
 (try clear hi)
 (try clear ho0)
 obtain ⟨Ao10, co10, eo10⟩ := Kd.R_slice HO137.out
 (first | subst eo10 | (injection eo10 with f1_ f2_ f3_; have f4_ := f1_.symm; have f5_ := f3_.symm; clear f1_ f2_ f3_; subst f4_; subst f5_))
 refine hK.out _ _ ⟨(zzS BK133.out 0).trans rfl, (zzS BK133.out 1).trans rfl, (zzS BK133.out 2).trans rfl⟩ (fun hHeld => ?_)
 clear hK K
 refine norm_ (a' := ?_) ?_ ?_
 rotate_left
 ·show Act.put _ (some 9) _ = _
  simp only [Act.put, List.setIfInBounds_toArray, List.set_cons_zero, List.set_cons_succ, zcO, i32_w]
  rfl
 refine one_ (i := 5) (N := some 10) (bl_ 13 1983) rfl rfl (one_of HT_.out (by kernel_rfl)) (by decide) (fun K hK => ?_)
 refine goes_ Try.func94 (by kernel_rfl) rfl #[.slice A1 l1.length c1, .slice Ao10 t135.length co10] (by rfl) rfl rfl (by (try simp only [List.map_toArray, List.map_cons, List.map_nil]); first | done | rfl | (simp only [List.length_drop, List.length_take]; rfl)) ?_
 with_reducible refine (zrS.calls k _ _ l1 _ _ t135 t138 _ ?side1 ?side2 ?side3 ?side4 A5.out).mono ?_
 (case side1 => repeat (first | exact (Kd.C_below HR1.out HB.out) | (with_reducible refine Kd.C_alloc ?_ _) | (with_reducible refine Kd.C_drewN ?_ _) | (with_reducible refine Kd.C_drew ?_)))
 (case side2 => exact HC1.out)
 (case side3 => repeat (first | exact (Kd.R_reads' HO137.out).2.2 | (with_reducible refine Kd.C_alloc ?_ _) | (with_reducible refine Kd.C_drewN ?_ _) | (with_reducible refine Kd.C_drew ?_)))
 (case side4 => exact (Kd.R_reads' HO137.out).2.1)
 rintro e w11 ⟨v139, rfl, ho0, hb⟩
 refine ⟨_, rfl, ?_⟩
 have n0_ := zpS (Kd.R_elder' (by (with_reducible repeat (first | apply Kd.R_alloc | apply Kd.R_drewN | apply Kd.R_drew)); exact HO137.out) (Kd.R_base ho0) hb)
 have n1_ := zpS (Kd.R_lower (Kd.R_new' ho0 (Kd.R_lt (by (with_reducible repeat (first | apply Kd.R_alloc | apply Kd.R_drewN | apply Kd.R_drew)); exact HO137.out))) (zuA bb_))
 have n2_ := zpS (zgM (g := gb133) (o := .cells #[.int .i64 a0_0, .int .i64 a0_1, .int .i64 a0_2] 87 (0, 0)) bk_ hb)
 have n3_ := (ns_ hb)
 clear HO137
 clear BK133
 clear HB
 have HO137 := n0_
 have HO140 := n1_
 have BK133 := n2_
 have HB := n3_
 clear n0_ n1_ n2_ n3_
 (try clear hb)
 (try clear hb2)
 (try clear hk)
 (try clear hi)
 (try clear ho0)
 obtain ⟨Ao12, co12, eo12⟩ := Kd.R_slice HO140.out
 (first | subst eo12 | (injection eo12 with f1_ f2_ f3_; have f4_ := f1_.symm; have f5_ := f3_.symm; clear f1_ f2_ f3_; subst f4_; subst f5_))
 refine hK.out _ _ ⟨(zzS BK133.out 0).trans rfl, (zzS BK133.out 1).trans rfl, (zzS BK133.out 2).trans rfl⟩ (fun hHeld => ?_)
 clear hK K
 refine norm_ (a' := ?_) ?_ ?_
 rotate_left
 ·show Act.put _ (some 10) _ = _
  simp only [Act.put, List.setIfInBounds_toArray, List.set_cons_zero, List.set_cons_succ, zcO, i32_w]
  rfl
 refine one_ (i := 6) (N := some 11) (bl_ 13 2047) rfl rfl (one_of HT_.out (by kernel_rfl)) (by decide) (fun K hK => ?_)
 refine goes_ Try.func91 (by kernel_rfl) rfl #[.slice Ao12 t138.length co12] (by rfl) rfl rfl (by (try simp only [List.map_toArray, List.map_cons, List.map_nil]); first | done | rfl | (simp only [List.length_drop, List.length_take]; rfl)) ?_
 with_reducible refine (zyZ.calls k _ _ t138 t141 _ ?side1 ?side2 A6.out).mono ?_
 (case side1 => repeat (first | exact (Kd.R_reads' HO140.out).2.2 | (with_reducible refine Kd.C_alloc ?_ _) | (with_reducible refine Kd.C_drewN ?_ _) | (with_reducible refine Kd.C_drew ?_)))
 (case side2 => exact (Kd.R_reads' HO140.out).2.1)
 rintro e w13 ⟨rfl, hb⟩
 refine ⟨_, rfl, ?_⟩
 have n0_ := zpS (Kd.R_below (by (with_reducible repeat (first | apply Kd.R_alloc | apply Kd.R_drewN | apply Kd.R_drew)); exact HO137.out) hb)
 have n1_ := zpS (Kd.R_below (by (with_reducible repeat (first | apply Kd.R_alloc | apply Kd.R_drewN | apply Kd.R_drew)); exact HO140.out) hb)
 have n2_ := zpS (zgM (g := gb133) (o := .cells #[.int .i64 a0_0, .int .i64 a0_1, .int .i64 a0_2] 87 (0, 0)) bk_ hb)
 have n3_ := (ns_ hb)
 clear HO137
 clear HO140
 clear BK133
 clear HB
 have HO137 := n0_
 have HO140 := n1_
 have BK133 := n2_
 have HB := n3_
 clear n0_ n1_ n2_ n3_
 (try clear hb)
 (try clear hb2)
 (try clear hk)
 (try clear hi)
 refine hK.out _ _ ⟨(zzS BK133.out 0).trans rfl, (zzS BK133.out 1).trans rfl, (zzS BK133.out 2).trans rfl⟩ (fun hHeld => ?_)
 clear hK K
 refine norm_ (a' := ?_) ?_ ?_
 rotate_left
 ·show Act.put _ (some 11) _ = _
  simp only [Act.put, List.setIfInBounds_toArray, List.set_cons_zero, List.set_cons_succ, zcO, i32_w]
  rfl
 refine pu_ 11 (some 16) (bl_ 13 4095) ?_
 refine pu_ 12 (some 4) (bl_ 13 8191) ?_
 refine done_ (done_of HT_.out (by kernel_rfl)) ?_
 try go_wp2
 go_ret
 exact ⟨by first | rfl | (simp [ziS, znJ] <;> rfl) | (simp [*, ziS, znJ] <;> rfl), bb_⟩

end Go.Proofs.Ytbpkbllokmplnaa.PFnVertexCount
