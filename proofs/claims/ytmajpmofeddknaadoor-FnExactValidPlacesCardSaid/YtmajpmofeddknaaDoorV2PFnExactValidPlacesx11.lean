-- Printed for this claim by this session's program pp.py, which drives the kit's print with additions. Not trusted: Lean checks it.
import Derived.Test.YtmajpmofeddknaaDoorV2PFnExactValidPlacesx0
import Derived.Test.YtmajpmofeddknaaDoorV2PFnExactValidPlacesx1
import Derived.Test.YtmajpmofeddknaaDoorV2PFnExactValidPlacesx9
import Derived.Test.YtmajpmofeddknaaDoorV2PFnExactValidPlacesx10
namespace Go.Proofs.YtmajpmofeddknaaDoor.PFnExactValidPlaces
open Go.RowKit Go.Proofs.YtmajpmofeddknaaDoorW.PrintWords Go.Proofs.YtmajpmofeddknaaDoorW.PrintLast Go.Proofs.YtmajpmofeddknaaDoorW.PrintMore
attribute [local go_sem] zbB ziC zrC zhD znE zuB znH zkT   -- for this text's walks alone
set_option linter.unusedVariables false
set_option linter.unusedSimpArgs false

attribute [local go_sem high] eqA34
def ztL.f (k : Nat) (a0_0 : Int) (a0_1 : Int) (a0_2 : Int) (a0_3 : Int) (a0_4 : Int) (a0_5 : Int) (a1_0 : Int) (a1_1 : Int) (a1_2 : Int) (a1_3 : Int) (a1_4 : Int) (a1_5 : Int) : Option (Int × Int × Int) := (zeF.f k a0_0 a0_1 a0_2 a1_0 a1_1 a1_2).bind fun bt358 => ((zeF.f k a0_3 a0_4 a0_5 a1_3 a1_4 a1_5).bind fun bt361 => ((zjL.f k bt358.1 bt358.2.1 bt358.2.2 bt361.1 bt361.2.1 bt361.2.2).bind fun bt364 => (some (bt364.1, bt364.2.1, bt364.2.2))))
theorem ztL.mono : ∀ a0 a1 a2 a3 a4 a5 a6 a7 a8 a9 a10 a11 k, LeO (ztL.f k a0 a1 a2 a3 a4 a5 a6 a7 a8 a9 a10 a11) (ztL.f (k + 1) a0 a1 a2 a3 a4 a5 a6 a7 a8 a9 a10 a11) := by
 intro a0 a1 a2 a3 a4 a5 a6 a7 a8 a9 a10 a11 k
 unfold ztL.f
 repeat' first
   | (with_reducible exact zjL.mono _ _ _ _ _ _ _)
   | (with_reducible exact zeF.mono _ _ _ _ _ _ _)
   | (with_reducible exact LeO.refl _)
   | (with_reducible exact LeO.none _)
   | (with_reducible refine LeO.ite ?_ ?_)
   | (with_reducible refine LeO.bind ?_ (fun _ => ?_))
   | exact zjL.mono _ _ _ _ _ _ _
   | exact zeF.mono _ _ _ _ _ _ _
   | exact LeO.none _
   | refine LeO.ite ?_ ?_
   | refine LeO.bind ?_ (fun _ => ?_)
def ztL.T1 : Bool × List (List Nat × List Nat) := (true, [([], []), ([0], [0]), ([], []), ([2], [2]), ([1, 3], [1, 3]), ([], []), ([5], [5]), ([], []), ([7], [7]), ([6, 8, 4], [6, 8]), ([4, 9, 9], [4, 9]), ([10, 10, 0, 1, 2, 3, 4, 5, 6, 7, 8, 9, 10], [10])])
def ztL.B1 : List Nat := [0, 1, 0, 4, 15, 0, 32, 0, 128, 511, 1023, 2047]
theorem ztL.tab1 : rtab .any (opsOf Tryd.f141 1) = ztL.T1 := by kernel_rfl
theorem ztL.bits1 : ztG ztL.T1.2 ztL.B1 = true := by kernel_rfl
set_option maxHeartbeats 8000000 in
set_option maxRecDepth 100000 in
theorem ztL.calls (k : Nat) (a0_0 : Int) (a0_1 : Int) (a0_2 : Int) (a0_3 : Int) (a0_4 : Int) (a0_5 : Int) (a1_0 : Int) (a1_1 : Int) (a1_2 : Int) (a1_3 : Int) (a1_4 : Int) (a1_5 : Int) (r1 : Int) (r2 : Int) (r3 : Int) (w : World) (h : ztL.f k a0_0 a0_1 a0_2 a0_3 a0_4 a0_5 a1_0 a1_1 a1_2 a1_3 a1_4 a1_5 = some (r1, r2, r3)) :
  Calls Tryd.prog 141 #[.agg #[.int .i64 a0_0, .int .i64 a0_1, .int .i64 a0_2, .int .i64 a0_3, .int .i64 a0_4, .int .i64 a0_5], .agg #[.int .i64 a1_0, .int .i64 a1_1, .int .i64 a1_2, .int .i64 a1_3, .int .i64 a1_4, .int .i64 a1_5]] w fun e w' => e = .returned (.agg #[.int .i64 r1, .int .i64 r2, .int .i64 r3]) ∧ Below w.heap.size w w' := by
 have hu36 := Tryd.underlying36
 have hu34 := Tryd.underlying34
 have HB := zpS (Below.refl w.heap.size w)
 have H : ((zeF.f k a0_0 a0_1 a0_2 a1_0 a1_1 a1_2).bind fun bt358 => ((zeF.f k a0_3 a0_4 a0_5 a1_3 a1_4 a1_5).bind fun bt361 => ((zjL.f k bt358.1 bt358.2.1 bt358.2.2 bt361.1 bt361.2.1 bt361.2.2).bind fun bt364 => (some (bt364.1, bt364.2.1, bt364.2.2))))) = some (r1, r2, r3) := h
 clear h
 replace H := Option.bind_eq_some_iff.mp H
 obtain ⟨⟨t358, t359, t360⟩, A30, H⟩ := H
 replace H : ((zeF.f k a0_3 a0_4 a0_5 a1_3 a1_4 a1_5).bind fun bt361 => ((zjL.f k t358 t359 t360 bt361.1 bt361.2.1 bt361.2.2).bind fun bt364 => (some (bt364.1, bt364.2.1, bt364.2.2)))) = some (r1, r2, r3) := H
 have A3 := zpS A30
 clear A30
 replace H := Option.bind_eq_some_iff.mp H
 obtain ⟨⟨t361, t362, t363⟩, A40, H⟩ := H
 replace H : ((zjL.f k t358 t359 t360 t361 t362 t363).bind fun bt364 => (some (bt364.1, bt364.2.1, bt364.2.2))) = some (r1, r2, r3) := H
 have A4 := zpS A40
 clear A40
 replace H := Option.bind_eq_some_iff.mp H
 obtain ⟨⟨t364, t365, t366⟩, A50, H⟩ := H
 replace H : (some (t364, t365, t366)) = some (r1, r2, r3) := H
 have A5 := zpS A50
 clear A50
 simp only [Option.some.injEq, Prod.mk.injEq] at H
 obtain ⟨rfl, rfl, rfl⟩ := H
 go_enter Tryd.func141, Tryd.ntmps141
 try go_wp2_with (first | ((with_reducible refine zpZ (N := 2) rfl ?_); refine bx_ 2 #[.int .i64 a0_0, .int .i64 a0_1, .int .i64 a0_2, .int .i64 a0_3, .int .i64 a0_4, .int .i64 a0_5] 36 ?_; intro gb355 hg w6 hbox hb; have n0_ := (ns_ hb); have n1_ := zpS (hbox); have n2_ := (ng_ hg); have n3_ := n2_; clear HB; have HB := n0_; have BK355 := n1_; have GW355 := n2_; have GE355 := n3_; clear n0_ n1_ n2_ n3_; clear hb hbox hg) | ((with_reducible refine zpZ (N := 3) rfl ?_); refine bx_ 3 #[.int .i64 a1_0, .int .i64 a1_1, .int .i64 a1_2, .int .i64 a1_3, .int .i64 a1_4, .int .i64 a1_5] 36 ?_; intro gb356 hg w7 hbox hb; have n0_ := zpS (zgM (g := gb355) (o := .cells #[.int .i64 a0_0, .int .i64 a0_1, .int .i64 a0_2, .int .i64 a0_3, .int .i64 a0_4, .int .i64 a0_5] 36 (0, 0)) bk_ hb); have n1_ := (ns_ hb); have n2_ := zpS (hbox); have n3_ := (ng_ hg); have n4_ := n3_; have n5_ := zpS ((by rw [hg]; exact Nat.ne_of_lt (zmN (g := gb355) (o := .cells #[.int .i64 a0_0, .int .i64 a0_1, .int .i64 a0_2, .int .i64 a0_3, .int .i64 a0_4, .int .i64 a0_5] 36 (0, 0)) bk_) : gb355 ≠ gb356)); have n6_ := zpS ((by rw [hg]; exact Nat.ne_of_gt (zmN (g := gb355) (o := .cells #[.int .i64 a0_0, .int .i64 a0_1, .int .i64 a0_2, .int .i64 a0_3, .int .i64 a0_4, .int .i64 a0_5] 36 (0, 0)) bk_) : gb356 ≠ gb355)); clear BK355; clear HB; have BK355 := n0_; have HB := n1_; have BK356 := n2_; have GW356 := n3_; have GE356 := n4_; have NB355_356 := n5_; have NB356_355 := n6_; clear n0_ n1_ n2_ n3_ n4_ n5_ n6_; clear hb hbox hg) | ((with_reducible refine zpZ (N := 4) rfl ?_); refine bx_ 4 #[.int .i64 0, .int .i64 0, .int .i64 0] 34 ?_; intro gb357 hg w8 hbox hb; have n0_ := zpS (zgM (g := gb355) (o := .cells #[.int .i64 a0_0, .int .i64 a0_1, .int .i64 a0_2, .int .i64 a0_3, .int .i64 a0_4, .int .i64 a0_5] 36 (0, 0)) bk_ hb); have n1_ := zpS (zgM (g := gb356) (o := .cells #[.int .i64 a1_0, .int .i64 a1_1, .int .i64 a1_2, .int .i64 a1_3, .int .i64 a1_4, .int .i64 a1_5] 36 (0, 0)) bk_ hb); have n2_ := (ns_ hb); have n3_ := zpS (hbox); have n4_ := (ng_ hg); have n5_ := n4_; have n6_ := zpS ((by rw [hg]; exact Nat.ne_of_lt (zmN (g := gb355) (o := .cells #[.int .i64 a0_0, .int .i64 a0_1, .int .i64 a0_2, .int .i64 a0_3, .int .i64 a0_4, .int .i64 a0_5] 36 (0, 0)) bk_) : gb355 ≠ gb357)); have n7_ := zpS ((by rw [hg]; exact Nat.ne_of_gt (zmN (g := gb355) (o := .cells #[.int .i64 a0_0, .int .i64 a0_1, .int .i64 a0_2, .int .i64 a0_3, .int .i64 a0_4, .int .i64 a0_5] 36 (0, 0)) bk_) : gb357 ≠ gb355)); have n8_ := zpS ((by rw [hg]; exact Nat.ne_of_lt (zmN (g := gb356) (o := .cells #[.int .i64 a1_0, .int .i64 a1_1, .int .i64 a1_2, .int .i64 a1_3, .int .i64 a1_4, .int .i64 a1_5] 36 (0, 0)) bk_) : gb356 ≠ gb357)); have n9_ := zpS ((by rw [hg]; exact Nat.ne_of_gt (zmN (g := gb356) (o := .cells #[.int .i64 a1_0, .int .i64 a1_1, .int .i64 a1_2, .int .i64 a1_3, .int .i64 a1_4, .int .i64 a1_5] 36 (0, 0)) bk_) : gb357 ≠ gb356)); clear BK355; clear BK356; clear HB; have BK355 := n0_; have BK356 := n1_; have HB := n2_; have BK357 := n3_; have GW357 := n4_; have GE357 := n5_; have NB355_357 := n6_; have NB357_355 := n7_; have NB356_357 := n8_; have NB357_356 := n9_; clear n0_ n1_ n2_ n3_ n4_ n5_ n6_ n7_ n8_ n9_; clear hb hbox hg))
 have n0_ := zpS (ztN BK355.out)
 have n1_ := zpS (ztN BK356.out)
 have n2_ := zpS (ztN BK357.out)
 have n3_ := zpS (zvF HB.out)
 clear BK355
 clear BK356
 clear BK357
 clear HB
 have BK355 := n0_
 have BK356 := n1_
 have BK357 := n2_
 have HB := n3_
 clear n0_ n1_ n2_ n3_
 refine zpB (n := 12) (S := fun w' => w'.cell? ⟨gb355, 0, none⟩ = some (.int .i64 a0_0) ∧ w'.cell? ⟨gb355, 1, none⟩ = some (.int .i64 a0_1) ∧ w'.cell? ⟨gb355, 2, none⟩ = some (.int .i64 a0_2) ∧ w'.cell? ⟨gb355, 3, none⟩ = some (.int .i64 a0_3) ∧ w'.cell? ⟨gb355, 4, none⟩ = some (.int .i64 a0_4) ∧ w'.cell? ⟨gb355, 5, none⟩ = some (.int .i64 a0_5) ∧ w'.cell? ⟨gb356, 0, none⟩ = some (.int .i64 a1_0) ∧ w'.cell? ⟨gb356, 1, none⟩ = some (.int .i64 a1_1) ∧ w'.cell? ⟨gb356, 2, none⟩ = some (.int .i64 a1_2) ∧ w'.cell? ⟨gb356, 3, none⟩ = some (.int .i64 a1_3) ∧ w'.cell? ⟨gb356, 4, none⟩ = some (.int .i64 a1_4) ∧ w'.cell? ⟨gb356, 5, none⟩ = some (.int .i64 a1_5)) (ds := []) #[false, false, false, false, false, false, false, false, false, false, false, false] (by kernel_rfl) rfl rfl ⟨(zzS BK355.out 0).trans rfl, (zzS BK355.out 1).trans rfl, (zzS BK355.out 2).trans rfl, (zzS BK355.out 3).trans rfl, (zzS BK355.out 4).trans rfl, (zzS BK355.out 5).trans rfl, (zzS BK356.out 0).trans rfl, (zzS BK356.out 1).trans rfl, (zzS BK356.out 2).trans rfl, (zzS BK356.out 3).trans rfl, (zzS BK356.out 4).trans rfl, (zzS BK356.out 5).trans rfl⟩ (fun hHeld => ?_); refine zwI ztL.tab1 ztL.bits1 (fun HT_ HW_ => ?_)
 generalize w8.drew = w9 at BK355 BK356 BK357 HB hHeld ⊢
 refine pu_ 0 (some 5) (bl_ 12 1) ?_
 refine pu_ 2 (some 7) (bl_ 12 5) ?_
 refine pu_ 5 (some 10) (bl_ 12 37) ?_
 refine pu_ 7 (some 12) (bl_ 12 165) ?_
 refine zmW 1 (some 6) (bl_ 12 167) hHeld ?_
 refine zmW 3 (some 8) (bl_ 12 175) hHeld ?_
 refine zmW 6 (some 11) (bl_ 12 239) hHeld ?_
 refine zmW 8 (some 13) (bl_ 12 495) hHeld ?_
 refine zdC (i := 4) (N := some 9) (bl_ 12 511) rfl rfl (zeO HT_.out (by kernel_rfl)) (by decide) (fun K hK => ?_)
 refine zqW Tryd.func168 (by kernel_rfl) rfl #[.agg #[.int .i64 a0_0, .int .i64 a0_1, .int .i64 a0_2], .agg #[.int .i64 a1_0, .int .i64 a1_1, .int .i64 a1_2]] (by rfl) rfl rfl (by (try simp only [List.map_toArray, List.map_cons, List.map_nil]); first | done | rfl | (simp only [List.length_drop, List.length_take]; rfl)) ?_
 with_reducible refine (zeF.calls k a0_0 a0_1 a0_2 a1_0 a1_1 a1_2 t358 t359 t360 _ A3.out).mono ?_
 rintro e w10 ⟨rfl, hb⟩
 refine ⟨_, rfl, ?_⟩
 have n0_ := zpS (zgM (g := gb355) (o := .cells #[.int .i64 a0_0, .int .i64 a0_1, .int .i64 a0_2, .int .i64 a0_3, .int .i64 a0_4, .int .i64 a0_5] 36 (0, 0)) bk_ hb)
 have n1_ := zpS (zgM (g := gb356) (o := .cells #[.int .i64 a1_0, .int .i64 a1_1, .int .i64 a1_2, .int .i64 a1_3, .int .i64 a1_4, .int .i64 a1_5] 36 (0, 0)) bk_ hb)
 have n2_ := zpS (zgM (g := gb357) (o := .cells #[.int .i64 0, .int .i64 0, .int .i64 0] 34 (0, 0)) bk_ hb)
 have n3_ := (ns_ hb)
 clear BK355
 clear BK356
 clear BK357
 clear HB
 have BK355 := n0_
 have BK356 := n1_
 have BK357 := n2_
 have HB := n3_
 clear n0_ n1_ n2_ n3_
 (try clear hb)
 (try clear hb2)
 (try clear hk)
 (try clear hi)
 refine hK.out _ _ ⟨(zzS BK355.out 0).trans rfl, (zzS BK355.out 1).trans rfl, (zzS BK355.out 2).trans rfl, (zzS BK355.out 3).trans rfl, (zzS BK355.out 4).trans rfl, (zzS BK355.out 5).trans rfl, (zzS BK356.out 0).trans rfl, (zzS BK356.out 1).trans rfl, (zzS BK356.out 2).trans rfl, (zzS BK356.out 3).trans rfl, (zzS BK356.out 4).trans rfl, (zzS BK356.out 5).trans rfl⟩ (fun hHeld => ?_)
 clear hK K
 refine zaN (a' := ?_) ?_ ?_
 rotate_left
 ·show Act.put _ (some 9) _ = _
  simp only [Act.put, List.setIfInBounds_toArray, List.set_cons_zero, List.set_cons_succ, zcM, ziJ]
  rfl
 refine zdC (i := 9) (N := some 14) (bl_ 12 1023) rfl rfl (zeO HT_.out (by kernel_rfl)) (by decide) (fun K hK => ?_)
 refine zqW Tryd.func168 (by kernel_rfl) rfl #[.agg #[.int .i64 a0_3, .int .i64 a0_4, .int .i64 a0_5], .agg #[.int .i64 a1_3, .int .i64 a1_4, .int .i64 a1_5]] (by rfl) rfl rfl (by (try simp only [List.map_toArray, List.map_cons, List.map_nil]); first | done | rfl | (simp only [List.length_drop, List.length_take]; rfl)) ?_
 with_reducible refine (zeF.calls k a0_3 a0_4 a0_5 a1_3 a1_4 a1_5 t361 t362 t363 _ A4.out).mono ?_
 rintro e w11 ⟨rfl, hb⟩
 refine ⟨_, rfl, ?_⟩
 have n0_ := zpS (zgM (g := gb355) (o := .cells #[.int .i64 a0_0, .int .i64 a0_1, .int .i64 a0_2, .int .i64 a0_3, .int .i64 a0_4, .int .i64 a0_5] 36 (0, 0)) bk_ hb)
 have n1_ := zpS (zgM (g := gb356) (o := .cells #[.int .i64 a1_0, .int .i64 a1_1, .int .i64 a1_2, .int .i64 a1_3, .int .i64 a1_4, .int .i64 a1_5] 36 (0, 0)) bk_ hb)
 have n2_ := zpS (zgM (g := gb357) (o := .cells #[.int .i64 0, .int .i64 0, .int .i64 0] 34 (0, 0)) bk_ hb)
 have n3_ := (ns_ hb)
 clear BK355
 clear BK356
 clear BK357
 clear HB
 have BK355 := n0_
 have BK356 := n1_
 have BK357 := n2_
 have HB := n3_
 clear n0_ n1_ n2_ n3_
 (try clear hb)
 (try clear hb2)
 (try clear hk)
 (try clear hi)
 refine hK.out _ _ ⟨(zzS BK355.out 0).trans rfl, (zzS BK355.out 1).trans rfl, (zzS BK355.out 2).trans rfl, (zzS BK355.out 3).trans rfl, (zzS BK355.out 4).trans rfl, (zzS BK355.out 5).trans rfl, (zzS BK356.out 0).trans rfl, (zzS BK356.out 1).trans rfl, (zzS BK356.out 2).trans rfl, (zzS BK356.out 3).trans rfl, (zzS BK356.out 4).trans rfl, (zzS BK356.out 5).trans rfl⟩ (fun hHeld => ?_)
 clear hK K
 refine zaN (a' := ?_) ?_ ?_
 rotate_left
 ·show Act.put _ (some 14) _ = _
  simp only [Act.put, List.setIfInBounds_toArray, List.set_cons_zero, List.set_cons_succ, zcM, ziJ]
  rfl
 refine zdC (i := 10) (N := some 15) (bl_ 12 2047) rfl rfl (zeO HT_.out (by kernel_rfl)) (by decide) (fun K hK => ?_)
 refine zqW Tryd.func169 (by kernel_rfl) rfl #[.agg #[.int .i64 t358, .int .i64 t359, .int .i64 t360], .agg #[.int .i64 t361, .int .i64 t362, .int .i64 t363]] (by rfl) rfl rfl (by (try simp only [List.map_toArray, List.map_cons, List.map_nil]); first | done | rfl | (simp only [List.length_drop, List.length_take]; rfl)) ?_
 with_reducible refine (zjL.calls k t358 t359 t360 t361 t362 t363 t364 t365 t366 _ A5.out).mono ?_
 rintro e w12 ⟨rfl, hb⟩
 refine ⟨_, rfl, ?_⟩
 have n0_ := zpS (zgM (g := gb355) (o := .cells #[.int .i64 a0_0, .int .i64 a0_1, .int .i64 a0_2, .int .i64 a0_3, .int .i64 a0_4, .int .i64 a0_5] 36 (0, 0)) bk_ hb)
 have n1_ := zpS (zgM (g := gb356) (o := .cells #[.int .i64 a1_0, .int .i64 a1_1, .int .i64 a1_2, .int .i64 a1_3, .int .i64 a1_4, .int .i64 a1_5] 36 (0, 0)) bk_ hb)
 have n2_ := zpS (zgM (g := gb357) (o := .cells #[.int .i64 0, .int .i64 0, .int .i64 0] 34 (0, 0)) bk_ hb)
 have n3_ := (ns_ hb)
 clear BK355
 clear BK356
 clear BK357
 clear HB
 have BK355 := n0_
 have BK356 := n1_
 have BK357 := n2_
 have HB := n3_
 clear n0_ n1_ n2_ n3_
 (try clear hb)
 (try clear hb2)
 (try clear hk)
 (try clear hi)
 refine hK.out _ _ ⟨(zzS BK355.out 0).trans rfl, (zzS BK355.out 1).trans rfl, (zzS BK355.out 2).trans rfl, (zzS BK355.out 3).trans rfl, (zzS BK355.out 4).trans rfl, (zzS BK355.out 5).trans rfl, (zzS BK356.out 0).trans rfl, (zzS BK356.out 1).trans rfl, (zzS BK356.out 2).trans rfl, (zzS BK356.out 3).trans rfl, (zzS BK356.out 4).trans rfl, (zzS BK356.out 5).trans rfl⟩ (fun hHeld => ?_)
 clear hK K
 refine zaN (a' := ?_) ?_ ?_
 rotate_left
 ·show Act.put _ (some 15) _ = _
  simp only [Act.put, List.setIfInBounds_toArray, List.set_cons_zero, List.set_cons_succ, zcM, ziJ]
  rfl
 refine zdC (i := 11) (N := none) (bl_ 12 4095) rfl rfl (zeO HT_.out (by kernel_rfl)) (by decide) (fun K hK => ?_)
 have hs13 : w12.cell? ⟨gb357, 0, none⟩ = some (.int .i64 0) := (zzS BK357.out 0).trans rfl
 have hfs13 := zjF BK357.out 0
 have hns13_0 := NB355_357.out
 have hns13_1 := NB356_357.out
 have hms13_0 := NB357_355.out
 have hms13_1 := NB357_356.out
 have hs14 : w12.cell? ⟨gb357, 1, none⟩ = some (.int .i64 0) := (zzS BK357.out 1).trans rfl
 have hfs14 := zjF BK357.out 1
 have hns14_0 := NB355_357.out
 have hns14_1 := NB356_357.out
 have hms14_0 := NB357_355.out
 have hms14_1 := NB357_356.out
 have hs15 : w12.cell? ⟨gb357, 2, none⟩ = some (.int .i64 0) := (zzS BK357.out 2).trans rfl
 have hfs15 := zjF BK357.out 2
 have hns15_0 := NB355_357.out
 have hns15_1 := NB356_357.out
 have hms15_0 := NB357_355.out
 have hms15_1 := NB357_356.out
 refine skip_ (w1 := ?_) (by rfl) rfl ?_ ?_
 rotate_left
 ·go_simp
  rfl
 refine hK.out _ _ ⟨((zgQ (p := ⟨gb357, _, none⟩) NB355_357.out _).trans (((zgQ (p := ⟨gb357, _, none⟩) NB355_357.out _).trans (((zgQ (p := ⟨gb357, _, none⟩) NB355_357.out _).trans (hHeld.1)))))), ((zgQ (p := ⟨gb357, _, none⟩) NB355_357.out _).trans (((zgQ (p := ⟨gb357, _, none⟩) NB355_357.out _).trans (((zgQ (p := ⟨gb357, _, none⟩) NB355_357.out _).trans (hHeld.2.1)))))), ((zgQ (p := ⟨gb357, _, none⟩) NB355_357.out _).trans (((zgQ (p := ⟨gb357, _, none⟩) NB355_357.out _).trans (((zgQ (p := ⟨gb357, _, none⟩) NB355_357.out _).trans (hHeld.2.2.1)))))), ((zgQ (p := ⟨gb357, _, none⟩) NB355_357.out _).trans (((zgQ (p := ⟨gb357, _, none⟩) NB355_357.out _).trans (((zgQ (p := ⟨gb357, _, none⟩) NB355_357.out _).trans (hHeld.2.2.2.1)))))), ((zgQ (p := ⟨gb357, _, none⟩) NB355_357.out _).trans (((zgQ (p := ⟨gb357, _, none⟩) NB355_357.out _).trans (((zgQ (p := ⟨gb357, _, none⟩) NB355_357.out _).trans (hHeld.2.2.2.2.1)))))), ((zgQ (p := ⟨gb357, _, none⟩) NB355_357.out _).trans (((zgQ (p := ⟨gb357, _, none⟩) NB355_357.out _).trans (((zgQ (p := ⟨gb357, _, none⟩) NB355_357.out _).trans (hHeld.2.2.2.2.2.1)))))), ((zgQ (p := ⟨gb357, _, none⟩) NB356_357.out _).trans (((zgQ (p := ⟨gb357, _, none⟩) NB356_357.out _).trans (((zgQ (p := ⟨gb357, _, none⟩) NB356_357.out _).trans (hHeld.2.2.2.2.2.2.1)))))), ((zgQ (p := ⟨gb357, _, none⟩) NB356_357.out _).trans (((zgQ (p := ⟨gb357, _, none⟩) NB356_357.out _).trans (((zgQ (p := ⟨gb357, _, none⟩) NB356_357.out _).trans (hHeld.2.2.2.2.2.2.2.1)))))), ((zgQ (p := ⟨gb357, _, none⟩) NB356_357.out _).trans (((zgQ (p := ⟨gb357, _, none⟩) NB356_357.out _).trans (((zgQ (p := ⟨gb357, _, none⟩) NB356_357.out _).trans (hHeld.2.2.2.2.2.2.2.2.1)))))), ((zgQ (p := ⟨gb357, _, none⟩) NB356_357.out _).trans (((zgQ (p := ⟨gb357, _, none⟩) NB356_357.out _).trans (((zgQ (p := ⟨gb357, _, none⟩) NB356_357.out _).trans (hHeld.2.2.2.2.2.2.2.2.2.1)))))), ((zgQ (p := ⟨gb357, _, none⟩) NB356_357.out _).trans (((zgQ (p := ⟨gb357, _, none⟩) NB356_357.out _).trans (((zgQ (p := ⟨gb357, _, none⟩) NB356_357.out _).trans (hHeld.2.2.2.2.2.2.2.2.2.2.1)))))), ((zgQ (p := ⟨gb357, _, none⟩) NB356_357.out _).trans (((zgQ (p := ⟨gb357, _, none⟩) NB356_357.out _).trans (((zgQ (p := ⟨gb357, _, none⟩) NB356_357.out _).trans (hHeld.2.2.2.2.2.2.2.2.2.2.2))))))⟩ (fun hHeld => ?_)
 clear hK K
 refine znK (zzP HT_.out (by kernel_rfl)) ?_
 try go_wp2
 refine bodyPost_ret (results_cell_row rfl _ _ gb357 34 #[.int .i64 t364, .int .i64 t365, .int .i64 t366] (0, 0) _ rfl (by (with_reducible repeat (first | apply zuW | apply ztN | apply zqY)); refine zlL (cs := #[.int .i64 t364, .int .i64 t365, .int .i64 0]) ?_ 2 _ rfl; (with_reducible repeat (first | apply zuW | apply ztN | apply zqY)); refine zlL (cs := #[.int .i64 t364, .int .i64 0, .int .i64 0]) ?_ 1 _ rfl; (with_reducible repeat (first | apply zuW | apply ztN | apply zqY)); refine zlL (cs := #[.int .i64 0, .int .i64 0, .int .i64 0]) ?_ 0 _ rfl; (with_reducible repeat (first | apply zuW | apply ztN | apply zqY)); exact BK357.out) Tryd.underlying34 rfl (by kernel_rfl)) rfl ?_
 exact ⟨by first | rfl | (simp [ziS, znJ] <;> rfl) | (simp [*, ziS, znJ] <;> rfl), bb_⟩

def zpU.f (a0 : Int) : Option (Int) := some (mx (-1) (mn 1 a0))
set_option maxHeartbeats 8000000 in
set_option maxRecDepth 100000 in
theorem zpU.calls (a0 : Int) (r : Int) (w : World) (h : zpU.f a0 = some r) :
  Calls Tryd.prog 170 #[.int .i64 a0] w fun e w' => e = .returned (.int .i64 r) ∧ Below w.heap.size w w' := by
 have HB := zpS (Below.refl w.heap.size w)
 have H : (some (mx (-1) (mn 1 a0))) = some r := h
 clear h
 obtain ⟨ji2, hji2⟩ : ∃ j_ : Int, (mn 1 a0) = j_ := ⟨_, rfl⟩
 replace H : (some (mx (-1) (ji2))) = some r := by first | (rw [hji2] at H; exact H) | (simp only [hji2] at H ⊢; exact H)
 (try (have hji2h : ji2 ≤ 1 := by (rw [← hji2]; unfold mn; (repeat' split) <;> omega)))
 (try (have hji2g : ji2 ≤ 64 := by omega))
 have hji2_ : (if a0 < 1 then a0 else 1) = ji2 := hji2
 obtain ⟨ji3, hji3⟩ : ∃ j_ : Int, (mx (-1) (ji2)) = j_ := ⟨_, rfl⟩
 replace H : (some ji3) = some r := by first | (rw [hji3] at H; exact H) | (simp only [hji3] at H ⊢; exact H)
 have hji3_ : (if (-1) < (ji2) then (ji2) else (-1)) = ji3 := hji3
 obtain rfl := Option.some.inj H
 go_enter Tryd.func170, Tryd.ntmps170
 go_wp2
 go_ret
 exact ⟨by first | rfl | (simp [ziS, znJ] <;> rfl) | (simp only [← hji2, ← hji3]; first | rfl | (simp [ziS, znJ] <;> rfl)) | (simp [*, ziS, znJ] <;> rfl), bb_⟩

def zgD.f (a0 : Int) : Option (Int) := some (mx a0 (wrap64 (-a0)))
set_option maxHeartbeats 8000000 in
set_option maxRecDepth 100000 in
theorem zgD.calls (a0 : Int) (r : Int) (w : World) (h : zgD.f a0 = some r) :
  Calls Tryd.prog 132 #[.int .i64 a0] w fun e w' => e = .returned (.int .i64 r) ∧ Below w.heap.size w w' := by
 have HB := zpS (Below.refl w.heap.size w)
 have H : (some (mx a0 (wrap64 (-a0)))) = some r := h
 clear h
 obtain ⟨ji2, hji2⟩ : ∃ j_ : Int, (mx a0 (wrap64 (-a0))) = j_ := ⟨_, rfl⟩
 replace H : (some ji2) = some r := by first | (rw [hji2] at H; exact H) | (simp only [hji2] at H ⊢; exact H)
 have hji2_ : (if a0 < (wrap64 (-a0)) then (wrap64 (-a0)) else a0) = ji2 := hji2
 obtain rfl := Option.some.inj H
 go_enter Tryd.func132, Tryd.ntmps132
 go_wp2
 go_ret
 exact ⟨by first | rfl | (simp [ziS, znJ] <;> rfl) | (simp only [← hji2]; first | rfl | (simp [ziS, znJ] <;> rfl)) | (simp [*, ziS, znJ] <;> rfl), bb_⟩

def zoP.f (a0 : Int) (a1 : Int) : Option (Int × Int) := some (IntKind.u64.wrap ((IntKind.u64.wrap ((IntKind.u64.wrap ((a0 / 4294967296) * (a1 / 4294967296))) + ((IntKind.u64.wrap ((IntKind.u64.wrap ((a0 / 4294967296) * (Go.bits .and .u64 a1 4294967295))) + ((IntKind.u64.wrap ((Go.bits .and .u64 a0 4294967295) * (Go.bits .and .u64 a1 4294967295))) / 4294967296))) / 4294967296))) + ((IntKind.u64.wrap ((Go.bits .and .u64 (IntKind.u64.wrap ((IntKind.u64.wrap ((a0 / 4294967296) * (Go.bits .and .u64 a1 4294967295))) + ((IntKind.u64.wrap ((Go.bits .and .u64 a0 4294967295) * (Go.bits .and .u64 a1 4294967295))) / 4294967296))) 4294967295) + (IntKind.u64.wrap ((Go.bits .and .u64 a0 4294967295) * (a1 / 4294967296))))) / 4294967296)), IntKind.u64.wrap (a0 * a1))
set_option maxHeartbeats 8000000 in
set_option maxRecDepth 100000 in
theorem zoP.calls (a0 : Int) (a1 : Int) (r1 : Int) (r2 : Int) (w : World) (h : zoP.f a0 a1 = some (r1, r2)) :
  Calls Tryd.prog 192 #[.int .u64 a0, .int .u64 a1] w fun e w' => e = .returned (.tuple #[.int .u64 r1, .int .u64 r2]) ∧ Drawn0 w w' := by
 have H : (some (IntKind.u64.wrap ((IntKind.u64.wrap ((IntKind.u64.wrap ((a0 / 4294967296) * (a1 / 4294967296))) + ((IntKind.u64.wrap ((IntKind.u64.wrap ((a0 / 4294967296) * (Go.bits .and .u64 a1 4294967295))) + ((IntKind.u64.wrap ((Go.bits .and .u64 a0 4294967295) * (Go.bits .and .u64 a1 4294967295))) / 4294967296))) / 4294967296))) + ((IntKind.u64.wrap ((Go.bits .and .u64 (IntKind.u64.wrap ((IntKind.u64.wrap ((a0 / 4294967296) * (Go.bits .and .u64 a1 4294967295))) + ((IntKind.u64.wrap ((Go.bits .and .u64 a0 4294967295) * (Go.bits .and .u64 a1 4294967295))) / 4294967296))) 4294967295) + (IntKind.u64.wrap ((Go.bits .and .u64 a0 4294967295) * (a1 / 4294967296))))) / 4294967296)), IntKind.u64.wrap (a0 * a1))) = some (r1, r2) := h
 clear h
 simp only [Option.some.injEq, Prod.mk.injEq] at H
 obtain ⟨rfl, rfl⟩ := H
 go_enter Tryd.func192, Tryd.ntmps192
 go_wp2
 go_ret2
 exact ⟨by first | rfl | (simp; done) | (simp [*]; done), by repeat (first | exact Drawn0.refl _ | apply Drawn0.step)⟩

def zyC.f (a0 : Int) (a1 : Int) : Option (Bool) := (zgD.f a0).bind fun t367 => ((zgD.f a0).bind fun t368 => ((zoP.f (IntKind.u64.wrap (t367)) (IntKind.u64.wrap (t368))).bind fun bt369 => ((zgD.f a1).bind fun t371 => ((zgD.f a1).bind fun t372 => ((zoP.f (IntKind.u64.wrap (t371)) (IntKind.u64.wrap (t372))).bind fun bt373 => (if bt369.1 > (Go.bits .or .u64 (IntKind.u64.wrap (bt373.1 * 2)) (bt373.2 / 9223372036854775808)) then (some true) else (if bt369.1 = (Go.bits .or .u64 (IntKind.u64.wrap (bt373.1 * 2)) (bt373.2 / 9223372036854775808)) then (some (decide (bt369.2 > (IntKind.u64.wrap (bt373.2 * 2))))) else (some false))))))))
set_option maxHeartbeats 8000000 in
set_option maxRecDepth 100000 in
theorem zyC.calls (a0 : Int) (a1 : Int) (r : Bool) (w : World) (h : zyC.f a0 a1 = some r) :
  Calls Tryd.prog 171 #[.int .i64 a0, .int .i64 a1] w fun e w' => e = .returned (.bool r) ∧ Below w.heap.size w w' := by
 have HB := zpS (Below.refl w.heap.size w)
 have H : ((zgD.f a0).bind fun t367 => ((zgD.f a0).bind fun t368 => ((zoP.f (IntKind.u64.wrap (t367)) (IntKind.u64.wrap (t368))).bind fun bt369 => ((zgD.f a1).bind fun t371 => ((zgD.f a1).bind fun t372 => ((zoP.f (IntKind.u64.wrap (t371)) (IntKind.u64.wrap (t372))).bind fun bt373 => (if bt369.1 > (Go.bits .or .u64 (IntKind.u64.wrap (bt373.1 * 2)) (bt373.2 / 9223372036854775808)) then (some true) else (if bt369.1 = (Go.bits .or .u64 (IntKind.u64.wrap (bt373.1 * 2)) (bt373.2 / 9223372036854775808)) then (some (decide (bt369.2 > (IntKind.u64.wrap (bt373.2 * 2))))) else (some false))))))))) = some r := h
 clear h
 replace H := Option.bind_eq_some_iff.mp H
 obtain ⟨t367, A30, H⟩ := H
 replace H : ((zgD.f a0).bind fun t368 => ((zoP.f (IntKind.u64.wrap (t367)) (IntKind.u64.wrap (t368))).bind fun bt369 => ((zgD.f a1).bind fun t371 => ((zgD.f a1).bind fun t372 => ((zoP.f (IntKind.u64.wrap (t371)) (IntKind.u64.wrap (t372))).bind fun bt373 => (if bt369.1 > (Go.bits .or .u64 (IntKind.u64.wrap (bt373.1 * 2)) (bt373.2 / 9223372036854775808)) then (some true) else (if bt369.1 = (Go.bits .or .u64 (IntKind.u64.wrap (bt373.1 * 2)) (bt373.2 / 9223372036854775808)) then (some (decide (bt369.2 > (IntKind.u64.wrap (bt373.2 * 2))))) else (some false)))))))) = some r := H
 have A3 := zpS A30
 clear A30
 replace H := Option.bind_eq_some_iff.mp H
 obtain ⟨t368, A40, H⟩ := H
 replace H : ((zoP.f (IntKind.u64.wrap (t367)) (IntKind.u64.wrap (t368))).bind fun bt369 => ((zgD.f a1).bind fun t371 => ((zgD.f a1).bind fun t372 => ((zoP.f (IntKind.u64.wrap (t371)) (IntKind.u64.wrap (t372))).bind fun bt373 => (if bt369.1 > (Go.bits .or .u64 (IntKind.u64.wrap (bt373.1 * 2)) (bt373.2 / 9223372036854775808)) then (some true) else (if bt369.1 = (Go.bits .or .u64 (IntKind.u64.wrap (bt373.1 * 2)) (bt373.2 / 9223372036854775808)) then (some (decide (bt369.2 > (IntKind.u64.wrap (bt373.2 * 2))))) else (some false))))))) = some r := H
 have A4 := zpS A40
 clear A40
 replace H := Option.bind_eq_some_iff.mp H
 obtain ⟨⟨t369, t370⟩, A50, H⟩ := H
 replace H : ((zgD.f a1).bind fun t371 => ((zgD.f a1).bind fun t372 => ((zoP.f (IntKind.u64.wrap (t371)) (IntKind.u64.wrap (t372))).bind fun bt373 => (if t369 > (Go.bits .or .u64 (IntKind.u64.wrap (bt373.1 * 2)) (bt373.2 / 9223372036854775808)) then (some true) else (if t369 = (Go.bits .or .u64 (IntKind.u64.wrap (bt373.1 * 2)) (bt373.2 / 9223372036854775808)) then (some (decide (t370 > (IntKind.u64.wrap (bt373.2 * 2))))) else (some false)))))) = some r := H
 have A5 := zpS A50
 clear A50
 replace H := Option.bind_eq_some_iff.mp H
 obtain ⟨t371, A60, H⟩ := H
 replace H : ((zgD.f a1).bind fun t372 => ((zoP.f (IntKind.u64.wrap (t371)) (IntKind.u64.wrap (t372))).bind fun bt373 => (if t369 > (Go.bits .or .u64 (IntKind.u64.wrap (bt373.1 * 2)) (bt373.2 / 9223372036854775808)) then (some true) else (if t369 = (Go.bits .or .u64 (IntKind.u64.wrap (bt373.1 * 2)) (bt373.2 / 9223372036854775808)) then (some (decide (t370 > (IntKind.u64.wrap (bt373.2 * 2))))) else (some false))))) = some r := H
 have A6 := zpS A60
 clear A60
 replace H := Option.bind_eq_some_iff.mp H
 obtain ⟨t372, A70, H⟩ := H
 replace H : ((zoP.f (IntKind.u64.wrap (t371)) (IntKind.u64.wrap (t372))).bind fun bt373 => (if t369 > (Go.bits .or .u64 (IntKind.u64.wrap (bt373.1 * 2)) (bt373.2 / 9223372036854775808)) then (some true) else (if t369 = (Go.bits .or .u64 (IntKind.u64.wrap (bt373.1 * 2)) (bt373.2 / 9223372036854775808)) then (some (decide (t370 > (IntKind.u64.wrap (bt373.2 * 2))))) else (some false)))) = some r := H
 have A7 := zpS A70
 clear A70
 replace H := Option.bind_eq_some_iff.mp H
 obtain ⟨⟨t373, t374⟩, A80, H⟩ := H
 replace H : (if t369 > (Go.bits .or .u64 (IntKind.u64.wrap (t373 * 2)) (t374 / 9223372036854775808)) then (some true) else (if t369 = (Go.bits .or .u64 (IntKind.u64.wrap (t373 * 2)) (t374 / 9223372036854775808)) then (some (decide (t370 > (IntKind.u64.wrap (t374 * 2))))) else (some false))) = some r := H
 have A8 := zpS A80
 clear A80
 by_cases c9 : t369 > (Go.bits .or .u64 (IntKind.u64.wrap (t373 * 2)) (t374 / 9223372036854775808))
 ·rw [if_pos c9] at H
  have c9b0 : decide ((Go.bits .or .u64 (IntKind.u64.wrap (t373 * 2)) (t374 / 9223372036854775808)) < t369) = true := decide_eq_true c9
  clear c9
  obtain rfl := Option.some.inj H
  go_enter Tryd.func171, Tryd.ntmps171
  go_wp2_with (first | ((with_reducible refine zgK (f := 132) rfl ?_); refine zqQ (some 11) rfl rfl Tryd.func132 (by kernel_rfl) rfl #[.int .i64 a0] rfl (by (try simp only [List.map_toArray, List.map_cons, List.map_nil]); first | done | rfl | (simp only [List.length_drop, List.length_take]; rfl)) ?_; (with_reducible refine (zgD.calls a0 t367 _ A3.out).mono ?_); rintro e w10 ⟨rfl, hb⟩; refine ⟨_, rfl, ?_⟩; have n0_ := (ns_ hb); clear HB; have HB := n0_; clear n0_; (try clear hb); (try clear hb2)) | ((with_reducible refine zgK (f := 132) rfl ?_); refine zqQ (some 14) rfl rfl Tryd.func132 (by kernel_rfl) rfl #[.int .i64 a0] rfl (by (try simp only [List.map_toArray, List.map_cons, List.map_nil]); first | done | rfl | (simp only [List.length_drop, List.length_take]; rfl)) ?_; (with_reducible refine (zgD.calls a0 t368 _ A4.out).mono ?_); rintro e w11 ⟨rfl, hb⟩; refine ⟨_, rfl, ?_⟩; have n0_ := (ns_ hb); clear HB; have HB := n0_; clear n0_; (try clear hb); (try clear hb2)) | ((with_reducible refine zgK (f := 192) rfl ?_); refine zqQ (some 16) rfl rfl Tryd.func192 (by kernel_rfl) rfl #[.int .u64 (IntKind.u64.wrap (t367)), .int .u64 (IntKind.u64.wrap (t368))] rfl (by (try simp only [List.map_toArray, List.map_cons, List.map_nil]); first | done | rfl | (simp only [List.length_drop, List.length_take]; rfl)) ?_; (with_reducible refine (zoP.calls (IntKind.u64.wrap (t367)) (IntKind.u64.wrap (t368)) t369 t370 _ A5.out).mono ?_); rintro e w' ⟨rfl, ⟨nd, rfl⟩⟩; refine ⟨_, rfl, ?_⟩) | ((with_reducible refine zgK (f := 132) rfl ?_); refine zqQ (some 21) rfl rfl Tryd.func132 (by kernel_rfl) rfl #[.int .i64 a1] rfl (by (try simp only [List.map_toArray, List.map_cons, List.map_nil]); first | done | rfl | (simp only [List.length_drop, List.length_take]; rfl)) ?_; (with_reducible refine (zgD.calls a1 t371 _ A6.out).mono ?_); rintro e w12 ⟨rfl, hb⟩; refine ⟨_, rfl, ?_⟩; have n0_ := (ns_ hb); clear HB; have HB := n0_; clear n0_; (try clear hb); (try clear hb2)) | ((with_reducible refine zgK (f := 132) rfl ?_); refine zqQ (some 24) rfl rfl Tryd.func132 (by kernel_rfl) rfl #[.int .i64 a1] rfl (by (try simp only [List.map_toArray, List.map_cons, List.map_nil]); first | done | rfl | (simp only [List.length_drop, List.length_take]; rfl)) ?_; (with_reducible refine (zgD.calls a1 t372 _ A7.out).mono ?_); rintro e w13 ⟨rfl, hb⟩; refine ⟨_, rfl, ?_⟩; have n0_ := (ns_ hb); clear HB; have HB := n0_; clear n0_; (try clear hb); (try clear hb2)) | ((with_reducible refine zgK (f := 192) rfl ?_); refine zqQ (some 26) rfl rfl Tryd.func192 (by kernel_rfl) rfl #[.int .u64 (IntKind.u64.wrap (t371)), .int .u64 (IntKind.u64.wrap (t372))] rfl (by (try simp only [List.map_toArray, List.map_cons, List.map_nil]); first | done | rfl | (simp only [List.length_drop, List.length_take]; rfl)) ?_; (with_reducible refine (zoP.calls (IntKind.u64.wrap (t371)) (IntKind.u64.wrap (t372)) t373 t374 _ A8.out).mono ?_); rintro e w' ⟨rfl, ⟨nd, rfl⟩⟩; refine ⟨_, rfl, ?_⟩))
  go_ret
  exact ⟨by first | rfl | (simp [ziS, znJ] <;> rfl) | (simp [*, ziS, znJ] <;> rfl), bb_⟩
 ·rw [if_neg c9] at H
  have c9b0 : decide ((Go.bits .or .u64 (IntKind.u64.wrap (t373 * 2)) (t374 / 9223372036854775808)) < t369) = false := decide_eq_false c9
  clear c9
  by_cases c14 : t369 = (Go.bits .or .u64 (IntKind.u64.wrap (t373 * 2)) (t374 / 9223372036854775808))
  ·rw [if_pos c14] at H
   have c14b0 : (t369 == (Go.bits .or .u64 (IntKind.u64.wrap (t373 * 2)) (t374 / 9223372036854775808))) = true := beq_iff_eq.mpr c14
   have c14b1 : (t369 != (Go.bits .or .u64 (IntKind.u64.wrap (t373 * 2)) (t374 / 9223372036854775808))) = false := bne_eq_false_iff_eq.mpr c14
   clear c14
   obtain rfl := Option.some.inj H
   go_enter Tryd.func171, Tryd.ntmps171
   go_wp2_with (first | ((with_reducible refine zgK (f := 132) rfl ?_); refine zqQ (some 11) rfl rfl Tryd.func132 (by kernel_rfl) rfl #[.int .i64 a0] rfl (by (try simp only [List.map_toArray, List.map_cons, List.map_nil]); first | done | rfl | (simp only [List.length_drop, List.length_take]; rfl)) ?_; (with_reducible refine (zgD.calls a0 t367 _ A3.out).mono ?_); rintro e w15 ⟨rfl, hb⟩; refine ⟨_, rfl, ?_⟩; have n0_ := (ns_ hb); clear HB; have HB := n0_; clear n0_; (try clear hb); (try clear hb2)) | ((with_reducible refine zgK (f := 132) rfl ?_); refine zqQ (some 14) rfl rfl Tryd.func132 (by kernel_rfl) rfl #[.int .i64 a0] rfl (by (try simp only [List.map_toArray, List.map_cons, List.map_nil]); first | done | rfl | (simp only [List.length_drop, List.length_take]; rfl)) ?_; (with_reducible refine (zgD.calls a0 t368 _ A4.out).mono ?_); rintro e w16 ⟨rfl, hb⟩; refine ⟨_, rfl, ?_⟩; have n0_ := (ns_ hb); clear HB; have HB := n0_; clear n0_; (try clear hb); (try clear hb2)) | ((with_reducible refine zgK (f := 192) rfl ?_); refine zqQ (some 16) rfl rfl Tryd.func192 (by kernel_rfl) rfl #[.int .u64 (IntKind.u64.wrap (t367)), .int .u64 (IntKind.u64.wrap (t368))] rfl (by (try simp only [List.map_toArray, List.map_cons, List.map_nil]); first | done | rfl | (simp only [List.length_drop, List.length_take]; rfl)) ?_; (with_reducible refine (zoP.calls (IntKind.u64.wrap (t367)) (IntKind.u64.wrap (t368)) t369 t370 _ A5.out).mono ?_); rintro e w' ⟨rfl, ⟨nd, rfl⟩⟩; refine ⟨_, rfl, ?_⟩) | ((with_reducible refine zgK (f := 132) rfl ?_); refine zqQ (some 21) rfl rfl Tryd.func132 (by kernel_rfl) rfl #[.int .i64 a1] rfl (by (try simp only [List.map_toArray, List.map_cons, List.map_nil]); first | done | rfl | (simp only [List.length_drop, List.length_take]; rfl)) ?_; (with_reducible refine (zgD.calls a1 t371 _ A6.out).mono ?_); rintro e w17 ⟨rfl, hb⟩; refine ⟨_, rfl, ?_⟩; have n0_ := (ns_ hb); clear HB; have HB := n0_; clear n0_; (try clear hb); (try clear hb2)) | ((with_reducible refine zgK (f := 132) rfl ?_); refine zqQ (some 24) rfl rfl Tryd.func132 (by kernel_rfl) rfl #[.int .i64 a1] rfl (by (try simp only [List.map_toArray, List.map_cons, List.map_nil]); first | done | rfl | (simp only [List.length_drop, List.length_take]; rfl)) ?_; (with_reducible refine (zgD.calls a1 t372 _ A7.out).mono ?_); rintro e w18 ⟨rfl, hb⟩; refine ⟨_, rfl, ?_⟩; have n0_ := (ns_ hb); clear HB; have HB := n0_; clear n0_; (try clear hb); (try clear hb2)) | ((with_reducible refine zgK (f := 192) rfl ?_); refine zqQ (some 26) rfl rfl Tryd.func192 (by kernel_rfl) rfl #[.int .u64 (IntKind.u64.wrap (t371)), .int .u64 (IntKind.u64.wrap (t372))] rfl (by (try simp only [List.map_toArray, List.map_cons, List.map_nil]); first | done | rfl | (simp only [List.length_drop, List.length_take]; rfl)) ?_; (with_reducible refine (zoP.calls (IntKind.u64.wrap (t371)) (IntKind.u64.wrap (t372)) t373 t374 _ A8.out).mono ?_); rintro e w' ⟨rfl, ⟨nd, rfl⟩⟩; refine ⟨_, rfl, ?_⟩))
   go_ret
   exact ⟨by first | rfl | (simp [ziS, znJ] <;> rfl) | (simp [*, ziS, znJ] <;> rfl), bb_⟩
  ·rw [if_neg c14] at H
   have c14b0 : (t369 == (Go.bits .or .u64 (IntKind.u64.wrap (t373 * 2)) (t374 / 9223372036854775808))) = false := beq_eq_false_iff_ne.mpr c14
   have c14b1 : (t369 != (Go.bits .or .u64 (IntKind.u64.wrap (t373 * 2)) (t374 / 9223372036854775808))) = true := bne_iff_ne.mpr c14
   obtain rfl := Option.some.inj H
   go_enter Tryd.func171, Tryd.ntmps171
   go_wp2_with (first | ((with_reducible refine zgK (f := 132) rfl ?_); refine zqQ (some 11) rfl rfl Tryd.func132 (by kernel_rfl) rfl #[.int .i64 a0] rfl (by (try simp only [List.map_toArray, List.map_cons, List.map_nil]); first | done | rfl | (simp only [List.length_drop, List.length_take]; rfl)) ?_; (with_reducible refine (zgD.calls a0 t367 _ A3.out).mono ?_); rintro e w19 ⟨rfl, hb⟩; refine ⟨_, rfl, ?_⟩; have n0_ := (ns_ hb); clear HB; have HB := n0_; clear n0_; (try clear hb); (try clear hb2)) | ((with_reducible refine zgK (f := 132) rfl ?_); refine zqQ (some 14) rfl rfl Tryd.func132 (by kernel_rfl) rfl #[.int .i64 a0] rfl (by (try simp only [List.map_toArray, List.map_cons, List.map_nil]); first | done | rfl | (simp only [List.length_drop, List.length_take]; rfl)) ?_; (with_reducible refine (zgD.calls a0 t368 _ A4.out).mono ?_); rintro e w20 ⟨rfl, hb⟩; refine ⟨_, rfl, ?_⟩; have n0_ := (ns_ hb); clear HB; have HB := n0_; clear n0_; (try clear hb); (try clear hb2)) | ((with_reducible refine zgK (f := 192) rfl ?_); refine zqQ (some 16) rfl rfl Tryd.func192 (by kernel_rfl) rfl #[.int .u64 (IntKind.u64.wrap (t367)), .int .u64 (IntKind.u64.wrap (t368))] rfl (by (try simp only [List.map_toArray, List.map_cons, List.map_nil]); first | done | rfl | (simp only [List.length_drop, List.length_take]; rfl)) ?_; (with_reducible refine (zoP.calls (IntKind.u64.wrap (t367)) (IntKind.u64.wrap (t368)) t369 t370 _ A5.out).mono ?_); rintro e w' ⟨rfl, ⟨nd, rfl⟩⟩; refine ⟨_, rfl, ?_⟩) | ((with_reducible refine zgK (f := 132) rfl ?_); refine zqQ (some 21) rfl rfl Tryd.func132 (by kernel_rfl) rfl #[.int .i64 a1] rfl (by (try simp only [List.map_toArray, List.map_cons, List.map_nil]); first | done | rfl | (simp only [List.length_drop, List.length_take]; rfl)) ?_; (with_reducible refine (zgD.calls a1 t371 _ A6.out).mono ?_); rintro e w21 ⟨rfl, hb⟩; refine ⟨_, rfl, ?_⟩; have n0_ := (ns_ hb); clear HB; have HB := n0_; clear n0_; (try clear hb); (try clear hb2)) | ((with_reducible refine zgK (f := 132) rfl ?_); refine zqQ (some 24) rfl rfl Tryd.func132 (by kernel_rfl) rfl #[.int .i64 a1] rfl (by (try simp only [List.map_toArray, List.map_cons, List.map_nil]); first | done | rfl | (simp only [List.length_drop, List.length_take]; rfl)) ?_; (with_reducible refine (zgD.calls a1 t372 _ A7.out).mono ?_); rintro e w22 ⟨rfl, hb⟩; refine ⟨_, rfl, ?_⟩; have n0_ := (ns_ hb); clear HB; have HB := n0_; clear n0_; (try clear hb); (try clear hb2)) | ((with_reducible refine zgK (f := 192) rfl ?_); refine zqQ (some 26) rfl rfl Tryd.func192 (by kernel_rfl) rfl #[.int .u64 (IntKind.u64.wrap (t371)), .int .u64 (IntKind.u64.wrap (t372))] rfl (by (try simp only [List.map_toArray, List.map_cons, List.map_nil]); first | done | rfl | (simp only [List.length_drop, List.length_take]; rfl)) ?_; (with_reducible refine (zoP.calls (IntKind.u64.wrap (t371)) (IntKind.u64.wrap (t372)) t373 t374 _ A8.out).mono ?_); rintro e w' ⟨rfl, ⟨nd, rfl⟩⟩; refine ⟨_, rfl, ?_⟩))
   go_ret
   exact ⟨by first | rfl | (simp [ziS, znJ] <;> rfl) | (simp [*, ziS, znJ] <;> rfl), bb_⟩

def zyE.j0 : Nat → Int → Int → Bool → Int → Int → Int → Option (Int)
 | 0, _, _, _, _, _, _ => none
 | k + 1, x3, x4, x12, x376000, x376001, x376002 => if x12 = true then (some x3) else (if x3 = 0 then (some x4) else ((zyC.f x376000 x376001).bind fun t378 => (if t378 = true then (some x3) else (some x4))))
def zyE.f (k : Nat) (a0_0 : Int) (a0_1 : Int) (a0_2 : Int) : Option (Int) := (zpU.f a0_0).bind fun t376 => ((zpU.f a0_1).bind fun t377 => (if t376 = t377 then (zyE.j0 k t376 t377 true a0_0 a0_1 a0_2) else (zyE.j0 k t376 t377 (t377 == 0) a0_0 a0_1 a0_2)))
theorem zyE.mono_l : ∀ k, (∀ y0 y1 y2 y3 y4 y5, LeO (zyE.j0 k y0 y1 y2 y3 y4 y5) (zyE.j0 (k + 1) y0 y1 y2 y3 y4 y5))
 | 0 => fun _ _ _ _ _ _ r h => by simp [zyE.j0] at h
 | k + 1 => by
  have ih0 := zyE.mono_l k
  ·intro y0 y1 y2 y3 y4 y5
   unfold zyE.j0
   repeat' first
   | (with_reducible exact ih0 _ _ _ _ _ _)
   | (with_reducible exact LeO.refl _)
   | (with_reducible exact LeO.none _)
   | (with_reducible refine LeO.ite ?_ ?_)
   | (with_reducible refine LeO.bind ?_ (fun _ => ?_))
   | exact ih0 _ _ _ _ _ _
   | exact LeO.none _
   | refine LeO.ite ?_ ?_
   | refine LeO.bind ?_ (fun _ => ?_)
theorem zyE.mono : ∀ a0 a1 a2 k, LeO (zyE.f k a0 a1 a2) (zyE.f (k + 1) a0 a1 a2) := by
 intro a0 a1 a2 k
 have ih0 := zyE.mono_l k
 unfold zyE.f
 repeat' first
   | (with_reducible exact ih0 _ _ _ _ _ _)
   | (with_reducible exact LeO.refl _)
   | (with_reducible exact LeO.none _)
   | (with_reducible refine LeO.ite ?_ ?_)
   | (with_reducible refine LeO.bind ?_ (fun _ => ?_))
   | exact ih0 _ _ _ _ _ _
   | exact LeO.none _
   | refine LeO.ite ?_ ?_
   | refine LeO.bind ?_ (fun _ => ?_)
def zyE.T1 : Bool × List (List Nat × List Nat) := (true, [([], []), ([0], [0]), ([1], [1]), ([], []), ([3], [3]), ([4, 2], [4]), ([2, 5, 0, 1, 2], [2]), ([5, 6, 0, 1, 2, 3, 4, 5, 6], [5])])
def zyE.B1 : List Nat := [0, 1, 3, 0, 8, 31, 63, 127]
theorem zyE.tab1 : rtab .any (opsOf Tryd.f142 1) = zyE.T1 := by kernel_rfl
theorem zyE.bits1 : ztG zyE.T1.2 zyE.B1 = true := by kernel_rfl
set_option maxHeartbeats 8000000 in
set_option maxRecDepth 100000 in
theorem zyE.calls (k : Nat) (a0_0 : Int) (a0_1 : Int) (a0_2 : Int) (r : Int) (w : World) (h : zyE.f k a0_0 a0_1 a0_2 = some r) :
  Calls Tryd.prog 142 #[.agg #[.int .i64 a0_0, .int .i64 a0_1, .int .i64 a0_2]] w fun e w' => e = .returned (.int .i64 r) ∧ Below w.heap.size w w' := by
 have hu34 := Tryd.underlying34
 have HB := zpS (Below.refl w.heap.size w)
 have H : ((zpU.f a0_0).bind fun t376 => ((zpU.f a0_1).bind fun t377 => (if t376 = t377 then (zyE.j0 k t376 t377 true a0_0 a0_1 a0_2) else (zyE.j0 k t376 t377 (t377 == 0) a0_0 a0_1 a0_2)))) = some r := h
 clear h
 replace H := Option.bind_eq_some_iff.mp H
 obtain ⟨t376, A20, H⟩ := H
 replace H : ((zpU.f a0_1).bind fun t377 => (if t376 = t377 then (zyE.j0 k t376 t377 true a0_0 a0_1 a0_2) else (zyE.j0 k t376 t377 (t377 == 0) a0_0 a0_1 a0_2))) = some r := H
 have A2 := zpS A20
 clear A20
 replace H := Option.bind_eq_some_iff.mp H
 obtain ⟨t377, A30, H⟩ := H
 replace H : (if t376 = t377 then (zyE.j0 k t376 t377 true a0_0 a0_1 a0_2) else (zyE.j0 k t376 t377 (t377 == 0) a0_0 a0_1 a0_2)) = some r := H
 have A3 := zpS A30
 clear A30
 have HC4 := zpS H
 clear H
 go_enter Tryd.func142, Tryd.ntmps142
 try go_wp2_with (first | ((with_reducible refine zpZ (N := 1) rfl ?_); refine bx_ 1 #[.int .i64 a0_0, .int .i64 a0_1, .int .i64 a0_2] 34 ?_; intro gb375 hg w5 hbox hb; have n0_ := (ns_ hb); have n1_ := zpS (hbox); have n2_ := (ng_ hg); have n3_ := n2_; clear HB; have HB := n0_; have BK375 := n1_; have GW375 := n2_; have GE375 := n3_; clear n0_ n1_ n2_ n3_; clear hb hbox hg))
 have n0_ := zpS (ztN BK375.out)
 have n1_ := zpS (zvF HB.out)
 clear BK375
 clear HB
 have BK375 := n0_
 have HB := n1_
 clear n0_ n1_
 refine zpB (n := 8) (S := fun w' => w'.cell? ⟨gb375, 0, none⟩ = some (.int .i64 a0_0) ∧ w'.cell? ⟨gb375, 1, none⟩ = some (.int .i64 a0_1) ∧ w'.cell? ⟨gb375, 2, none⟩ = some (.int .i64 a0_2)) (ds := []) #[false, false, false, false, false, false, false, false] (by kernel_rfl) rfl rfl ⟨(zzS BK375.out 0).trans rfl, (zzS BK375.out 1).trans rfl, (zzS BK375.out 2).trans rfl⟩ (fun hHeld => ?_); refine zwI zyE.tab1 zyE.bits1 (fun HT_ HW_ => ?_)
 generalize w5.drew = w6 at BK375 HB hHeld ⊢
 refine pu_ 0 (some 5) (bl_ 8 1) ?_
 refine pu_ 3 (some 8) (bl_ 8 9) ?_
 refine tk3_ 1 (some 6) (bl_ 8 11) hHeld ?_
 refine tk3_ 4 (some 9) (bl_ 8 27) hHeld ?_
 refine zdC (i := 2) (N := some 7) (bl_ 8 31) rfl rfl (zeO HT_.out (by kernel_rfl)) (by decide) (fun K hK => ?_)
 refine zqW Tryd.func170 (by kernel_rfl) rfl #[.int .i64 a0_0] (by rfl) rfl rfl (by (try simp only [List.map_toArray, List.map_cons, List.map_nil]); first | done | rfl | (simp only [List.length_drop, List.length_take]; rfl)) ?_
 with_reducible refine (zpU.calls a0_0 t376 _ A2.out).mono ?_
 rintro e w7 ⟨rfl, hb⟩
 refine ⟨_, rfl, ?_⟩
 have n0_ := zpS (zgM (g := gb375) (o := .cells #[.int .i64 a0_0, .int .i64 a0_1, .int .i64 a0_2] 34 (0, 0)) bk_ hb)
 have n1_ := (ns_ hb)
 clear BK375
 clear HB
 have BK375 := n0_
 have HB := n1_
 clear n0_ n1_
 (try clear hb)
 (try clear hb2)
 (try clear hk)
 (try clear hi)
 refine hK.out _ _ ⟨(zzS BK375.out 0).trans rfl, (zzS BK375.out 1).trans rfl, (zzS BK375.out 2).trans rfl⟩ (fun hHeld => ?_)
 clear hK K
 refine zaN (a' := ?_) ?_ ?_
 rotate_left
 ·show Act.put _ (some 7) _ = _
  simp only [Act.put, List.setIfInBounds_toArray, List.set_cons_zero, List.set_cons_succ, zcM, ziJ]
  rfl
 refine zdC (i := 5) (N := some 10) (bl_ 8 63) rfl rfl (zeO HT_.out (by kernel_rfl)) (by decide) (fun K hK => ?_)
 refine zqW Tryd.func170 (by kernel_rfl) rfl #[.int .i64 a0_1] (by rfl) rfl rfl (by (try simp only [List.map_toArray, List.map_cons, List.map_nil]); first | done | rfl | (simp only [List.length_drop, List.length_take]; rfl)) ?_
 with_reducible refine (zpU.calls a0_1 t377 _ A3.out).mono ?_
 rintro e w8 ⟨rfl, hb⟩
 refine ⟨_, rfl, ?_⟩
 have n0_ := zpS (zgM (g := gb375) (o := .cells #[.int .i64 a0_0, .int .i64 a0_1, .int .i64 a0_2] 34 (0, 0)) bk_ hb)
 have n1_ := (ns_ hb)
 clear BK375
 clear HB
 have BK375 := n0_
 have HB := n1_
 clear n0_ n1_
 (try clear hb)
 (try clear hb2)
 (try clear hk)
 (try clear hi)
 refine hK.out _ _ ⟨(zzS BK375.out 0).trans rfl, (zzS BK375.out 1).trans rfl, (zzS BK375.out 2).trans rfl⟩ (fun hHeld => ?_)
 clear hK K
 refine zaN (a' := ?_) ?_ ?_
 rotate_left
 ·show Act.put _ (some 10) _ = _
  simp only [Act.put, List.setIfInBounds_toArray, List.set_cons_zero, List.set_cons_succ, zcM, ziJ]
  rfl
 refine pu_ 6 (some 3) (bl_ 8 127) ?_
 refine pu_ 7 (some 4) (bl_ 8 255) ?_
 refine znK (zzP HT_.out (by kernel_rfl)) ?_
 go_upto_region 3 with (fail)
 go_cut [12] (fun v12 wc => ∃ (kq : Nat) (x12_3 : Bool), v12 = .bool x12_3 ∧ Aside0 (zyE.j0 kq t376 t377 x12_3 a0_0 a0_1 a0_2 = some r) ∧ Aside0 (kq ≤ k) ∧ Aside0 (wc.heap[gb375]? = some (.cells #[.int .i64 a0_0, .int .i64 a0_1, .int .i64 a0_2] 34 (0, 0))) ∧ Aside0 (Below w.heap.size w wc))
 case first =>
  have H := HC4.out
  clear HC4
  by_cases c9 : t376 = t377
  ·rw [if_pos c9] at H
   have c9b0 : (t376 == t377) = true := beq_iff_eq.mpr c9
   have c9b1 : (t376 != t377) = false := bne_eq_false_iff_eq.mpr c9
   clear c9
   (first | rw [c9b0] | (simp only [zcM, ziJ]; rw [c9b0]) | skip)
   have H' := zpS H
   clear H
   go_wp2
   go_meet
   case rel => exact ⟨_, (true), (by first | rfl | (simp; done) | (simp [*]; done)), H', ⟨by first | omega | exact Nat.le_refl _⟩, ⟨bk_⟩, ⟨bb_⟩⟩
  ·rw [if_neg c9] at H
   have c9b0 : (t376 == t377) = false := beq_eq_false_iff_ne.mpr c9
   have c9b1 : (t376 != t377) = true := bne_iff_ne.mpr c9
   (first | rw [c9b0] | (simp only [zcM, ziJ]; rw [c9b0]) | skip)
   have H' := zpS H
   clear H
   go_wp2
   go_meet
   case rel => exact ⟨_, ((t377 == 0)), (by first | rfl | (simp; done) | (simp [*]; done)), H', ⟨by first | omega | exact Nat.le_refl _⟩, ⟨bk_⟩, ⟨bb_⟩⟩
 case rest =>
  clear HC4
  try clear c1
  try clear p2
  try clear c9
  try clear c9b0
  try clear c9b1
  obtain ⟨kq, x12_3, rfl, HA, HJ3, BK375, HB⟩ := hcut
  cases kq with
  | zero => exact absurd HA.out (by simp [zyE.j0])
  | succ kj3 =>
   have H := HA.out
   clear HA
   simp only [zyE.j0] at H
   by_cases c10 : x12_3 = true
   ·subst c10
    have H1 : (some t376) = some r := by rw [if_pos rfl] at H; exact H
    clear H
    have H := H1
    clear H1
    obtain rfl := Option.some.inj H
    go_wp2
    go_ret
    exact ⟨by first | rfl | (simp [ziS, znJ] <;> rfl) | (simp [*, ziS, znJ] <;> rfl), bb_⟩
   ·replace c10 := Bool.eq_false_iff.mpr c10
    subst c10
    have H1 : (if t376 = 0 then (some t377) else ((zyC.f a0_0 a0_1).bind fun t378 => (if t378 = true then (some t376) else (some t377)))) = some r := by rw [if_neg (show ¬ (false = true) by decide)] at H; exact H
    clear H
    have H := H1
    clear H1
    by_cases c11 : t376 = 0
    ·rw [if_pos c11] at H
     have c11b0 : (t376 == 0) = true := beq_iff_eq.mpr c11
     have c11b1 : (t376 != 0) = false := bne_eq_false_iff_eq.mpr c11
     clear c11
     obtain rfl := Option.some.inj H
     go_wp2
     go_ret
     exact ⟨by first | rfl | (simp [ziS, znJ] <;> rfl) | (simp [*, ziS, znJ] <;> rfl), bb_⟩
    ·rw [if_neg c11] at H
     have c11b0 : (t376 == 0) = false := beq_eq_false_iff_ne.mpr c11
     have c11b1 : (t376 != 0) = true := bne_iff_ne.mpr c11
     replace H := Option.bind_eq_some_iff.mp H
     obtain ⟨t378, A120, H⟩ := H
     replace H : (if t378 = true then (some t376) else (some t377)) = some r := H
     have A12 := zpS A120
     clear A120
     by_cases c13 : t378 = true
     ·subst c13
      have H1 : (some t376) = some r := by rw [if_pos rfl] at H; exact H
      clear H
      have H := H1
      clear H1
      obtain rfl := Option.some.inj H
      obtain ⟨hcz14_0, hcz14_1, hcz14_2⟩ := zdT BK375.out
      obtain ⟨hfz14_0, hfz14_1, hfz14_2⟩ := zqD BK375.out
      go_wp2_with (first | (go_at_call 171; (with_reducible refine (zyC.calls a0_0 a0_1 true _ A12.out).mono ?_); rintro e w15 ⟨rfl, hb⟩; have n0_ := zpS (zgM (g := gb375) (o := .cells #[.int .i64 a0_0, .int .i64 a0_1, .int .i64 a0_2] 34 (0, 0)) bk_ hb); have n1_ := (ns_ hb); clear BK375; clear HB; have BK375 := n0_; have HB := n1_; clear n0_ n1_; (try clear hb); (try clear hb2)))
      go_ret
      exact ⟨by first | rfl | (simp [ziS, znJ] <;> rfl) | (simp [*, ziS, znJ] <;> rfl), bb_⟩
     ·replace c13 := Bool.eq_false_iff.mpr c13
      subst c13
      have H1 : (some t377) = some r := by rw [if_neg (show ¬ (false = true) by decide)] at H; exact H
      clear H
      have H := H1
      clear H1
      obtain rfl := Option.some.inj H
      obtain ⟨hcz16_0, hcz16_1, hcz16_2⟩ := zdT BK375.out
      obtain ⟨hfz16_0, hfz16_1, hfz16_2⟩ := zqD BK375.out
      go_wp2_with (first | (go_at_call 171; (with_reducible refine (zyC.calls a0_0 a0_1 false _ A12.out).mono ?_); rintro e w17 ⟨rfl, hb⟩; have n0_ := zpS (zgM (g := gb375) (o := .cells #[.int .i64 a0_0, .int .i64 a0_1, .int .i64 a0_2] 34 (0, 0)) bk_ hb); have n1_ := (ns_ hb); clear BK375; clear HB; have BK375 := n0_; have HB := n1_; clear n0_ n1_; (try clear hb); (try clear hb2)))
      go_ret
      exact ⟨by first | rfl | (simp [ziS, znJ] <;> rfl) | (simp [*, ziS, znJ] <;> rfl), bb_⟩

def zxB.l0 : Nat → Int → Int → Int → Int → Int → Int → Int → Option (Int)
 | 0, _, _, _, _, _, _, _ => none
 | k + 1, x11, x388000, x388001, x388002, x388003, x388004, x388005 => if x11 < 16 then ((zdP.f x11).bind fun bt388 => ((zhX.f k bt388.1 bt388.2.1 bt388.2.2.1 bt388.2.2.2.1 bt388.2.2.2.2.1 bt388.2.2.2.2.2 x388000 x388001 x388002 x388003 x388004 x388005).bind fun bt395 => (if (bt395.1 == 0 && (bt395.2.1 == 0 && (bt395.2.2 == 0))) = true then ((ztL.f k bt388.1 bt388.2.1 bt388.2.2.1 bt388.2.2.2.1 bt388.2.2.2.2.1 bt388.2.2.2.2.2 x388000 x388001 x388002 x388003 x388004 x388005).bind fun bt398 => ((zyE.f k bt398.1 bt398.2.1 bt398.2.2).bind fun t401 => (if t401 > 0 then (some x11) else (zxB.l0 k (wrap64 (x11 + 1)) x388000 x388001 x388002 x388003 x388004 x388005)))) else (zxB.l0 k (wrap64 (x11 + 1)) x388000 x388001 x388002 x388003 x388004 x388005)))) else (some (-1))
def zxB.f (k : Nat) (a0_0 : Int) (a0_1 : Int) (a0_2 : Int) (a0_3 : Int) (a0_4 : Int) (a0_5 : Int) (a1_0 : Int) (a1_1 : Int) (a1_2 : Int) (a1_3 : Int) (a1_4 : Int) (a1_5 : Int) : Option (Int) := (zdY.f k a1_0 a1_1 a1_2 a1_3 a1_4 a1_5 a0_0 a0_1 a0_2 a0_3 a0_4 a0_5).bind fun bt381 => (zxB.l0 k 0 bt381.1 bt381.2.1 bt381.2.2.1 bt381.2.2.2.1 bt381.2.2.2.2.1 bt381.2.2.2.2.2)
theorem zxB.mono_l : ∀ k, (∀ y0 y1 y2 y3 y4 y5 y6, LeO (zxB.l0 k y0 y1 y2 y3 y4 y5 y6) (zxB.l0 (k + 1) y0 y1 y2 y3 y4 y5 y6))
 | 0 => fun _ _ _ _ _ _ _ r h => by simp [zxB.l0] at h
 | k + 1 => by
  have ih0 := zxB.mono_l k
  ·intro y0 y1 y2 y3 y4 y5 y6
   unfold zxB.l0
   repeat' first
   | (with_reducible exact ih0 _ _ _ _ _ _ _)
   | (with_reducible exact zyE.mono _ _ _ _)
   | (with_reducible exact zhX.mono _ _ _ _ _ _ _ _ _ _ _ _ _)
   | (with_reducible exact ztL.mono _ _ _ _ _ _ _ _ _ _ _ _ _)
   | (with_reducible exact zdY.mono _ _ _ _ _ _ _ _ _ _ _ _ _)
   | (with_reducible exact LeO.refl _)
   | (with_reducible exact LeO.none _)
   | (with_reducible refine LeO.ite ?_ ?_)
   | (with_reducible refine LeO.bind ?_ (fun _ => ?_))
   | exact ih0 _ _ _ _ _ _ _
   | exact zyE.mono _ _ _ _
   | exact zhX.mono _ _ _ _ _ _ _ _ _ _ _ _ _
   | exact ztL.mono _ _ _ _ _ _ _ _ _ _ _ _ _
   | exact zdY.mono _ _ _ _ _ _ _ _ _ _ _ _ _
   | exact LeO.none _
   | refine LeO.ite ?_ ?_
   | refine LeO.bind ?_ (fun _ => ?_)
theorem zxB.mono : ∀ a0 a1 a2 a3 a4 a5 a6 a7 a8 a9 a10 a11 k, LeO (zxB.f k a0 a1 a2 a3 a4 a5 a6 a7 a8 a9 a10 a11) (zxB.f (k + 1) a0 a1 a2 a3 a4 a5 a6 a7 a8 a9 a10 a11) := by
 intro a0 a1 a2 a3 a4 a5 a6 a7 a8 a9 a10 a11 k
 have ih0 := zxB.mono_l k
 unfold zxB.f
 repeat' first
   | (with_reducible exact ih0 _ _ _ _ _ _ _)
   | (with_reducible exact zyE.mono _ _ _ _)
   | (with_reducible exact zhX.mono _ _ _ _ _ _ _ _ _ _ _ _ _)
   | (with_reducible exact ztL.mono _ _ _ _ _ _ _ _ _ _ _ _ _)
   | (with_reducible exact zdY.mono _ _ _ _ _ _ _ _ _ _ _ _ _)
   | (with_reducible exact LeO.refl _)
   | (with_reducible exact LeO.none _)
   | (with_reducible refine LeO.ite ?_ ?_)
   | (with_reducible refine LeO.bind ?_ (fun _ => ?_))
   | exact ih0 _ _ _ _ _ _ _
   | exact zyE.mono _ _ _ _
   | exact zhX.mono _ _ _ _ _ _ _ _ _ _ _ _ _
   | exact ztL.mono _ _ _ _ _ _ _ _ _ _ _ _ _
   | exact zdY.mono _ _ _ _ _ _ _ _ _ _ _ _ _
   | exact LeO.none _
   | refine LeO.ite ?_ ?_
   | refine LeO.bind ?_ (fun _ => ?_)
set_option maxHeartbeats 8000000 in
set_option maxRecDepth 100000 in
theorem zxB.calls (k : Nat) (a0_0 : Int) (a0_1 : Int) (a0_2 : Int) (a0_3 : Int) (a0_4 : Int) (a0_5 : Int) (a1_0 : Int) (a1_1 : Int) (a1_2 : Int) (a1_3 : Int) (a1_4 : Int) (a1_5 : Int) (r : Int) (w : World) (hG : LaidV w) (h : zxB.f k a0_0 a0_1 a0_2 a0_3 a0_4 a0_5 a1_0 a1_1 a1_2 a1_3 a1_4 a1_5 = some r) :
  Calls Tryd.prog 106 #[.agg #[.int .i64 a0_0, .int .i64 a0_1, .int .i64 a0_2, .int .i64 a0_3, .int .i64 a0_4, .int .i64 a0_5], .agg #[.int .i64 a1_0, .int .i64 a1_1, .int .i64 a1_2, .int .i64 a1_3, .int .i64 a1_4, .int .i64 a1_5]] w fun e w' => e = .returned (.int .i64 r) ∧ Below w.heap.size w w' := by
 have hu36 := Tryd.underlying36
 have hu34 := Tryd.underlying34
 have HB := zpS (Below.refl w.heap.size w)
 have H : ((zdY.f k a1_0 a1_1 a1_2 a1_3 a1_4 a1_5 a0_0 a0_1 a0_2 a0_3 a0_4 a0_5).bind fun bt381 => (zxB.l0 k 0 bt381.1 bt381.2.1 bt381.2.2.1 bt381.2.2.2.1 bt381.2.2.2.2.1 bt381.2.2.2.2.2)) = some r := h
 clear h
 replace H := Option.bind_eq_some_iff.mp H
 obtain ⟨⟨t381, t382, t383, t384, t385, t386⟩, A30, H⟩ := H
 replace H : (zxB.l0 k 0 t381 t382 t383 t384 t385 t386) = some r := H
 have A3 := zpS A30
 clear A30
 have H' := zpS H
 clear H
 go_enter Tryd.func106, Tryd.ntmps106
 go_wp2_with (first | ((with_reducible refine zpZ (N := 2) rfl ?_); refine bx_ 2 #[.int .i64 a0_0, .int .i64 a0_1, .int .i64 a0_2, .int .i64 a0_3, .int .i64 a0_4, .int .i64 a0_5] 36 ?_; intro gb379 hg w4 hbox hb; have n0_ := (ns_ hb); have n1_ := zpS (hbox); have n2_ := (ng_ hg); have n3_ := n2_; clear HB; have HB := n0_; have BK379 := n1_; have GW379 := n2_; have GE379 := n3_; clear n0_ n1_ n2_ n3_; clear hb hbox hg) | ((with_reducible refine zpZ (N := 3) rfl ?_); refine bx_ 3 #[.int .i64 a1_0, .int .i64 a1_1, .int .i64 a1_2, .int .i64 a1_3, .int .i64 a1_4, .int .i64 a1_5] 36 ?_; intro gb380 hg w5 hbox hb; have n0_ := zpS (zgM (g := gb379) (o := .cells #[.int .i64 a0_0, .int .i64 a0_1, .int .i64 a0_2, .int .i64 a0_3, .int .i64 a0_4, .int .i64 a0_5] 36 (0, 0)) bk_ hb); have n1_ := (ns_ hb); have n2_ := zpS (hbox); have n3_ := (ng_ hg); have n4_ := n3_; have n5_ := zpS ((by rw [hg]; exact Nat.ne_of_lt (zmN (g := gb379) (o := .cells #[.int .i64 a0_0, .int .i64 a0_1, .int .i64 a0_2, .int .i64 a0_3, .int .i64 a0_4, .int .i64 a0_5] 36 (0, 0)) bk_) : gb379 ≠ gb380)); have n6_ := zpS ((by rw [hg]; exact Nat.ne_of_gt (zmN (g := gb379) (o := .cells #[.int .i64 a0_0, .int .i64 a0_1, .int .i64 a0_2, .int .i64 a0_3, .int .i64 a0_4, .int .i64 a0_5] 36 (0, 0)) bk_) : gb380 ≠ gb379)); clear BK379; clear HB; have BK379 := n0_; have HB := n1_; have BK380 := n2_; have GW380 := n3_; have GE380 := n4_; have NB379_380 := n5_; have NB380_379 := n6_; clear n0_ n1_ n2_ n3_ n4_ n5_ n6_; clear hb hbox hg; have hnb6 := NB380_379.out; have hnc6 := NB379_380.out; obtain ⟨hcz7_0, hcz7_1, hcz7_2, hcz7_3, hcz7_4, hcz7_5⟩ := zrN BK380.out; obtain ⟨hfz7_0, hfz7_1, hfz7_2, hfz7_3, hfz7_4, hfz7_5⟩ := zoQ BK380.out; obtain ⟨hcz8_0, hcz8_1, hcz8_2, hcz8_3, hcz8_4, hcz8_5⟩ := zrN BK379.out; obtain ⟨hfz8_0, hfz8_1, hfz8_2, hfz8_3, hfz8_4, hfz8_5⟩ := zoQ BK379.out) | ((with_reducible refine zgK (f := 138) rfl ?_); refine zqQ (some 10) rfl rfl Tryd.func138 (by kernel_rfl) rfl #[.agg #[.int .i64 a1_0, .int .i64 a1_1, .int .i64 a1_2, .int .i64 a1_3, .int .i64 a1_4, .int .i64 a1_5], .agg #[.int .i64 a0_0, .int .i64 a0_1, .int .i64 a0_2, .int .i64 a0_3, .int .i64 a0_4, .int .i64 a0_5]] rfl (by (try simp only [List.map_toArray, List.map_cons, List.map_nil]); first | done | rfl | (simp only [List.length_drop, List.length_take]; rfl)) ?_; (with_reducible refine (zdY.calls k a1_0 a1_1 a1_2 a1_3 a1_4 a1_5 a0_0 a0_1 a0_2 a0_3 a0_4 a0_5 t381 t382 t383 t384 t385 t386 _ A3.out).mono ?_); rintro e w9 ⟨rfl, hb⟩; refine ⟨_, rfl, ?_⟩; have n0_ := zpS (zgM (g := gb379) (o := .cells #[.int .i64 a0_0, .int .i64 a0_1, .int .i64 a0_2, .int .i64 a0_3, .int .i64 a0_4, .int .i64 a0_5] 36 (0, 0)) bk_ hb); have n1_ := zpS (zgM (g := gb380) (o := .cells #[.int .i64 a1_0, .int .i64 a1_1, .int .i64 a1_2, .int .i64 a1_3, .int .i64 a1_4, .int .i64 a1_5] 36 (0, 0)) bk_ hb); have n2_ := (ns_ hb); clear BK379; clear BK380; clear HB; have BK379 := n0_; have BK380 := n1_; have HB := n2_; clear n0_ n1_ n2_; (try clear hb); (try clear hb2)) | ((with_reducible refine zpZ (N := 5) rfl ?_); refine bx_ 5 #[.int .i64 0, .int .i64 0, .int .i64 0, .int .i64 0, .int .i64 0, .int .i64 0] 36 ?_; intro gb387 hg w10 hbox hb; have n0_ := zpS (zgM (g := gb379) (o := .cells #[.int .i64 a0_0, .int .i64 a0_1, .int .i64 a0_2, .int .i64 a0_3, .int .i64 a0_4, .int .i64 a0_5] 36 (0, 0)) bk_ hb); have n1_ := zpS (zgM (g := gb380) (o := .cells #[.int .i64 a1_0, .int .i64 a1_1, .int .i64 a1_2, .int .i64 a1_3, .int .i64 a1_4, .int .i64 a1_5] 36 (0, 0)) bk_ hb); have n2_ := (ns_ hb); have n3_ := zpS (hbox); have n4_ := (ng_ hg); have n5_ := n4_; have n6_ := zpS ((by rw [hg]; exact Nat.ne_of_lt (zmN (g := gb379) (o := .cells #[.int .i64 a0_0, .int .i64 a0_1, .int .i64 a0_2, .int .i64 a0_3, .int .i64 a0_4, .int .i64 a0_5] 36 (0, 0)) bk_) : gb379 ≠ gb387)); have n7_ := zpS ((by rw [hg]; exact Nat.ne_of_gt (zmN (g := gb379) (o := .cells #[.int .i64 a0_0, .int .i64 a0_1, .int .i64 a0_2, .int .i64 a0_3, .int .i64 a0_4, .int .i64 a0_5] 36 (0, 0)) bk_) : gb387 ≠ gb379)); have n8_ := zpS ((by rw [hg]; exact Nat.ne_of_lt (zmN (g := gb380) (o := .cells #[.int .i64 a1_0, .int .i64 a1_1, .int .i64 a1_2, .int .i64 a1_3, .int .i64 a1_4, .int .i64 a1_5] 36 (0, 0)) bk_) : gb380 ≠ gb387)); have n9_ := zpS ((by rw [hg]; exact Nat.ne_of_gt (zmN (g := gb380) (o := .cells #[.int .i64 a1_0, .int .i64 a1_1, .int .i64 a1_2, .int .i64 a1_3, .int .i64 a1_4, .int .i64 a1_5] 36 (0, 0)) bk_) : gb387 ≠ gb380)); clear BK379; clear BK380; clear HB; have BK379 := n0_; have BK380 := n1_; have HB := n2_; have BK387 := n3_; have GW387 := n4_; have GE387 := n5_; have NB379_387 := n6_; have NB387_379 := n7_; have NB380_387 := n8_; have NB387_380 := n9_; clear n0_ n1_ n2_ n3_ n4_ n5_ n6_ n7_ n8_ n9_; clear hb hbox hg; have hnb11 := NB387_379.out; have hnc11 := NB379_387.out; have hnb12 := NB387_380.out; have hnc12 := NB380_387.out; obtain ⟨hcz13_0, hcz13_1, hcz13_2, hcz13_3, hcz13_4, hcz13_5⟩ := zrN BK387.out; obtain ⟨hfz13_0, hfz13_1, hfz13_2, hfz13_3, hfz13_4, hfz13_5⟩ := zoQ BK387.out))
 (try go_simp)
 go_loopg [11] k (fun kq v11 w' => ∃ (x11_1 : Int), v11 = .int .i64 x11_1 ∧ Aside0 (zxB.l0 kq x11_1 t381 t382 t383 t384 t385 t386 = some r) ∧ Aside0 (kq ≤ k) ∧ Aside0 (w'.heap[gb379]? = some (.cells #[.int .i64 a0_0, .int .i64 a0_1, .int .i64 a0_2, .int .i64 a0_3, .int .i64 a0_4, .int .i64 a0_5] 36 (0, 0))) ∧ Aside0 (w'.heap[gb380]? = some (.cells #[.int .i64 a1_0, .int .i64 a1_1, .int .i64 a1_2, .int .i64 a1_3, .int .i64 a1_4, .int .i64 a1_5] 36 (0, 0))) ∧ Aside0 (w'.heap[gb387]? = some (.cells #[.int .i64 t381, .int .i64 t382, .int .i64 t383, .int .i64 t384, .int .i64 t385, .int .i64 t386] 36 (0, 0))) ∧ Aside0 (Below w.heap.size w w'))
 case atStart => exact ⟨(0), (by first | rfl | (simp; done) | (simp [*]; done)), H', ⟨Nat.le_refl _⟩, ⟨by (with_reducible repeat (first | apply zuW | apply ztN | apply zqY)); refine znI ?_ NB379_387.out _; (with_reducible repeat (first | apply zuW | apply ztN | apply zqY)); refine znI ?_ NB379_387.out _; (with_reducible repeat (first | apply zuW | apply ztN | apply zqY)); refine znI ?_ NB379_387.out _; (with_reducible repeat (first | apply zuW | apply ztN | apply zqY)); refine znI ?_ NB379_387.out _; (with_reducible repeat (first | apply zuW | apply ztN | apply zqY)); refine znI ?_ NB379_387.out _; (with_reducible repeat (first | apply zuW | apply ztN | apply zqY)); refine znI ?_ NB379_387.out _; (with_reducible repeat (first | apply zuW | apply ztN | apply zqY)); exact BK379.out⟩, ⟨by (with_reducible repeat (first | apply zuW | apply ztN | apply zqY)); refine znI ?_ NB380_387.out _; (with_reducible repeat (first | apply zuW | apply ztN | apply zqY)); refine znI ?_ NB380_387.out _; (with_reducible repeat (first | apply zuW | apply ztN | apply zqY)); refine znI ?_ NB380_387.out _; (with_reducible repeat (first | apply zuW | apply ztN | apply zqY)); refine znI ?_ NB380_387.out _; (with_reducible repeat (first | apply zuW | apply ztN | apply zqY)); refine znI ?_ NB380_387.out _; (with_reducible repeat (first | apply zuW | apply ztN | apply zqY)); refine znI ?_ NB380_387.out _; (with_reducible repeat (first | apply zuW | apply ztN | apply zqY)); exact BK380.out⟩, ⟨by (with_reducible repeat (first | apply zuW | apply ztN | apply zqY)); refine zlL (cs := #[.int .i64 t381, .int .i64 t382, .int .i64 t383, .int .i64 t384, .int .i64 t385, .int .i64 0]) ?_ 5 _ rfl; (with_reducible repeat (first | apply zuW | apply ztN | apply zqY)); refine zlL (cs := #[.int .i64 t381, .int .i64 t382, .int .i64 t383, .int .i64 t384, .int .i64 0, .int .i64 0]) ?_ 4 _ rfl; (with_reducible repeat (first | apply zuW | apply ztN | apply zqY)); refine zlL (cs := #[.int .i64 t381, .int .i64 t382, .int .i64 t383, .int .i64 0, .int .i64 0, .int .i64 0]) ?_ 3 _ rfl; (with_reducible repeat (first | apply zuW | apply ztN | apply zqY)); refine zlL (cs := #[.int .i64 t381, .int .i64 t382, .int .i64 0, .int .i64 0, .int .i64 0, .int .i64 0]) ?_ 2 _ rfl; (with_reducible repeat (first | apply zuW | apply ztN | apply zqY)); refine zlL (cs := #[.int .i64 t381, .int .i64 0, .int .i64 0, .int .i64 0, .int .i64 0, .int .i64 0]) ?_ 1 _ rfl; (with_reducible repeat (first | apply zuW | apply ztN | apply zqY)); refine zlL (cs := #[.int .i64 0, .int .i64 0, .int .i64 0, .int .i64 0, .int .i64 0, .int .i64 0]) ?_ 0 _ rfl; (with_reducible repeat (first | apply zuW | apply ztN | apply zqY)); exact BK387.out⟩, ⟨bb_⟩⟩
 case round =>
  clear H'
  try clear c1
  try clear p2
  try clear c6
  try clear c10
  try clear c11
  try clear c12
  try clear c13
  try clear hcz13_0
  try clear hcz13_1
  try clear hcz13_2
  try clear hcz13_3
  try clear hcz13_4
  try clear hcz13_5
  try clear hcz7_0
  try clear hcz7_1
  try clear hcz7_2
  try clear hcz7_3
  try clear hcz7_4
  try clear hcz7_5
  try clear hcz8_0
  try clear hcz8_1
  try clear hcz8_2
  try clear hcz8_3
  try clear hcz8_4
  try clear hcz8_5
  try clear hfz13_0
  try clear hfz13_1
  try clear hfz13_2
  try clear hfz13_3
  try clear hfz13_4
  try clear hfz13_5
  try clear hfz7_0
  try clear hfz7_1
  try clear hfz7_2
  try clear hfz7_3
  try clear hfz7_4
  try clear hfz7_5
  try clear hfz8_0
  try clear hfz8_1
  try clear hfz8_2
  try clear hfz8_3
  try clear hfz8_4
  try clear hfz8_5
  obtain ⟨x11_1, rfl, HA, HK1, BK379, BK380, BK387, HB⟩ := hrel
  cases gk with
  | zero => exact absurd HA.out (by simp [zxB.l0])
  | succ k1 =>
   have H := HA.out
   clear HA
   simp only [zxB.l0] at H
   by_cases c14 : x11_1 < 16
   ·rw [if_pos c14] at H
    have c14b0 : decide (x11_1 < 16) = true := decide_eq_true c14
    clear c14
    replace H := Option.bind_eq_some_iff.mp H
    obtain ⟨⟨t388, t389, t390, t391, t392, t393⟩, A150, H⟩ := H
    replace H : ((zhX.f k1 t388 t389 t390 t391 t392 t393 t381 t382 t383 t384 t385 t386).bind fun bt395 => (if (bt395.1 == 0 && (bt395.2.1 == 0 && (bt395.2.2 == 0))) = true then ((ztL.f k1 t388 t389 t390 t391 t392 t393 t381 t382 t383 t384 t385 t386).bind fun bt398 => ((zyE.f k1 bt398.1 bt398.2.1 bt398.2.2).bind fun t401 => (if t401 > 0 then (some x11_1) else (zxB.l0 k1 (wrap64 (x11_1 + 1)) t381 t382 t383 t384 t385 t386)))) else (zxB.l0 k1 (wrap64 (x11_1 + 1)) t381 t382 t383 t384 t385 t386))) = some r := H
    have A15 := zpS A150
    clear A150
    replace H := Option.bind_eq_some_iff.mp H
    obtain ⟨⟨t395, t396, t397⟩, A160, H⟩ := H
    replace H : (if (t395 == 0 && (t396 == 0 && (t397 == 0))) = true then ((ztL.f k1 t388 t389 t390 t391 t392 t393 t381 t382 t383 t384 t385 t386).bind fun bt398 => ((zyE.f k1 bt398.1 bt398.2.1 bt398.2.2).bind fun t401 => (if t401 > 0 then (some x11_1) else (zxB.l0 k1 (wrap64 (x11_1 + 1)) t381 t382 t383 t384 t385 t386)))) else (zxB.l0 k1 (wrap64 (x11_1 + 1)) t381 t382 t383 t384 t385 t386)) = some r := H
    have A16 := zpS A160
    clear A160
    by_cases c17 : (t395 == 0 && (t396 == 0 && (t397 == 0))) = true
    ·rw [if_pos c17] at H
     have c17b0 : (t395 == 0 && (t396 == 0 && (t397 == 0))) = true := c17
     (try (have c17b1 : decide (t395 = 0 && (t396 == 0 && (t397 == 0))) = true := by simpa using c17))
     (try (have c17b2 : (t395 == 0 && (t396 == 0 && (t397 == 0))) = true := by simpa using c17))
     clear c17
     replace H := Option.bind_eq_some_iff.mp H
     obtain ⟨⟨t398, t399, t400⟩, A180, H⟩ := H
     replace H : ((zyE.f k1 t398 t399 t400).bind fun t401 => (if t401 > 0 then (some x11_1) else (zxB.l0 k1 (wrap64 (x11_1 + 1)) t381 t382 t383 t384 t385 t386))) = some r := H
     have A18 := zpS A180
     clear A180
     replace H := Option.bind_eq_some_iff.mp H
     obtain ⟨t401, A190, H⟩ := H
     replace H : (if t401 > 0 then (some x11_1) else (zxB.l0 k1 (wrap64 (x11_1 + 1)) t381 t382 t383 t384 t385 t386)) = some r := H
     have A19 := zpS A190
     clear A190
     by_cases c20 : t401 > 0
     ·rw [if_pos c20] at H
      have c20b0 : decide (0 < t401) = true := decide_eq_true c20
      clear c20
      obtain rfl := Option.some.inj H
      go_wp2_with (first | ((with_reducible refine zgK (f := 139) rfl ?_); refine zqQ (some 15) rfl rfl Tryd.func139 (by kernel_rfl) rfl #[.int .i64 x11_1] rfl (by (try simp only [List.map_toArray, List.map_cons, List.map_nil]); first | done | rfl | (simp only [List.length_drop, List.length_take]; rfl)) ?_; (with_reducible refine (zdP.calls x11_1 t388 t389 t390 t391 t392 t393 _ ?side1 A15.out).mono ?_); (case side1 => exact LaidV.below hG bb_); rintro e w21 ⟨rfl, hb⟩; refine ⟨_, rfl, ?_⟩; have n0_ := zpS (zgM (g := gb379) (o := .cells #[.int .i64 a0_0, .int .i64 a0_1, .int .i64 a0_2, .int .i64 a0_3, .int .i64 a0_4, .int .i64 a0_5] 36 (0, 0)) bk_ hb); have n1_ := zpS (zgM (g := gb380) (o := .cells #[.int .i64 a1_0, .int .i64 a1_1, .int .i64 a1_2, .int .i64 a1_3, .int .i64 a1_4, .int .i64 a1_5] 36 (0, 0)) bk_ hb); have n2_ := zpS (zgM (g := gb387) (o := .cells #[.int .i64 t381, .int .i64 t382, .int .i64 t383, .int .i64 t384, .int .i64 t385, .int .i64 t386] 36 (0, 0)) bk_ hb); have n3_ := (ns_ hb); clear BK379; clear BK380; clear BK387; clear HB; have BK379 := n0_; have BK380 := n1_; have BK387 := n2_; have HB := n3_; clear n0_ n1_ n2_ n3_; (try clear hb); (try clear hb2)) | ((with_reducible refine zpZ (N := 7) rfl ?_); refine bx_ 7 #[.int .i64 0, .int .i64 0, .int .i64 0, .int .i64 0, .int .i64 0, .int .i64 0] 36 ?_; intro gb394 hg w22 hbox hb; have n0_ := zpS (zgM (g := gb379) (o := .cells #[.int .i64 a0_0, .int .i64 a0_1, .int .i64 a0_2, .int .i64 a0_3, .int .i64 a0_4, .int .i64 a0_5] 36 (0, 0)) bk_ hb); have n1_ := zpS (zgM (g := gb380) (o := .cells #[.int .i64 a1_0, .int .i64 a1_1, .int .i64 a1_2, .int .i64 a1_3, .int .i64 a1_4, .int .i64 a1_5] 36 (0, 0)) bk_ hb); have n2_ := zpS (zgM (g := gb387) (o := .cells #[.int .i64 t381, .int .i64 t382, .int .i64 t383, .int .i64 t384, .int .i64 t385, .int .i64 t386] 36 (0, 0)) bk_ hb); have n3_ := (ns_ hb); have n4_ := zpS (hbox); have n5_ := (ng_ hg); have n6_ := n5_; have n7_ := zpS ((by rw [hg]; exact Nat.ne_of_lt (zmN (g := gb379) (o := .cells #[.int .i64 a0_0, .int .i64 a0_1, .int .i64 a0_2, .int .i64 a0_3, .int .i64 a0_4, .int .i64 a0_5] 36 (0, 0)) bk_) : gb379 ≠ gb394)); have n8_ := zpS ((by rw [hg]; exact Nat.ne_of_gt (zmN (g := gb379) (o := .cells #[.int .i64 a0_0, .int .i64 a0_1, .int .i64 a0_2, .int .i64 a0_3, .int .i64 a0_4, .int .i64 a0_5] 36 (0, 0)) bk_) : gb394 ≠ gb379)); have n9_ := zpS ((by rw [hg]; exact Nat.ne_of_lt (zmN (g := gb380) (o := .cells #[.int .i64 a1_0, .int .i64 a1_1, .int .i64 a1_2, .int .i64 a1_3, .int .i64 a1_4, .int .i64 a1_5] 36 (0, 0)) bk_) : gb380 ≠ gb394)); have n10_ := zpS ((by rw [hg]; exact Nat.ne_of_gt (zmN (g := gb380) (o := .cells #[.int .i64 a1_0, .int .i64 a1_1, .int .i64 a1_2, .int .i64 a1_3, .int .i64 a1_4, .int .i64 a1_5] 36 (0, 0)) bk_) : gb394 ≠ gb380)); have n11_ := zpS ((by rw [hg]; exact Nat.ne_of_lt (zmN (g := gb387) (o := .cells #[.int .i64 t381, .int .i64 t382, .int .i64 t383, .int .i64 t384, .int .i64 t385, .int .i64 t386] 36 (0, 0)) bk_) : gb387 ≠ gb394)); have n12_ := zpS ((by rw [hg]; exact Nat.ne_of_gt (zmN (g := gb387) (o := .cells #[.int .i64 t381, .int .i64 t382, .int .i64 t383, .int .i64 t384, .int .i64 t385, .int .i64 t386] 36 (0, 0)) bk_) : gb394 ≠ gb387)); clear BK379; clear BK380; clear BK387; clear HB; have BK379 := n0_; have BK380 := n1_; have BK387 := n2_; have HB := n3_; have BK394 := n4_; have GW394 := n5_; have GE394 := n6_; have NB379_394 := n7_; have NB394_379 := n8_; have NB380_394 := n9_; have NB394_380 := n10_; have NB387_394 := n11_; have NB394_387 := n12_; clear n0_ n1_ n2_ n3_ n4_ n5_ n6_ n7_ n8_ n9_ n10_ n11_ n12_; clear hb hbox hg; have hnb23 := NB394_379.out; have hnc23 := NB379_394.out; have hnb24 := NB394_380.out; have hnc24 := NB380_394.out; have hnb25 := NB394_387.out; have hnc25 := NB387_394.out; obtain ⟨hcz26_0, hcz26_1, hcz26_2, hcz26_3, hcz26_4, hcz26_5⟩ := zrN BK394.out; obtain ⟨hfz26_0, hfz26_1, hfz26_2, hfz26_3, hfz26_4, hfz26_5⟩ := zoQ BK394.out; have hnb27 := NB387_379.out; have hnc27 := NB379_387.out; have hnb28 := NB387_380.out; have hnc28 := NB380_387.out; obtain ⟨hcz29_0, hcz29_1, hcz29_2, hcz29_3, hcz29_4, hcz29_5⟩ := zrN BK387.out; obtain ⟨hfz29_0, hfz29_1, hfz29_2, hfz29_3, hfz29_4, hfz29_5⟩ := zoQ BK387.out) | ((with_reducible refine zgK (f := 140) rfl ?_); refine zqQ (some 18) rfl rfl Tryd.func140 (by kernel_rfl) rfl #[.agg #[.int .i64 t388, .int .i64 t389, .int .i64 t390, .int .i64 t391, .int .i64 t392, .int .i64 t393], .agg #[.int .i64 t381, .int .i64 t382, .int .i64 t383, .int .i64 t384, .int .i64 t385, .int .i64 t386]] rfl (by (try simp only [List.map_toArray, List.map_cons, List.map_nil]); first | done | rfl | (simp only [List.length_drop, List.length_take]; rfl)) ?_; (with_reducible refine (zhX.calls k1 t388 t389 t390 t391 t392 t393 t381 t382 t383 t384 t385 t386 t395 t396 t397 _ A16.out).mono ?_); rintro e w30 ⟨rfl, hb⟩; refine ⟨_, rfl, ?_⟩; have n0_ := zpS (zgM (g := gb379) (o := .cells #[.int .i64 a0_0, .int .i64 a0_1, .int .i64 a0_2, .int .i64 a0_3, .int .i64 a0_4, .int .i64 a0_5] 36 (0, 0)) (by (with_reducible repeat (first | apply zuW | apply ztN | apply zqY)); refine znI ?_ NB379_394.out _; (with_reducible repeat (first | apply zuW | apply ztN | apply zqY)); refine znI ?_ NB379_394.out _; (with_reducible repeat (first | apply zuW | apply ztN | apply zqY)); refine znI ?_ NB379_394.out _; (with_reducible repeat (first | apply zuW | apply ztN | apply zqY)); refine znI ?_ NB379_394.out _; (with_reducible repeat (first | apply zuW | apply ztN | apply zqY)); refine znI ?_ NB379_394.out _; (with_reducible repeat (first | apply zuW | apply ztN | apply zqY)); refine znI ?_ NB379_394.out _; (with_reducible repeat (first | apply zuW | apply ztN | apply zqY)); exact BK379.out) hb); have n1_ := zpS (zgM (g := gb380) (o := .cells #[.int .i64 a1_0, .int .i64 a1_1, .int .i64 a1_2, .int .i64 a1_3, .int .i64 a1_4, .int .i64 a1_5] 36 (0, 0)) (by (with_reducible repeat (first | apply zuW | apply ztN | apply zqY)); refine znI ?_ NB380_394.out _; (with_reducible repeat (first | apply zuW | apply ztN | apply zqY)); refine znI ?_ NB380_394.out _; (with_reducible repeat (first | apply zuW | apply ztN | apply zqY)); refine znI ?_ NB380_394.out _; (with_reducible repeat (first | apply zuW | apply ztN | apply zqY)); refine znI ?_ NB380_394.out _; (with_reducible repeat (first | apply zuW | apply ztN | apply zqY)); refine znI ?_ NB380_394.out _; (with_reducible repeat (first | apply zuW | apply ztN | apply zqY)); refine znI ?_ NB380_394.out _; (with_reducible repeat (first | apply zuW | apply ztN | apply zqY)); exact BK380.out) hb); have n2_ := zpS (zgM (g := gb387) (o := .cells #[.int .i64 t381, .int .i64 t382, .int .i64 t383, .int .i64 t384, .int .i64 t385, .int .i64 t386] 36 (0, 0)) (by (with_reducible repeat (first | apply zuW | apply ztN | apply zqY)); refine znI ?_ NB387_394.out _; (with_reducible repeat (first | apply zuW | apply ztN | apply zqY)); refine znI ?_ NB387_394.out _; (with_reducible repeat (first | apply zuW | apply ztN | apply zqY)); refine znI ?_ NB387_394.out _; (with_reducible repeat (first | apply zuW | apply ztN | apply zqY)); refine znI ?_ NB387_394.out _; (with_reducible repeat (first | apply zuW | apply ztN | apply zqY)); refine znI ?_ NB387_394.out _; (with_reducible repeat (first | apply zuW | apply ztN | apply zqY)); refine znI ?_ NB387_394.out _; (with_reducible repeat (first | apply zuW | apply ztN | apply zqY)); exact BK387.out) hb); have n3_ := zpS (zgM (g := gb394) (o := .cells #[.int .i64 t388, .int .i64 t389, .int .i64 t390, .int .i64 t391, .int .i64 t392, .int .i64 t393] 36 (0, 0)) (by (with_reducible repeat (first | apply zuW | apply ztN | apply zqY)); refine zlL (cs := #[.int .i64 t388, .int .i64 t389, .int .i64 t390, .int .i64 t391, .int .i64 t392, .int .i64 0]) ?_ 5 _ rfl; (with_reducible repeat (first | apply zuW | apply ztN | apply zqY)); refine zlL (cs := #[.int .i64 t388, .int .i64 t389, .int .i64 t390, .int .i64 t391, .int .i64 0, .int .i64 0]) ?_ 4 _ rfl; (with_reducible repeat (first | apply zuW | apply ztN | apply zqY)); refine zlL (cs := #[.int .i64 t388, .int .i64 t389, .int .i64 t390, .int .i64 0, .int .i64 0, .int .i64 0]) ?_ 3 _ rfl; (with_reducible repeat (first | apply zuW | apply ztN | apply zqY)); refine zlL (cs := #[.int .i64 t388, .int .i64 t389, .int .i64 0, .int .i64 0, .int .i64 0, .int .i64 0]) ?_ 2 _ rfl; (with_reducible repeat (first | apply zuW | apply ztN | apply zqY)); refine zlL (cs := #[.int .i64 t388, .int .i64 0, .int .i64 0, .int .i64 0, .int .i64 0, .int .i64 0]) ?_ 1 _ rfl; (with_reducible repeat (first | apply zuW | apply ztN | apply zqY)); refine zlL (cs := #[.int .i64 0, .int .i64 0, .int .i64 0, .int .i64 0, .int .i64 0, .int .i64 0]) ?_ 0 _ rfl; (with_reducible repeat (first | apply zuW | apply ztN | apply zqY)); exact BK394.out) hb); have n4_ := (ns_ hb); clear BK379; clear BK380; clear BK387; clear BK394; clear HB; have BK379 := n0_; have BK380 := n1_; have BK387 := n2_; have BK394 := n3_; have HB := n4_; clear n0_ n1_ n2_ n3_ n4_; (try clear hb); (try clear hb2); obtain ⟨hcz31_0, hcz31_1, hcz31_2, hcz31_3, hcz31_4, hcz31_5⟩ := zrN BK394.out; obtain ⟨hfz31_0, hfz31_1, hfz31_2, hfz31_3, hfz31_4, hfz31_5⟩ := zoQ BK394.out; obtain ⟨hcz32_0, hcz32_1, hcz32_2, hcz32_3, hcz32_4, hcz32_5⟩ := zrN BK387.out; obtain ⟨hfz32_0, hfz32_1, hfz32_2, hfz32_3, hfz32_4, hfz32_5⟩ := zoQ BK387.out) | (go_at_call 141; (with_reducible refine (ztL.calls k1 t388 t389 t390 t391 t392 t393 t381 t382 t383 t384 t385 t386 t398 t399 t400 _ A18.out).mono ?_); rintro e w33 ⟨rfl, hb⟩; have n0_ := zpS (zgM (g := gb379) (o := .cells #[.int .i64 a0_0, .int .i64 a0_1, .int .i64 a0_2, .int .i64 a0_3, .int .i64 a0_4, .int .i64 a0_5] 36 (0, 0)) bk_ hb); have n1_ := zpS (zgM (g := gb380) (o := .cells #[.int .i64 a1_0, .int .i64 a1_1, .int .i64 a1_2, .int .i64 a1_3, .int .i64 a1_4, .int .i64 a1_5] 36 (0, 0)) bk_ hb); have n2_ := zpS (zgM (g := gb387) (o := .cells #[.int .i64 t381, .int .i64 t382, .int .i64 t383, .int .i64 t384, .int .i64 t385, .int .i64 t386] 36 (0, 0)) bk_ hb); have n3_ := zpS (zgM (g := gb394) (o := .cells #[.int .i64 t388, .int .i64 t389, .int .i64 t390, .int .i64 t391, .int .i64 t392, .int .i64 t393] 36 (0, 0)) bk_ hb); have n4_ := (ns_ hb); clear BK379; clear BK380; clear BK387; clear BK394; clear HB; have BK379 := n0_; have BK380 := n1_; have BK387 := n2_; have BK394 := n3_; have HB := n4_; clear n0_ n1_ n2_ n3_ n4_; (try clear hb); (try clear hb2)) | (go_at_call 142; (with_reducible refine (zyE.calls k1 t398 t399 t400 t401 _ A19.out).mono ?_); rintro e w34 ⟨rfl, hb⟩; have n0_ := zpS (zgM (g := gb379) (o := .cells #[.int .i64 a0_0, .int .i64 a0_1, .int .i64 a0_2, .int .i64 a0_3, .int .i64 a0_4, .int .i64 a0_5] 36 (0, 0)) bk_ hb); have n1_ := zpS (zgM (g := gb380) (o := .cells #[.int .i64 a1_0, .int .i64 a1_1, .int .i64 a1_2, .int .i64 a1_3, .int .i64 a1_4, .int .i64 a1_5] 36 (0, 0)) bk_ hb); have n2_ := zpS (zgM (g := gb387) (o := .cells #[.int .i64 t381, .int .i64 t382, .int .i64 t383, .int .i64 t384, .int .i64 t385, .int .i64 t386] 36 (0, 0)) bk_ hb); have n3_ := zpS (zgM (g := gb394) (o := .cells #[.int .i64 t388, .int .i64 t389, .int .i64 t390, .int .i64 t391, .int .i64 t392, .int .i64 t393] 36 (0, 0)) bk_ hb); have n4_ := (ns_ hb); clear BK379; clear BK380; clear BK387; clear BK394; clear HB; have BK379 := n0_; have BK380 := n1_; have BK387 := n2_; have BK394 := n3_; have HB := n4_; clear n0_ n1_ n2_ n3_ n4_; (try clear hb); (try clear hb2)))
      go_ret
      exact ⟨by first | rfl | (simp [ziS, znJ] <;> rfl) | (simp [*, ziS, znJ] <;> rfl), bb_⟩
     ·rw [if_neg c20] at H
      have c20b0 : decide (0 < t401) = false := decide_eq_false c20
      clear c20
      have H' := zpS H
      clear H
      go_wp2_with (first | ((with_reducible refine zgK (f := 139) rfl ?_); refine zqQ (some 15) rfl rfl Tryd.func139 (by kernel_rfl) rfl #[.int .i64 x11_1] rfl (by (try simp only [List.map_toArray, List.map_cons, List.map_nil]); first | done | rfl | (simp only [List.length_drop, List.length_take]; rfl)) ?_; (with_reducible refine (zdP.calls x11_1 t388 t389 t390 t391 t392 t393 _ ?side1 A15.out).mono ?_); (case side1 => exact LaidV.below hG bb_); rintro e w35 ⟨rfl, hb⟩; refine ⟨_, rfl, ?_⟩; have n0_ := zpS (zgM (g := gb379) (o := .cells #[.int .i64 a0_0, .int .i64 a0_1, .int .i64 a0_2, .int .i64 a0_3, .int .i64 a0_4, .int .i64 a0_5] 36 (0, 0)) bk_ hb); have n1_ := zpS (zgM (g := gb380) (o := .cells #[.int .i64 a1_0, .int .i64 a1_1, .int .i64 a1_2, .int .i64 a1_3, .int .i64 a1_4, .int .i64 a1_5] 36 (0, 0)) bk_ hb); have n2_ := zpS (zgM (g := gb387) (o := .cells #[.int .i64 t381, .int .i64 t382, .int .i64 t383, .int .i64 t384, .int .i64 t385, .int .i64 t386] 36 (0, 0)) bk_ hb); have n3_ := (ns_ hb); clear BK379; clear BK380; clear BK387; clear HB; have BK379 := n0_; have BK380 := n1_; have BK387 := n2_; have HB := n3_; clear n0_ n1_ n2_ n3_; (try clear hb); (try clear hb2)) | ((with_reducible refine zpZ (N := 7) rfl ?_); refine bx_ 7 #[.int .i64 0, .int .i64 0, .int .i64 0, .int .i64 0, .int .i64 0, .int .i64 0] 36 ?_; intro gb394 hg w36 hbox hb; have n0_ := zpS (zgM (g := gb379) (o := .cells #[.int .i64 a0_0, .int .i64 a0_1, .int .i64 a0_2, .int .i64 a0_3, .int .i64 a0_4, .int .i64 a0_5] 36 (0, 0)) bk_ hb); have n1_ := zpS (zgM (g := gb380) (o := .cells #[.int .i64 a1_0, .int .i64 a1_1, .int .i64 a1_2, .int .i64 a1_3, .int .i64 a1_4, .int .i64 a1_5] 36 (0, 0)) bk_ hb); have n2_ := zpS (zgM (g := gb387) (o := .cells #[.int .i64 t381, .int .i64 t382, .int .i64 t383, .int .i64 t384, .int .i64 t385, .int .i64 t386] 36 (0, 0)) bk_ hb); have n3_ := (ns_ hb); have n4_ := zpS (hbox); have n5_ := (ng_ hg); have n6_ := n5_; have n7_ := zpS ((by rw [hg]; exact Nat.ne_of_lt (zmN (g := gb379) (o := .cells #[.int .i64 a0_0, .int .i64 a0_1, .int .i64 a0_2, .int .i64 a0_3, .int .i64 a0_4, .int .i64 a0_5] 36 (0, 0)) bk_) : gb379 ≠ gb394)); have n8_ := zpS ((by rw [hg]; exact Nat.ne_of_gt (zmN (g := gb379) (o := .cells #[.int .i64 a0_0, .int .i64 a0_1, .int .i64 a0_2, .int .i64 a0_3, .int .i64 a0_4, .int .i64 a0_5] 36 (0, 0)) bk_) : gb394 ≠ gb379)); have n9_ := zpS ((by rw [hg]; exact Nat.ne_of_lt (zmN (g := gb380) (o := .cells #[.int .i64 a1_0, .int .i64 a1_1, .int .i64 a1_2, .int .i64 a1_3, .int .i64 a1_4, .int .i64 a1_5] 36 (0, 0)) bk_) : gb380 ≠ gb394)); have n10_ := zpS ((by rw [hg]; exact Nat.ne_of_gt (zmN (g := gb380) (o := .cells #[.int .i64 a1_0, .int .i64 a1_1, .int .i64 a1_2, .int .i64 a1_3, .int .i64 a1_4, .int .i64 a1_5] 36 (0, 0)) bk_) : gb394 ≠ gb380)); have n11_ := zpS ((by rw [hg]; exact Nat.ne_of_lt (zmN (g := gb387) (o := .cells #[.int .i64 t381, .int .i64 t382, .int .i64 t383, .int .i64 t384, .int .i64 t385, .int .i64 t386] 36 (0, 0)) bk_) : gb387 ≠ gb394)); have n12_ := zpS ((by rw [hg]; exact Nat.ne_of_gt (zmN (g := gb387) (o := .cells #[.int .i64 t381, .int .i64 t382, .int .i64 t383, .int .i64 t384, .int .i64 t385, .int .i64 t386] 36 (0, 0)) bk_) : gb394 ≠ gb387)); clear BK379; clear BK380; clear BK387; clear HB; have BK379 := n0_; have BK380 := n1_; have BK387 := n2_; have HB := n3_; have BK394 := n4_; have GW394 := n5_; have GE394 := n6_; have NB379_394 := n7_; have NB394_379 := n8_; have NB380_394 := n9_; have NB394_380 := n10_; have NB387_394 := n11_; have NB394_387 := n12_; clear n0_ n1_ n2_ n3_ n4_ n5_ n6_ n7_ n8_ n9_ n10_ n11_ n12_; clear hb hbox hg; have hnb37 := NB394_379.out; have hnc37 := NB379_394.out; have hnb38 := NB394_380.out; have hnc38 := NB380_394.out; have hnb39 := NB394_387.out; have hnc39 := NB387_394.out; obtain ⟨hcz40_0, hcz40_1, hcz40_2, hcz40_3, hcz40_4, hcz40_5⟩ := zrN BK394.out; obtain ⟨hfz40_0, hfz40_1, hfz40_2, hfz40_3, hfz40_4, hfz40_5⟩ := zoQ BK394.out; have hnb41 := NB387_379.out; have hnc41 := NB379_387.out; have hnb42 := NB387_380.out; have hnc42 := NB380_387.out; obtain ⟨hcz43_0, hcz43_1, hcz43_2, hcz43_3, hcz43_4, hcz43_5⟩ := zrN BK387.out; obtain ⟨hfz43_0, hfz43_1, hfz43_2, hfz43_3, hfz43_4, hfz43_5⟩ := zoQ BK387.out) | ((with_reducible refine zgK (f := 140) rfl ?_); refine zqQ (some 18) rfl rfl Tryd.func140 (by kernel_rfl) rfl #[.agg #[.int .i64 t388, .int .i64 t389, .int .i64 t390, .int .i64 t391, .int .i64 t392, .int .i64 t393], .agg #[.int .i64 t381, .int .i64 t382, .int .i64 t383, .int .i64 t384, .int .i64 t385, .int .i64 t386]] rfl (by (try simp only [List.map_toArray, List.map_cons, List.map_nil]); first | done | rfl | (simp only [List.length_drop, List.length_take]; rfl)) ?_; (with_reducible refine (zhX.calls k1 t388 t389 t390 t391 t392 t393 t381 t382 t383 t384 t385 t386 t395 t396 t397 _ A16.out).mono ?_); rintro e w44 ⟨rfl, hb⟩; refine ⟨_, rfl, ?_⟩; have n0_ := zpS (zgM (g := gb379) (o := .cells #[.int .i64 a0_0, .int .i64 a0_1, .int .i64 a0_2, .int .i64 a0_3, .int .i64 a0_4, .int .i64 a0_5] 36 (0, 0)) (by (with_reducible repeat (first | apply zuW | apply ztN | apply zqY)); refine znI ?_ NB379_394.out _; (with_reducible repeat (first | apply zuW | apply ztN | apply zqY)); refine znI ?_ NB379_394.out _; (with_reducible repeat (first | apply zuW | apply ztN | apply zqY)); refine znI ?_ NB379_394.out _; (with_reducible repeat (first | apply zuW | apply ztN | apply zqY)); refine znI ?_ NB379_394.out _; (with_reducible repeat (first | apply zuW | apply ztN | apply zqY)); refine znI ?_ NB379_394.out _; (with_reducible repeat (first | apply zuW | apply ztN | apply zqY)); refine znI ?_ NB379_394.out _; (with_reducible repeat (first | apply zuW | apply ztN | apply zqY)); exact BK379.out) hb); have n1_ := zpS (zgM (g := gb380) (o := .cells #[.int .i64 a1_0, .int .i64 a1_1, .int .i64 a1_2, .int .i64 a1_3, .int .i64 a1_4, .int .i64 a1_5] 36 (0, 0)) (by (with_reducible repeat (first | apply zuW | apply ztN | apply zqY)); refine znI ?_ NB380_394.out _; (with_reducible repeat (first | apply zuW | apply ztN | apply zqY)); refine znI ?_ NB380_394.out _; (with_reducible repeat (first | apply zuW | apply ztN | apply zqY)); refine znI ?_ NB380_394.out _; (with_reducible repeat (first | apply zuW | apply ztN | apply zqY)); refine znI ?_ NB380_394.out _; (with_reducible repeat (first | apply zuW | apply ztN | apply zqY)); refine znI ?_ NB380_394.out _; (with_reducible repeat (first | apply zuW | apply ztN | apply zqY)); refine znI ?_ NB380_394.out _; (with_reducible repeat (first | apply zuW | apply ztN | apply zqY)); exact BK380.out) hb); have n2_ := zpS (zgM (g := gb387) (o := .cells #[.int .i64 t381, .int .i64 t382, .int .i64 t383, .int .i64 t384, .int .i64 t385, .int .i64 t386] 36 (0, 0)) (by (with_reducible repeat (first | apply zuW | apply ztN | apply zqY)); refine znI ?_ NB387_394.out _; (with_reducible repeat (first | apply zuW | apply ztN | apply zqY)); refine znI ?_ NB387_394.out _; (with_reducible repeat (first | apply zuW | apply ztN | apply zqY)); refine znI ?_ NB387_394.out _; (with_reducible repeat (first | apply zuW | apply ztN | apply zqY)); refine znI ?_ NB387_394.out _; (with_reducible repeat (first | apply zuW | apply ztN | apply zqY)); refine znI ?_ NB387_394.out _; (with_reducible repeat (first | apply zuW | apply ztN | apply zqY)); refine znI ?_ NB387_394.out _; (with_reducible repeat (first | apply zuW | apply ztN | apply zqY)); exact BK387.out) hb); have n3_ := zpS (zgM (g := gb394) (o := .cells #[.int .i64 t388, .int .i64 t389, .int .i64 t390, .int .i64 t391, .int .i64 t392, .int .i64 t393] 36 (0, 0)) (by (with_reducible repeat (first | apply zuW | apply ztN | apply zqY)); refine zlL (cs := #[.int .i64 t388, .int .i64 t389, .int .i64 t390, .int .i64 t391, .int .i64 t392, .int .i64 0]) ?_ 5 _ rfl; (with_reducible repeat (first | apply zuW | apply ztN | apply zqY)); refine zlL (cs := #[.int .i64 t388, .int .i64 t389, .int .i64 t390, .int .i64 t391, .int .i64 0, .int .i64 0]) ?_ 4 _ rfl; (with_reducible repeat (first | apply zuW | apply ztN | apply zqY)); refine zlL (cs := #[.int .i64 t388, .int .i64 t389, .int .i64 t390, .int .i64 0, .int .i64 0, .int .i64 0]) ?_ 3 _ rfl; (with_reducible repeat (first | apply zuW | apply ztN | apply zqY)); refine zlL (cs := #[.int .i64 t388, .int .i64 t389, .int .i64 0, .int .i64 0, .int .i64 0, .int .i64 0]) ?_ 2 _ rfl; (with_reducible repeat (first | apply zuW | apply ztN | apply zqY)); refine zlL (cs := #[.int .i64 t388, .int .i64 0, .int .i64 0, .int .i64 0, .int .i64 0, .int .i64 0]) ?_ 1 _ rfl; (with_reducible repeat (first | apply zuW | apply ztN | apply zqY)); refine zlL (cs := #[.int .i64 0, .int .i64 0, .int .i64 0, .int .i64 0, .int .i64 0, .int .i64 0]) ?_ 0 _ rfl; (with_reducible repeat (first | apply zuW | apply ztN | apply zqY)); exact BK394.out) hb); have n4_ := (ns_ hb); clear BK379; clear BK380; clear BK387; clear BK394; clear HB; have BK379 := n0_; have BK380 := n1_; have BK387 := n2_; have BK394 := n3_; have HB := n4_; clear n0_ n1_ n2_ n3_ n4_; (try clear hb); (try clear hb2); obtain ⟨hcz45_0, hcz45_1, hcz45_2, hcz45_3, hcz45_4, hcz45_5⟩ := zrN BK394.out; obtain ⟨hfz45_0, hfz45_1, hfz45_2, hfz45_3, hfz45_4, hfz45_5⟩ := zoQ BK394.out; obtain ⟨hcz46_0, hcz46_1, hcz46_2, hcz46_3, hcz46_4, hcz46_5⟩ := zrN BK387.out; obtain ⟨hfz46_0, hfz46_1, hfz46_2, hfz46_3, hfz46_4, hfz46_5⟩ := zoQ BK387.out) | (go_at_call 141; (with_reducible refine (ztL.calls k1 t388 t389 t390 t391 t392 t393 t381 t382 t383 t384 t385 t386 t398 t399 t400 _ A18.out).mono ?_); rintro e w47 ⟨rfl, hb⟩; have n0_ := zpS (zgM (g := gb379) (o := .cells #[.int .i64 a0_0, .int .i64 a0_1, .int .i64 a0_2, .int .i64 a0_3, .int .i64 a0_4, .int .i64 a0_5] 36 (0, 0)) bk_ hb); have n1_ := zpS (zgM (g := gb380) (o := .cells #[.int .i64 a1_0, .int .i64 a1_1, .int .i64 a1_2, .int .i64 a1_3, .int .i64 a1_4, .int .i64 a1_5] 36 (0, 0)) bk_ hb); have n2_ := zpS (zgM (g := gb387) (o := .cells #[.int .i64 t381, .int .i64 t382, .int .i64 t383, .int .i64 t384, .int .i64 t385, .int .i64 t386] 36 (0, 0)) bk_ hb); have n3_ := zpS (zgM (g := gb394) (o := .cells #[.int .i64 t388, .int .i64 t389, .int .i64 t390, .int .i64 t391, .int .i64 t392, .int .i64 t393] 36 (0, 0)) bk_ hb); have n4_ := (ns_ hb); clear BK379; clear BK380; clear BK387; clear BK394; clear HB; have BK379 := n0_; have BK380 := n1_; have BK387 := n2_; have BK394 := n3_; have HB := n4_; clear n0_ n1_ n2_ n3_ n4_; (try clear hb); (try clear hb2)) | (go_at_call 142; (with_reducible refine (zyE.calls k1 t398 t399 t400 t401 _ A19.out).mono ?_); rintro e w48 ⟨rfl, hb⟩; have n0_ := zpS (zgM (g := gb379) (o := .cells #[.int .i64 a0_0, .int .i64 a0_1, .int .i64 a0_2, .int .i64 a0_3, .int .i64 a0_4, .int .i64 a0_5] 36 (0, 0)) bk_ hb); have n1_ := zpS (zgM (g := gb380) (o := .cells #[.int .i64 a1_0, .int .i64 a1_1, .int .i64 a1_2, .int .i64 a1_3, .int .i64 a1_4, .int .i64 a1_5] 36 (0, 0)) bk_ hb); have n2_ := zpS (zgM (g := gb387) (o := .cells #[.int .i64 t381, .int .i64 t382, .int .i64 t383, .int .i64 t384, .int .i64 t385, .int .i64 t386] 36 (0, 0)) bk_ hb); have n3_ := zpS (zgM (g := gb394) (o := .cells #[.int .i64 t388, .int .i64 t389, .int .i64 t390, .int .i64 t391, .int .i64 t392, .int .i64 t393] 36 (0, 0)) bk_ hb); have n4_ := (ns_ hb); clear BK379; clear BK380; clear BK387; clear BK394; clear HB; have BK379 := n0_; have BK380 := n1_; have BK387 := n2_; have BK394 := n3_; have HB := n4_; clear n0_ n1_ n2_ n3_ n4_; (try clear hb); (try clear hb2)))
      go_roundg k1
      case measure => have := HK1.out; omega
      case rel => exact ⟨(wrap64 (x11_1 + 1)), (by first | rfl | (simp; done) | (simp [*]; done)), H', ⟨by have := HK1.out; omega⟩, ⟨bk_⟩, ⟨bk_⟩, ⟨bk_⟩, ⟨bb_⟩⟩
    ·rw [if_neg c17] at H
     have c17b0 : (t395 == 0 && (t396 == 0 && (t397 == 0))) = false := by simpa using c17
     (try (have c17b1 : decide (t395 = 0 && (t396 == 0 && (t397 == 0))) = false := by simpa using c17))
     (try (have c17b2 : (t395 == 0 && (t396 == 0 && (t397 == 0))) = false := by simpa using c17))
     (try (have c17b3 : ¬ (t395 = 0 && (t396 == 0 && (t397 == 0))) := by simpa using c17))
     clear c17
     have H' := zpS H
     clear H
     go_wp2_with (first | ((with_reducible refine zgK (f := 139) rfl ?_); refine zqQ (some 15) rfl rfl Tryd.func139 (by kernel_rfl) rfl #[.int .i64 x11_1] rfl (by (try simp only [List.map_toArray, List.map_cons, List.map_nil]); first | done | rfl | (simp only [List.length_drop, List.length_take]; rfl)) ?_; (with_reducible refine (zdP.calls x11_1 t388 t389 t390 t391 t392 t393 _ ?side1 A15.out).mono ?_); (case side1 => exact LaidV.below hG bb_); rintro e w49 ⟨rfl, hb⟩; refine ⟨_, rfl, ?_⟩; have n0_ := zpS (zgM (g := gb379) (o := .cells #[.int .i64 a0_0, .int .i64 a0_1, .int .i64 a0_2, .int .i64 a0_3, .int .i64 a0_4, .int .i64 a0_5] 36 (0, 0)) bk_ hb); have n1_ := zpS (zgM (g := gb380) (o := .cells #[.int .i64 a1_0, .int .i64 a1_1, .int .i64 a1_2, .int .i64 a1_3, .int .i64 a1_4, .int .i64 a1_5] 36 (0, 0)) bk_ hb); have n2_ := zpS (zgM (g := gb387) (o := .cells #[.int .i64 t381, .int .i64 t382, .int .i64 t383, .int .i64 t384, .int .i64 t385, .int .i64 t386] 36 (0, 0)) bk_ hb); have n3_ := (ns_ hb); clear BK379; clear BK380; clear BK387; clear HB; have BK379 := n0_; have BK380 := n1_; have BK387 := n2_; have HB := n3_; clear n0_ n1_ n2_ n3_; (try clear hb); (try clear hb2)) | ((with_reducible refine zpZ (N := 7) rfl ?_); refine bx_ 7 #[.int .i64 0, .int .i64 0, .int .i64 0, .int .i64 0, .int .i64 0, .int .i64 0] 36 ?_; intro gb394 hg w50 hbox hb; have n0_ := zpS (zgM (g := gb379) (o := .cells #[.int .i64 a0_0, .int .i64 a0_1, .int .i64 a0_2, .int .i64 a0_3, .int .i64 a0_4, .int .i64 a0_5] 36 (0, 0)) bk_ hb); have n1_ := zpS (zgM (g := gb380) (o := .cells #[.int .i64 a1_0, .int .i64 a1_1, .int .i64 a1_2, .int .i64 a1_3, .int .i64 a1_4, .int .i64 a1_5] 36 (0, 0)) bk_ hb); have n2_ := zpS (zgM (g := gb387) (o := .cells #[.int .i64 t381, .int .i64 t382, .int .i64 t383, .int .i64 t384, .int .i64 t385, .int .i64 t386] 36 (0, 0)) bk_ hb); have n3_ := (ns_ hb); have n4_ := zpS (hbox); have n5_ := (ng_ hg); have n6_ := n5_; have n7_ := zpS ((by rw [hg]; exact Nat.ne_of_lt (zmN (g := gb379) (o := .cells #[.int .i64 a0_0, .int .i64 a0_1, .int .i64 a0_2, .int .i64 a0_3, .int .i64 a0_4, .int .i64 a0_5] 36 (0, 0)) bk_) : gb379 ≠ gb394)); have n8_ := zpS ((by rw [hg]; exact Nat.ne_of_gt (zmN (g := gb379) (o := .cells #[.int .i64 a0_0, .int .i64 a0_1, .int .i64 a0_2, .int .i64 a0_3, .int .i64 a0_4, .int .i64 a0_5] 36 (0, 0)) bk_) : gb394 ≠ gb379)); have n9_ := zpS ((by rw [hg]; exact Nat.ne_of_lt (zmN (g := gb380) (o := .cells #[.int .i64 a1_0, .int .i64 a1_1, .int .i64 a1_2, .int .i64 a1_3, .int .i64 a1_4, .int .i64 a1_5] 36 (0, 0)) bk_) : gb380 ≠ gb394)); have n10_ := zpS ((by rw [hg]; exact Nat.ne_of_gt (zmN (g := gb380) (o := .cells #[.int .i64 a1_0, .int .i64 a1_1, .int .i64 a1_2, .int .i64 a1_3, .int .i64 a1_4, .int .i64 a1_5] 36 (0, 0)) bk_) : gb394 ≠ gb380)); have n11_ := zpS ((by rw [hg]; exact Nat.ne_of_lt (zmN (g := gb387) (o := .cells #[.int .i64 t381, .int .i64 t382, .int .i64 t383, .int .i64 t384, .int .i64 t385, .int .i64 t386] 36 (0, 0)) bk_) : gb387 ≠ gb394)); have n12_ := zpS ((by rw [hg]; exact Nat.ne_of_gt (zmN (g := gb387) (o := .cells #[.int .i64 t381, .int .i64 t382, .int .i64 t383, .int .i64 t384, .int .i64 t385, .int .i64 t386] 36 (0, 0)) bk_) : gb394 ≠ gb387)); clear BK379; clear BK380; clear BK387; clear HB; have BK379 := n0_; have BK380 := n1_; have BK387 := n2_; have HB := n3_; have BK394 := n4_; have GW394 := n5_; have GE394 := n6_; have NB379_394 := n7_; have NB394_379 := n8_; have NB380_394 := n9_; have NB394_380 := n10_; have NB387_394 := n11_; have NB394_387 := n12_; clear n0_ n1_ n2_ n3_ n4_ n5_ n6_ n7_ n8_ n9_ n10_ n11_ n12_; clear hb hbox hg; have hnb51 := NB394_379.out; have hnc51 := NB379_394.out; have hnb52 := NB394_380.out; have hnc52 := NB380_394.out; have hnb53 := NB394_387.out; have hnc53 := NB387_394.out; obtain ⟨hcz54_0, hcz54_1, hcz54_2, hcz54_3, hcz54_4, hcz54_5⟩ := zrN BK394.out; obtain ⟨hfz54_0, hfz54_1, hfz54_2, hfz54_3, hfz54_4, hfz54_5⟩ := zoQ BK394.out; have hnb55 := NB387_379.out; have hnc55 := NB379_387.out; have hnb56 := NB387_380.out; have hnc56 := NB380_387.out; obtain ⟨hcz57_0, hcz57_1, hcz57_2, hcz57_3, hcz57_4, hcz57_5⟩ := zrN BK387.out; obtain ⟨hfz57_0, hfz57_1, hfz57_2, hfz57_3, hfz57_4, hfz57_5⟩ := zoQ BK387.out) | ((with_reducible refine zgK (f := 140) rfl ?_); refine zqQ (some 18) rfl rfl Tryd.func140 (by kernel_rfl) rfl #[.agg #[.int .i64 t388, .int .i64 t389, .int .i64 t390, .int .i64 t391, .int .i64 t392, .int .i64 t393], .agg #[.int .i64 t381, .int .i64 t382, .int .i64 t383, .int .i64 t384, .int .i64 t385, .int .i64 t386]] rfl (by (try simp only [List.map_toArray, List.map_cons, List.map_nil]); first | done | rfl | (simp only [List.length_drop, List.length_take]; rfl)) ?_; (with_reducible refine (zhX.calls k1 t388 t389 t390 t391 t392 t393 t381 t382 t383 t384 t385 t386 t395 t396 t397 _ A16.out).mono ?_); rintro e w58 ⟨rfl, hb⟩; refine ⟨_, rfl, ?_⟩; have n0_ := zpS (zgM (g := gb379) (o := .cells #[.int .i64 a0_0, .int .i64 a0_1, .int .i64 a0_2, .int .i64 a0_3, .int .i64 a0_4, .int .i64 a0_5] 36 (0, 0)) (by (with_reducible repeat (first | apply zuW | apply ztN | apply zqY)); refine znI ?_ NB379_394.out _; (with_reducible repeat (first | apply zuW | apply ztN | apply zqY)); refine znI ?_ NB379_394.out _; (with_reducible repeat (first | apply zuW | apply ztN | apply zqY)); refine znI ?_ NB379_394.out _; (with_reducible repeat (first | apply zuW | apply ztN | apply zqY)); refine znI ?_ NB379_394.out _; (with_reducible repeat (first | apply zuW | apply ztN | apply zqY)); refine znI ?_ NB379_394.out _; (with_reducible repeat (first | apply zuW | apply ztN | apply zqY)); refine znI ?_ NB379_394.out _; (with_reducible repeat (first | apply zuW | apply ztN | apply zqY)); exact BK379.out) hb); have n1_ := zpS (zgM (g := gb380) (o := .cells #[.int .i64 a1_0, .int .i64 a1_1, .int .i64 a1_2, .int .i64 a1_3, .int .i64 a1_4, .int .i64 a1_5] 36 (0, 0)) (by (with_reducible repeat (first | apply zuW | apply ztN | apply zqY)); refine znI ?_ NB380_394.out _; (with_reducible repeat (first | apply zuW | apply ztN | apply zqY)); refine znI ?_ NB380_394.out _; (with_reducible repeat (first | apply zuW | apply ztN | apply zqY)); refine znI ?_ NB380_394.out _; (with_reducible repeat (first | apply zuW | apply ztN | apply zqY)); refine znI ?_ NB380_394.out _; (with_reducible repeat (first | apply zuW | apply ztN | apply zqY)); refine znI ?_ NB380_394.out _; (with_reducible repeat (first | apply zuW | apply ztN | apply zqY)); refine znI ?_ NB380_394.out _; (with_reducible repeat (first | apply zuW | apply ztN | apply zqY)); exact BK380.out) hb); have n2_ := zpS (zgM (g := gb387) (o := .cells #[.int .i64 t381, .int .i64 t382, .int .i64 t383, .int .i64 t384, .int .i64 t385, .int .i64 t386] 36 (0, 0)) (by (with_reducible repeat (first | apply zuW | apply ztN | apply zqY)); refine znI ?_ NB387_394.out _; (with_reducible repeat (first | apply zuW | apply ztN | apply zqY)); refine znI ?_ NB387_394.out _; (with_reducible repeat (first | apply zuW | apply ztN | apply zqY)); refine znI ?_ NB387_394.out _; (with_reducible repeat (first | apply zuW | apply ztN | apply zqY)); refine znI ?_ NB387_394.out _; (with_reducible repeat (first | apply zuW | apply ztN | apply zqY)); refine znI ?_ NB387_394.out _; (with_reducible repeat (first | apply zuW | apply ztN | apply zqY)); refine znI ?_ NB387_394.out _; (with_reducible repeat (first | apply zuW | apply ztN | apply zqY)); exact BK387.out) hb); have n3_ := zpS (zgM (g := gb394) (o := .cells #[.int .i64 t388, .int .i64 t389, .int .i64 t390, .int .i64 t391, .int .i64 t392, .int .i64 t393] 36 (0, 0)) (by (with_reducible repeat (first | apply zuW | apply ztN | apply zqY)); refine zlL (cs := #[.int .i64 t388, .int .i64 t389, .int .i64 t390, .int .i64 t391, .int .i64 t392, .int .i64 0]) ?_ 5 _ rfl; (with_reducible repeat (first | apply zuW | apply ztN | apply zqY)); refine zlL (cs := #[.int .i64 t388, .int .i64 t389, .int .i64 t390, .int .i64 t391, .int .i64 0, .int .i64 0]) ?_ 4 _ rfl; (with_reducible repeat (first | apply zuW | apply ztN | apply zqY)); refine zlL (cs := #[.int .i64 t388, .int .i64 t389, .int .i64 t390, .int .i64 0, .int .i64 0, .int .i64 0]) ?_ 3 _ rfl; (with_reducible repeat (first | apply zuW | apply ztN | apply zqY)); refine zlL (cs := #[.int .i64 t388, .int .i64 t389, .int .i64 0, .int .i64 0, .int .i64 0, .int .i64 0]) ?_ 2 _ rfl; (with_reducible repeat (first | apply zuW | apply ztN | apply zqY)); refine zlL (cs := #[.int .i64 t388, .int .i64 0, .int .i64 0, .int .i64 0, .int .i64 0, .int .i64 0]) ?_ 1 _ rfl; (with_reducible repeat (first | apply zuW | apply ztN | apply zqY)); refine zlL (cs := #[.int .i64 0, .int .i64 0, .int .i64 0, .int .i64 0, .int .i64 0, .int .i64 0]) ?_ 0 _ rfl; (with_reducible repeat (first | apply zuW | apply ztN | apply zqY)); exact BK394.out) hb); have n4_ := (ns_ hb); clear BK379; clear BK380; clear BK387; clear BK394; clear HB; have BK379 := n0_; have BK380 := n1_; have BK387 := n2_; have BK394 := n3_; have HB := n4_; clear n0_ n1_ n2_ n3_ n4_; (try clear hb); (try clear hb2)))
     go_roundg k1
     case measure => have := HK1.out; omega
     case rel => exact ⟨(wrap64 (x11_1 + 1)), (by first | rfl | (simp; done) | (simp [*]; done)), H', ⟨by have := HK1.out; omega⟩, ⟨bk_⟩, ⟨bk_⟩, ⟨bk_⟩, ⟨bb_⟩⟩
   ·rw [if_neg c14] at H
    have c14b0 : decide (x11_1 < 16) = false := decide_eq_false c14
    clear c14
    obtain rfl := Option.some.inj H
    go_wp2
    go_ret
    exact ⟨by first | rfl | (simp [ziS, znJ] <;> rfl) | (simp [*, ziS, znJ] <;> rfl), bb_⟩

def zbC.f (a0 : Int) : Option (Int) := some (Go.bits .and .i64 a0 15)
set_option maxHeartbeats 8000000 in
set_option maxRecDepth 100000 in
theorem zbC.calls (a0 : Int) (r : Int) (w : World) (h : zbC.f a0 = some r) :
  Calls Tryd.prog 107 #[.int .i64 a0] w fun e w' => e = .returned (.int .i64 r) ∧ Drawn0 w w' := by
 have H : (some (Go.bits .and .i64 a0 15)) = some r := h
 clear h
 obtain rfl := Option.some.inj H
 go_enter Tryd.func107, Tryd.ntmps107
 go_wp2
 go_ret
 exact ⟨by first | rfl | (simp; done) | (simp [*]; done), by repeat (first | exact Drawn0.refl _ | apply Drawn0.step)⟩

end Go.Proofs.YtmajpmofeddknaaDoor.PFnExactValidPlaces
