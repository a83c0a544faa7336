-- Printed for this claim by this session's program pp.py, which drives the kit's print with additions. Not trusted: Lean checks it.
import Derived.Test.YtbnfbflfhpniaaaDoorV1PFnExactNormalPolygonx0
import Derived.Test.YtbnfbflfhpniaaaDoorV1PFnExactNormalPolygonx1
import Derived.Test.YtbnfbflfhpniaaaDoorV1PFnExactNormalPolygonx9
import Derived.Test.YtbnfbflfhpniaaaDoorV1PFnExactNormalPolygonx10
import Derived.Test.YtbnfbflfhpniaaaDoorV1PFnExactNormalPolygonx12
namespace Go.Proofs.YtbnfbflfhpniaaaDoor.PFnExactNormalPolygon
open Go.RowKit Go.Proofs.YtbnfbflfhpniaaaDoorW.PrintWords Go.Proofs.YtbnfbflfhpniaaaDoorW.PrintLast Go.Proofs.YtbnfbflfhpniaaaDoorW.PrintMore
attribute [local go_sem] zbB ziC zrC zhD znE zuB znH zkT   -- for this text's walks alone
set_option linter.unusedVariables false
set_option maxHeartbeats 8000000
set_option maxRecDepth 100000
set_option linter.unusedSimpArgs false

attribute [local go_sem high] eqA33
def zhX.f (k : Nat) (a0_0 : Int) (a0_1 : Int) (a0_2 : Int) (a0_3 : Int) (a0_4 : Int) (a0_5 : Int) (a1_0 : Int) (a1_1 : Int) (a1_2 : Int) (a1_3 : Int) (a1_4 : Int) (a1_5 : Int) : Option (Int × Int × Int) := (zeF.f k a0_0 a0_1 a0_2 a1_3 a1_4 a1_5).bind fun bt427 => ((zeF.f k a0_3 a0_4 a0_5 a1_0 a1_1 a1_2).bind fun bt430 => ((zpR.f k bt427.1 bt427.2.1 bt427.2.2 bt430.1 bt430.2.1 bt430.2.2).bind fun bt433 => (some (bt433.1, bt433.2.1, bt433.2.2))))
theorem zhX.mono : ∀ a0 a1 a2 a3 a4 a5 a6 a7 a8 a9 a10 a11 k, LeO (zhX.f k a0 a1 a2 a3 a4 a5 a6 a7 a8 a9 a10 a11) (zhX.f (k + 1) a0 a1 a2 a3 a4 a5 a6 a7 a8 a9 a10 a11) := by
 intro a0 a1 a2 a3 a4 a5 a6 a7 a8 a9 a10 a11 k
 unfold zhX.f
 repeat' first
   | (with_reducible exact zpR.mono _ _ _ _ _ _ _)
   | (with_reducible exact zeF.mono _ _ _ _ _ _ _)
   | (with_reducible exact LeO.refl _)
   | (with_reducible exact LeO.none _)
   | (with_reducible refine LeO.ite ?_ ?_)
   | (with_reducible refine LeO.bind ?_ (fun _ => ?_))
   | exact zpR.mono _ _ _ _ _ _ _
   | exact zeF.mono _ _ _ _ _ _ _
   | exact LeO.none _
   | refine LeO.ite ?_ ?_
   | refine LeO.bind ?_ (fun _ => ?_)
def zhX.T1 : Bool × List (List Nat × List Nat) := (true, [([], []), ([0], [0]), ([], []), ([2], [2]), ([1, 3], [1, 3]), ([], []), ([5], [5]), ([], []), ([7], [7]), ([6, 8, 4], [6, 8]), ([4, 9, 9], [4, 9]), ([10, 10, 0, 1, 2, 3, 4, 5, 6, 7, 8, 9, 10], [10])])
def zhX.B1 : List Nat := [0, 1, 0, 4, 15, 0, 32, 0, 128, 511, 1023, 2047]
theorem zhX.tab1 : rtab .any (opsOf Tryd.f56 1) = zhX.T1 := by kernel_rfl
theorem zhX.bits1 : ztG zhX.T1.2 zhX.B1 = true := by kernel_rfl
theorem zhX.calls (k : Nat) (a0_0 : Int) (a0_1 : Int) (a0_2 : Int) (a0_3 : Int) (a0_4 : Int) (a0_5 : Int) (a1_0 : Int) (a1_1 : Int) (a1_2 : Int) (a1_3 : Int) (a1_4 : Int) (a1_5 : Int) (r1 : Int) (r2 : Int) (r3 : Int) (w : World) (h : zhX.f k a0_0 a0_1 a0_2 a0_3 a0_4 a0_5 a1_0 a1_1 a1_2 a1_3 a1_4 a1_5 = some (r1, r2, r3)) :
  Calls Tryd.prog 56 #[.agg #[.int .i64 a0_0, .int .i64 a0_1, .int .i64 a0_2, .int .i64 a0_3, .int .i64 a0_4, .int .i64 a0_5], .agg #[.int .i64 a1_0, .int .i64 a1_1, .int .i64 a1_2, .int .i64 a1_3, .int .i64 a1_4, .int .i64 a1_5]] w fun e w' => e = .returned (.agg #[.int .i64 r1, .int .i64 r2, .int .i64 r3]) ∧ Below w.heap.size w w' := by
 have hu35 := Tryd.underlying35
 have hu33 := Tryd.underlying33
 have HB := zpS (Below.refl w.heap.size w)
 have H : ((zeF.f k a0_0 a0_1 a0_2 a1_3 a1_4 a1_5).bind fun bt427 => ((zeF.f k a0_3 a0_4 a0_5 a1_0 a1_1 a1_2).bind fun bt430 => ((zpR.f k bt427.1 bt427.2.1 bt427.2.2 bt430.1 bt430.2.1 bt430.2.2).bind fun bt433 => (some (bt433.1, bt433.2.1, bt433.2.2))))) = some (r1, r2, r3) := h
 clear h
 replace H := Option.bind_eq_some_iff.mp H
 obtain ⟨⟨t427, t428, t429⟩, A30, H⟩ := H
 replace H : ((zeF.f k a0_3 a0_4 a0_5 a1_0 a1_1 a1_2).bind fun bt430 => ((zpR.f k t427 t428 t429 bt430.1 bt430.2.1 bt430.2.2).bind fun bt433 => (some (bt433.1, bt433.2.1, bt433.2.2)))) = some (r1, r2, r3) := H
 have A3 := zpS A30
 clear A30
 replace H := Option.bind_eq_some_iff.mp H
 obtain ⟨⟨t430, t431, t432⟩, A40, H⟩ := H
 replace H : ((zpR.f k t427 t428 t429 t430 t431 t432).bind fun bt433 => (some (bt433.1, bt433.2.1, bt433.2.2))) = some (r1, r2, r3) := H
 have A4 := zpS A40
 clear A40
 replace H := Option.bind_eq_some_iff.mp H
 obtain ⟨⟨t433, t434, t435⟩, A50, H⟩ := H
 replace H : (some (t433, t434, t435)) = some (r1, r2, r3) := H
 have A5 := zpS A50
 clear A50
 simp only [Option.some.injEq, Prod.mk.injEq] at H
 obtain ⟨rfl, rfl, rfl⟩ := H
 go_enter Tryd.func56, Tryd.ntmps56
 try go_wp2_with (first | ((with_reducible refine zpZ (N := 2) rfl ?_); refine bx_ 2 #[.int .i64 a0_0, .int .i64 a0_1, .int .i64 a0_2, .int .i64 a0_3, .int .i64 a0_4, .int .i64 a0_5] 35 ?_; intro gb424 hg w6 hbox hb; have n0_ := (ns_ hb); have n1_ := zpS (hbox); have n2_ := (ng_ hg); have n3_ := n2_; clear HB; have HB := n0_; have BK424 := n1_; have GW424 := n2_; have GE424 := n3_; clear n0_ n1_ n2_ n3_; clear hb hbox hg) | ((with_reducible refine zpZ (N := 3) rfl ?_); refine bx_ 3 #[.int .i64 a1_0, .int .i64 a1_1, .int .i64 a1_2, .int .i64 a1_3, .int .i64 a1_4, .int .i64 a1_5] 35 ?_; intro gb425 hg w7 hbox hb; have n0_ := zpS (zgM (g := gb424) (o := .cells #[.int .i64 a0_0, .int .i64 a0_1, .int .i64 a0_2, .int .i64 a0_3, .int .i64 a0_4, .int .i64 a0_5] 35 (0, 0)) bk_ hb); have n1_ := (ns_ hb); have n2_ := zpS (hbox); have n3_ := (ng_ hg); have n4_ := n3_; have n5_ := zpS ((by rw [hg]; exact Nat.ne_of_lt (zmN (g := gb424) (o := .cells #[.int .i64 a0_0, .int .i64 a0_1, .int .i64 a0_2, .int .i64 a0_3, .int .i64 a0_4, .int .i64 a0_5] 35 (0, 0)) bk_) : gb424 ≠ gb425)); have n6_ := zpS ((by rw [hg]; exact Nat.ne_of_gt (zmN (g := gb424) (o := .cells #[.int .i64 a0_0, .int .i64 a0_1, .int .i64 a0_2, .int .i64 a0_3, .int .i64 a0_4, .int .i64 a0_5] 35 (0, 0)) bk_) : gb425 ≠ gb424)); clear BK424; clear HB; have BK424 := n0_; have HB := n1_; have BK425 := n2_; have GW425 := n3_; have GE425 := n4_; have NB424_425 := n5_; have NB425_424 := n6_; clear n0_ n1_ n2_ n3_ n4_ n5_ n6_; clear hb hbox hg) | ((with_reducible refine zpZ (N := 4) rfl ?_); refine bx_ 4 #[.int .i64 0, .int .i64 0, .int .i64 0] 33 ?_; intro gb426 hg w8 hbox hb; have n0_ := zpS (zgM (g := gb424) (o := .cells #[.int .i64 a0_0, .int .i64 a0_1, .int .i64 a0_2, .int .i64 a0_3, .int .i64 a0_4, .int .i64 a0_5] 35 (0, 0)) bk_ hb); have n1_ := zpS (zgM (g := gb425) (o := .cells #[.int .i64 a1_0, .int .i64 a1_1, .int .i64 a1_2, .int .i64 a1_3, .int .i64 a1_4, .int .i64 a1_5] 35 (0, 0)) bk_ hb); have n2_ := (ns_ hb); have n3_ := zpS (hbox); have n4_ := (ng_ hg); have n5_ := n4_; have n6_ := zpS ((by rw [hg]; exact Nat.ne_of_lt (zmN (g := gb424) (o := .cells #[.int .i64 a0_0, .int .i64 a0_1, .int .i64 a0_2, .int .i64 a0_3, .int .i64 a0_4, .int .i64 a0_5] 35 (0, 0)) bk_) : gb424 ≠ gb426)); have n7_ := zpS ((by rw [hg]; exact Nat.ne_of_gt (zmN (g := gb424) (o := .cells #[.int .i64 a0_0, .int .i64 a0_1, .int .i64 a0_2, .int .i64 a0_3, .int .i64 a0_4, .int .i64 a0_5] 35 (0, 0)) bk_) : gb426 ≠ gb424)); have n8_ := zpS ((by rw [hg]; exact Nat.ne_of_lt (zmN (g := gb425) (o := .cells #[.int .i64 a1_0, .int .i64 a1_1, .int .i64 a1_2, .int .i64 a1_3, .int .i64 a1_4, .int .i64 a1_5] 35 (0, 0)) bk_) : gb425 ≠ gb426)); have n9_ := zpS ((by rw [hg]; exact Nat.ne_of_gt (zmN (g := gb425) (o := .cells #[.int .i64 a1_0, .int .i64 a1_1, .int .i64 a1_2, .int .i64 a1_3, .int .i64 a1_4, .int .i64 a1_5] 35 (0, 0)) bk_) : gb426 ≠ gb425)); clear BK424; clear BK425; clear HB; have BK424 := n0_; have BK425 := n1_; have HB := n2_; have BK426 := n3_; have GW426 := n4_; have GE426 := n5_; have NB424_426 := n6_; have NB426_424 := n7_; have NB425_426 := n8_; have NB426_425 := n9_; clear n0_ n1_ n2_ n3_ n4_ n5_ n6_ n7_ n8_ n9_; clear hb hbox hg))
 have n0_ := zpS (ztN BK424.out)
 have n1_ := zpS (ztN BK425.out)
 have n2_ := zpS (ztN BK426.out)
 have n3_ := zpS (zvF HB.out)
 clear BK424
 clear BK425
 clear BK426
 clear HB
 have BK424 := n0_
 have BK425 := n1_
 have BK426 := n2_
 have HB := n3_
 clear n0_ n1_ n2_ n3_
 refine zpB (n := 12) (S := fun w' => w'.cell? ⟨gb424, 0, none⟩ = some (.int .i64 a0_0) ∧ w'.cell? ⟨gb424, 1, none⟩ = some (.int .i64 a0_1) ∧ w'.cell? ⟨gb424, 2, none⟩ = some (.int .i64 a0_2) ∧ w'.cell? ⟨gb424, 3, none⟩ = some (.int .i64 a0_3) ∧ w'.cell? ⟨gb424, 4, none⟩ = some (.int .i64 a0_4) ∧ w'.cell? ⟨gb424, 5, none⟩ = some (.int .i64 a0_5) ∧ w'.cell? ⟨gb425, 0, none⟩ = some (.int .i64 a1_0) ∧ w'.cell? ⟨gb425, 1, none⟩ = some (.int .i64 a1_1) ∧ w'.cell? ⟨gb425, 2, none⟩ = some (.int .i64 a1_2) ∧ w'.cell? ⟨gb425, 3, none⟩ = some (.int .i64 a1_3) ∧ w'.cell? ⟨gb425, 4, none⟩ = some (.int .i64 a1_4) ∧ w'.cell? ⟨gb425, 5, none⟩ = some (.int .i64 a1_5)) (ds := []) #[false, false, false, false, false, false, false, false, false, false, false, false] (by kernel_rfl) rfl rfl ⟨(zzS BK424.out 0).trans rfl, (zzS BK424.out 1).trans rfl, (zzS BK424.out 2).trans rfl, (zzS BK424.out 3).trans rfl, (zzS BK424.out 4).trans rfl, (zzS BK424.out 5).trans rfl, (zzS BK425.out 0).trans rfl, (zzS BK425.out 1).trans rfl, (zzS BK425.out 2).trans rfl, (zzS BK425.out 3).trans rfl, (zzS BK425.out 4).trans rfl, (zzS BK425.out 5).trans rfl⟩ (fun hHeld => ?_); refine zwI zhX.tab1 zhX.bits1 (fun HT_ HW_ => ?_)
 generalize w8.drew = w9 at BK424 BK425 BK426 HB hHeld ⊢
 refine pu_ 0 (some 5) (bl_ 12 1) ?_
 refine pu_ 2 (some 7) (bl_ 12 5) ?_
 refine pu_ 5 (some 10) (bl_ 12 37) ?_
 refine pu_ 7 (some 12) (bl_ 12 165) ?_
 refine zmW 1 (some 6) (bl_ 12 167) hHeld ?_
 refine zmW 3 (some 8) (bl_ 12 175) hHeld ?_
 refine zmW 6 (some 11) (bl_ 12 239) hHeld ?_
 refine zmW 8 (some 13) (bl_ 12 495) hHeld ?_
 refine zdC (i := 4) (N := some 9) (bl_ 12 511) rfl rfl (zeO HT_.out (by kernel_rfl)) (by decide) (fun K hK => ?_)
 refine zqW Tryd.func66 (by kernel_rfl) rfl #[.agg #[.int .i64 a0_0, .int .i64 a0_1, .int .i64 a0_2], .agg #[.int .i64 a1_3, .int .i64 a1_4, .int .i64 a1_5]] (by rfl) rfl rfl (by (try simp only [List.map_toArray, List.map_cons, List.map_nil]); first | done | rfl | (simp only [List.length_drop, List.length_take]; rfl)) ?_
 with_reducible refine (zeF.calls k a0_0 a0_1 a0_2 a1_3 a1_4 a1_5 t427 t428 t429 _ A3.out).mono ?_
 rintro e w10 ⟨rfl, hb⟩
 refine ⟨_, rfl, ?_⟩
 have n0_ := zpS (zgM (g := gb424) (o := .cells #[.int .i64 a0_0, .int .i64 a0_1, .int .i64 a0_2, .int .i64 a0_3, .int .i64 a0_4, .int .i64 a0_5] 35 (0, 0)) bk_ hb)
 have n1_ := zpS (zgM (g := gb425) (o := .cells #[.int .i64 a1_0, .int .i64 a1_1, .int .i64 a1_2, .int .i64 a1_3, .int .i64 a1_4, .int .i64 a1_5] 35 (0, 0)) bk_ hb)
 have n2_ := zpS (zgM (g := gb426) (o := .cells #[.int .i64 0, .int .i64 0, .int .i64 0] 33 (0, 0)) bk_ hb)
 have n3_ := (ns_ hb)
 clear BK424
 clear BK425
 clear BK426
 clear HB
 have BK424 := n0_
 have BK425 := n1_
 have BK426 := n2_
 have HB := n3_
 clear n0_ n1_ n2_ n3_
 (try clear hb)
 (try clear hb2)
 (try clear hk)
 (try clear hi)
 refine hK.out _ _ ⟨(zzS BK424.out 0).trans rfl, (zzS BK424.out 1).trans rfl, (zzS BK424.out 2).trans rfl, (zzS BK424.out 3).trans rfl, (zzS BK424.out 4).trans rfl, (zzS BK424.out 5).trans rfl, (zzS BK425.out 0).trans rfl, (zzS BK425.out 1).trans rfl, (zzS BK425.out 2).trans rfl, (zzS BK425.out 3).trans rfl, (zzS BK425.out 4).trans rfl, (zzS BK425.out 5).trans rfl⟩ (fun hHeld => ?_)
 clear hK K
 refine zaN (a' := ?_) ?_ ?_
 rotate_left
 ·show Act.put _ (some 9) _ = _
  simp only [Act.put, List.setIfInBounds_toArray, List.set_cons_zero, List.set_cons_succ, zcM, ziK]
  rfl
 refine zdC (i := 9) (N := some 14) (bl_ 12 1023) rfl rfl (zeO HT_.out (by kernel_rfl)) (by decide) (fun K hK => ?_)
 refine zqW Tryd.func66 (by kernel_rfl) rfl #[.agg #[.int .i64 a0_3, .int .i64 a0_4, .int .i64 a0_5], .agg #[.int .i64 a1_0, .int .i64 a1_1, .int .i64 a1_2]] (by rfl) rfl rfl (by (try simp only [List.map_toArray, List.map_cons, List.map_nil]); first | done | rfl | (simp only [List.length_drop, List.length_take]; rfl)) ?_
 with_reducible refine (zeF.calls k a0_3 a0_4 a0_5 a1_0 a1_1 a1_2 t430 t431 t432 _ A4.out).mono ?_
 rintro e w11 ⟨rfl, hb⟩
 refine ⟨_, rfl, ?_⟩
 have n0_ := zpS (zgM (g := gb424) (o := .cells #[.int .i64 a0_0, .int .i64 a0_1, .int .i64 a0_2, .int .i64 a0_3, .int .i64 a0_4, .int .i64 a0_5] 35 (0, 0)) bk_ hb)
 have n1_ := zpS (zgM (g := gb425) (o := .cells #[.int .i64 a1_0, .int .i64 a1_1, .int .i64 a1_2, .int .i64 a1_3, .int .i64 a1_4, .int .i64 a1_5] 35 (0, 0)) bk_ hb)
 have n2_ := zpS (zgM (g := gb426) (o := .cells #[.int .i64 0, .int .i64 0, .int .i64 0] 33 (0, 0)) bk_ hb)
 have n3_ := (ns_ hb)
 clear BK424
 clear BK425
 clear BK426
 clear HB
 have BK424 := n0_
 have BK425 := n1_
 have BK426 := n2_
 have HB := n3_
 clear n0_ n1_ n2_ n3_
 (try clear hb)
 (try clear hb2)
 (try clear hk)
 (try clear hi)
 refine hK.out _ _ ⟨(zzS BK424.out 0).trans rfl, (zzS BK424.out 1).trans rfl, (zzS BK424.out 2).trans rfl, (zzS BK424.out 3).trans rfl, (zzS BK424.out 4).trans rfl, (zzS BK424.out 5).trans rfl, (zzS BK425.out 0).trans rfl, (zzS BK425.out 1).trans rfl, (zzS BK425.out 2).trans rfl, (zzS BK425.out 3).trans rfl, (zzS BK425.out 4).trans rfl, (zzS BK425.out 5).trans rfl⟩ (fun hHeld => ?_)
 clear hK K
 refine zaN (a' := ?_) ?_ ?_
 rotate_left
 ·show Act.put _ (some 14) _ = _
  simp only [Act.put, List.setIfInBounds_toArray, List.set_cons_zero, List.set_cons_succ, zcM, ziK]
  rfl
 refine zdC (i := 10) (N := some 15) (bl_ 12 2047) rfl rfl (zeO HT_.out (by kernel_rfl)) (by decide) (fun K hK => ?_)
 refine zqW Tryd.func64 (by kernel_rfl) rfl #[.agg #[.int .i64 t427, .int .i64 t428, .int .i64 t429], .agg #[.int .i64 t430, .int .i64 t431, .int .i64 t432]] (by rfl) rfl rfl (by (try simp only [List.map_toArray, List.map_cons, List.map_nil]); first | done | rfl | (simp only [List.length_drop, List.length_take]; rfl)) ?_
 with_reducible refine (zpR.calls k t427 t428 t429 t430 t431 t432 t433 t434 t435 _ A5.out).mono ?_
 rintro e w12 ⟨rfl, hb⟩
 refine ⟨_, rfl, ?_⟩
 have n0_ := zpS (zgM (g := gb424) (o := .cells #[.int .i64 a0_0, .int .i64 a0_1, .int .i64 a0_2, .int .i64 a0_3, .int .i64 a0_4, .int .i64 a0_5] 35 (0, 0)) bk_ hb)
 have n1_ := zpS (zgM (g := gb425) (o := .cells #[.int .i64 a1_0, .int .i64 a1_1, .int .i64 a1_2, .int .i64 a1_3, .int .i64 a1_4, .int .i64 a1_5] 35 (0, 0)) bk_ hb)
 have n2_ := zpS (zgM (g := gb426) (o := .cells #[.int .i64 0, .int .i64 0, .int .i64 0] 33 (0, 0)) bk_ hb)
 have n3_ := (ns_ hb)
 clear BK424
 clear BK425
 clear BK426
 clear HB
 have BK424 := n0_
 have BK425 := n1_
 have BK426 := n2_
 have HB := n3_
 clear n0_ n1_ n2_ n3_
 (try clear hb)
 (try clear hb2)
 (try clear hk)
 (try clear hi)
 refine hK.out _ _ ⟨(zzS BK424.out 0).trans rfl, (zzS BK424.out 1).trans rfl, (zzS BK424.out 2).trans rfl, (zzS BK424.out 3).trans rfl, (zzS BK424.out 4).trans rfl, (zzS BK424.out 5).trans rfl, (zzS BK425.out 0).trans rfl, (zzS BK425.out 1).trans rfl, (zzS BK425.out 2).trans rfl, (zzS BK425.out 3).trans rfl, (zzS BK425.out 4).trans rfl, (zzS BK425.out 5).trans rfl⟩ (fun hHeld => ?_)
 clear hK K
 refine zaN (a' := ?_) ?_ ?_
 rotate_left
 ·show Act.put _ (some 15) _ = _
  simp only [Act.put, List.setIfInBounds_toArray, List.set_cons_zero, List.set_cons_succ, zcM, ziK]
  rfl
 refine zdC (i := 11) (N := none) (bl_ 12 4095) rfl rfl (zeO HT_.out (by kernel_rfl)) (by decide) (fun K hK => ?_)
 have hs13 : w12.cell? ⟨gb426, 0, none⟩ = some (.int .i64 0) := (zzS BK426.out 0).trans rfl
 have hfs13 := zjF BK426.out 0
 have hns13_0 := NB424_426.out
 have hns13_1 := NB425_426.out
 have hms13_0 := NB426_424.out
 have hms13_1 := NB426_425.out
 have hs14 : w12.cell? ⟨gb426, 1, none⟩ = some (.int .i64 0) := (zzS BK426.out 1).trans rfl
 have hfs14 := zjF BK426.out 1
 have hns14_0 := NB424_426.out
 have hns14_1 := NB425_426.out
 have hms14_0 := NB426_424.out
 have hms14_1 := NB426_425.out
 have hs15 : w12.cell? ⟨gb426, 2, none⟩ = some (.int .i64 0) := (zzS BK426.out 2).trans rfl
 have hfs15 := zjF BK426.out 2
 have hns15_0 := NB424_426.out
 have hns15_1 := NB425_426.out
 have hms15_0 := NB426_424.out
 have hms15_1 := NB426_425.out
 refine skip_ (w1 := ?_) (by rfl) rfl ?_ ?_
 rotate_left
 ·go_simp
  rfl
 refine hK.out _ _ ⟨((zgQ (p := ⟨gb426, _, none⟩) NB424_426.out _).trans (((zgQ (p := ⟨gb426, _, none⟩) NB424_426.out _).trans (((zgQ (p := ⟨gb426, _, none⟩) NB424_426.out _).trans (hHeld.1)))))), ((zgQ (p := ⟨gb426, _, none⟩) NB424_426.out _).trans (((zgQ (p := ⟨gb426, _, none⟩) NB424_426.out _).trans (((zgQ (p := ⟨gb426, _, none⟩) NB424_426.out _).trans (hHeld.2.1)))))), ((zgQ (p := ⟨gb426, _, none⟩) NB424_426.out _).trans (((zgQ (p := ⟨gb426, _, none⟩) NB424_426.out _).trans (((zgQ (p := ⟨gb426, _, none⟩) NB424_426.out _).trans (hHeld.2.2.1)))))), ((zgQ (p := ⟨gb426, _, none⟩) NB424_426.out _).trans (((zgQ (p := ⟨gb426, _, none⟩) NB424_426.out _).trans (((zgQ (p := ⟨gb426, _, none⟩) NB424_426.out _).trans (hHeld.2.2.2.1)))))), ((zgQ (p := ⟨gb426, _, none⟩) NB424_426.out _).trans (((zgQ (p := ⟨gb426, _, none⟩) NB424_426.out _).trans (((zgQ (p := ⟨gb426, _, none⟩) NB424_426.out _).trans (hHeld.2.2.2.2.1)))))), ((zgQ (p := ⟨gb426, _, none⟩) NB424_426.out _).trans (((zgQ (p := ⟨gb426, _, none⟩) NB424_426.out _).trans (((zgQ (p := ⟨gb426, _, none⟩) NB424_426.out _).trans (hHeld.2.2.2.2.2.1)))))), ((zgQ (p := ⟨gb426, _, none⟩) NB425_426.out _).trans (((zgQ (p := ⟨gb426, _, none⟩) NB425_426.out _).trans (((zgQ (p := ⟨gb426, _, none⟩) NB425_426.out _).trans (hHeld.2.2.2.2.2.2.1)))))), ((zgQ (p := ⟨gb426, _, none⟩) NB425_426.out _).trans (((zgQ (p := ⟨gb426, _, none⟩) NB425_426.out _).trans (((zgQ (p := ⟨gb426, _, none⟩) NB425_426.out _).trans (hHeld.2.2.2.2.2.2.2.1)))))), ((zgQ (p := ⟨gb426, _, none⟩) NB425_426.out _).trans (((zgQ (p := ⟨gb426, _, none⟩) NB425_426.out _).trans (((zgQ (p := ⟨gb426, _, none⟩) NB425_426.out _).trans (hHeld.2.2.2.2.2.2.2.2.1)))))), ((zgQ (p := ⟨gb426, _, none⟩) NB425_426.out _).trans (((zgQ (p := ⟨gb426, _, none⟩) NB425_426.out _).trans (((zgQ (p := ⟨gb426, _, none⟩) NB425_426.out _).trans (hHeld.2.2.2.2.2.2.2.2.2.1)))))), ((zgQ (p := ⟨gb426, _, none⟩) NB425_426.out _).trans (((zgQ (p := ⟨gb426, _, none⟩) NB425_426.out _).trans (((zgQ (p := ⟨gb426, _, none⟩) NB425_426.out _).trans (hHeld.2.2.2.2.2.2.2.2.2.2.1)))))), ((zgQ (p := ⟨gb426, _, none⟩) NB425_426.out _).trans (((zgQ (p := ⟨gb426, _, none⟩) NB425_426.out _).trans (((zgQ (p := ⟨gb426, _, none⟩) NB425_426.out _).trans (hHeld.2.2.2.2.2.2.2.2.2.2.2))))))⟩ (fun hHeld => ?_)
 clear hK K
 refine znK (zzP HT_.out (by kernel_rfl)) ?_
 try go_wp2
 refine bodyPost_ret (results_cell_row rfl _ _ gb426 33 #[.int .i64 t433, .int .i64 t434, .int .i64 t435] (0, 0) _ rfl (by (with_reducible repeat (first | apply zuW | apply ztN | apply zqY)); refine zlL (cs := #[.int .i64 t433, .int .i64 t434, .int .i64 0]) ?_ 2 _ rfl; (with_reducible repeat (first | apply zuW | apply ztN | apply zqY)); refine zlL (cs := #[.int .i64 t433, .int .i64 0, .int .i64 0]) ?_ 1 _ rfl; (with_reducible repeat (first | apply zuW | apply ztN | apply zqY)); refine zlL (cs := #[.int .i64 0, .int .i64 0, .int .i64 0]) ?_ 0 _ rfl; (with_reducible repeat (first | apply zuW | apply ztN | apply zqY)); exact BK426.out) Tryd.underlying33 rfl (by kernel_rfl)) rfl ?_
 exact ⟨by first | rfl | (simp [ziS, znJ] <;> rfl) | (simp [*, ziS, znJ] <;> rfl), bb_⟩

def ztL.f (k : Nat) (a0_0 : Int) (a0_1 : Int) (a0_2 : Int) (a0_3 : Int) (a0_4 : Int) (a0_5 : Int) (a1_0 : Int) (a1_1 : Int) (a1_2 : Int) (a1_3 : Int) (a1_4 : Int) (a1_5 : Int) : Option (Int × Int × Int) := (zeF.f k a0_0 a0_1 a0_2 a1_0 a1_1 a1_2).bind fun bt439 => ((zeF.f k a0_3 a0_4 a0_5 a1_3 a1_4 a1_5).bind fun bt442 => ((zjL.f k bt439.1 bt439.2.1 bt439.2.2 bt442.1 bt442.2.1 bt442.2.2).bind fun bt445 => (some (bt445.1, bt445.2.1, bt445.2.2))))
theorem ztL.mono : ∀ a0 a1 a2 a3 a4 a5 a6 a7 a8 a9 a10 a11 k, LeO (ztL.f k a0 a1 a2 a3 a4 a5 a6 a7 a8 a9 a10 a11) (ztL.f (k + 1) a0 a1 a2 a3 a4 a5 a6 a7 a8 a9 a10 a11) := by
 intro a0 a1 a2 a3 a4 a5 a6 a7 a8 a9 a10 a11 k
 unfold ztL.f
 repeat' first
   | (with_reducible exact zjL.mono _ _ _ _ _ _ _)
   | (with_reducible exact zeF.mono _ _ _ _ _ _ _)
   | (with_reducible exact LeO.refl _)
   | (with_reducible exact LeO.none _)
   | (with_reducible refine LeO.ite ?_ ?_)
   | (with_reducible refine LeO.bind ?_ (fun _ => ?_))
   | exact zjL.mono _ _ _ _ _ _ _
   | exact zeF.mono _ _ _ _ _ _ _
   | exact LeO.none _
   | refine LeO.ite ?_ ?_
   | refine LeO.bind ?_ (fun _ => ?_)
def ztL.T1 : Bool × List (List Nat × List Nat) := (true, [([], []), ([0], [0]), ([], []), ([2], [2]), ([1, 3], [1, 3]), ([], []), ([5], [5]), ([], []), ([7], [7]), ([6, 8, 4], [6, 8]), ([4, 9, 9], [4, 9]), ([10, 10, 0, 1, 2, 3, 4, 5, 6, 7, 8, 9, 10], [10])])
def ztL.B1 : List Nat := [0, 1, 0, 4, 15, 0, 32, 0, 128, 511, 1023, 2047]
theorem ztL.tab1 : rtab .any (opsOf Tryd.f57 1) = ztL.T1 := by kernel_rfl
theorem ztL.bits1 : ztG ztL.T1.2 ztL.B1 = true := by kernel_rfl
theorem ztL.calls (k : Nat) (a0_0 : Int) (a0_1 : Int) (a0_2 : Int) (a0_3 : Int) (a0_4 : Int) (a0_5 : Int) (a1_0 : Int) (a1_1 : Int) (a1_2 : Int) (a1_3 : Int) (a1_4 : Int) (a1_5 : Int) (r1 : Int) (r2 : Int) (r3 : Int) (w : World) (h : ztL.f k a0_0 a0_1 a0_2 a0_3 a0_4 a0_5 a1_0 a1_1 a1_2 a1_3 a1_4 a1_5 = some (r1, r2, r3)) :
  Calls Tryd.prog 57 #[.agg #[.int .i64 a0_0, .int .i64 a0_1, .int .i64 a0_2, .int .i64 a0_3, .int .i64 a0_4, .int .i64 a0_5], .agg #[.int .i64 a1_0, .int .i64 a1_1, .int .i64 a1_2, .int .i64 a1_3, .int .i64 a1_4, .int .i64 a1_5]] w fun e w' => e = .returned (.agg #[.int .i64 r1, .int .i64 r2, .int .i64 r3]) ∧ Below w.heap.size w w' := by
 have hu35 := Tryd.underlying35
 have hu33 := Tryd.underlying33
 have HB := zpS (Below.refl w.heap.size w)
 have H : ((zeF.f k a0_0 a0_1 a0_2 a1_0 a1_1 a1_2).bind fun bt439 => ((zeF.f k a0_3 a0_4 a0_5 a1_3 a1_4 a1_5).bind fun bt442 => ((zjL.f k bt439.1 bt439.2.1 bt439.2.2 bt442.1 bt442.2.1 bt442.2.2).bind fun bt445 => (some (bt445.1, bt445.2.1, bt445.2.2))))) = some (r1, r2, r3) := h
 clear h
 replace H := Option.bind_eq_some_iff.mp H
 obtain ⟨⟨t439, t440, t441⟩, A30, H⟩ := H
 replace H : ((zeF.f k a0_3 a0_4 a0_5 a1_3 a1_4 a1_5).bind fun bt442 => ((zjL.f k t439 t440 t441 bt442.1 bt442.2.1 bt442.2.2).bind fun bt445 => (some (bt445.1, bt445.2.1, bt445.2.2)))) = some (r1, r2, r3) := H
 have A3 := zpS A30
 clear A30
 replace H := Option.bind_eq_some_iff.mp H
 obtain ⟨⟨t442, t443, t444⟩, A40, H⟩ := H
 replace H : ((zjL.f k t439 t440 t441 t442 t443 t444).bind fun bt445 => (some (bt445.1, bt445.2.1, bt445.2.2))) = some (r1, r2, r3) := H
 have A4 := zpS A40
 clear A40
 replace H := Option.bind_eq_some_iff.mp H
 obtain ⟨⟨t445, t446, t447⟩, A50, H⟩ := H
 replace H : (some (t445, t446, t447)) = some (r1, r2, r3) := H
 have A5 := zpS A50
 clear A50
 simp only [Option.some.injEq, Prod.mk.injEq] at H
 obtain ⟨rfl, rfl, rfl⟩ := H
 go_enter Tryd.func57, Tryd.ntmps57
 try go_wp2_with (first | ((with_reducible refine zpZ (N := 2) rfl ?_); refine bx_ 2 #[.int .i64 a0_0, .int .i64 a0_1, .int .i64 a0_2, .int .i64 a0_3, .int .i64 a0_4, .int .i64 a0_5] 35 ?_; intro gb436 hg w6 hbox hb; have n0_ := (ns_ hb); have n1_ := zpS (hbox); have n2_ := (ng_ hg); have n3_ := n2_; clear HB; have HB := n0_; have BK436 := n1_; have GW436 := n2_; have GE436 := n3_; clear n0_ n1_ n2_ n3_; clear hb hbox hg) | ((with_reducible refine zpZ (N := 3) rfl ?_); refine bx_ 3 #[.int .i64 a1_0, .int .i64 a1_1, .int .i64 a1_2, .int .i64 a1_3, .int .i64 a1_4, .int .i64 a1_5] 35 ?_; intro gb437 hg w7 hbox hb; have n0_ := zpS (zgM (g := gb436) (o := .cells #[.int .i64 a0_0, .int .i64 a0_1, .int .i64 a0_2, .int .i64 a0_3, .int .i64 a0_4, .int .i64 a0_5] 35 (0, 0)) bk_ hb); have n1_ := (ns_ hb); have n2_ := zpS (hbox); have n3_ := (ng_ hg); have n4_ := n3_; have n5_ := zpS ((by rw [hg]; exact Nat.ne_of_lt (zmN (g := gb436) (o := .cells #[.int .i64 a0_0, .int .i64 a0_1, .int .i64 a0_2, .int .i64 a0_3, .int .i64 a0_4, .int .i64 a0_5] 35 (0, 0)) bk_) : gb436 ≠ gb437)); have n6_ := zpS ((by rw [hg]; exact Nat.ne_of_gt (zmN (g := gb436) (o := .cells #[.int .i64 a0_0, .int .i64 a0_1, .int .i64 a0_2, .int .i64 a0_3, .int .i64 a0_4, .int .i64 a0_5] 35 (0, 0)) bk_) : gb437 ≠ gb436)); clear BK436; clear HB; have BK436 := n0_; have HB := n1_; have BK437 := n2_; have GW437 := n3_; have GE437 := n4_; have NB436_437 := n5_; have NB437_436 := n6_; clear n0_ n1_ n2_ n3_ n4_ n5_ n6_; clear hb hbox hg) | ((with_reducible refine zpZ (N := 4) rfl ?_); refine bx_ 4 #[.int .i64 0, .int .i64 0, .int .i64 0] 33 ?_; intro gb438 hg w8 hbox hb; have n0_ := zpS (zgM (g := gb436) (o := .cells #[.int .i64 a0_0, .int .i64 a0_1, .int .i64 a0_2, .int .i64 a0_3, .int .i64 a0_4, .int .i64 a0_5] 35 (0, 0)) bk_ hb); have n1_ := zpS (zgM (g := gb437) (o := .cells #[.int .i64 a1_0, .int .i64 a1_1, .int .i64 a1_2, .int .i64 a1_3, .int .i64 a1_4, .int .i64 a1_5] 35 (0, 0)) bk_ hb); have n2_ := (ns_ hb); have n3_ := zpS (hbox); have n4_ := (ng_ hg); have n5_ := n4_; have n6_ := zpS ((by rw [hg]; exact Nat.ne_of_lt (zmN (g := gb436) (o := .cells #[.int .i64 a0_0, .int .i64 a0_1, .int .i64 a0_2, .int .i64 a0_3, .int .i64 a0_4, .int .i64 a0_5] 35 (0, 0)) bk_) : gb436 ≠ gb438)); have n7_ := zpS ((by rw [hg]; exact Nat.ne_of_gt (zmN (g := gb436) (o := .cells #[.int .i64 a0_0, .int .i64 a0_1, .int .i64 a0_2, .int .i64 a0_3, .int .i64 a0_4, .int .i64 a0_5] 35 (0, 0)) bk_) : gb438 ≠ gb436)); have n8_ := zpS ((by rw [hg]; exact Nat.ne_of_lt (zmN (g := gb437) (o := .cells #[.int .i64 a1_0, .int .i64 a1_1, .int .i64 a1_2, .int .i64 a1_3, .int .i64 a1_4, .int .i64 a1_5] 35 (0, 0)) bk_) : gb437 ≠ gb438)); have n9_ := zpS ((by rw [hg]; exact Nat.ne_of_gt (zmN (g := gb437) (o := .cells #[.int .i64 a1_0, .int .i64 a1_1, .int .i64 a1_2, .int .i64 a1_3, .int .i64 a1_4, .int .i64 a1_5] 35 (0, 0)) bk_) : gb438 ≠ gb437)); clear BK436; clear BK437; clear HB; have BK436 := n0_; have BK437 := n1_; have HB := n2_; have BK438 := n3_; have GW438 := n4_; have GE438 := n5_; have NB436_438 := n6_; have NB438_436 := n7_; have NB437_438 := n8_; have NB438_437 := n9_; clear n0_ n1_ n2_ n3_ n4_ n5_ n6_ n7_ n8_ n9_; clear hb hbox hg))
 have n0_ := zpS (ztN BK436.out)
 have n1_ := zpS (ztN BK437.out)
 have n2_ := zpS (ztN BK438.out)
 have n3_ := zpS (zvF HB.out)
 clear BK436
 clear BK437
 clear BK438
 clear HB
 have BK436 := n0_
 have BK437 := n1_
 have BK438 := n2_
 have HB := n3_
 clear n0_ n1_ n2_ n3_
 refine zpB (n := 12) (S := fun w' => w'.cell? ⟨gb436, 0, none⟩ = some (.int .i64 a0_0) ∧ w'.cell? ⟨gb436, 1, none⟩ = some (.int .i64 a0_1) ∧ w'.cell? ⟨gb436, 2, none⟩ = some (.int .i64 a0_2) ∧ w'.cell? ⟨gb436, 3, none⟩ = some (.int .i64 a0_3) ∧ w'.cell? ⟨gb436, 4, none⟩ = some (.int .i64 a0_4) ∧ w'.cell? ⟨gb436, 5, none⟩ = some (.int .i64 a0_5) ∧ w'.cell? ⟨gb437, 0, none⟩ = some (.int .i64 a1_0) ∧ w'.cell? ⟨gb437, 1, none⟩ = some (.int .i64 a1_1) ∧ w'.cell? ⟨gb437, 2, none⟩ = some (.int .i64 a1_2) ∧ w'.cell? ⟨gb437, 3, none⟩ = some (.int .i64 a1_3) ∧ w'.cell? ⟨gb437, 4, none⟩ = some (.int .i64 a1_4) ∧ w'.cell? ⟨gb437, 5, none⟩ = some (.int .i64 a1_5)) (ds := []) #[false, false, false, false, false, false, false, false, false, false, false, false] (by kernel_rfl) rfl rfl ⟨(zzS BK436.out 0).trans rfl, (zzS BK436.out 1).trans rfl, (zzS BK436.out 2).trans rfl, (zzS BK436.out 3).trans rfl, (zzS BK436.out 4).trans rfl, (zzS BK436.out 5).trans rfl, (zzS BK437.out 0).trans rfl, (zzS BK437.out 1).trans rfl, (zzS BK437.out 2).trans rfl, (zzS BK437.out 3).trans rfl, (zzS BK437.out 4).trans rfl, (zzS BK437.out 5).trans rfl⟩ (fun hHeld => ?_); refine zwI ztL.tab1 ztL.bits1 (fun HT_ HW_ => ?_)
 generalize w8.drew = w9 at BK436 BK437 BK438 HB hHeld ⊢
 refine pu_ 0 (some 5) (bl_ 12 1) ?_
 refine pu_ 2 (some 7) (bl_ 12 5) ?_
 refine pu_ 5 (some 10) (bl_ 12 37) ?_
 refine pu_ 7 (some 12) (bl_ 12 165) ?_
 refine zmW 1 (some 6) (bl_ 12 167) hHeld ?_
 refine zmW 3 (some 8) (bl_ 12 175) hHeld ?_
 refine zmW 6 (some 11) (bl_ 12 239) hHeld ?_
 refine zmW 8 (some 13) (bl_ 12 495) hHeld ?_
 refine zdC (i := 4) (N := some 9) (bl_ 12 511) rfl rfl (zeO HT_.out (by kernel_rfl)) (by decide) (fun K hK => ?_)
 refine zqW Tryd.func66 (by kernel_rfl) rfl #[.agg #[.int .i64 a0_0, .int .i64 a0_1, .int .i64 a0_2], .agg #[.int .i64 a1_0, .int .i64 a1_1, .int .i64 a1_2]] (by rfl) rfl rfl (by (try simp only [List.map_toArray, List.map_cons, List.map_nil]); first | done | rfl | (simp only [List.length_drop, List.length_take]; rfl)) ?_
 with_reducible refine (zeF.calls k a0_0 a0_1 a0_2 a1_0 a1_1 a1_2 t439 t440 t441 _ A3.out).mono ?_
 rintro e w10 ⟨rfl, hb⟩
 refine ⟨_, rfl, ?_⟩
 have n0_ := zpS (zgM (g := gb436) (o := .cells #[.int .i64 a0_0, .int .i64 a0_1, .int .i64 a0_2, .int .i64 a0_3, .int .i64 a0_4, .int .i64 a0_5] 35 (0, 0)) bk_ hb)
 have n1_ := zpS (zgM (g := gb437) (o := .cells #[.int .i64 a1_0, .int .i64 a1_1, .int .i64 a1_2, .int .i64 a1_3, .int .i64 a1_4, .int .i64 a1_5] 35 (0, 0)) bk_ hb)
 have n2_ := zpS (zgM (g := gb438) (o := .cells #[.int .i64 0, .int .i64 0, .int .i64 0] 33 (0, 0)) bk_ hb)
 have n3_ := (ns_ hb)
 clear BK436
 clear BK437
 clear BK438
 clear HB
 have BK436 := n0_
 have BK437 := n1_
 have BK438 := n2_
 have HB := n3_
 clear n0_ n1_ n2_ n3_
 (try clear hb)
 (try clear hb2)
 (try clear hk)
 (try clear hi)
 refine hK.out _ _ ⟨(zzS BK436.out 0).trans rfl, (zzS BK436.out 1).trans rfl, (zzS BK436.out 2).trans rfl, (zzS BK436.out 3).trans rfl, (zzS BK436.out 4).trans rfl, (zzS BK436.out 5).trans rfl, (zzS BK437.out 0).trans rfl, (zzS BK437.out 1).trans rfl, (zzS BK437.out 2).trans rfl, (zzS BK437.out 3).trans rfl, (zzS BK437.out 4).trans rfl, (zzS BK437.out 5).trans rfl⟩ (fun hHeld => ?_)
 clear hK K
 refine zaN (a' := ?_) ?_ ?_
 rotate_left
 ·show Act.put _ (some 9) _ = _
  simp only [Act.put, List.setIfInBounds_toArray, List.set_cons_zero, List.set_cons_succ, zcM, ziK]
  rfl
 refine zdC (i := 9) (N := some 14) (bl_ 12 1023) rfl rfl (zeO HT_.out (by kernel_rfl)) (by decide) (fun K hK => ?_)
 refine zqW Tryd.func66 (by kernel_rfl) rfl #[.agg #[.int .i64 a0_3, .int .i64 a0_4, .int .i64 a0_5], .agg #[.int .i64 a1_3, .int .i64 a1_4, .int .i64 a1_5]] (by rfl) rfl rfl (by (try simp only [List.map_toArray, List.map_cons, List.map_nil]); first | done | rfl | (simp only [List.length_drop, List.length_take]; rfl)) ?_
 with_reducible refine (zeF.calls k a0_3 a0_4 a0_5 a1_3 a1_4 a1_5 t442 t443 t444 _ A4.out).mono ?_
 rintro e w11 ⟨rfl, hb⟩
 refine ⟨_, rfl, ?_⟩
 have n0_ := zpS (zgM (g := gb436) (o := .cells #[.int .i64 a0_0, .int .i64 a0_1, .int .i64 a0_2, .int .i64 a0_3, .int .i64 a0_4, .int .i64 a0_5] 35 (0, 0)) bk_ hb)
 have n1_ := zpS (zgM (g := gb437) (o := .cells #[.int .i64 a1_0, .int .i64 a1_1, .int .i64 a1_2, .int .i64 a1_3, .int .i64 a1_4, .int .i64 a1_5] 35 (0, 0)) bk_ hb)
 have n2_ := zpS (zgM (g := gb438) (o := .cells #[.int .i64 0, .int .i64 0, .int .i64 0] 33 (0, 0)) bk_ hb)
 have n3_ := (ns_ hb)
 clear BK436
 clear BK437
 clear BK438
 clear HB
 have BK436 := n0_
 have BK437 := n1_
 have BK438 := n2_
 have HB := n3_
 clear n0_ n1_ n2_ n3_
 (try clear hb)
 (try clear hb2)
 (try clear hk)
 (try clear hi)
 refine hK.out _ _ ⟨(zzS BK436.out 0).trans rfl, (zzS BK436.out 1).trans rfl, (zzS BK436.out 2).trans rfl, (zzS BK436.out 3).trans rfl, (zzS BK436.out 4).trans rfl, (zzS BK436.out 5).trans rfl, (zzS BK437.out 0).trans rfl, (zzS BK437.out 1).trans rfl, (zzS BK437.out 2).trans rfl, (zzS BK437.out 3).trans rfl, (zzS BK437.out 4).trans rfl, (zzS BK437.out 5).trans rfl⟩ (fun hHeld => ?_)
 clear hK K
 refine zaN (a' := ?_) ?_ ?_
 rotate_left
 ·show Act.put _ (some 14) _ = _
  simp only [Act.put, List.setIfInBounds_toArray, List.set_cons_zero, List.set_cons_succ, zcM, ziK]
  rfl
 refine zdC (i := 10) (N := some 15) (bl_ 12 2047) rfl rfl (zeO HT_.out (by kernel_rfl)) (by decide) (fun K hK => ?_)
 refine zqW Tryd.func67 (by kernel_rfl) rfl #[.agg #[.int .i64 t439, .int .i64 t440, .int .i64 t441], .agg #[.int .i64 t442, .int .i64 t443, .int .i64 t444]] (by rfl) rfl rfl (by (try simp only [List.map_toArray, List.map_cons, List.map_nil]); first | done | rfl | (simp only [List.length_drop, List.length_take]; rfl)) ?_
 with_reducible refine (zjL.calls k t439 t440 t441 t442 t443 t444 t445 t446 t447 _ A5.out).mono ?_
 rintro e w12 ⟨rfl, hb⟩
 refine ⟨_, rfl, ?_⟩
 have n0_ := zpS (zgM (g := gb436) (o := .cells #[.int .i64 a0_0, .int .i64 a0_1, .int .i64 a0_2, .int .i64 a0_3, .int .i64 a0_4, .int .i64 a0_5] 35 (0, 0)) bk_ hb)
 have n1_ := zpS (zgM (g := gb437) (o := .cells #[.int .i64 a1_0, .int .i64 a1_1, .int .i64 a1_2, .int .i64 a1_3, .int .i64 a1_4, .int .i64 a1_5] 35 (0, 0)) bk_ hb)
 have n2_ := zpS (zgM (g := gb438) (o := .cells #[.int .i64 0, .int .i64 0, .int .i64 0] 33 (0, 0)) bk_ hb)
 have n3_ := (ns_ hb)
 clear BK436
 clear BK437
 clear BK438
 clear HB
 have BK436 := n0_
 have BK437 := n1_
 have BK438 := n2_
 have HB := n3_
 clear n0_ n1_ n2_ n3_
 (try clear hb)
 (try clear hb2)
 (try clear hk)
 (try clear hi)
 refine hK.out _ _ ⟨(zzS BK436.out 0).trans rfl, (zzS BK436.out 1).trans rfl, (zzS BK436.out 2).trans rfl, (zzS BK436.out 3).trans rfl, (zzS BK436.out 4).trans rfl, (zzS BK436.out 5).trans rfl, (zzS BK437.out 0).trans rfl, (zzS BK437.out 1).trans rfl, (zzS BK437.out 2).trans rfl, (zzS BK437.out 3).trans rfl, (zzS BK437.out 4).trans rfl, (zzS BK437.out 5).trans rfl⟩ (fun hHeld => ?_)
 clear hK K
 refine zaN (a' := ?_) ?_ ?_
 rotate_left
 ·show Act.put _ (some 15) _ = _
  simp only [Act.put, List.setIfInBounds_toArray, List.set_cons_zero, List.set_cons_succ, zcM, ziK]
  rfl
 refine zdC (i := 11) (N := none) (bl_ 12 4095) rfl rfl (zeO HT_.out (by kernel_rfl)) (by decide) (fun K hK => ?_)
 have hs13 : w12.cell? ⟨gb438, 0, none⟩ = some (.int .i64 0) := (zzS BK438.out 0).trans rfl
 have hfs13 := zjF BK438.out 0
 have hns13_0 := NB436_438.out
 have hns13_1 := NB437_438.out
 have hms13_0 := NB438_436.out
 have hms13_1 := NB438_437.out
 have hs14 : w12.cell? ⟨gb438, 1, none⟩ = some (.int .i64 0) := (zzS BK438.out 1).trans rfl
 have hfs14 := zjF BK438.out 1
 have hns14_0 := NB436_438.out
 have hns14_1 := NB437_438.out
 have hms14_0 := NB438_436.out
 have hms14_1 := NB438_437.out
 have hs15 : w12.cell? ⟨gb438, 2, none⟩ = some (.int .i64 0) := (zzS BK438.out 2).trans rfl
 have hfs15 := zjF BK438.out 2
 have hns15_0 := NB436_438.out
 have hns15_1 := NB437_438.out
 have hms15_0 := NB438_436.out
 have hms15_1 := NB438_437.out
 refine skip_ (w1 := ?_) (by rfl) rfl ?_ ?_
 rotate_left
 ·go_simp
  rfl
 refine hK.out _ _ ⟨((zgQ (p := ⟨gb438, _, none⟩) NB436_438.out _).trans (((zgQ (p := ⟨gb438, _, none⟩) NB436_438.out _).trans (((zgQ (p := ⟨gb438, _, none⟩) NB436_438.out _).trans (hHeld.1)))))), ((zgQ (p := ⟨gb438, _, none⟩) NB436_438.out _).trans (((zgQ (p := ⟨gb438, _, none⟩) NB436_438.out _).trans (((zgQ (p := ⟨gb438, _, none⟩) NB436_438.out _).trans (hHeld.2.1)))))), ((zgQ (p := ⟨gb438, _, none⟩) NB436_438.out _).trans (((zgQ (p := ⟨gb438, _, none⟩) NB436_438.out _).trans (((zgQ (p := ⟨gb438, _, none⟩) NB436_438.out _).trans (hHeld.2.2.1)))))), ((zgQ (p := ⟨gb438, _, none⟩) NB436_438.out _).trans (((zgQ (p := ⟨gb438, _, none⟩) NB436_438.out _).trans (((zgQ (p := ⟨gb438, _, none⟩) NB436_438.out _).trans (hHeld.2.2.2.1)))))), ((zgQ (p := ⟨gb438, _, none⟩) NB436_438.out _).trans (((zgQ (p := ⟨gb438, _, none⟩) NB436_438.out _).trans (((zgQ (p := ⟨gb438, _, none⟩) NB436_438.out _).trans (hHeld.2.2.2.2.1)))))), ((zgQ (p := ⟨gb438, _, none⟩) NB436_438.out _).trans (((zgQ (p := ⟨gb438, _, none⟩) NB436_438.out _).trans (((zgQ (p := ⟨gb438, _, none⟩) NB436_438.out _).trans (hHeld.2.2.2.2.2.1)))))), ((zgQ (p := ⟨gb438, _, none⟩) NB437_438.out _).trans (((zgQ (p := ⟨gb438, _, none⟩) NB437_438.out _).trans (((zgQ (p := ⟨gb438, _, none⟩) NB437_438.out _).trans (hHeld.2.2.2.2.2.2.1)))))), ((zgQ (p := ⟨gb438, _, none⟩) NB437_438.out _).trans (((zgQ (p := ⟨gb438, _, none⟩) NB437_438.out _).trans (((zgQ (p := ⟨gb438, _, none⟩) NB437_438.out _).trans (hHeld.2.2.2.2.2.2.2.1)))))), ((zgQ (p := ⟨gb438, _, none⟩) NB437_438.out _).trans (((zgQ (p := ⟨gb438, _, none⟩) NB437_438.out _).trans (((zgQ (p := ⟨gb438, _, none⟩) NB437_438.out _).trans (hHeld.2.2.2.2.2.2.2.2.1)))))), ((zgQ (p := ⟨gb438, _, none⟩) NB437_438.out _).trans (((zgQ (p := ⟨gb438, _, none⟩) NB437_438.out _).trans (((zgQ (p := ⟨gb438, _, none⟩) NB437_438.out _).trans (hHeld.2.2.2.2.2.2.2.2.2.1)))))), ((zgQ (p := ⟨gb438, _, none⟩) NB437_438.out _).trans (((zgQ (p := ⟨gb438, _, none⟩) NB437_438.out _).trans (((zgQ (p := ⟨gb438, _, none⟩) NB437_438.out _).trans (hHeld.2.2.2.2.2.2.2.2.2.2.1)))))), ((zgQ (p := ⟨gb438, _, none⟩) NB437_438.out _).trans (((zgQ (p := ⟨gb438, _, none⟩) NB437_438.out _).trans (((zgQ (p := ⟨gb438, _, none⟩) NB437_438.out _).trans (hHeld.2.2.2.2.2.2.2.2.2.2.2))))))⟩ (fun hHeld => ?_)
 clear hK K
 refine znK (zzP HT_.out (by kernel_rfl)) ?_
 try go_wp2
 refine bodyPost_ret (results_cell_row rfl _ _ gb438 33 #[.int .i64 t445, .int .i64 t446, .int .i64 t447] (0, 0) _ rfl (by (with_reducible repeat (first | apply zuW | apply ztN | apply zqY)); refine zlL (cs := #[.int .i64 t445, .int .i64 t446, .int .i64 0]) ?_ 2 _ rfl; (with_reducible repeat (first | apply zuW | apply ztN | apply zqY)); refine zlL (cs := #[.int .i64 t445, .int .i64 0, .int .i64 0]) ?_ 1 _ rfl; (with_reducible repeat (first | apply zuW | apply ztN | apply zqY)); refine zlL (cs := #[.int .i64 0, .int .i64 0, .int .i64 0]) ?_ 0 _ rfl; (with_reducible repeat (first | apply zuW | apply ztN | apply zqY)); exact BK438.out) Tryd.underlying33 rfl (by kernel_rfl)) rfl ?_
 exact ⟨by first | rfl | (simp [ziS, znJ] <;> rfl) | (simp [*, ziS, znJ] <;> rfl), bb_⟩

def zxB.l0 : Nat → Int → Int → Int → Int → Int → Int → Int → Option (Int)
 | 0, _, _, _, _, _, _, _ => none
 | k + 1, x11, x457000, x457001, x457002, x457003, x457004, x457005 => if x11 < 16 then ((zdP.f x11).bind fun bt457 => ((zhX.f k bt457.1 bt457.2.1 bt457.2.2.1 bt457.2.2.2.1 bt457.2.2.2.2.1 bt457.2.2.2.2.2 x457000 x457001 x457002 x457003 x457004 x457005).bind fun bt464 => (if (bt464.1 == 0 && (bt464.2.1 == 0 && (bt464.2.2 == 0))) = true then ((ztL.f k bt457.1 bt457.2.1 bt457.2.2.1 bt457.2.2.2.1 bt457.2.2.2.2.1 bt457.2.2.2.2.2 x457000 x457001 x457002 x457003 x457004 x457005).bind fun bt467 => ((zyE.f k bt467.1 bt467.2.1 bt467.2.2).bind fun t470 => (if t470 > 0 then (some x11) else (zxB.l0 k (wrap64 (x11 + 1)) x457000 x457001 x457002 x457003 x457004 x457005)))) else (zxB.l0 k (wrap64 (x11 + 1)) x457000 x457001 x457002 x457003 x457004 x457005)))) else (some (-1))
def zxB.f (k : Nat) (a0_0 : Int) (a0_1 : Int) (a0_2 : Int) (a0_3 : Int) (a0_4 : Int) (a0_5 : Int) (a1_0 : Int) (a1_1 : Int) (a1_2 : Int) (a1_3 : Int) (a1_4 : Int) (a1_5 : Int) : Option (Int) := (zdY.f k a1_0 a1_1 a1_2 a1_3 a1_4 a1_5 a0_0 a0_1 a0_2 a0_3 a0_4 a0_5).bind fun bt450 => (zxB.l0 k 0 bt450.1 bt450.2.1 bt450.2.2.1 bt450.2.2.2.1 bt450.2.2.2.2.1 bt450.2.2.2.2.2)
theorem zxB.mono_l : ∀ k, (∀ y0 y1 y2 y3 y4 y5 y6, LeO (zxB.l0 k y0 y1 y2 y3 y4 y5 y6) (zxB.l0 (k + 1) y0 y1 y2 y3 y4 y5 y6))
 | 0 => fun _ _ _ _ _ _ _ r h => by simp [zxB.l0] at h
 | k + 1 => by
  have ih0 := zxB.mono_l k
  ·intro y0 y1 y2 y3 y4 y5 y6
   unfold zxB.l0
   repeat' first
   | (with_reducible exact ih0 _ _ _ _ _ _ _)
   | (with_reducible exact zyE.mono _ _ _ _)
   | (with_reducible exact zhX.mono _ _ _ _ _ _ _ _ _ _ _ _ _)
   | (with_reducible exact ztL.mono _ _ _ _ _ _ _ _ _ _ _ _ _)
   | (with_reducible exact zdY.mono _ _ _ _ _ _ _ _ _ _ _ _ _)
   | (with_reducible exact LeO.refl _)
   | (with_reducible exact LeO.none _)
   | (with_reducible refine LeO.ite ?_ ?_)
   | (with_reducible refine LeO.bind ?_ (fun _ => ?_))
   | exact ih0 _ _ _ _ _ _ _
   | exact zyE.mono _ _ _ _
   | exact zhX.mono _ _ _ _ _ _ _ _ _ _ _ _ _
   | exact ztL.mono _ _ _ _ _ _ _ _ _ _ _ _ _
   | exact zdY.mono _ _ _ _ _ _ _ _ _ _ _ _ _
   | exact LeO.none _
   | refine LeO.ite ?_ ?_
   | refine LeO.bind ?_ (fun _ => ?_)
theorem zxB.mono : ∀ a0 a1 a2 a3 a4 a5 a6 a7 a8 a9 a10 a11 k, LeO (zxB.f k a0 a1 a2 a3 a4 a5 a6 a7 a8 a9 a10 a11) (zxB.f (k + 1) a0 a1 a2 a3 a4 a5 a6 a7 a8 a9 a10 a11) := by
 intro a0 a1 a2 a3 a4 a5 a6 a7 a8 a9 a10 a11 k
 have ih0 := zxB.mono_l k
 unfold zxB.f
 repeat' first
   | (with_reducible exact ih0 _ _ _ _ _ _ _)
   | (with_reducible exact zyE.mono _ _ _ _)
   | (with_reducible exact zhX.mono _ _ _ _ _ _ _ _ _ _ _ _ _)
   | (with_reducible exact ztL.mono _ _ _ _ _ _ _ _ _ _ _ _ _)
   | (with_reducible exact zdY.mono _ _ _ _ _ _ _ _ _ _ _ _ _)
   | (with_reducible exact LeO.refl _)
   | (with_reducible exact LeO.none _)
   | (with_reducible refine LeO.ite ?_ ?_)
   | (with_reducible refine LeO.bind ?_ (fun _ => ?_))
   | exact ih0 _ _ _ _ _ _ _
   | exact zyE.mono _ _ _ _
   | exact zhX.mono _ _ _ _ _ _ _ _ _ _ _ _ _
   | exact ztL.mono _ _ _ _ _ _ _ _ _ _ _ _ _
   | exact zdY.mono _ _ _ _ _ _ _ _ _ _ _ _ _
   | exact LeO.none _
   | refine LeO.ite ?_ ?_
   | refine LeO.bind ?_ (fun _ => ?_)
theorem zxB.calls (k : Nat) (a0_0 : Int) (a0_1 : Int) (a0_2 : Int) (a0_3 : Int) (a0_4 : Int) (a0_5 : Int) (a1_0 : Int) (a1_1 : Int) (a1_2 : Int) (a1_3 : Int) (a1_4 : Int) (a1_5 : Int) (r : Int) (w : World) (hG : LaidV w) (h : zxB.f k a0_0 a0_1 a0_2 a0_3 a0_4 a0_5 a1_0 a1_1 a1_2 a1_3 a1_4 a1_5 = some r) :
  Calls Tryd.prog 46 #[.agg #[.int .i64 a0_0, .int .i64 a0_1, .int .i64 a0_2, .int .i64 a0_3, .int .i64 a0_4, .int .i64 a0_5], .agg #[.int .i64 a1_0, .int .i64 a1_1, .int .i64 a1_2, .int .i64 a1_3, .int .i64 a1_4, .int .i64 a1_5]] w fun e w' => e = .returned (.int .i64 r) ∧ Below w.heap.size w w' := by
 have hu35 := Tryd.underlying35
 have hu33 := Tryd.underlying33
 have HB := zpS (Below.refl w.heap.size w)
 have H : ((zdY.f k a1_0 a1_1 a1_2 a1_3 a1_4 a1_5 a0_0 a0_1 a0_2 a0_3 a0_4 a0_5).bind fun bt450 => (zxB.l0 k 0 bt450.1 bt450.2.1 bt450.2.2.1 bt450.2.2.2.1 bt450.2.2.2.2.1 bt450.2.2.2.2.2)) = some r := h
 clear h
 replace H := Option.bind_eq_some_iff.mp H
 obtain ⟨⟨t450, t451, t452, t453, t454, t455⟩, A30, H⟩ := H
 replace H : (zxB.l0 k 0 t450 t451 t452 t453 t454 t455) = some r := H
 have A3 := zpS A30
 clear A30
 have H' := zpS H
 clear H
 go_enter Tryd.func46, Tryd.ntmps46
 go_wp2_with (first | ((with_reducible refine zpZ (N := 2) rfl ?_); refine bx_ 2 #[.int .i64 a0_0, .int .i64 a0_1, .int .i64 a0_2, .int .i64 a0_3, .int .i64 a0_4, .int .i64 a0_5] 35 ?_; intro gb448 hg w4 hbox hb; have n0_ := (ns_ hb); have n1_ := zpS (hbox); have n2_ := (ng_ hg); have n3_ := n2_; clear HB; have HB := n0_; have BK448 := n1_; have GW448 := n2_; have GE448 := n3_; clear n0_ n1_ n2_ n3_; clear hb hbox hg) | ((with_reducible refine zpZ (N := 3) rfl ?_); refine bx_ 3 #[.int .i64 a1_0, .int .i64 a1_1, .int .i64 a1_2, .int .i64 a1_3, .int .i64 a1_4, .int .i64 a1_5] 35 ?_; intro gb449 hg w5 hbox hb; have n0_ := zpS (zgM (g := gb448) (o := .cells #[.int .i64 a0_0, .int .i64 a0_1, .int .i64 a0_2, .int .i64 a0_3, .int .i64 a0_4, .int .i64 a0_5] 35 (0, 0)) bk_ hb); have n1_ := (ns_ hb); have n2_ := zpS (hbox); have n3_ := (ng_ hg); have n4_ := n3_; have n5_ := zpS ((by rw [hg]; exact Nat.ne_of_lt (zmN (g := gb448) (o := .cells #[.int .i64 a0_0, .int .i64 a0_1, .int .i64 a0_2, .int .i64 a0_3, .int .i64 a0_4, .int .i64 a0_5] 35 (0, 0)) bk_) : gb448 ≠ gb449)); have n6_ := zpS ((by rw [hg]; exact Nat.ne_of_gt (zmN (g := gb448) (o := .cells #[.int .i64 a0_0, .int .i64 a0_1, .int .i64 a0_2, .int .i64 a0_3, .int .i64 a0_4, .int .i64 a0_5] 35 (0, 0)) bk_) : gb449 ≠ gb448)); clear BK448; clear HB; have BK448 := n0_; have HB := n1_; have BK449 := n2_; have GW449 := n3_; have GE449 := n4_; have NB448_449 := n5_; have NB449_448 := n6_; clear n0_ n1_ n2_ n3_ n4_ n5_ n6_; clear hb hbox hg; have hnb6 := NB449_448.out; have hnc6 := NB448_449.out; obtain ⟨hcz7_0, hcz7_1, hcz7_2, hcz7_3, hcz7_4, hcz7_5⟩ := zrN BK449.out; obtain ⟨hfz7_0, hfz7_1, hfz7_2, hfz7_3, hfz7_4, hfz7_5⟩ := zoO BK449.out; obtain ⟨hcz8_0, hcz8_1, hcz8_2, hcz8_3, hcz8_4, hcz8_5⟩ := zrN BK448.out; obtain ⟨hfz8_0, hfz8_1, hfz8_2, hfz8_3, hfz8_4, hfz8_5⟩ := zoO BK448.out) | ((with_reducible refine zgK (f := 54) rfl ?_); refine zqQ (some 10) rfl rfl Tryd.func54 (by kernel_rfl) rfl #[.agg #[.int .i64 a1_0, .int .i64 a1_1, .int .i64 a1_2, .int .i64 a1_3, .int .i64 a1_4, .int .i64 a1_5], .agg #[.int .i64 a0_0, .int .i64 a0_1, .int .i64 a0_2, .int .i64 a0_3, .int .i64 a0_4, .int .i64 a0_5]] rfl (by (try simp only [List.map_toArray, List.map_cons, List.map_nil]); first | done | rfl | (simp only [List.length_drop, List.length_take]; rfl)) ?_; (with_reducible refine (zdY.calls k a1_0 a1_1 a1_2 a1_3 a1_4 a1_5 a0_0 a0_1 a0_2 a0_3 a0_4 a0_5 t450 t451 t452 t453 t454 t455 _ A3.out).mono ?_); rintro e w9 ⟨rfl, hb⟩; refine ⟨_, rfl, ?_⟩; have n0_ := zpS (zgM (g := gb448) (o := .cells #[.int .i64 a0_0, .int .i64 a0_1, .int .i64 a0_2, .int .i64 a0_3, .int .i64 a0_4, .int .i64 a0_5] 35 (0, 0)) bk_ hb); have n1_ := zpS (zgM (g := gb449) (o := .cells #[.int .i64 a1_0, .int .i64 a1_1, .int .i64 a1_2, .int .i64 a1_3, .int .i64 a1_4, .int .i64 a1_5] 35 (0, 0)) bk_ hb); have n2_ := (ns_ hb); clear BK448; clear BK449; clear HB; have BK448 := n0_; have BK449 := n1_; have HB := n2_; clear n0_ n1_ n2_; (try clear hb); (try clear hb2)) | ((with_reducible refine zpZ (N := 5) rfl ?_); refine bx_ 5 #[.int .i64 0, .int .i64 0, .int .i64 0, .int .i64 0, .int .i64 0, .int .i64 0] 35 ?_; intro gb456 hg w10 hbox hb; have n0_ := zpS (zgM (g := gb448) (o := .cells #[.int .i64 a0_0, .int .i64 a0_1, .int .i64 a0_2, .int .i64 a0_3, .int .i64 a0_4, .int .i64 a0_5] 35 (0, 0)) bk_ hb); have n1_ := zpS (zgM (g := gb449) (o := .cells #[.int .i64 a1_0, .int .i64 a1_1, .int .i64 a1_2, .int .i64 a1_3, .int .i64 a1_4, .int .i64 a1_5] 35 (0, 0)) bk_ hb); have n2_ := (ns_ hb); have n3_ := zpS (hbox); have n4_ := (ng_ hg); have n5_ := n4_; have n6_ := zpS ((by rw [hg]; exact Nat.ne_of_lt (zmN (g := gb448) (o := .cells #[.int .i64 a0_0, .int .i64 a0_1, .int .i64 a0_2, .int .i64 a0_3, .int .i64 a0_4, .int .i64 a0_5] 35 (0, 0)) bk_) : gb448 ≠ gb456)); have n7_ := zpS ((by rw [hg]; exact Nat.ne_of_gt (zmN (g := gb448) (o := .cells #[.int .i64 a0_0, .int .i64 a0_1, .int .i64 a0_2, .int .i64 a0_3, .int .i64 a0_4, .int .i64 a0_5] 35 (0, 0)) bk_) : gb456 ≠ gb448)); have n8_ := zpS ((by rw [hg]; exact Nat.ne_of_lt (zmN (g := gb449) (o := .cells #[.int .i64 a1_0, .int .i64 a1_1, .int .i64 a1_2, .int .i64 a1_3, .int .i64 a1_4, .int .i64 a1_5] 35 (0, 0)) bk_) : gb449 ≠ gb456)); have n9_ := zpS ((by rw [hg]; exact Nat.ne_of_gt (zmN (g := gb449) (o := .cells #[.int .i64 a1_0, .int .i64 a1_1, .int .i64 a1_2, .int .i64 a1_3, .int .i64 a1_4, .int .i64 a1_5] 35 (0, 0)) bk_) : gb456 ≠ gb449)); clear BK448; clear BK449; clear HB; have BK448 := n0_; have BK449 := n1_; have HB := n2_; have BK456 := n3_; have GW456 := n4_; have GE456 := n5_; have NB448_456 := n6_; have NB456_448 := n7_; have NB449_456 := n8_; have NB456_449 := n9_; clear n0_ n1_ n2_ n3_ n4_ n5_ n6_ n7_ n8_ n9_; clear hb hbox hg; have hnb11 := NB456_448.out; have hnc11 := NB448_456.out; have hnb12 := NB456_449.out; have hnc12 := NB449_456.out; obtain ⟨hcz13_0, hcz13_1, hcz13_2, hcz13_3, hcz13_4, hcz13_5⟩ := zrN BK456.out; obtain ⟨hfz13_0, hfz13_1, hfz13_2, hfz13_3, hfz13_4, hfz13_5⟩ := zoO BK456.out))
 (try go_simp)
 go_loopg [11] k (fun kq v11 w' => ∃ (x11_1 : Int), v11 = .int .i64 x11_1 ∧ Aside0 (zxB.l0 kq x11_1 t450 t451 t452 t453 t454 t455 = some r) ∧ Aside0 (kq ≤ k) ∧ Aside0 (w'.heap[gb448]? = some (.cells #[.int .i64 a0_0, .int .i64 a0_1, .int .i64 a0_2, .int .i64 a0_3, .int .i64 a0_4, .int .i64 a0_5] 35 (0, 0))) ∧ Aside0 (w'.heap[gb449]? = some (.cells #[.int .i64 a1_0, .int .i64 a1_1, .int .i64 a1_2, .int .i64 a1_3, .int .i64 a1_4, .int .i64 a1_5] 35 (0, 0))) ∧ Aside0 (w'.heap[gb456]? = some (.cells #[.int .i64 t450, .int .i64 t451, .int .i64 t452, .int .i64 t453, .int .i64 t454, .int .i64 t455] 35 (0, 0))) ∧ Aside0 (Below w.heap.size w w'))
 case atStart => exact ⟨(0), (by first | rfl | (simp; done) | (simp [*]; done)), H', ⟨Nat.le_refl _⟩, ⟨by (with_reducible repeat (first | apply zuW | apply ztN | apply zqY)); refine znI ?_ NB448_456.out _; (with_reducible repeat (first | apply zuW | apply ztN | apply zqY)); refine znI ?_ NB448_456.out _; (with_reducible repeat (first | apply zuW | apply ztN | apply zqY)); refine znI ?_ NB448_456.out _; (with_reducible repeat (first | apply zuW | apply ztN | apply zqY)); refine znI ?_ NB448_456.out _; (with_reducible repeat (first | apply zuW | apply ztN | apply zqY)); refine znI ?_ NB448_456.out _; (with_reducible repeat (first | apply zuW | apply ztN | apply zqY)); refine znI ?_ NB448_456.out _; (with_reducible repeat (first | apply zuW | apply ztN | apply zqY)); exact BK448.out⟩, ⟨by (with_reducible repeat (first | apply zuW | apply ztN | apply zqY)); refine znI ?_ NB449_456.out _; (with_reducible repeat (first | apply zuW | apply ztN | apply zqY)); refine znI ?_ NB449_456.out _; (with_reducible repeat (first | apply zuW | apply ztN | apply zqY)); refine znI ?_ NB449_456.out _; (with_reducible repeat (first | apply zuW | apply ztN | apply zqY)); refine znI ?_ NB449_456.out _; (with_reducible repeat (first | apply zuW | apply ztN | apply zqY)); refine znI ?_ NB449_456.out _; (with_reducible repeat (first | apply zuW | apply ztN | apply zqY)); refine znI ?_ NB449_456.out _; (with_reducible repeat (first | apply zuW | apply ztN | apply zqY)); exact BK449.out⟩, ⟨by (with_reducible repeat (first | apply zuW | apply ztN | apply zqY)); refine zlL (cs := #[.int .i64 t450, .int .i64 t451, .int .i64 t452, .int .i64 t453, .int .i64 t454, .int .i64 0]) ?_ 5 _ rfl; (with_reducible repeat (first | apply zuW | apply ztN | apply zqY)); refine zlL (cs := #[.int .i64 t450, .int .i64 t451, .int .i64 t452, .int .i64 t453, .int .i64 0, .int .i64 0]) ?_ 4 _ rfl; (with_reducible repeat (first | apply zuW | apply ztN | apply zqY)); refine zlL (cs := #[.int .i64 t450, .int .i64 t451, .int .i64 t452, .int .i64 0, .int .i64 0, .int .i64 0]) ?_ 3 _ rfl; (with_reducible repeat (first | apply zuW | apply ztN | apply zqY)); refine zlL (cs := #[.int .i64 t450, .int .i64 t451, .int .i64 0, .int .i64 0, .int .i64 0, .int .i64 0]) ?_ 2 _ rfl; (with_reducible repeat (first | apply zuW | apply ztN | apply zqY)); refine zlL (cs := #[.int .i64 t450, .int .i64 0, .int .i64 0, .int .i64 0, .int .i64 0, .int .i64 0]) ?_ 1 _ rfl; (with_reducible repeat (first | apply zuW | apply ztN | apply zqY)); refine zlL (cs := #[.int .i64 0, .int .i64 0, .int .i64 0, .int .i64 0, .int .i64 0, .int .i64 0]) ?_ 0 _ rfl; (with_reducible repeat (first | apply zuW | apply ztN | apply zqY)); exact BK456.out⟩, ⟨bb_⟩⟩
 case round =>
  clear H'
  try clear c1
  try clear p2
  try clear c4
  try clear c5
  try clear c6
  try clear c11
  try clear c12
  try clear hcz13_0
  try clear hcz13_1
  try clear hcz13_2
  try clear hcz13_3
  try clear hcz13_4
  try clear hcz13_5
  try clear hcz7_0
  try clear hcz7_1
  try clear hcz7_2
  try clear hcz7_3
  try clear hcz7_4
  try clear hcz7_5
  try clear hcz8_0
  try clear hcz8_1
  try clear hcz8_2
  try clear hcz8_3
  try clear hcz8_4
  try clear hcz8_5
  try clear hfz13_0
  try clear hfz13_1
  try clear hfz13_2
  try clear hfz13_3
  try clear hfz13_4
  try clear hfz13_5
  try clear hfz7_0
  try clear hfz7_1
  try clear hfz7_2
  try clear hfz7_3
  try clear hfz7_4
  try clear hfz7_5
  try clear hfz8_0
  try clear hfz8_1
  try clear hfz8_2
  try clear hfz8_3
  try clear hfz8_4
  try clear hfz8_5
  obtain ⟨x11_1, rfl, HA, HK1, BK448, BK449, BK456, HB⟩ := hrel
  cases gk with
  | zero => exact absurd HA.out (by simp [zxB.l0])
  | succ k1 =>
   have H := HA.out
   clear HA
   simp only [zxB.l0] at H
   by_cases c14 : x11_1 < 16
   ·rw [if_pos c14] at H
    have c14b0 : decide (x11_1 < 16) = true := decide_eq_true c14
    clear c14
    replace H := Option.bind_eq_some_iff.mp H
    obtain ⟨⟨t457, t458, t459, t460, t461, t462⟩, A150, H⟩ := H
    replace H : ((zhX.f k1 t457 t458 t459 t460 t461 t462 t450 t451 t452 t453 t454 t455).bind fun bt464 => (if (bt464.1 == 0 && (bt464.2.1 == 0 && (bt464.2.2 == 0))) = true then ((ztL.f k1 t457 t458 t459 t460 t461 t462 t450 t451 t452 t453 t454 t455).bind fun bt467 => ((zyE.f k1 bt467.1 bt467.2.1 bt467.2.2).bind fun t470 => (if t470 > 0 then (some x11_1) else (zxB.l0 k1 (wrap64 (x11_1 + 1)) t450 t451 t452 t453 t454 t455)))) else (zxB.l0 k1 (wrap64 (x11_1 + 1)) t450 t451 t452 t453 t454 t455))) = some r := H
    have A15 := zpS A150
    clear A150
    replace H := Option.bind_eq_some_iff.mp H
    obtain ⟨⟨t464, t465, t466⟩, A160, H⟩ := H
    replace H : (if (t464 == 0 && (t465 == 0 && (t466 == 0))) = true then ((ztL.f k1 t457 t458 t459 t460 t461 t462 t450 t451 t452 t453 t454 t455).bind fun bt467 => ((zyE.f k1 bt467.1 bt467.2.1 bt467.2.2).bind fun t470 => (if t470 > 0 then (some x11_1) else (zxB.l0 k1 (wrap64 (x11_1 + 1)) t450 t451 t452 t453 t454 t455)))) else (zxB.l0 k1 (wrap64 (x11_1 + 1)) t450 t451 t452 t453 t454 t455)) = some r := H
    have A16 := zpS A160
    clear A160
    by_cases c17 : (t464 == 0 && (t465 == 0 && (t466 == 0))) = true
    ·rw [if_pos c17] at H
     have c17b0 : (t464 == 0 && (t465 == 0 && (t466 == 0))) = true := c17
     (try (have c17b1 : decide (t464 = 0 && (t465 == 0 && (t466 == 0))) = true := by simpa using c17))
     (try (have c17b2 : (t464 == 0 && (t465 == 0 && (t466 == 0))) = true := by simpa using c17))
     clear c17
     replace H := Option.bind_eq_some_iff.mp H
     obtain ⟨⟨t467, t468, t469⟩, A180, H⟩ := H
     replace H : ((zyE.f k1 t467 t468 t469).bind fun t470 => (if t470 > 0 then (some x11_1) else (zxB.l0 k1 (wrap64 (x11_1 + 1)) t450 t451 t452 t453 t454 t455))) = some r := H
     have A18 := zpS A180
     clear A180
     replace H := Option.bind_eq_some_iff.mp H
     obtain ⟨t470, A190, H⟩ := H
     replace H : (if t470 > 0 then (some x11_1) else (zxB.l0 k1 (wrap64 (x11_1 + 1)) t450 t451 t452 t453 t454 t455)) = some r := H
     have A19 := zpS A190
     clear A190
     by_cases c20 : t470 > 0
     ·rw [if_pos c20] at H
      have c20b0 : decide (0 < t470) = true := decide_eq_true c20
      clear c20
      obtain rfl := Option.some.inj H
      go_wp2_with (first | ((with_reducible refine zgK (f := 55) rfl ?_); refine zqQ (some 15) rfl rfl Tryd.func55 (by kernel_rfl) rfl #[.int .i64 x11_1] rfl (by (try simp only [List.map_toArray, List.map_cons, List.map_nil]); first | done | rfl | (simp only [List.length_drop, List.length_take]; rfl)) ?_; (with_reducible refine (zdP.calls x11_1 t457 t458 t459 t460 t461 t462 _ ?side1 A15.out).mono ?_); (case side1 => exact LaidV.below hG bb_); rintro e w21 ⟨rfl, hb⟩; refine ⟨_, rfl, ?_⟩; have n0_ := zpS (zgM (g := gb448) (o := .cells #[.int .i64 a0_0, .int .i64 a0_1, .int .i64 a0_2, .int .i64 a0_3, .int .i64 a0_4, .int .i64 a0_5] 35 (0, 0)) bk_ hb); have n1_ := zpS (zgM (g := gb449) (o := .cells #[.int .i64 a1_0, .int .i64 a1_1, .int .i64 a1_2, .int .i64 a1_3, .int .i64 a1_4, .int .i64 a1_5] 35 (0, 0)) bk_ hb); have n2_ := zpS (zgM (g := gb456) (o := .cells #[.int .i64 t450, .int .i64 t451, .int .i64 t452, .int .i64 t453, .int .i64 t454, .int .i64 t455] 35 (0, 0)) bk_ hb); have n3_ := (ns_ hb); clear BK448; clear BK449; clear BK456; clear HB; have BK448 := n0_; have BK449 := n1_; have BK456 := n2_; have HB := n3_; clear n0_ n1_ n2_ n3_; (try clear hb); (try clear hb2)) | ((with_reducible refine zpZ (N := 7) rfl ?_); refine bx_ 7 #[.int .i64 0, .int .i64 0, .int .i64 0, .int .i64 0, .int .i64 0, .int .i64 0] 35 ?_; intro gb463 hg w22 hbox hb; have n0_ := zpS (zgM (g := gb448) (o := .cells #[.int .i64 a0_0, .int .i64 a0_1, .int .i64 a0_2, .int .i64 a0_3, .int .i64 a0_4, .int .i64 a0_5] 35 (0, 0)) bk_ hb); have n1_ := zpS (zgM (g := gb449) (o := .cells #[.int .i64 a1_0, .int .i64 a1_1, .int .i64 a1_2, .int .i64 a1_3, .int .i64 a1_4, .int .i64 a1_5] 35 (0, 0)) bk_ hb); have n2_ := zpS (zgM (g := gb456) (o := .cells #[.int .i64 t450, .int .i64 t451, .int .i64 t452, .int .i64 t453, .int .i64 t454, .int .i64 t455] 35 (0, 0)) bk_ hb); have n3_ := (ns_ hb); have n4_ := zpS (hbox); have n5_ := (ng_ hg); have n6_ := n5_; have n7_ := zpS ((by rw [hg]; exact Nat.ne_of_lt (zmN (g := gb448) (o := .cells #[.int .i64 a0_0, .int .i64 a0_1, .int .i64 a0_2, .int .i64 a0_3, .int .i64 a0_4, .int .i64 a0_5] 35 (0, 0)) bk_) : gb448 ≠ gb463)); have n8_ := zpS ((by rw [hg]; exact Nat.ne_of_gt (zmN (g := gb448) (o := .cells #[.int .i64 a0_0, .int .i64 a0_1, .int .i64 a0_2, .int .i64 a0_3, .int .i64 a0_4, .int .i64 a0_5] 35 (0, 0)) bk_) : gb463 ≠ gb448)); have n9_ := zpS ((by rw [hg]; exact Nat.ne_of_lt (zmN (g := gb449) (o := .cells #[.int .i64 a1_0, .int .i64 a1_1, .int .i64 a1_2, .int .i64 a1_3, .int .i64 a1_4, .int .i64 a1_5] 35 (0, 0)) bk_) : gb449 ≠ gb463)); have n10_ := zpS ((by rw [hg]; exact Nat.ne_of_gt (zmN (g := gb449) (o := .cells #[.int .i64 a1_0, .int .i64 a1_1, .int .i64 a1_2, .int .i64 a1_3, .int .i64 a1_4, .int .i64 a1_5] 35 (0, 0)) bk_) : gb463 ≠ gb449)); have n11_ := zpS ((by rw [hg]; exact Nat.ne_of_lt (zmN (g := gb456) (o := .cells #[.int .i64 t450, .int .i64 t451, .int .i64 t452, .int .i64 t453, .int .i64 t454, .int .i64 t455] 35 (0, 0)) bk_) : gb456 ≠ gb463)); have n12_ := zpS ((by rw [hg]; exact Nat.ne_of_gt (zmN (g := gb456) (o := .cells #[.int .i64 t450, .int .i64 t451, .int .i64 t452, .int .i64 t453, .int .i64 t454, .int .i64 t455] 35 (0, 0)) bk_) : gb463 ≠ gb456)); clear BK448; clear BK449; clear BK456; clear HB; have BK448 := n0_; have BK449 := n1_; have BK456 := n2_; have HB := n3_; have BK463 := n4_; have GW463 := n5_; have GE463 := n6_; have NB448_463 := n7_; have NB463_448 := n8_; have NB449_463 := n9_; have NB463_449 := n10_; have NB456_463 := n11_; have NB463_456 := n12_; clear n0_ n1_ n2_ n3_ n4_ n5_ n6_ n7_ n8_ n9_ n10_ n11_ n12_; clear hb hbox hg; have hnb23 := NB463_448.out; have hnc23 := NB448_463.out; have hnb24 := NB463_449.out; have hnc24 := NB449_463.out; have hnb25 := NB463_456.out; have hnc25 := NB456_463.out; obtain ⟨hcz26_0, hcz26_1, hcz26_2, hcz26_3, hcz26_4, hcz26_5⟩ := zrN BK463.out; obtain ⟨hfz26_0, hfz26_1, hfz26_2, hfz26_3, hfz26_4, hfz26_5⟩ := zoO BK463.out; have hnb27 := NB456_448.out; have hnc27 := NB448_456.out; have hnb28 := NB456_449.out; have hnc28 := NB449_456.out; obtain ⟨hcz29_0, hcz29_1, hcz29_2, hcz29_3, hcz29_4, hcz29_5⟩ := zrN BK456.out; obtain ⟨hfz29_0, hfz29_1, hfz29_2, hfz29_3, hfz29_4, hfz29_5⟩ := zoO BK456.out) | ((with_reducible refine zgK (f := 56) rfl ?_); refine zqQ (some 18) rfl rfl Tryd.func56 (by kernel_rfl) rfl #[.agg #[.int .i64 t457, .int .i64 t458, .int .i64 t459, .int .i64 t460, .int .i64 t461, .int .i64 t462], .agg #[.int .i64 t450, .int .i64 t451, .int .i64 t452, .int .i64 t453, .int .i64 t454, .int .i64 t455]] rfl (by (try simp only [List.map_toArray, List.map_cons, List.map_nil]); first | done | rfl | (simp only [List.length_drop, List.length_take]; rfl)) ?_; (with_reducible refine (zhX.calls k1 t457 t458 t459 t460 t461 t462 t450 t451 t452 t453 t454 t455 t464 t465 t466 _ A16.out).mono ?_); rintro e w30 ⟨rfl, hb⟩; refine ⟨_, rfl, ?_⟩; have n0_ := zpS (zgM (g := gb448) (o := .cells #[.int .i64 a0_0, .int .i64 a0_1, .int .i64 a0_2, .int .i64 a0_3, .int .i64 a0_4, .int .i64 a0_5] 35 (0, 0)) (by (with_reducible repeat (first | apply zuW | apply ztN | apply zqY)); refine znI ?_ NB448_463.out _; (with_reducible repeat (first | apply zuW | apply ztN | apply zqY)); refine znI ?_ NB448_463.out _; (with_reducible repeat (first | apply zuW | apply ztN | apply zqY)); refine znI ?_ NB448_463.out _; (with_reducible repeat (first | apply zuW | apply ztN | apply zqY)); refine znI ?_ NB448_463.out _; (with_reducible repeat (first | apply zuW | apply ztN | apply zqY)); refine znI ?_ NB448_463.out _; (with_reducible repeat (first | apply zuW | apply ztN | apply zqY)); refine znI ?_ NB448_463.out _; (with_reducible repeat (first | apply zuW | apply ztN | apply zqY)); exact BK448.out) hb); have n1_ := zpS (zgM (g := gb449) (o := .cells #[.int .i64 a1_0, .int .i64 a1_1, .int .i64 a1_2, .int .i64 a1_3, .int .i64 a1_4, .int .i64 a1_5] 35 (0, 0)) (by (with_reducible repeat (first | apply zuW | apply ztN | apply zqY)); refine znI ?_ NB449_463.out _; (with_reducible repeat (first | apply zuW | apply ztN | apply zqY)); refine znI ?_ NB449_463.out _; (with_reducible repeat (first | apply zuW | apply ztN | apply zqY)); refine znI ?_ NB449_463.out _; (with_reducible repeat (first | apply zuW | apply ztN | apply zqY)); refine znI ?_ NB449_463.out _; (with_reducible repeat (first | apply zuW | apply ztN | apply zqY)); refine znI ?_ NB449_463.out _; (with_reducible repeat (first | apply zuW | apply ztN | apply zqY)); refine znI ?_ NB449_463.out _; (with_reducible repeat (first | apply zuW | apply ztN | apply zqY)); exact BK449.out) hb); have n2_ := zpS (zgM (g := gb456) (o := .cells #[.int .i64 t450, .int .i64 t451, .int .i64 t452, .int .i64 t453, .int .i64 t454, .int .i64 t455] 35 (0, 0)) (by (with_reducible repeat (first | apply zuW | apply ztN | apply zqY)); refine znI ?_ NB456_463.out _; (with_reducible repeat (first | apply zuW | apply ztN | apply zqY)); refine znI ?_ NB456_463.out _; (with_reducible repeat (first | apply zuW | apply ztN | apply zqY)); refine znI ?_ NB456_463.out _; (with_reducible repeat (first | apply zuW | apply ztN | apply zqY)); refine znI ?_ NB456_463.out _; (with_reducible repeat (first | apply zuW | apply ztN | apply zqY)); refine znI ?_ NB456_463.out _; (with_reducible repeat (first | apply zuW | apply ztN | apply zqY)); refine znI ?_ NB456_463.out _; (with_reducible repeat (first | apply zuW | apply ztN | apply zqY)); exact BK456.out) hb); have n3_ := zpS (zgM (g := gb463) (o := .cells #[.int .i64 t457, .int .i64 t458, .int .i64 t459, .int .i64 t460, .int .i64 t461, .int .i64 t462] 35 (0, 0)) (by (with_reducible repeat (first | apply zuW | apply ztN | apply zqY)); refine zlL (cs := #[.int .i64 t457, .int .i64 t458, .int .i64 t459, .int .i64 t460, .int .i64 t461, .int .i64 0]) ?_ 5 _ rfl; (with_reducible repeat (first | apply zuW | apply ztN | apply zqY)); refine zlL (cs := #[.int .i64 t457, .int .i64 t458, .int .i64 t459, .int .i64 t460, .int .i64 0, .int .i64 0]) ?_ 4 _ rfl; (with_reducible repeat (first | apply zuW | apply ztN | apply zqY)); refine zlL (cs := #[.int .i64 t457, .int .i64 t458, .int .i64 t459, .int .i64 0, .int .i64 0, .int .i64 0]) ?_ 3 _ rfl; (with_reducible repeat (first | apply zuW | apply ztN | apply zqY)); refine zlL (cs := #[.int .i64 t457, .int .i64 t458, .int .i64 0, .int .i64 0, .int .i64 0, .int .i64 0]) ?_ 2 _ rfl; (with_reducible repeat (first | apply zuW | apply ztN | apply zqY)); refine zlL (cs := #[.int .i64 t457, .int .i64 0, .int .i64 0, .int .i64 0, .int .i64 0, .int .i64 0]) ?_ 1 _ rfl; (with_reducible repeat (first | apply zuW | apply ztN | apply zqY)); refine zlL (cs := #[.int .i64 0, .int .i64 0, .int .i64 0, .int .i64 0, .int .i64 0, .int .i64 0]) ?_ 0 _ rfl; (with_reducible repeat (first | apply zuW | apply ztN | apply zqY)); exact BK463.out) hb); have n4_ := (ns_ hb); clear BK448; clear BK449; clear BK456; clear BK463; clear HB; have BK448 := n0_; have BK449 := n1_; have BK456 := n2_; have BK463 := n3_; have HB := n4_; clear n0_ n1_ n2_ n3_ n4_; (try clear hb); (try clear hb2); obtain ⟨hcz31_0, hcz31_1, hcz31_2, hcz31_3, hcz31_4, hcz31_5⟩ := zrN BK463.out; obtain ⟨hfz31_0, hfz31_1, hfz31_2, hfz31_3, hfz31_4, hfz31_5⟩ := zoO BK463.out; obtain ⟨hcz32_0, hcz32_1, hcz32_2, hcz32_3, hcz32_4, hcz32_5⟩ := zrN BK456.out; obtain ⟨hfz32_0, hfz32_1, hfz32_2, hfz32_3, hfz32_4, hfz32_5⟩ := zoO BK456.out) | (go_at_call 57; (with_reducible refine (ztL.calls k1 t457 t458 t459 t460 t461 t462 t450 t451 t452 t453 t454 t455 t467 t468 t469 _ A18.out).mono ?_); rintro e w33 ⟨rfl, hb⟩; have n0_ := zpS (zgM (g := gb448) (o := .cells #[.int .i64 a0_0, .int .i64 a0_1, .int .i64 a0_2, .int .i64 a0_3, .int .i64 a0_4, .int .i64 a0_5] 35 (0, 0)) bk_ hb); have n1_ := zpS (zgM (g := gb449) (o := .cells #[.int .i64 a1_0, .int .i64 a1_1, .int .i64 a1_2, .int .i64 a1_3, .int .i64 a1_4, .int .i64 a1_5] 35 (0, 0)) bk_ hb); have n2_ := zpS (zgM (g := gb456) (o := .cells #[.int .i64 t450, .int .i64 t451, .int .i64 t452, .int .i64 t453, .int .i64 t454, .int .i64 t455] 35 (0, 0)) bk_ hb); have n3_ := zpS (zgM (g := gb463) (o := .cells #[.int .i64 t457, .int .i64 t458, .int .i64 t459, .int .i64 t460, .int .i64 t461, .int .i64 t462] 35 (0, 0)) bk_ hb); have n4_ := (ns_ hb); clear BK448; clear BK449; clear BK456; clear BK463; clear HB; have BK448 := n0_; have BK449 := n1_; have BK456 := n2_; have BK463 := n3_; have HB := n4_; clear n0_ n1_ n2_ n3_ n4_; (try clear hb); (try clear hb2)) | (go_at_call 58; (with_reducible refine (zyE.calls k1 t467 t468 t469 t470 _ A19.out).mono ?_); rintro e w34 ⟨rfl, hb⟩; have n0_ := zpS (zgM (g := gb448) (o := .cells #[.int .i64 a0_0, .int .i64 a0_1, .int .i64 a0_2, .int .i64 a0_3, .int .i64 a0_4, .int .i64 a0_5] 35 (0, 0)) bk_ hb); have n1_ := zpS (zgM (g := gb449) (o := .cells #[.int .i64 a1_0, .int .i64 a1_1, .int .i64 a1_2, .int .i64 a1_3, .int .i64 a1_4, .int .i64 a1_5] 35 (0, 0)) bk_ hb); have n2_ := zpS (zgM (g := gb456) (o := .cells #[.int .i64 t450, .int .i64 t451, .int .i64 t452, .int .i64 t453, .int .i64 t454, .int .i64 t455] 35 (0, 0)) bk_ hb); have n3_ := zpS (zgM (g := gb463) (o := .cells #[.int .i64 t457, .int .i64 t458, .int .i64 t459, .int .i64 t460, .int .i64 t461, .int .i64 t462] 35 (0, 0)) bk_ hb); have n4_ := (ns_ hb); clear BK448; clear BK449; clear BK456; clear BK463; clear HB; have BK448 := n0_; have BK449 := n1_; have BK456 := n2_; have BK463 := n3_; have HB := n4_; clear n0_ n1_ n2_ n3_ n4_; (try clear hb); (try clear hb2)))
      go_ret
      exact ⟨by first | rfl | (simp [ziS, znJ] <;> rfl) | (simp [*, ziS, znJ] <;> rfl), bb_⟩
     ·rw [if_neg c20] at H
      have c20b0 : decide (0 < t470) = false := decide_eq_false c20
      clear c20
      have H' := zpS H
      clear H
      go_wp2_with (first | ((with_reducible refine zgK (f := 55) rfl ?_); refine zqQ (some 15) rfl rfl Tryd.func55 (by kernel_rfl) rfl #[.int .i64 x11_1] rfl (by (try simp only [List.map_toArray, List.map_cons, List.map_nil]); first | done | rfl | (simp only [List.length_drop, List.length_take]; rfl)) ?_; (with_reducible refine (zdP.calls x11_1 t457 t458 t459 t460 t461 t462 _ ?side1 A15.out).mono ?_); (case side1 => exact LaidV.below hG bb_); rintro e w35 ⟨rfl, hb⟩; refine ⟨_, rfl, ?_⟩; have n0_ := zpS (zgM (g := gb448) (o := .cells #[.int .i64 a0_0, .int .i64 a0_1, .int .i64 a0_2, .int .i64 a0_3, .int .i64 a0_4, .int .i64 a0_5] 35 (0, 0)) bk_ hb); have n1_ := zpS (zgM (g := gb449) (o := .cells #[.int .i64 a1_0, .int .i64 a1_1, .int .i64 a1_2, .int .i64 a1_3, .int .i64 a1_4, .int .i64 a1_5] 35 (0, 0)) bk_ hb); have n2_ := zpS (zgM (g := gb456) (o := .cells #[.int .i64 t450, .int .i64 t451, .int .i64 t452, .int .i64 t453, .int .i64 t454, .int .i64 t455] 35 (0, 0)) bk_ hb); have n3_ := (ns_ hb); clear BK448; clear BK449; clear BK456; clear HB; have BK448 := n0_; have BK449 := n1_; have BK456 := n2_; have HB := n3_; clear n0_ n1_ n2_ n3_; (try clear hb); (try clear hb2)) | ((with_reducible refine zpZ (N := 7) rfl ?_); refine bx_ 7 #[.int .i64 0, .int .i64 0, .int .i64 0, .int .i64 0, .int .i64 0, .int .i64 0] 35 ?_; intro gb463 hg w36 hbox hb; have n0_ := zpS (zgM (g := gb448) (o := .cells #[.int .i64 a0_0, .int .i64 a0_1, .int .i64 a0_2, .int .i64 a0_3, .int .i64 a0_4, .int .i64 a0_5] 35 (0, 0)) bk_ hb); have n1_ := zpS (zgM (g := gb449) (o := .cells #[.int .i64 a1_0, .int .i64 a1_1, .int .i64 a1_2, .int .i64 a1_3, .int .i64 a1_4, .int .i64 a1_5] 35 (0, 0)) bk_ hb); have n2_ := zpS (zgM (g := gb456) (o := .cells #[.int .i64 t450, .int .i64 t451, .int .i64 t452, .int .i64 t453, .int .i64 t454, .int .i64 t455] 35 (0, 0)) bk_ hb); have n3_ := (ns_ hb); have n4_ := zpS (hbox); have n5_ := (ng_ hg); have n6_ := n5_; have n7_ := zpS ((by rw [hg]; exact Nat.ne_of_lt (zmN (g := gb448) (o := .cells #[.int .i64 a0_0, .int .i64 a0_1, .int .i64 a0_2, .int .i64 a0_3, .int .i64 a0_4, .int .i64 a0_5] 35 (0, 0)) bk_) : gb448 ≠ gb463)); have n8_ := zpS ((by rw [hg]; exact Nat.ne_of_gt (zmN (g := gb448) (o := .cells #[.int .i64 a0_0, .int .i64 a0_1, .int .i64 a0_2, .int .i64 a0_3, .int .i64 a0_4, .int .i64 a0_5] 35 (0, 0)) bk_) : gb463 ≠ gb448)); have n9_ := zpS ((by rw [hg]; exact Nat.ne_of_lt (zmN (g := gb449) (o := .cells #[.int .i64 a1_0, .int .i64 a1_1, .int .i64 a1_2, .int .i64 a1_3, .int .i64 a1_4, .int .i64 a1_5] 35 (0, 0)) bk_) : gb449 ≠ gb463)); have n10_ := zpS ((by rw [hg]; exact Nat.ne_of_gt (zmN (g := gb449) (o := .cells #[.int .i64 a1_0, .int .i64 a1_1, .int .i64 a1_2, .int .i64 a1_3, .int .i64 a1_4, .int .i64 a1_5] 35 (0, 0)) bk_) : gb463 ≠ gb449)); have n11_ := zpS ((by rw [hg]; exact Nat.ne_of_lt (zmN (g := gb456) (o := .cells #[.int .i64 t450, .int .i64 t451, .int .i64 t452, .int .i64 t453, .int .i64 t454, .int .i64 t455] 35 (0, 0)) bk_) : gb456 ≠ gb463)); have n12_ := zpS ((by rw [hg]; exact Nat.ne_of_gt (zmN (g := gb456) (o := .cells #[.int .i64 t450, .int .i64 t451, .int .i64 t452, .int .i64 t453, .int .i64 t454, .int .i64 t455] 35 (0, 0)) bk_) : gb463 ≠ gb456)); clear BK448; clear BK449; clear BK456; clear HB; have BK448 := n0_; have BK449 := n1_; have BK456 := n2_; have HB := n3_; have BK463 := n4_; have GW463 := n5_; have GE463 := n6_; have NB448_463 := n7_; have NB463_448 := n8_; have NB449_463 := n9_; have NB463_449 := n10_; have NB456_463 := n11_; have NB463_456 := n12_; clear n0_ n1_ n2_ n3_ n4_ n5_ n6_ n7_ n8_ n9_ n10_ n11_ n12_; clear hb hbox hg; have hnb37 := NB463_448.out; have hnc37 := NB448_463.out; have hnb38 := NB463_449.out; have hnc38 := NB449_463.out; have hnb39 := NB463_456.out; have hnc39 := NB456_463.out; obtain ⟨hcz40_0, hcz40_1, hcz40_2, hcz40_3, hcz40_4, hcz40_5⟩ := zrN BK463.out; obtain ⟨hfz40_0, hfz40_1, hfz40_2, hfz40_3, hfz40_4, hfz40_5⟩ := zoO BK463.out; have hnb41 := NB456_448.out; have hnc41 := NB448_456.out; have hnb42 := NB456_449.out; have hnc42 := NB449_456.out; obtain ⟨hcz43_0, hcz43_1, hcz43_2, hcz43_3, hcz43_4, hcz43_5⟩ := zrN BK456.out; obtain ⟨hfz43_0, hfz43_1, hfz43_2, hfz43_3, hfz43_4, hfz43_5⟩ := zoO BK456.out) | ((with_reducible refine zgK (f := 56) rfl ?_); refine zqQ (some 18) rfl rfl Tryd.func56 (by kernel_rfl) rfl #[.agg #[.int .i64 t457, .int .i64 t458, .int .i64 t459, .int .i64 t460, .int .i64 t461, .int .i64 t462], .agg #[.int .i64 t450, .int .i64 t451, .int .i64 t452, .int .i64 t453, .int .i64 t454, .int .i64 t455]] rfl (by (try simp only [List.map_toArray, List.map_cons, List.map_nil]); first | done | rfl | (simp only [List.length_drop, List.length_take]; rfl)) ?_; (with_reducible refine (zhX.calls k1 t457 t458 t459 t460 t461 t462 t450 t451 t452 t453 t454 t455 t464 t465 t466 _ A16.out).mono ?_); rintro e w44 ⟨rfl, hb⟩; refine ⟨_, rfl, ?_⟩; have n0_ := zpS (zgM (g := gb448) (o := .cells #[.int .i64 a0_0, .int .i64 a0_1, .int .i64 a0_2, .int .i64 a0_3, .int .i64 a0_4, .int .i64 a0_5] 35 (0, 0)) (by (with_reducible repeat (first | apply zuW | apply ztN | apply zqY)); refine znI ?_ NB448_463.out _; (with_reducible repeat (first | apply zuW | apply ztN | apply zqY)); refine znI ?_ NB448_463.out _; (with_reducible repeat (first | apply zuW | apply ztN | apply zqY)); refine znI ?_ NB448_463.out _; (with_reducible repeat (first | apply zuW | apply ztN | apply zqY)); refine znI ?_ NB448_463.out _; (with_reducible repeat (first | apply zuW | apply ztN | apply zqY)); refine znI ?_ NB448_463.out _; (with_reducible repeat (first | apply zuW | apply ztN | apply zqY)); refine znI ?_ NB448_463.out _; (with_reducible repeat (first | apply zuW | apply ztN | apply zqY)); exact BK448.out) hb); have n1_ := zpS (zgM (g := gb449) (o := .cells #[.int .i64 a1_0, .int .i64 a1_1, .int .i64 a1_2, .int .i64 a1_3, .int .i64 a1_4, .int .i64 a1_5] 35 (0, 0)) (by (with_reducible repeat (first | apply zuW | apply ztN | apply zqY)); refine znI ?_ NB449_463.out _; (with_reducible repeat (first | apply zuW | apply ztN | apply zqY)); refine znI ?_ NB449_463.out _; (with_reducible repeat (first | apply zuW | apply ztN | apply zqY)); refine znI ?_ NB449_463.out _; (with_reducible repeat (first | apply zuW | apply ztN | apply zqY)); refine znI ?_ NB449_463.out _; (with_reducible repeat (first | apply zuW | apply ztN | apply zqY)); refine znI ?_ NB449_463.out _; (with_reducible repeat (first | apply zuW | apply ztN | apply zqY)); refine znI ?_ NB449_463.out _; (with_reducible repeat (first | apply zuW | apply ztN | apply zqY)); exact BK449.out) hb); have n2_ := zpS (zgM (g := gb456) (o := .cells #[.int .i64 t450, .int .i64 t451, .int .i64 t452, .int .i64 t453, .int .i64 t454, .int .i64 t455] 35 (0, 0)) (by (with_reducible repeat (first | apply zuW | apply ztN | apply zqY)); refine znI ?_ NB456_463.out _; (with_reducible repeat (first | apply zuW | apply ztN | apply zqY)); refine znI ?_ NB456_463.out _; (with_reducible repeat (first | apply zuW | apply ztN | apply zqY)); refine znI ?_ NB456_463.out _; (with_reducible repeat (first | apply zuW | apply ztN | apply zqY)); refine znI ?_ NB456_463.out _; (with_reducible repeat (first | apply zuW | apply ztN | apply zqY)); refine znI ?_ NB456_463.out _; (with_reducible repeat (first | apply zuW | apply ztN | apply zqY)); refine znI ?_ NB456_463.out _; (with_reducible repeat (first | apply zuW | apply ztN | apply zqY)); exact BK456.out) hb); have n3_ := zpS (zgM (g := gb463) (o := .cells #[.int .i64 t457, .int .i64 t458, .int .i64 t459, .int .i64 t460, .int .i64 t461, .int .i64 t462] 35 (0, 0)) (by (with_reducible repeat (first | apply zuW | apply ztN | apply zqY)); refine zlL (cs := #[.int .i64 t457, .int .i64 t458, .int .i64 t459, .int .i64 t460, .int .i64 t461, .int .i64 0]) ?_ 5 _ rfl; (with_reducible repeat (first | apply zuW | apply ztN | apply zqY)); refine zlL (cs := #[.int .i64 t457, .int .i64 t458, .int .i64 t459, .int .i64 t460, .int .i64 0, .int .i64 0]) ?_ 4 _ rfl; (with_reducible repeat (first | apply zuW | apply ztN | apply zqY)); refine zlL (cs := #[.int .i64 t457, .int .i64 t458, .int .i64 t459, .int .i64 0, .int .i64 0, .int .i64 0]) ?_ 3 _ rfl; (with_reducible repeat (first | apply zuW | apply ztN | apply zqY)); refine zlL (cs := #[.int .i64 t457, .int .i64 t458, .int .i64 0, .int .i64 0, .int .i64 0, .int .i64 0]) ?_ 2 _ rfl; (with_reducible repeat (first | apply zuW | apply ztN | apply zqY)); refine zlL (cs := #[.int .i64 t457, .int .i64 0, .int .i64 0, .int .i64 0, .int .i64 0, .int .i64 0]) ?_ 1 _ rfl; (with_reducible repeat (first | apply zuW | apply ztN | apply zqY)); refine zlL (cs := #[.int .i64 0, .int .i64 0, .int .i64 0, .int .i64 0, .int .i64 0, .int .i64 0]) ?_ 0 _ rfl; (with_reducible repeat (first | apply zuW | apply ztN | apply zqY)); exact BK463.out) hb); have n4_ := (ns_ hb); clear BK448; clear BK449; clear BK456; clear BK463; clear HB; have BK448 := n0_; have BK449 := n1_; have BK456 := n2_; have BK463 := n3_; have HB := n4_; clear n0_ n1_ n2_ n3_ n4_; (try clear hb); (try clear hb2); obtain ⟨hcz45_0, hcz45_1, hcz45_2, hcz45_3, hcz45_4, hcz45_5⟩ := zrN BK463.out; obtain ⟨hfz45_0, hfz45_1, hfz45_2, hfz45_3, hfz45_4, hfz45_5⟩ := zoO BK463.out; obtain ⟨hcz46_0, hcz46_1, hcz46_2, hcz46_3, hcz46_4, hcz46_5⟩ := zrN BK456.out; obtain ⟨hfz46_0, hfz46_1, hfz46_2, hfz46_3, hfz46_4, hfz46_5⟩ := zoO BK456.out) | (go_at_call 57; (with_reducible refine (ztL.calls k1 t457 t458 t459 t460 t461 t462 t450 t451 t452 t453 t454 t455 t467 t468 t469 _ A18.out).mono ?_); rintro e w47 ⟨rfl, hb⟩; have n0_ := zpS (zgM (g := gb448) (o := .cells #[.int .i64 a0_0, .int .i64 a0_1, .int .i64 a0_2, .int .i64 a0_3, .int .i64 a0_4, .int .i64 a0_5] 35 (0, 0)) bk_ hb); have n1_ := zpS (zgM (g := gb449) (o := .cells #[.int .i64 a1_0, .int .i64 a1_1, .int .i64 a1_2, .int .i64 a1_3, .int .i64 a1_4, .int .i64 a1_5] 35 (0, 0)) bk_ hb); have n2_ := zpS (zgM (g := gb456) (o := .cells #[.int .i64 t450, .int .i64 t451, .int .i64 t452, .int .i64 t453, .int .i64 t454, .int .i64 t455] 35 (0, 0)) bk_ hb); have n3_ := zpS (zgM (g := gb463) (o := .cells #[.int .i64 t457, .int .i64 t458, .int .i64 t459, .int .i64 t460, .int .i64 t461, .int .i64 t462] 35 (0, 0)) bk_ hb); have n4_ := (ns_ hb); clear BK448; clear BK449; clear BK456; clear BK463; clear HB; have BK448 := n0_; have BK449 := n1_; have BK456 := n2_; have BK463 := n3_; have HB := n4_; clear n0_ n1_ n2_ n3_ n4_; (try clear hb); (try clear hb2)) | (go_at_call 58; (with_reducible refine (zyE.calls k1 t467 t468 t469 t470 _ A19.out).mono ?_); rintro e w48 ⟨rfl, hb⟩; have n0_ := zpS (zgM (g := gb448) (o := .cells #[.int .i64 a0_0, .int .i64 a0_1, .int .i64 a0_2, .int .i64 a0_3, .int .i64 a0_4, .int .i64 a0_5] 35 (0, 0)) bk_ hb); have n1_ := zpS (zgM (g := gb449) (o := .cells #[.int .i64 a1_0, .int .i64 a1_1, .int .i64 a1_2, .int .i64 a1_3, .int .i64 a1_4, .int .i64 a1_5] 35 (0, 0)) bk_ hb); have n2_ := zpS (zgM (g := gb456) (o := .cells #[.int .i64 t450, .int .i64 t451, .int .i64 t452, .int .i64 t453, .int .i64 t454, .int .i64 t455] 35 (0, 0)) bk_ hb); have n3_ := zpS (zgM (g := gb463) (o := .cells #[.int .i64 t457, .int .i64 t458, .int .i64 t459, .int .i64 t460, .int .i64 t461, .int .i64 t462] 35 (0, 0)) bk_ hb); have n4_ := (ns_ hb); clear BK448; clear BK449; clear BK456; clear BK463; clear HB; have BK448 := n0_; have BK449 := n1_; have BK456 := n2_; have BK463 := n3_; have HB := n4_; clear n0_ n1_ n2_ n3_ n4_; (try clear hb); (try clear hb2)))
      go_roundg k1
      case measure => have := HK1.out; omega
      case rel => exact ⟨(wrap64 (x11_1 + 1)), (by first | rfl | (simp; done) | (simp [*]; done)), H', ⟨by have := HK1.out; omega⟩, ⟨bk_⟩, ⟨bk_⟩, ⟨bk_⟩, ⟨bb_⟩⟩
    ·rw [if_neg c17] at H
     have c17b0 : (t464 == 0 && (t465 == 0 && (t466 == 0))) = false := by simpa using c17
     (try (have c17b1 : decide (t464 = 0 && (t465 == 0 && (t466 == 0))) = false := by simpa using c17))
     (try (have c17b2 : (t464 == 0 && (t465 == 0 && (t466 == 0))) = false := by simpa using c17))
     (try (have c17b3 : ¬ (t464 = 0 && (t465 == 0 && (t466 == 0))) := by simpa using c17))
     clear c17
     have H' := zpS H
     clear H
     go_wp2_with (first | ((with_reducible refine zgK (f := 55) rfl ?_); refine zqQ (some 15) rfl rfl Tryd.func55 (by kernel_rfl) rfl #[.int .i64 x11_1] rfl (by (try simp only [List.map_toArray, List.map_cons, List.map_nil]); first | done | rfl | (simp only [List.length_drop, List.length_take]; rfl)) ?_; (with_reducible refine (zdP.calls x11_1 t457 t458 t459 t460 t461 t462 _ ?side1 A15.out).mono ?_); (case side1 => exact LaidV.below hG bb_); rintro e w49 ⟨rfl, hb⟩; refine ⟨_, rfl, ?_⟩; have n0_ := zpS (zgM (g := gb448) (o := .cells #[.int .i64 a0_0, .int .i64 a0_1, .int .i64 a0_2, .int .i64 a0_3, .int .i64 a0_4, .int .i64 a0_5] 35 (0, 0)) bk_ hb); have n1_ := zpS (zgM (g := gb449) (o := .cells #[.int .i64 a1_0, .int .i64 a1_1, .int .i64 a1_2, .int .i64 a1_3, .int .i64 a1_4, .int .i64 a1_5] 35 (0, 0)) bk_ hb); have n2_ := zpS (zgM (g := gb456) (o := .cells #[.int .i64 t450, .int .i64 t451, .int .i64 t452, .int .i64 t453, .int .i64 t454, .int .i64 t455] 35 (0, 0)) bk_ hb); have n3_ := (ns_ hb); clear BK448; clear BK449; clear BK456; clear HB; have BK448 := n0_; have BK449 := n1_; have BK456 := n2_; have HB := n3_; clear n0_ n1_ n2_ n3_; (try clear hb); (try clear hb2)) | ((with_reducible refine zpZ (N := 7) rfl ?_); refine bx_ 7 #[.int .i64 0, .int .i64 0, .int .i64 0, .int .i64 0, .int .i64 0, .int .i64 0] 35 ?_; intro gb463 hg w50 hbox hb; have n0_ := zpS (zgM (g := gb448) (o := .cells #[.int .i64 a0_0, .int .i64 a0_1, .int .i64 a0_2, .int .i64 a0_3, .int .i64 a0_4, .int .i64 a0_5] 35 (0, 0)) bk_ hb); have n1_ := zpS (zgM (g := gb449) (o := .cells #[.int .i64 a1_0, .int .i64 a1_1, .int .i64 a1_2, .int .i64 a1_3, .int .i64 a1_4, .int .i64 a1_5] 35 (0, 0)) bk_ hb); have n2_ := zpS (zgM (g := gb456) (o := .cells #[.int .i64 t450, .int .i64 t451, .int .i64 t452, .int .i64 t453, .int .i64 t454, .int .i64 t455] 35 (0, 0)) bk_ hb); have n3_ := (ns_ hb); have n4_ := zpS (hbox); have n5_ := (ng_ hg); have n6_ := n5_; have n7_ := zpS ((by rw [hg]; exact Nat.ne_of_lt (zmN (g := gb448) (o := .cells #[.int .i64 a0_0, .int .i64 a0_1, .int .i64 a0_2, .int .i64 a0_3, .int .i64 a0_4, .int .i64 a0_5] 35 (0, 0)) bk_) : gb448 ≠ gb463)); have n8_ := zpS ((by rw [hg]; exact Nat.ne_of_gt (zmN (g := gb448) (o := .cells #[.int .i64 a0_0, .int .i64 a0_1, .int .i64 a0_2, .int .i64 a0_3, .int .i64 a0_4, .int .i64 a0_5] 35 (0, 0)) bk_) : gb463 ≠ gb448)); have n9_ := zpS ((by rw [hg]; exact Nat.ne_of_lt (zmN (g := gb449) (o := .cells #[.int .i64 a1_0, .int .i64 a1_1, .int .i64 a1_2, .int .i64 a1_3, .int .i64 a1_4, .int .i64 a1_5] 35 (0, 0)) bk_) : gb449 ≠ gb463)); have n10_ := zpS ((by rw [hg]; exact Nat.ne_of_gt (zmN (g := gb449) (o := .cells #[.int .i64 a1_0, .int .i64 a1_1, .int .i64 a1_2, .int .i64 a1_3, .int .i64 a1_4, .int .i64 a1_5] 35 (0, 0)) bk_) : gb463 ≠ gb449)); have n11_ := zpS ((by rw [hg]; exact Nat.ne_of_lt (zmN (g := gb456) (o := .cells #[.int .i64 t450, .int .i64 t451, .int .i64 t452, .int .i64 t453, .int .i64 t454, .int .i64 t455] 35 (0, 0)) bk_) : gb456 ≠ gb463)); have n12_ := zpS ((by rw [hg]; exact Nat.ne_of_gt (zmN (g := gb456) (o := .cells #[.int .i64 t450, .int .i64 t451, .int .i64 t452, .int .i64 t453, .int .i64 t454, .int .i64 t455] 35 (0, 0)) bk_) : gb463 ≠ gb456)); clear BK448; clear BK449; clear BK456; clear HB; have BK448 := n0_; have BK449 := n1_; have BK456 := n2_; have HB := n3_; have BK463 := n4_; have GW463 := n5_; have GE463 := n6_; have NB448_463 := n7_; have NB463_448 := n8_; have NB449_463 := n9_; have NB463_449 := n10_; have NB456_463 := n11_; have NB463_456 := n12_; clear n0_ n1_ n2_ n3_ n4_ n5_ n6_ n7_ n8_ n9_ n10_ n11_ n12_; clear hb hbox hg; have hnb51 := NB463_448.out; have hnc51 := NB448_463.out; have hnb52 := NB463_449.out; have hnc52 := NB449_463.out; have hnb53 := NB463_456.out; have hnc53 := NB456_463.out; obtain ⟨hcz54_0, hcz54_1, hcz54_2, hcz54_3, hcz54_4, hcz54_5⟩ := zrN BK463.out; obtain ⟨hfz54_0, hfz54_1, hfz54_2, hfz54_3, hfz54_4, hfz54_5⟩ := zoO BK463.out; have hnb55 := NB456_448.out; have hnc55 := NB448_456.out; have hnb56 := NB456_449.out; have hnc56 := NB449_456.out; obtain ⟨hcz57_0, hcz57_1, hcz57_2, hcz57_3, hcz57_4, hcz57_5⟩ := zrN BK456.out; obtain ⟨hfz57_0, hfz57_1, hfz57_2, hfz57_3, hfz57_4, hfz57_5⟩ := zoO BK456.out) | ((with_reducible refine zgK (f := 56) rfl ?_); refine zqQ (some 18) rfl rfl Tryd.func56 (by kernel_rfl) rfl #[.agg #[.int .i64 t457, .int .i64 t458, .int .i64 t459, .int .i64 t460, .int .i64 t461, .int .i64 t462], .agg #[.int .i64 t450, .int .i64 t451, .int .i64 t452, .int .i64 t453, .int .i64 t454, .int .i64 t455]] rfl (by (try simp only [List.map_toArray, List.map_cons, List.map_nil]); first | done | rfl | (simp only [List.length_drop, List.length_take]; rfl)) ?_; (with_reducible refine (zhX.calls k1 t457 t458 t459 t460 t461 t462 t450 t451 t452 t453 t454 t455 t464 t465 t466 _ A16.out).mono ?_); rintro e w58 ⟨rfl, hb⟩; refine ⟨_, rfl, ?_⟩; have n0_ := zpS (zgM (g := gb448) (o := .cells #[.int .i64 a0_0, .int .i64 a0_1, .int .i64 a0_2, .int .i64 a0_3, .int .i64 a0_4, .int .i64 a0_5] 35 (0, 0)) (by (with_reducible repeat (first | apply zuW | apply ztN | apply zqY)); refine znI ?_ NB448_463.out _; (with_reducible repeat (first | apply zuW | apply ztN | apply zqY)); refine znI ?_ NB448_463.out _; (with_reducible repeat (first | apply zuW | apply ztN | apply zqY)); refine znI ?_ NB448_463.out _; (with_reducible repeat (first | apply zuW | apply ztN | apply zqY)); refine znI ?_ NB448_463.out _; (with_reducible repeat (first | apply zuW | apply ztN | apply zqY)); refine znI ?_ NB448_463.out _; (with_reducible repeat (first | apply zuW | apply ztN | apply zqY)); refine znI ?_ NB448_463.out _; (with_reducible repeat (first | apply zuW | apply ztN | apply zqY)); exact BK448.out) hb); have n1_ := zpS (zgM (g := gb449) (o := .cells #[.int .i64 a1_0, .int .i64 a1_1, .int .i64 a1_2, .int .i64 a1_3, .int .i64 a1_4, .int .i64 a1_5] 35 (0, 0)) (by (with_reducible repeat (first | apply zuW | apply ztN | apply zqY)); refine znI ?_ NB449_463.out _; (with_reducible repeat (first | apply zuW | apply ztN | apply zqY)); refine znI ?_ NB449_463.out _; (with_reducible repeat (first | apply zuW | apply ztN | apply zqY)); refine znI ?_ NB449_463.out _; (with_reducible repeat (first | apply zuW | apply ztN | apply zqY)); refine znI ?_ NB449_463.out _; (with_reducible repeat (first | apply zuW | apply ztN | apply zqY)); refine znI ?_ NB449_463.out _; (with_reducible repeat (first | apply zuW | apply ztN | apply zqY)); refine znI ?_ NB449_463.out _; (with_reducible repeat (first | apply zuW | apply ztN | apply zqY)); exact BK449.out) hb); have n2_ := zpS (zgM (g := gb456) (o := .cells #[.int .i64 t450, .int .i64 t451, .int .i64 t452, .int .i64 t453, .int .i64 t454, .int .i64 t455] 35 (0, 0)) (by (with_reducible repeat (first | apply zuW | apply ztN | apply zqY)); refine znI ?_ NB456_463.out _; (with_reducible repeat (first | apply zuW | apply ztN | apply zqY)); refine znI ?_ NB456_463.out _; (with_reducible repeat (first | apply zuW | apply ztN | apply zqY)); refine znI ?_ NB456_463.out _; (with_reducible repeat (first | apply zuW | apply ztN | apply zqY)); refine znI ?_ NB456_463.out _; (with_reducible repeat (first | apply zuW | apply ztN | apply zqY)); refine znI ?_ NB456_463.out _; (with_reducible repeat (first | apply zuW | apply ztN | apply zqY)); refine znI ?_ NB456_463.out _; (with_reducible repeat (first | apply zuW | apply ztN | apply zqY)); exact BK456.out) hb); have n3_ := zpS (zgM (g := gb463) (o := .cells #[.int .i64 t457, .int .i64 t458, .int .i64 t459, .int .i64 t460, .int .i64 t461, .int .i64 t462] 35 (0, 0)) (by (with_reducible repeat (first | apply zuW | apply ztN | apply zqY)); refine zlL (cs := #[.int .i64 t457, .int .i64 t458, .int .i64 t459, .int .i64 t460, .int .i64 t461, .int .i64 0]) ?_ 5 _ rfl; (with_reducible repeat (first | apply zuW | apply ztN | apply zqY)); refine zlL (cs := #[.int .i64 t457, .int .i64 t458, .int .i64 t459, .int .i64 t460, .int .i64 0, .int .i64 0]) ?_ 4 _ rfl; (with_reducible repeat (first | apply zuW | apply ztN | apply zqY)); refine zlL (cs := #[.int .i64 t457, .int .i64 t458, .int .i64 t459, .int .i64 0, .int .i64 0, .int .i64 0]) ?_ 3 _ rfl; (with_reducible repeat (first | apply zuW | apply ztN | apply zqY)); refine zlL (cs := #[.int .i64 t457, .int .i64 t458, .int .i64 0, .int .i64 0, .int .i64 0, .int .i64 0]) ?_ 2 _ rfl; (with_reducible repeat (first | apply zuW | apply ztN | apply zqY)); refine zlL (cs := #[.int .i64 t457, .int .i64 0, .int .i64 0, .int .i64 0, .int .i64 0, .int .i64 0]) ?_ 1 _ rfl; (with_reducible repeat (first | apply zuW | apply ztN | apply zqY)); refine zlL (cs := #[.int .i64 0, .int .i64 0, .int .i64 0, .int .i64 0, .int .i64 0, .int .i64 0]) ?_ 0 _ rfl; (with_reducible repeat (first | apply zuW | apply ztN | apply zqY)); exact BK463.out) hb); have n4_ := (ns_ hb); clear BK448; clear BK449; clear BK456; clear BK463; clear HB; have BK448 := n0_; have BK449 := n1_; have BK456 := n2_; have BK463 := n3_; have HB := n4_; clear n0_ n1_ n2_ n3_ n4_; (try clear hb); (try clear hb2)))
     go_roundg k1
     case measure => have := HK1.out; omega
     case rel => exact ⟨(wrap64 (x11_1 + 1)), (by first | rfl | (simp; done) | (simp [*]; done)), H', ⟨by have := HK1.out; omega⟩, ⟨bk_⟩, ⟨bk_⟩, ⟨bk_⟩, ⟨bb_⟩⟩
   ·rw [if_neg c14] at H
    have c14b0 : decide (x11_1 < 16) = false := decide_eq_false c14
    clear c14
    obtain rfl := Option.some.inj H
    go_wp2
    go_ret
    exact ⟨by first | rfl | (simp [ziS, znJ] <;> rfl) | (simp [*, ziS, znJ] <;> rfl), bb_⟩

def zbC.f (a0 : Int) : Option (Int) := some (Go.bits .and .i64 a0 15)
theorem zbC.calls (a0 : Int) (r : Int) (w : World) (h : zbC.f a0 = some r) :
  Calls Tryd.prog 47 #[.int .i64 a0] w fun e w' => e = .returned (.int .i64 r) ∧ Drawn0 w w' := by
 have H : (some (Go.bits .and .i64 a0 15)) = some r := h
 clear h
 obtain rfl := Option.some.inj H
 go_enter Tryd.func47, Tryd.ntmps47
 go_wp2
 go_ret
 exact ⟨by first | rfl | (simp; done) | (simp [*]; done), by repeat (first | exact Drawn0.refl _ | apply Drawn0.step)⟩

end Go.Proofs.YtbnfbflfhpniaaaDoor.PFnExactNormalPolygon
