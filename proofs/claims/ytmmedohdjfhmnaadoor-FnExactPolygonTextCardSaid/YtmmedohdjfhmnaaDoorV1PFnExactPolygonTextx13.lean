-- Printed for this claim by this session's program pp.py, which drives the kit's print with additions. Not trusted: Lean checks it.
import Derived.Test.YtmmedohdjfhmnaaDoorV1PFnExactPolygonTextx0
import Derived.Test.YtmmedohdjfhmnaaDoorV1PFnExactPolygonTextx11
import Derived.Test.YtmmedohdjfhmnaaDoorV1PFnExactPolygonTextx12
namespace Go.Proofs.YtmmedohdjfhmnaaDoor.PFnExactPolygonText
open Go.RowKit Go.Proofs.YtmmedohdjfhmnaaDoorW.PrintWords Go.Proofs.YtmmedohdjfhmnaaDoorW.PrintLast Go.Proofs.YtmmedohdjfhmnaaDoorW.PrintMore
attribute [local go_sem] zbB ziC zrC zhD znE zuB znH zkT   -- for this text's walks alone
set_option linter.unusedVariables false
set_option linter.unusedSimpArgs false

def zhX.f (k : Nat) (a0_0 : Int) (a0_1 : Int) (a0_2 : Int) (a0_3 : Int) (a0_4 : Int) (a0_5 : Int) (a1_0 : Int) (a1_1 : Int) (a1_2 : Int) (a1_3 : Int) (a1_4 : Int) (a1_5 : Int) : Option (Int × Int × Int) := (zeF.f k a0_0 a0_1 a0_2 a1_3 a1_4 a1_5).bind fun bt361 => ((zeF.f k a0_3 a0_4 a0_5 a1_0 a1_1 a1_2).bind fun bt364 => ((zpR.f k bt361.1 bt361.2.1 bt361.2.2 bt364.1 bt364.2.1 bt364.2.2).bind fun bt367 => (some (bt367.1, bt367.2.1, bt367.2.2))))
theorem zhX.mono : ∀ a0 a1 a2 a3 a4 a5 a6 a7 a8 a9 a10 a11 k, LeO (zhX.f k a0 a1 a2 a3 a4 a5 a6 a7 a8 a9 a10 a11) (zhX.f (k + 1) a0 a1 a2 a3 a4 a5 a6 a7 a8 a9 a10 a11) := by
 intro a0 a1 a2 a3 a4 a5 a6 a7 a8 a9 a10 a11 k
 unfold zhX.f
 repeat' first
   | (with_reducible exact zpR.mono _ _ _ _ _ _ _)
   | (with_reducible exact zeF.mono _ _ _ _ _ _ _)
   | (with_reducible exact LeO.refl _)
   | (with_reducible exact LeO.none _)
   | (with_reducible refine LeO.ite ?_ ?_)
   | (with_reducible refine LeO.bind ?_ (fun _ => ?_))
   | exact zpR.mono _ _ _ _ _ _ _
   | exact zeF.mono _ _ _ _ _ _ _
   | exact LeO.none _
   | refine LeO.ite ?_ ?_
   | refine LeO.bind ?_ (fun _ => ?_)
def zhX.T1 : Bool × List (List Nat × List Nat) := (true, [([], []), ([0], [0]), ([], []), ([2], [2]), ([1, 3], [1, 3]), ([], []), ([5], [5]), ([], []), ([7], [7]), ([6, 8, 4], [6, 8]), ([4, 9, 9], [4, 9]), ([10, 10, 0, 1, 2, 3, 4, 5, 6, 7, 8, 9, 10], [10])])
def zhX.B1 : List Nat := [0, 1, 0, 4, 15, 0, 32, 0, 128, 511, 1023, 2047]
theorem zhX.tab1 : rtab .any (opsOf Tryd.f57 1) = zhX.T1 := by kernel_rfl
theorem zhX.bits1 : ztG zhX.T1.2 zhX.B1 = true := by kernel_rfl
set_option maxHeartbeats 8000000 in
set_option maxRecDepth 100000 in
theorem zhX.calls (k : Nat) (a0_0 : Int) (a0_1 : Int) (a0_2 : Int) (a0_3 : Int) (a0_4 : Int) (a0_5 : Int) (a1_0 : Int) (a1_1 : Int) (a1_2 : Int) (a1_3 : Int) (a1_4 : Int) (a1_5 : Int) (r1 : Int) (r2 : Int) (r3 : Int) (w : World) (h : zhX.f k a0_0 a0_1 a0_2 a0_3 a0_4 a0_5 a1_0 a1_1 a1_2 a1_3 a1_4 a1_5 = some (r1, r2, r3)) :
  Calls Tryd.prog 57 #[.agg #[.int .i64 a0_0, .int .i64 a0_1, .int .i64 a0_2, .int .i64 a0_3, .int .i64 a0_4, .int .i64 a0_5], .agg #[.int .i64 a1_0, .int .i64 a1_1, .int .i64 a1_2, .int .i64 a1_3, .int .i64 a1_4, .int .i64 a1_5]] w fun e w' => e = .returned (.agg #[.int .i64 r1, .int .i64 r2, .int .i64 r3]) ∧ Below w.heap.size w w' := by
 have hu33 := Tryd.underlying33
 have hu31 := Tryd.underlying31
 have HB := zpS (Below.refl w.heap.size w)
 have H : ((zeF.f k a0_0 a0_1 a0_2 a1_3 a1_4 a1_5).bind fun bt361 => ((zeF.f k a0_3 a0_4 a0_5 a1_0 a1_1 a1_2).bind fun bt364 => ((zpR.f k bt361.1 bt361.2.1 bt361.2.2 bt364.1 bt364.2.1 bt364.2.2).bind fun bt367 => (some (bt367.1, bt367.2.1, bt367.2.2))))) = some (r1, r2, r3) := h
 clear h
 replace H := Option.bind_eq_some_iff.mp H
 obtain ⟨⟨t361, t362, t363⟩, A30, H⟩ := H
 replace H : ((zeF.f k a0_3 a0_4 a0_5 a1_0 a1_1 a1_2).bind fun bt364 => ((zpR.f k t361 t362 t363 bt364.1 bt364.2.1 bt364.2.2).bind fun bt367 => (some (bt367.1, bt367.2.1, bt367.2.2)))) = some (r1, r2, r3) := H
 have A3 := zpS A30
 clear A30
 replace H := Option.bind_eq_some_iff.mp H
 obtain ⟨⟨t364, t365, t366⟩, A40, H⟩ := H
 replace H : ((zpR.f k t361 t362 t363 t364 t365 t366).bind fun bt367 => (some (bt367.1, bt367.2.1, bt367.2.2))) = some (r1, r2, r3) := H
 have A4 := zpS A40
 clear A40
 replace H := Option.bind_eq_some_iff.mp H
 obtain ⟨⟨t367, t368, t369⟩, A50, H⟩ := H
 replace H : (some (t367, t368, t369)) = some (r1, r2, r3) := H
 have A5 := zpS A50
 clear A50
 simp only [Option.some.injEq, Prod.mk.injEq] at H
 obtain ⟨rfl, rfl, rfl⟩ := H
 go_enter Tryd.func57, Tryd.ntmps57
 try go_wp2_with (first | ((with_reducible refine zpZ (N := 2) rfl ?_); refine bx_ 2 #[.int .i64 a0_0, .int .i64 a0_1, .int .i64 a0_2, .int .i64 a0_3, .int .i64 a0_4, .int .i64 a0_5] 33 ?_; intro gb358 hg w6 hbox hb; have n0_ := (ns_ hb); have n1_ := zpS (hbox); have n2_ := (ng_ hg); have n3_ := n2_; clear HB; have HB := n0_; have BK358 := n1_; have GW358 := n2_; have GE358 := n3_; clear n0_ n1_ n2_ n3_; clear hb hbox hg) | ((with_reducible refine zpZ (N := 3) rfl ?_); refine bx_ 3 #[.int .i64 a1_0, .int .i64 a1_1, .int .i64 a1_2, .int .i64 a1_3, .int .i64 a1_4, .int .i64 a1_5] 33 ?_; intro gb359 hg w7 hbox hb; have n0_ := zpS (zgM (g := gb358) (o := .cells #[.int .i64 a0_0, .int .i64 a0_1, .int .i64 a0_2, .int .i64 a0_3, .int .i64 a0_4, .int .i64 a0_5] 33 (0, 0)) bk_ hb); have n1_ := (ns_ hb); have n2_ := zpS (hbox); have n3_ := (ng_ hg); have n4_ := n3_; have n5_ := zpS ((by rw [hg]; exact Nat.ne_of_lt (zmN (g := gb358) (o := .cells #[.int .i64 a0_0, .int .i64 a0_1, .int .i64 a0_2, .int .i64 a0_3, .int .i64 a0_4, .int .i64 a0_5] 33 (0, 0)) bk_) : gb358 ≠ gb359)); have n6_ := zpS ((by rw [hg]; exact Nat.ne_of_gt (zmN (g := gb358) (o := .cells #[.int .i64 a0_0, .int .i64 a0_1, .int .i64 a0_2, .int .i64 a0_3, .int .i64 a0_4, .int .i64 a0_5] 33 (0, 0)) bk_) : gb359 ≠ gb358)); clear BK358; clear HB; have BK358 := n0_; have HB := n1_; have BK359 := n2_; have GW359 := n3_; have GE359 := n4_; have NB358_359 := n5_; have NB359_358 := n6_; clear n0_ n1_ n2_ n3_ n4_ n5_ n6_; clear hb hbox hg) | ((with_reducible refine zpZ (N := 4) rfl ?_); refine bx_ 4 #[.int .i64 0, .int .i64 0, .int .i64 0] 31 ?_; intro gb360 hg w8 hbox hb; have n0_ := zpS (zgM (g := gb358) (o := .cells #[.int .i64 a0_0, .int .i64 a0_1, .int .i64 a0_2, .int .i64 a0_3, .int .i64 a0_4, .int .i64 a0_5] 33 (0, 0)) bk_ hb); have n1_ := zpS (zgM (g := gb359) (o := .cells #[.int .i64 a1_0, .int .i64 a1_1, .int .i64 a1_2, .int .i64 a1_3, .int .i64 a1_4, .int .i64 a1_5] 33 (0, 0)) bk_ hb); have n2_ := (ns_ hb); have n3_ := zpS (hbox); have n4_ := (ng_ hg); have n5_ := n4_; have n6_ := zpS ((by rw [hg]; exact Nat.ne_of_lt (zmN (g := gb358) (o := .cells #[.int .i64 a0_0, .int .i64 a0_1, .int .i64 a0_2, .int .i64 a0_3, .int .i64 a0_4, .int .i64 a0_5] 33 (0, 0)) bk_) : gb358 ≠ gb360)); have n7_ := zpS ((by rw [hg]; exact Nat.ne_of_gt (zmN (g := gb358) (o := .cells #[.int .i64 a0_0, .int .i64 a0_1, .int .i64 a0_2, .int .i64 a0_3, .int .i64 a0_4, .int .i64 a0_5] 33 (0, 0)) bk_) : gb360 ≠ gb358)); have n8_ := zpS ((by rw [hg]; exact Nat.ne_of_lt (zmN (g := gb359) (o := .cells #[.int .i64 a1_0, .int .i64 a1_1, .int .i64 a1_2, .int .i64 a1_3, .int .i64 a1_4, .int .i64 a1_5] 33 (0, 0)) bk_) : gb359 ≠ gb360)); have n9_ := zpS ((by rw [hg]; exact Nat.ne_of_gt (zmN (g := gb359) (o := .cells #[.int .i64 a1_0, .int .i64 a1_1, .int .i64 a1_2, .int .i64 a1_3, .int .i64 a1_4, .int .i64 a1_5] 33 (0, 0)) bk_) : gb360 ≠ gb359)); clear BK358; clear BK359; clear HB; have BK358 := n0_; have BK359 := n1_; have HB := n2_; have BK360 := n3_; have GW360 := n4_; have GE360 := n5_; have NB358_360 := n6_; have NB360_358 := n7_; have NB359_360 := n8_; have NB360_359 := n9_; clear n0_ n1_ n2_ n3_ n4_ n5_ n6_ n7_ n8_ n9_; clear hb hbox hg))
 have n0_ := zpS (ztN BK358.out)
 have n1_ := zpS (ztN BK359.out)
 have n2_ := zpS (ztN BK360.out)
 have n3_ := zpS (zvF HB.out)
 clear BK358
 clear BK359
 clear BK360
 clear HB
 have BK358 := n0_
 have BK359 := n1_
 have BK360 := n2_
 have HB := n3_
 clear n0_ n1_ n2_ n3_
 refine zpB (n := 12) (S := fun w' => w'.cell? ⟨gb358, 0, none⟩ = some (.int .i64 a0_0) ∧ w'.cell? ⟨gb358, 1, none⟩ = some (.int .i64 a0_1) ∧ w'.cell? ⟨gb358, 2, none⟩ = some (.int .i64 a0_2) ∧ w'.cell? ⟨gb358, 3, none⟩ = some (.int .i64 a0_3) ∧ w'.cell? ⟨gb358, 4, none⟩ = some (.int .i64 a0_4) ∧ w'.cell? ⟨gb358, 5, none⟩ = some (.int .i64 a0_5) ∧ w'.cell? ⟨gb359, 0, none⟩ = some (.int .i64 a1_0) ∧ w'.cell? ⟨gb359, 1, none⟩ = some (.int .i64 a1_1) ∧ w'.cell? ⟨gb359, 2, none⟩ = some (.int .i64 a1_2) ∧ w'.cell? ⟨gb359, 3, none⟩ = some (.int .i64 a1_3) ∧ w'.cell? ⟨gb359, 4, none⟩ = some (.int .i64 a1_4) ∧ w'.cell? ⟨gb359, 5, none⟩ = some (.int .i64 a1_5)) (ds := []) #[false, false, false, false, false, false, false, false, false, false, false, false] (by kernel_rfl) rfl rfl ⟨(zzS BK358.out 0).trans rfl, (zzS BK358.out 1).trans rfl, (zzS BK358.out 2).trans rfl, (zzS BK358.out 3).trans rfl, (zzS BK358.out 4).trans rfl, (zzS BK358.out 5).trans rfl, (zzS BK359.out 0).trans rfl, (zzS BK359.out 1).trans rfl, (zzS BK359.out 2).trans rfl, (zzS BK359.out 3).trans rfl, (zzS BK359.out 4).trans rfl, (zzS BK359.out 5).trans rfl⟩ (fun hHeld => ?_); refine zwI zhX.tab1 zhX.bits1 (fun HT_ HW_ => ?_)
 generalize w8.drew = w9 at BK358 BK359 BK360 HB hHeld ⊢
 refine pu_ 0 (some 5) (bl_ 12 1) ?_
 refine pu_ 2 (some 7) (bl_ 12 5) ?_
 refine pu_ 5 (some 10) (bl_ 12 37) ?_
 refine pu_ 7 (some 12) (bl_ 12 165) ?_
 refine zmW 1 (some 6) (bl_ 12 167) hHeld ?_
 refine zmW 3 (some 8) (bl_ 12 175) hHeld ?_
 refine zmW 6 (some 11) (bl_ 12 239) hHeld ?_
 refine zmW 8 (some 13) (bl_ 12 495) hHeld ?_
 refine zdC (i := 4) (N := some 9) (bl_ 12 511) rfl rfl (zeO HT_.out (by kernel_rfl)) (by decide) (fun K hK => ?_)
 refine zqW Tryd.func72 (by kernel_rfl) rfl #[.agg #[.int .i64 a0_0, .int .i64 a0_1, .int .i64 a0_2], .agg #[.int .i64 a1_3, .int .i64 a1_4, .int .i64 a1_5]] (by rfl) rfl rfl (by (try simp only [List.map_toArray, List.map_cons, List.map_nil]); first | done | rfl | (simp only [List.length_drop, List.length_take]; rfl)) ?_
 with_reducible refine (zeF.calls k a0_0 a0_1 a0_2 a1_3 a1_4 a1_5 t361 t362 t363 _ A3.out).mono ?_
 rintro e w10 ⟨rfl, hb⟩
 refine ⟨_, rfl, ?_⟩
 have n0_ := zpS (zgM (g := gb358) (o := .cells #[.int .i64 a0_0, .int .i64 a0_1, .int .i64 a0_2, .int .i64 a0_3, .int .i64 a0_4, .int .i64 a0_5] 33 (0, 0)) bk_ hb)
 have n1_ := zpS (zgM (g := gb359) (o := .cells #[.int .i64 a1_0, .int .i64 a1_1, .int .i64 a1_2, .int .i64 a1_3, .int .i64 a1_4, .int .i64 a1_5] 33 (0, 0)) bk_ hb)
 have n2_ := zpS (zgM (g := gb360) (o := .cells #[.int .i64 0, .int .i64 0, .int .i64 0] 31 (0, 0)) bk_ hb)
 have n3_ := (ns_ hb)
 clear BK358
 clear BK359
 clear BK360
 clear HB
 have BK358 := n0_
 have BK359 := n1_
 have BK360 := n2_
 have HB := n3_
 clear n0_ n1_ n2_ n3_
 (try clear hb)
 (try clear hb2)
 (try clear hk)
 (try clear hi)
 refine hK.out _ _ ⟨(zzS BK358.out 0).trans rfl, (zzS BK358.out 1).trans rfl, (zzS BK358.out 2).trans rfl, (zzS BK358.out 3).trans rfl, (zzS BK358.out 4).trans rfl, (zzS BK358.out 5).trans rfl, (zzS BK359.out 0).trans rfl, (zzS BK359.out 1).trans rfl, (zzS BK359.out 2).trans rfl, (zzS BK359.out 3).trans rfl, (zzS BK359.out 4).trans rfl, (zzS BK359.out 5).trans rfl⟩ (fun hHeld => ?_)
 clear hK K
 refine zaN (a' := ?_) ?_ ?_
 rotate_left
 ·show Act.put _ (some 9) _ = _
  simp only [Act.put, List.setIfInBounds_toArray, List.set_cons_zero, List.set_cons_succ, zcM, ziJ]
  rfl
 refine zdC (i := 9) (N := some 14) (bl_ 12 1023) rfl rfl (zeO HT_.out (by kernel_rfl)) (by decide) (fun K hK => ?_)
 refine zqW Tryd.func72 (by kernel_rfl) rfl #[.agg #[.int .i64 a0_3, .int .i64 a0_4, .int .i64 a0_5], .agg #[.int .i64 a1_0, .int .i64 a1_1, .int .i64 a1_2]] (by rfl) rfl rfl (by (try simp only [List.map_toArray, List.map_cons, List.map_nil]); first | done | rfl | (simp only [List.length_drop, List.length_take]; rfl)) ?_
 with_reducible refine (zeF.calls k a0_3 a0_4 a0_5 a1_0 a1_1 a1_2 t364 t365 t366 _ A4.out).mono ?_
 rintro e w11 ⟨rfl, hb⟩
 refine ⟨_, rfl, ?_⟩
 have n0_ := zpS (zgM (g := gb358) (o := .cells #[.int .i64 a0_0, .int .i64 a0_1, .int .i64 a0_2, .int .i64 a0_3, .int .i64 a0_4, .int .i64 a0_5] 33 (0, 0)) bk_ hb)
 have n1_ := zpS (zgM (g := gb359) (o := .cells #[.int .i64 a1_0, .int .i64 a1_1, .int .i64 a1_2, .int .i64 a1_3, .int .i64 a1_4, .int .i64 a1_5] 33 (0, 0)) bk_ hb)
 have n2_ := zpS (zgM (g := gb360) (o := .cells #[.int .i64 0, .int .i64 0, .int .i64 0] 31 (0, 0)) bk_ hb)
 have n3_ := (ns_ hb)
 clear BK358
 clear BK359
 clear BK360
 clear HB
 have BK358 := n0_
 have BK359 := n1_
 have BK360 := n2_
 have HB := n3_
 clear n0_ n1_ n2_ n3_
 (try clear hb)
 (try clear hb2)
 (try clear hk)
 (try clear hi)
 refine hK.out _ _ ⟨(zzS BK358.out 0).trans rfl, (zzS BK358.out 1).trans rfl, (zzS BK358.out 2).trans rfl, (zzS BK358.out 3).trans rfl, (zzS BK358.out 4).trans rfl, (zzS BK358.out 5).trans rfl, (zzS BK359.out 0).trans rfl, (zzS BK359.out 1).trans rfl, (zzS BK359.out 2).trans rfl, (zzS BK359.out 3).trans rfl, (zzS BK359.out 4).trans rfl, (zzS BK359.out 5).trans rfl⟩ (fun hHeld => ?_)
 clear hK K
 refine zaN (a' := ?_) ?_ ?_
 rotate_left
 ·show Act.put _ (some 14) _ = _
  simp only [Act.put, List.setIfInBounds_toArray, List.set_cons_zero, List.set_cons_succ, zcM, ziJ]
  rfl
 refine zdC (i := 10) (N := some 15) (bl_ 12 2047) rfl rfl (zeO HT_.out (by kernel_rfl)) (by decide) (fun K hK => ?_)
 refine zqW Tryd.func70 (by kernel_rfl) rfl #[.agg #[.int .i64 t361, .int .i64 t362, .int .i64 t363], .agg #[.int .i64 t364, .int .i64 t365, .int .i64 t366]] (by rfl) rfl rfl (by (try simp only [List.map_toArray, List.map_cons, List.map_nil]); first | done | rfl | (simp only [List.length_drop, List.length_take]; rfl)) ?_
 with_reducible refine (zpR.calls k t361 t362 t363 t364 t365 t366 t367 t368 t369 _ A5.out).mono ?_
 rintro e w12 ⟨rfl, hb⟩
 refine ⟨_, rfl, ?_⟩
 have n0_ := zpS (zgM (g := gb358) (o := .cells #[.int .i64 a0_0, .int .i64 a0_1, .int .i64 a0_2, .int .i64 a0_3, .int .i64 a0_4, .int .i64 a0_5] 33 (0, 0)) bk_ hb)
 have n1_ := zpS (zgM (g := gb359) (o := .cells #[.int .i64 a1_0, .int .i64 a1_1, .int .i64 a1_2, .int .i64 a1_3, .int .i64 a1_4, .int .i64 a1_5] 33 (0, 0)) bk_ hb)
 have n2_ := zpS (zgM (g := gb360) (o := .cells #[.int .i64 0, .int .i64 0, .int .i64 0] 31 (0, 0)) bk_ hb)
 have n3_ := (ns_ hb)
 clear BK358
 clear BK359
 clear BK360
 clear HB
 have BK358 := n0_
 have BK359 := n1_
 have BK360 := n2_
 have HB := n3_
 clear n0_ n1_ n2_ n3_
 (try clear hb)
 (try clear hb2)
 (try clear hk)
 (try clear hi)
 refine hK.out _ _ ⟨(zzS BK358.out 0).trans rfl, (zzS BK358.out 1).trans rfl, (zzS BK358.out 2).trans rfl, (zzS BK358.out 3).trans rfl, (zzS BK358.out 4).trans rfl, (zzS BK358.out 5).trans rfl, (zzS BK359.out 0).trans rfl, (zzS BK359.out 1).trans rfl, (zzS BK359.out 2).trans rfl, (zzS BK359.out 3).trans rfl, (zzS BK359.out 4).trans rfl, (zzS BK359.out 5).trans rfl⟩ (fun hHeld => ?_)
 clear hK K
 refine zaN (a' := ?_) ?_ ?_
 rotate_left
 ·show Act.put _ (some 15) _ = _
  simp only [Act.put, List.setIfInBounds_toArray, List.set_cons_zero, List.set_cons_succ, zcM, ziJ]
  rfl
 refine zdC (i := 11) (N := none) (bl_ 12 4095) rfl rfl (zeO HT_.out (by kernel_rfl)) (by decide) (fun K hK => ?_)
 have hs13 : w12.cell? ⟨gb360, 0, none⟩ = some (.int .i64 0) := (zzS BK360.out 0).trans rfl
 have hfs13 := zjF BK360.out 0
 have hns13_0 := NB358_360.out
 have hns13_1 := NB359_360.out
 have hms13_0 := NB360_358.out
 have hms13_1 := NB360_359.out
 have hs14 : w12.cell? ⟨gb360, 1, none⟩ = some (.int .i64 0) := (zzS BK360.out 1).trans rfl
 have hfs14 := zjF BK360.out 1
 have hns14_0 := NB358_360.out
 have hns14_1 := NB359_360.out
 have hms14_0 := NB360_358.out
 have hms14_1 := NB360_359.out
 have hs15 : w12.cell? ⟨gb360, 2, none⟩ = some (.int .i64 0) := (zzS BK360.out 2).trans rfl
 have hfs15 := zjF BK360.out 2
 have hns15_0 := NB358_360.out
 have hns15_1 := NB359_360.out
 have hms15_0 := NB360_358.out
 have hms15_1 := NB360_359.out
 refine skip_ (w1 := ?_) (by rfl) rfl ?_ ?_
 rotate_left
 ·go_simp
  rfl
 refine hK.out _ _ ⟨((zgQ (p := ⟨gb360, _, none⟩) NB358_360.out _).trans (((zgQ (p := ⟨gb360, _, none⟩) NB358_360.out _).trans (((zgQ (p := ⟨gb360, _, none⟩) NB358_360.out _).trans (hHeld.1)))))), ((zgQ (p := ⟨gb360, _, none⟩) NB358_360.out _).trans (((zgQ (p := ⟨gb360, _, none⟩) NB358_360.out _).trans (((zgQ (p := ⟨gb360, _, none⟩) NB358_360.out _).trans (hHeld.2.1)))))), ((zgQ (p := ⟨gb360, _, none⟩) NB358_360.out _).trans (((zgQ (p := ⟨gb360, _, none⟩) NB358_360.out _).trans (((zgQ (p := ⟨gb360, _, none⟩) NB358_360.out _).trans (hHeld.2.2.1)))))), ((zgQ (p := ⟨gb360, _, none⟩) NB358_360.out _).trans (((zgQ (p := ⟨gb360, _, none⟩) NB358_360.out _).trans (((zgQ (p := ⟨gb360, _, none⟩) NB358_360.out _).trans (hHeld.2.2.2.1)))))), ((zgQ (p := ⟨gb360, _, none⟩) NB358_360.out _).trans (((zgQ (p := ⟨gb360, _, none⟩) NB358_360.out _).trans (((zgQ (p := ⟨gb360, _, none⟩) NB358_360.out _).trans (hHeld.2.2.2.2.1)))))), ((zgQ (p := ⟨gb360, _, none⟩) NB358_360.out _).trans (((zgQ (p := ⟨gb360, _, none⟩) NB358_360.out _).trans (((zgQ (p := ⟨gb360, _, none⟩) NB358_360.out _).trans (hHeld.2.2.2.2.2.1)))))), ((zgQ (p := ⟨gb360, _, none⟩) NB359_360.out _).trans (((zgQ (p := ⟨gb360, _, none⟩) NB359_360.out _).trans (((zgQ (p := ⟨gb360, _, none⟩) NB359_360.out _).trans (hHeld.2.2.2.2.2.2.1)))))), ((zgQ (p := ⟨gb360, _, none⟩) NB359_360.out _).trans (((zgQ (p := ⟨gb360, _, none⟩) NB359_360.out _).trans (((zgQ (p := ⟨gb360, _, none⟩) NB359_360.out _).trans (hHeld.2.2.2.2.2.2.2.1)))))), ((zgQ (p := ⟨gb360, _, none⟩) NB359_360.out _).trans (((zgQ (p := ⟨gb360, _, none⟩) NB359_360.out _).trans (((zgQ (p := ⟨gb360, _, none⟩) NB359_360.out _).trans (hHeld.2.2.2.2.2.2.2.2.1)))))), ((zgQ (p := ⟨gb360, _, none⟩) NB359_360.out _).trans (((zgQ (p := ⟨gb360, _, none⟩) NB359_360.out _).trans (((zgQ (p := ⟨gb360, _, none⟩) NB359_360.out _).trans (hHeld.2.2.2.2.2.2.2.2.2.1)))))), ((zgQ (p := ⟨gb360, _, none⟩) NB359_360.out _).trans (((zgQ (p := ⟨gb360, _, none⟩) NB359_360.out _).trans (((zgQ (p := ⟨gb360, _, none⟩) NB359_360.out _).trans (hHeld.2.2.2.2.2.2.2.2.2.2.1)))))), ((zgQ (p := ⟨gb360, _, none⟩) NB359_360.out _).trans (((zgQ (p := ⟨gb360, _, none⟩) NB359_360.out _).trans (((zgQ (p := ⟨gb360, _, none⟩) NB359_360.out _).trans (hHeld.2.2.2.2.2.2.2.2.2.2.2))))))⟩ (fun hHeld => ?_)
 clear hK K
 refine znK (zzP HT_.out (by kernel_rfl)) ?_
 try go_wp2
 refine bodyPost_ret (results_cell_row rfl _ _ gb360 31 #[.int .i64 t367, .int .i64 t368, .int .i64 t369] (0, 0) _ rfl (by (with_reducible repeat (first | apply zuW | apply ztN | apply zqY)); refine zlL (cs := #[.int .i64 t367, .int .i64 t368, .int .i64 0]) ?_ 2 _ rfl; (with_reducible repeat (first | apply zuW | apply ztN | apply zqY)); refine zlL (cs := #[.int .i64 t367, .int .i64 0, .int .i64 0]) ?_ 1 _ rfl; (with_reducible repeat (first | apply zuW | apply ztN | apply zqY)); refine zlL (cs := #[.int .i64 0, .int .i64 0, .int .i64 0]) ?_ 0 _ rfl; (with_reducible repeat (first | apply zuW | apply ztN | apply zqY)); exact BK360.out) Tryd.underlying31 rfl (by kernel_rfl)) rfl ?_
 exact ⟨by first | rfl | (simp [ziS, znJ] <;> rfl) | (simp [*, ziS, znJ] <;> rfl), bb_⟩

def ztL.f (k : Nat) (a0_0 : Int) (a0_1 : Int) (a0_2 : Int) (a0_3 : Int) (a0_4 : Int) (a0_5 : Int) (a1_0 : Int) (a1_1 : Int) (a1_2 : Int) (a1_3 : Int) (a1_4 : Int) (a1_5 : Int) : Option (Int × Int × Int) := (zeF.f k a0_0 a0_1 a0_2 a1_0 a1_1 a1_2).bind fun bt373 => ((zeF.f k a0_3 a0_4 a0_5 a1_3 a1_4 a1_5).bind fun bt376 => ((zjL.f k bt373.1 bt373.2.1 bt373.2.2 bt376.1 bt376.2.1 bt376.2.2).bind fun bt379 => (some (bt379.1, bt379.2.1, bt379.2.2))))
theorem ztL.mono : ∀ a0 a1 a2 a3 a4 a5 a6 a7 a8 a9 a10 a11 k, LeO (ztL.f k a0 a1 a2 a3 a4 a5 a6 a7 a8 a9 a10 a11) (ztL.f (k + 1) a0 a1 a2 a3 a4 a5 a6 a7 a8 a9 a10 a11) := by
 intro a0 a1 a2 a3 a4 a5 a6 a7 a8 a9 a10 a11 k
 unfold ztL.f
 repeat' first
   | (with_reducible exact zjL.mono _ _ _ _ _ _ _)
   | (with_reducible exact zeF.mono _ _ _ _ _ _ _)
   | (with_reducible exact LeO.refl _)
   | (with_reducible exact LeO.none _)
   | (with_reducible refine LeO.ite ?_ ?_)
   | (with_reducible refine LeO.bind ?_ (fun _ => ?_))
   | exact zjL.mono _ _ _ _ _ _ _
   | exact zeF.mono _ _ _ _ _ _ _
   | exact LeO.none _
   | refine LeO.ite ?_ ?_
   | refine LeO.bind ?_ (fun _ => ?_)
def ztL.T1 : Bool × List (List Nat × List Nat) := (true, [([], []), ([0], [0]), ([], []), ([2], [2]), ([1, 3], [1, 3]), ([], []), ([5], [5]), ([], []), ([7], [7]), ([6, 8, 4], [6, 8]), ([4, 9, 9], [4, 9]), ([10, 10, 0, 1, 2, 3, 4, 5, 6, 7, 8, 9, 10], [10])])
def ztL.B1 : List Nat := [0, 1, 0, 4, 15, 0, 32, 0, 128, 511, 1023, 2047]
theorem ztL.tab1 : rtab .any (opsOf Tryd.f58 1) = ztL.T1 := by kernel_rfl
theorem ztL.bits1 : ztG ztL.T1.2 ztL.B1 = true := by kernel_rfl
set_option maxHeartbeats 8000000 in
set_option maxRecDepth 100000 in
theorem ztL.calls (k : Nat) (a0_0 : Int) (a0_1 : Int) (a0_2 : Int) (a0_3 : Int) (a0_4 : Int) (a0_5 : Int) (a1_0 : Int) (a1_1 : Int) (a1_2 : Int) (a1_3 : Int) (a1_4 : Int) (a1_5 : Int) (r1 : Int) (r2 : Int) (r3 : Int) (w : World) (h : ztL.f k a0_0 a0_1 a0_2 a0_3 a0_4 a0_5 a1_0 a1_1 a1_2 a1_3 a1_4 a1_5 = some (r1, r2, r3)) :
  Calls Tryd.prog 58 #[.agg #[.int .i64 a0_0, .int .i64 a0_1, .int .i64 a0_2, .int .i64 a0_3, .int .i64 a0_4, .int .i64 a0_5], .agg #[.int .i64 a1_0, .int .i64 a1_1, .int .i64 a1_2, .int .i64 a1_3, .int .i64 a1_4, .int .i64 a1_5]] w fun e w' => e = .returned (.agg #[.int .i64 r1, .int .i64 r2, .int .i64 r3]) ∧ Below w.heap.size w w' := by
 have hu33 := Tryd.underlying33
 have hu31 := Tryd.underlying31
 have HB := zpS (Below.refl w.heap.size w)
 have H : ((zeF.f k a0_0 a0_1 a0_2 a1_0 a1_1 a1_2).bind fun bt373 => ((zeF.f k a0_3 a0_4 a0_5 a1_3 a1_4 a1_5).bind fun bt376 => ((zjL.f k bt373.1 bt373.2.1 bt373.2.2 bt376.1 bt376.2.1 bt376.2.2).bind fun bt379 => (some (bt379.1, bt379.2.1, bt379.2.2))))) = some (r1, r2, r3) := h
 clear h
 replace H := Option.bind_eq_some_iff.mp H
 obtain ⟨⟨t373, t374, t375⟩, A30, H⟩ := H
 replace H : ((zeF.f k a0_3 a0_4 a0_5 a1_3 a1_4 a1_5).bind fun bt376 => ((zjL.f k t373 t374 t375 bt376.1 bt376.2.1 bt376.2.2).bind fun bt379 => (some (bt379.1, bt379.2.1, bt379.2.2)))) = some (r1, r2, r3) := H
 have A3 := zpS A30
 clear A30
 replace H := Option.bind_eq_some_iff.mp H
 obtain ⟨⟨t376, t377, t378⟩, A40, H⟩ := H
 replace H : ((zjL.f k t373 t374 t375 t376 t377 t378).bind fun bt379 => (some (bt379.1, bt379.2.1, bt379.2.2))) = some (r1, r2, r3) := H
 have A4 := zpS A40
 clear A40
 replace H := Option.bind_eq_some_iff.mp H
 obtain ⟨⟨t379, t380, t381⟩, A50, H⟩ := H
 replace H : (some (t379, t380, t381)) = some (r1, r2, r3) := H
 have A5 := zpS A50
 clear A50
 simp only [Option.some.injEq, Prod.mk.injEq] at H
 obtain ⟨rfl, rfl, rfl⟩ := H
 go_enter Tryd.func58, Tryd.ntmps58
 try go_wp2_with (first | ((with_reducible refine zpZ (N := 2) rfl ?_); refine bx_ 2 #[.int .i64 a0_0, .int .i64 a0_1, .int .i64 a0_2, .int .i64 a0_3, .int .i64 a0_4, .int .i64 a0_5] 33 ?_; intro gb370 hg w6 hbox hb; have n0_ := (ns_ hb); have n1_ := zpS (hbox); have n2_ := (ng_ hg); have n3_ := n2_; clear HB; have HB := n0_; have BK370 := n1_; have GW370 := n2_; have GE370 := n3_; clear n0_ n1_ n2_ n3_; clear hb hbox hg) | ((with_reducible refine zpZ (N := 3) rfl ?_); refine bx_ 3 #[.int .i64 a1_0, .int .i64 a1_1, .int .i64 a1_2, .int .i64 a1_3, .int .i64 a1_4, .int .i64 a1_5] 33 ?_; intro gb371 hg w7 hbox hb; have n0_ := zpS (zgM (g := gb370) (o := .cells #[.int .i64 a0_0, .int .i64 a0_1, .int .i64 a0_2, .int .i64 a0_3, .int .i64 a0_4, .int .i64 a0_5] 33 (0, 0)) bk_ hb); have n1_ := (ns_ hb); have n2_ := zpS (hbox); have n3_ := (ng_ hg); have n4_ := n3_; have n5_ := zpS ((by rw [hg]; exact Nat.ne_of_lt (zmN (g := gb370) (o := .cells #[.int .i64 a0_0, .int .i64 a0_1, .int .i64 a0_2, .int .i64 a0_3, .int .i64 a0_4, .int .i64 a0_5] 33 (0, 0)) bk_) : gb370 ≠ gb371)); have n6_ := zpS ((by rw [hg]; exact Nat.ne_of_gt (zmN (g := gb370) (o := .cells #[.int .i64 a0_0, .int .i64 a0_1, .int .i64 a0_2, .int .i64 a0_3, .int .i64 a0_4, .int .i64 a0_5] 33 (0, 0)) bk_) : gb371 ≠ gb370)); clear BK370; clear HB; have BK370 := n0_; have HB := n1_; have BK371 := n2_; have GW371 := n3_; have GE371 := n4_; have NB370_371 := n5_; have NB371_370 := n6_; clear n0_ n1_ n2_ n3_ n4_ n5_ n6_; clear hb hbox hg) | ((with_reducible refine zpZ (N := 4) rfl ?_); refine bx_ 4 #[.int .i64 0, .int .i64 0, .int .i64 0] 31 ?_; intro gb372 hg w8 hbox hb; have n0_ := zpS (zgM (g := gb370) (o := .cells #[.int .i64 a0_0, .int .i64 a0_1, .int .i64 a0_2, .int .i64 a0_3, .int .i64 a0_4, .int .i64 a0_5] 33 (0, 0)) bk_ hb); have n1_ := zpS (zgM (g := gb371) (o := .cells #[.int .i64 a1_0, .int .i64 a1_1, .int .i64 a1_2, .int .i64 a1_3, .int .i64 a1_4, .int .i64 a1_5] 33 (0, 0)) bk_ hb); have n2_ := (ns_ hb); have n3_ := zpS (hbox); have n4_ := (ng_ hg); have n5_ := n4_; have n6_ := zpS ((by rw [hg]; exact Nat.ne_of_lt (zmN (g := gb370) (o := .cells #[.int .i64 a0_0, .int .i64 a0_1, .int .i64 a0_2, .int .i64 a0_3, .int .i64 a0_4, .int .i64 a0_5] 33 (0, 0)) bk_) : gb370 ≠ gb372)); have n7_ := zpS ((by rw [hg]; exact Nat.ne_of_gt (zmN (g := gb370) (o := .cells #[.int .i64 a0_0, .int .i64 a0_1, .int .i64 a0_2, .int .i64 a0_3, .int .i64 a0_4, .int .i64 a0_5] 33 (0, 0)) bk_) : gb372 ≠ gb370)); have n8_ := zpS ((by rw [hg]; exact Nat.ne_of_lt (zmN (g := gb371) (o := .cells #[.int .i64 a1_0, .int .i64 a1_1, .int .i64 a1_2, .int .i64 a1_3, .int .i64 a1_4, .int .i64 a1_5] 33 (0, 0)) bk_) : gb371 ≠ gb372)); have n9_ := zpS ((by rw [hg]; exact Nat.ne_of_gt (zmN (g := gb371) (o := .cells #[.int .i64 a1_0, .int .i64 a1_1, .int .i64 a1_2, .int .i64 a1_3, .int .i64 a1_4, .int .i64 a1_5] 33 (0, 0)) bk_) : gb372 ≠ gb371)); clear BK370; clear BK371; clear HB; have BK370 := n0_; have BK371 := n1_; have HB := n2_; have BK372 := n3_; have GW372 := n4_; have GE372 := n5_; have NB370_372 := n6_; have NB372_370 := n7_; have NB371_372 := n8_; have NB372_371 := n9_; clear n0_ n1_ n2_ n3_ n4_ n5_ n6_ n7_ n8_ n9_; clear hb hbox hg))
 have n0_ := zpS (ztN BK370.out)
 have n1_ := zpS (ztN BK371.out)
 have n2_ := zpS (ztN BK372.out)
 have n3_ := zpS (zvF HB.out)
 clear BK370
 clear BK371
 clear BK372
 clear HB
 have BK370 := n0_
 have BK371 := n1_
 have BK372 := n2_
 have HB := n3_
 clear n0_ n1_ n2_ n3_
 refine zpB (n := 12) (S := fun w' => w'.cell? ⟨gb370, 0, none⟩ = some (.int .i64 a0_0) ∧ w'.cell? ⟨gb370, 1, none⟩ = some (.int .i64 a0_1) ∧ w'.cell? ⟨gb370, 2, none⟩ = some (.int .i64 a0_2) ∧ w'.cell? ⟨gb370, 3, none⟩ = some (.int .i64 a0_3) ∧ w'.cell? ⟨gb370, 4, none⟩ = some (.int .i64 a0_4) ∧ w'.cell? ⟨gb370, 5, none⟩ = some (.int .i64 a0_5) ∧ w'.cell? ⟨gb371, 0, none⟩ = some (.int .i64 a1_0) ∧ w'.cell? ⟨gb371, 1, none⟩ = some (.int .i64 a1_1) ∧ w'.cell? ⟨gb371, 2, none⟩ = some (.int .i64 a1_2) ∧ w'.cell? ⟨gb371, 3, none⟩ = some (.int .i64 a1_3) ∧ w'.cell? ⟨gb371, 4, none⟩ = some (.int .i64 a1_4) ∧ w'.cell? ⟨gb371, 5, none⟩ = some (.int .i64 a1_5)) (ds := []) #[false, false, false, false, false, false, false, false, false, false, false, false] (by kernel_rfl) rfl rfl ⟨(zzS BK370.out 0).trans rfl, (zzS BK370.out 1).trans rfl, (zzS BK370.out 2).trans rfl, (zzS BK370.out 3).trans rfl, (zzS BK370.out 4).trans rfl, (zzS BK370.out 5).trans rfl, (zzS BK371.out 0).trans rfl, (zzS BK371.out 1).trans rfl, (zzS BK371.out 2).trans rfl, (zzS BK371.out 3).trans rfl, (zzS BK371.out 4).trans rfl, (zzS BK371.out 5).trans rfl⟩ (fun hHeld => ?_); refine zwI ztL.tab1 ztL.bits1 (fun HT_ HW_ => ?_)
 generalize w8.drew = w9 at BK370 BK371 BK372 HB hHeld ⊢
 refine pu_ 0 (some 5) (bl_ 12 1) ?_
 refine pu_ 2 (some 7) (bl_ 12 5) ?_
 refine pu_ 5 (some 10) (bl_ 12 37) ?_
 refine pu_ 7 (some 12) (bl_ 12 165) ?_
 refine zmW 1 (some 6) (bl_ 12 167) hHeld ?_
 refine zmW 3 (some 8) (bl_ 12 175) hHeld ?_
 refine zmW 6 (some 11) (bl_ 12 239) hHeld ?_
 refine zmW 8 (some 13) (bl_ 12 495) hHeld ?_
 refine zdC (i := 4) (N := some 9) (bl_ 12 511) rfl rfl (zeO HT_.out (by kernel_rfl)) (by decide) (fun K hK => ?_)
 refine zqW Tryd.func72 (by kernel_rfl) rfl #[.agg #[.int .i64 a0_0, .int .i64 a0_1, .int .i64 a0_2], .agg #[.int .i64 a1_0, .int .i64 a1_1, .int .i64 a1_2]] (by rfl) rfl rfl (by (try simp only [List.map_toArray, List.map_cons, List.map_nil]); first | done | rfl | (simp only [List.length_drop, List.length_take]; rfl)) ?_
 with_reducible refine (zeF.calls k a0_0 a0_1 a0_2 a1_0 a1_1 a1_2 t373 t374 t375 _ A3.out).mono ?_
 rintro e w10 ⟨rfl, hb⟩
 refine ⟨_, rfl, ?_⟩
 have n0_ := zpS (zgM (g := gb370) (o := .cells #[.int .i64 a0_0, .int .i64 a0_1, .int .i64 a0_2, .int .i64 a0_3, .int .i64 a0_4, .int .i64 a0_5] 33 (0, 0)) bk_ hb)
 have n1_ := zpS (zgM (g := gb371) (o := .cells #[.int .i64 a1_0, .int .i64 a1_1, .int .i64 a1_2, .int .i64 a1_3, .int .i64 a1_4, .int .i64 a1_5] 33 (0, 0)) bk_ hb)
 have n2_ := zpS (zgM (g := gb372) (o := .cells #[.int .i64 0, .int .i64 0, .int .i64 0] 31 (0, 0)) bk_ hb)
 have n3_ := (ns_ hb)
 clear BK370
 clear BK371
 clear BK372
 clear HB
 have BK370 := n0_
 have BK371 := n1_
 have BK372 := n2_
 have HB := n3_
 clear n0_ n1_ n2_ n3_
 (try clear hb)
 (try clear hb2)
 (try clear hk)
 (try clear hi)
 refine hK.out _ _ ⟨(zzS BK370.out 0).trans rfl, (zzS BK370.out 1).trans rfl, (zzS BK370.out 2).trans rfl, (zzS BK370.out 3).trans rfl, (zzS BK370.out 4).trans rfl, (zzS BK370.out 5).trans rfl, (zzS BK371.out 0).trans rfl, (zzS BK371.out 1).trans rfl, (zzS BK371.out 2).trans rfl, (zzS BK371.out 3).trans rfl, (zzS BK371.out 4).trans rfl, (zzS BK371.out 5).trans rfl⟩ (fun hHeld => ?_)
 clear hK K
 refine zaN (a' := ?_) ?_ ?_
 rotate_left
 ·show Act.put _ (some 9) _ = _
  simp only [Act.put, List.setIfInBounds_toArray, List.set_cons_zero, List.set_cons_succ, zcM, ziJ]
  rfl
 refine zdC (i := 9) (N := some 14) (bl_ 12 1023) rfl rfl (zeO HT_.out (by kernel_rfl)) (by decide) (fun K hK => ?_)
 refine zqW Tryd.func72 (by kernel_rfl) rfl #[.agg #[.int .i64 a0_3, .int .i64 a0_4, .int .i64 a0_5], .agg #[.int .i64 a1_3, .int .i64 a1_4, .int .i64 a1_5]] (by rfl) rfl rfl (by (try simp only [List.map_toArray, List.map_cons, List.map_nil]); first | done | rfl | (simp only [List.length_drop, List.length_take]; rfl)) ?_
 with_reducible refine (zeF.calls k a0_3 a0_4 a0_5 a1_3 a1_4 a1_5 t376 t377 t378 _ A4.out).mono ?_
 rintro e w11 ⟨rfl, hb⟩
 refine ⟨_, rfl, ?_⟩
 have n0_ := zpS (zgM (g := gb370) (o := .cells #[.int .i64 a0_0, .int .i64 a0_1, .int .i64 a0_2, .int .i64 a0_3, .int .i64 a0_4, .int .i64 a0_5] 33 (0, 0)) bk_ hb)
 have n1_ := zpS (zgM (g := gb371) (o := .cells #[.int .i64 a1_0, .int .i64 a1_1, .int .i64 a1_2, .int .i64 a1_3, .int .i64 a1_4, .int .i64 a1_5] 33 (0, 0)) bk_ hb)
 have n2_ := zpS (zgM (g := gb372) (o := .cells #[.int .i64 0, .int .i64 0, .int .i64 0] 31 (0, 0)) bk_ hb)
 have n3_ := (ns_ hb)
 clear BK370
 clear BK371
 clear BK372
 clear HB
 have BK370 := n0_
 have BK371 := n1_
 have BK372 := n2_
 have HB := n3_
 clear n0_ n1_ n2_ n3_
 (try clear hb)
 (try clear hb2)
 (try clear hk)
 (try clear hi)
 refine hK.out _ _ ⟨(zzS BK370.out 0).trans rfl, (zzS BK370.out 1).trans rfl, (zzS BK370.out 2).trans rfl, (zzS BK370.out 3).trans rfl, (zzS BK370.out 4).trans rfl, (zzS BK370.out 5).trans rfl, (zzS BK371.out 0).trans rfl, (zzS BK371.out 1).trans rfl, (zzS BK371.out 2).trans rfl, (zzS BK371.out 3).trans rfl, (zzS BK371.out 4).trans rfl, (zzS BK371.out 5).trans rfl⟩ (fun hHeld => ?_)
 clear hK K
 refine zaN (a' := ?_) ?_ ?_
 rotate_left
 ·show Act.put _ (some 14) _ = _
  simp only [Act.put, List.setIfInBounds_toArray, List.set_cons_zero, List.set_cons_succ, zcM, ziJ]
  rfl
 refine zdC (i := 10) (N := some 15) (bl_ 12 2047) rfl rfl (zeO HT_.out (by kernel_rfl)) (by decide) (fun K hK => ?_)
 refine zqW Tryd.func73 (by kernel_rfl) rfl #[.agg #[.int .i64 t373, .int .i64 t374, .int .i64 t375], .agg #[.int .i64 t376, .int .i64 t377, .int .i64 t378]] (by rfl) rfl rfl (by (try simp only [List.map_toArray, List.map_cons, List.map_nil]); first | done | rfl | (simp only [List.length_drop, List.length_take]; rfl)) ?_
 with_reducible refine (zjL.calls k t373 t374 t375 t376 t377 t378 t379 t380 t381 _ A5.out).mono ?_
 rintro e w12 ⟨rfl, hb⟩
 refine ⟨_, rfl, ?_⟩
 have n0_ := zpS (zgM (g := gb370) (o := .cells #[.int .i64 a0_0, .int .i64 a0_1, .int .i64 a0_2, .int .i64 a0_3, .int .i64 a0_4, .int .i64 a0_5] 33 (0, 0)) bk_ hb)
 have n1_ := zpS (zgM (g := gb371) (o := .cells #[.int .i64 a1_0, .int .i64 a1_1, .int .i64 a1_2, .int .i64 a1_3, .int .i64 a1_4, .int .i64 a1_5] 33 (0, 0)) bk_ hb)
 have n2_ := zpS (zgM (g := gb372) (o := .cells #[.int .i64 0, .int .i64 0, .int .i64 0] 31 (0, 0)) bk_ hb)
 have n3_ := (ns_ hb)
 clear BK370
 clear BK371
 clear BK372
 clear HB
 have BK370 := n0_
 have BK371 := n1_
 have BK372 := n2_
 have HB := n3_
 clear n0_ n1_ n2_ n3_
 (try clear hb)
 (try clear hb2)
 (try clear hk)
 (try clear hi)
 refine hK.out _ _ ⟨(zzS BK370.out 0).trans rfl, (zzS BK370.out 1).trans rfl, (zzS BK370.out 2).trans rfl, (zzS BK370.out 3).trans rfl, (zzS BK370.out 4).trans rfl, (zzS BK370.out 5).trans rfl, (zzS BK371.out 0).trans rfl, (zzS BK371.out 1).trans rfl, (zzS BK371.out 2).trans rfl, (zzS BK371.out 3).trans rfl, (zzS BK371.out 4).trans rfl, (zzS BK371.out 5).trans rfl⟩ (fun hHeld => ?_)
 clear hK K
 refine zaN (a' := ?_) ?_ ?_
 rotate_left
 ·show Act.put _ (some 15) _ = _
  simp only [Act.put, List.setIfInBounds_toArray, List.set_cons_zero, List.set_cons_succ, zcM, ziJ]
  rfl
 refine zdC (i := 11) (N := none) (bl_ 12 4095) rfl rfl (zeO HT_.out (by kernel_rfl)) (by decide) (fun K hK => ?_)
 have hs13 : w12.cell? ⟨gb372, 0, none⟩ = some (.int .i64 0) := (zzS BK372.out 0).trans rfl
 have hfs13 := zjF BK372.out 0
 have hns13_0 := NB370_372.out
 have hns13_1 := NB371_372.out
 have hms13_0 := NB372_370.out
 have hms13_1 := NB372_371.out
 have hs14 : w12.cell? ⟨gb372, 1, none⟩ = some (.int .i64 0) := (zzS BK372.out 1).trans rfl
 have hfs14 := zjF BK372.out 1
 have hns14_0 := NB370_372.out
 have hns14_1 := NB371_372.out
 have hms14_0 := NB372_370.out
 have hms14_1 := NB372_371.out
 have hs15 : w12.cell? ⟨gb372, 2, none⟩ = some (.int .i64 0) := (zzS BK372.out 2).trans rfl
 have hfs15 := zjF BK372.out 2
 have hns15_0 := NB370_372.out
 have hns15_1 := NB371_372.out
 have hms15_0 := NB372_370.out
 have hms15_1 := NB372_371.out
 refine skip_ (w1 := ?_) (by rfl) rfl ?_ ?_
 rotate_left
 ·go_simp
  rfl
 refine hK.out _ _ ⟨((zgQ (p := ⟨gb372, _, none⟩) NB370_372.out _).trans (((zgQ (p := ⟨gb372, _, none⟩) NB370_372.out _).trans (((zgQ (p := ⟨gb372, _, none⟩) NB370_372.out _).trans (hHeld.1)))))), ((zgQ (p := ⟨gb372, _, none⟩) NB370_372.out _).trans (((zgQ (p := ⟨gb372, _, none⟩) NB370_372.out _).trans (((zgQ (p := ⟨gb372, _, none⟩) NB370_372.out _).trans (hHeld.2.1)))))), ((zgQ (p := ⟨gb372, _, none⟩) NB370_372.out _).trans (((zgQ (p := ⟨gb372, _, none⟩) NB370_372.out _).trans (((zgQ (p := ⟨gb372, _, none⟩) NB370_372.out _).trans (hHeld.2.2.1)))))), ((zgQ (p := ⟨gb372, _, none⟩) NB370_372.out _).trans (((zgQ (p := ⟨gb372, _, none⟩) NB370_372.out _).trans (((zgQ (p := ⟨gb372, _, none⟩) NB370_372.out _).trans (hHeld.2.2.2.1)))))), ((zgQ (p := ⟨gb372, _, none⟩) NB370_372.out _).trans (((zgQ (p := ⟨gb372, _, none⟩) NB370_372.out _).trans (((zgQ (p := ⟨gb372, _, none⟩) NB370_372.out _).trans (hHeld.2.2.2.2.1)))))), ((zgQ (p := ⟨gb372, _, none⟩) NB370_372.out _).trans (((zgQ (p := ⟨gb372, _, none⟩) NB370_372.out _).trans (((zgQ (p := ⟨gb372, _, none⟩) NB370_372.out _).trans (hHeld.2.2.2.2.2.1)))))), ((zgQ (p := ⟨gb372, _, none⟩) NB371_372.out _).trans (((zgQ (p := ⟨gb372, _, none⟩) NB371_372.out _).trans (((zgQ (p := ⟨gb372, _, none⟩) NB371_372.out _).trans (hHeld.2.2.2.2.2.2.1)))))), ((zgQ (p := ⟨gb372, _, none⟩) NB371_372.out _).trans (((zgQ (p := ⟨gb372, _, none⟩) NB371_372.out _).trans (((zgQ (p := ⟨gb372, _, none⟩) NB371_372.out _).trans (hHeld.2.2.2.2.2.2.2.1)))))), ((zgQ (p := ⟨gb372, _, none⟩) NB371_372.out _).trans (((zgQ (p := ⟨gb372, _, none⟩) NB371_372.out _).trans (((zgQ (p := ⟨gb372, _, none⟩) NB371_372.out _).trans (hHeld.2.2.2.2.2.2.2.2.1)))))), ((zgQ (p := ⟨gb372, _, none⟩) NB371_372.out _).trans (((zgQ (p := ⟨gb372, _, none⟩) NB371_372.out _).trans (((zgQ (p := ⟨gb372, _, none⟩) NB371_372.out _).trans (hHeld.2.2.2.2.2.2.2.2.2.1)))))), ((zgQ (p := ⟨gb372, _, none⟩) NB371_372.out _).trans (((zgQ (p := ⟨gb372, _, none⟩) NB371_372.out _).trans (((zgQ (p := ⟨gb372, _, none⟩) NB371_372.out _).trans (hHeld.2.2.2.2.2.2.2.2.2.2.1)))))), ((zgQ (p := ⟨gb372, _, none⟩) NB371_372.out _).trans (((zgQ (p := ⟨gb372, _, none⟩) NB371_372.out _).trans (((zgQ (p := ⟨gb372, _, none⟩) NB371_372.out _).trans (hHeld.2.2.2.2.2.2.2.2.2.2.2))))))⟩ (fun hHeld => ?_)
 clear hK K
 refine znK (zzP HT_.out (by kernel_rfl)) ?_
 try go_wp2
 refine bodyPost_ret (results_cell_row rfl _ _ gb372 31 #[.int .i64 t379, .int .i64 t380, .int .i64 t381] (0, 0) _ rfl (by (with_reducible repeat (first | apply zuW | apply ztN | apply zqY)); refine zlL (cs := #[.int .i64 t379, .int .i64 t380, .int .i64 0]) ?_ 2 _ rfl; (with_reducible repeat (first | apply zuW | apply ztN | apply zqY)); refine zlL (cs := #[.int .i64 t379, .int .i64 0, .int .i64 0]) ?_ 1 _ rfl; (with_reducible repeat (first | apply zuW | apply ztN | apply zqY)); refine zlL (cs := #[.int .i64 0, .int .i64 0, .int .i64 0]) ?_ 0 _ rfl; (with_reducible repeat (first | apply zuW | apply ztN | apply zqY)); exact BK372.out) Tryd.underlying31 rfl (by kernel_rfl)) rfl ?_
 exact ⟨by first | rfl | (simp [ziS, znJ] <;> rfl) | (simp [*, ziS, znJ] <;> rfl), bb_⟩

def zpU.f (a0 : Int) : Option (Int) := some (mx (-1) (mn 1 a0))
set_option maxHeartbeats 8000000 in
set_option maxRecDepth 100000 in
theorem zpU.calls (a0 : Int) (r : Int) (w : World) (h : zpU.f a0 = some r) :
  Calls Tryd.prog 74 #[.int .i64 a0] w fun e w' => e = .returned (.int .i64 r) ∧ Below w.heap.size w w' := by
 have HB := zpS (Below.refl w.heap.size w)
 have H : (some (mx (-1) (mn 1 a0))) = some r := h
 clear h
 obtain ⟨ji2, hji2⟩ : ∃ j_ : Int, (mn 1 a0) = j_ := ⟨_, rfl⟩
 replace H : (some (mx (-1) (ji2))) = some r := by first | (rw [hji2] at H; exact H) | (simp only [hji2] at H ⊢; exact H)
 (try (have hji2h : ji2 ≤ 1 := by (rw [← hji2]; unfold mn; (repeat' split) <;> omega)))
 (try (have hji2g : ji2 ≤ 64 := by omega))
 have hji2_ : (if a0 < 1 then a0 else 1) = ji2 := hji2
 obtain ⟨ji3, hji3⟩ : ∃ j_ : Int, (mx (-1) (ji2)) = j_ := ⟨_, rfl⟩
 replace H : (some ji3) = some r := by first | (rw [hji3] at H; exact H) | (simp only [hji3] at H ⊢; exact H)
 have hji3_ : (if (-1) < (ji2) then (ji2) else (-1)) = ji3 := hji3
 obtain rfl := Option.some.inj H
 go_enter Tryd.func74, Tryd.ntmps74
 go_wp2
 go_ret
 exact ⟨by first | rfl | (simp [ziS, znJ] <;> rfl) | (simp only [← hji2, ← hji3]; first | rfl | (simp [ziS, znJ] <;> rfl)) | (simp [*, ziS, znJ] <;> rfl), bb_⟩

def zgD.f (a0 : Int) : Option (Int) := some (mx a0 (wrap64 (-a0)))
set_option maxHeartbeats 8000000 in
set_option maxRecDepth 100000 in
theorem zgD.calls (a0 : Int) (r : Int) (w : World) (h : zgD.f a0 = some r) :
  Calls Tryd.prog 62 #[.int .i64 a0] w fun e w' => e = .returned (.int .i64 r) ∧ Below w.heap.size w w' := by
 have HB := zpS (Below.refl w.heap.size w)
 have H : (some (mx a0 (wrap64 (-a0)))) = some r := h
 clear h
 obtain ⟨ji2, hji2⟩ : ∃ j_ : Int, (mx a0 (wrap64 (-a0))) = j_ := ⟨_, rfl⟩
 replace H : (some ji2) = some r := by first | (rw [hji2] at H; exact H) | (simp only [hji2] at H ⊢; exact H)
 have hji2_ : (if a0 < (wrap64 (-a0)) then (wrap64 (-a0)) else a0) = ji2 := hji2
 obtain rfl := Option.some.inj H
 go_enter Tryd.func62, Tryd.ntmps62
 go_wp2
 go_ret
 exact ⟨by first | rfl | (simp [ziS, znJ] <;> rfl) | (simp only [← hji2]; first | rfl | (simp [ziS, znJ] <;> rfl)) | (simp [*, ziS, znJ] <;> rfl), bb_⟩

def zoP.f (a0 : Int) (a1 : Int) : Option (Int × Int) := some (IntKind.u64.wrap ((IntKind.u64.wrap ((IntKind.u64.wrap ((a0 / 4294967296) * (a1 / 4294967296))) + ((IntKind.u64.wrap ((IntKind.u64.wrap ((a0 / 4294967296) * (Go.bits .and .u64 a1 4294967295))) + ((IntKind.u64.wrap ((Go.bits .and .u64 a0 4294967295) * (Go.bits .and .u64 a1 4294967295))) / 4294967296))) / 4294967296))) + ((IntKind.u64.wrap ((Go.bits .and .u64 (IntKind.u64.wrap ((IntKind.u64.wrap ((a0 / 4294967296) * (Go.bits .and .u64 a1 4294967295))) + ((IntKind.u64.wrap ((Go.bits .and .u64 a0 4294967295) * (Go.bits .and .u64 a1 4294967295))) / 4294967296))) 4294967295) + (IntKind.u64.wrap ((Go.bits .and .u64 a0 4294967295) * (a1 / 4294967296))))) / 4294967296)), IntKind.u64.wrap (a0 * a1))
set_option maxHeartbeats 8000000 in
set_option maxRecDepth 100000 in
theorem zoP.calls (a0 : Int) (a1 : Int) (r1 : Int) (r2 : Int) (w : World) (h : zoP.f a0 a1 = some (r1, r2)) :
  Calls Tryd.prog 82 #[.int .u64 a0, .int .u64 a1] w fun e w' => e = .returned (.tuple #[.int .u64 r1, .int .u64 r2]) ∧ Drawn0 w w' := by
 have H : (some (IntKind.u64.wrap ((IntKind.u64.wrap ((IntKind.u64.wrap ((a0 / 4294967296) * (a1 / 4294967296))) + ((IntKind.u64.wrap ((IntKind.u64.wrap ((a0 / 4294967296) * (Go.bits .and .u64 a1 4294967295))) + ((IntKind.u64.wrap ((Go.bits .and .u64 a0 4294967295) * (Go.bits .and .u64 a1 4294967295))) / 4294967296))) / 4294967296))) + ((IntKind.u64.wrap ((Go.bits .and .u64 (IntKind.u64.wrap ((IntKind.u64.wrap ((a0 / 4294967296) * (Go.bits .and .u64 a1 4294967295))) + ((IntKind.u64.wrap ((Go.bits .and .u64 a0 4294967295) * (Go.bits .and .u64 a1 4294967295))) / 4294967296))) 4294967295) + (IntKind.u64.wrap ((Go.bits .and .u64 a0 4294967295) * (a1 / 4294967296))))) / 4294967296)), IntKind.u64.wrap (a0 * a1))) = some (r1, r2) := h
 clear h
 simp only [Option.some.injEq, Prod.mk.injEq] at H
 obtain ⟨rfl, rfl⟩ := H
 go_enter Tryd.func82, Tryd.ntmps82
 go_wp2
 go_ret2
 exact ⟨by first | rfl | (simp; done) | (simp [*]; done), by repeat (first | exact Drawn0.refl _ | apply Drawn0.step)⟩

def zyC.f (a0 : Int) (a1 : Int) : Option (Bool) := (zgD.f a0).bind fun t382 => ((zgD.f a0).bind fun t383 => ((zoP.f (IntKind.u64.wrap (t382)) (IntKind.u64.wrap (t383))).bind fun bt384 => ((zgD.f a1).bind fun t386 => ((zgD.f a1).bind fun t387 => ((zoP.f (IntKind.u64.wrap (t386)) (IntKind.u64.wrap (t387))).bind fun bt388 => (if bt384.1 > (Go.bits .or .u64 (IntKind.u64.wrap (bt388.1 * 2)) (bt388.2 / 9223372036854775808)) then (some true) else (if bt384.1 = (Go.bits .or .u64 (IntKind.u64.wrap (bt388.1 * 2)) (bt388.2 / 9223372036854775808)) then (some (decide (bt384.2 > (IntKind.u64.wrap (bt388.2 * 2))))) else (some false))))))))
set_option maxHeartbeats 8000000 in
set_option maxRecDepth 100000 in
theorem zyC.calls (a0 : Int) (a1 : Int) (r : Bool) (w : World) (h : zyC.f a0 a1 = some r) :
  Calls Tryd.prog 75 #[.int .i64 a0, .int .i64 a1] w fun e w' => e = .returned (.bool r) ∧ Below w.heap.size w w' := by
 have HB := zpS (Below.refl w.heap.size w)
 have H : ((zgD.f a0).bind fun t382 => ((zgD.f a0).bind fun t383 => ((zoP.f (IntKind.u64.wrap (t382)) (IntKind.u64.wrap (t383))).bind fun bt384 => ((zgD.f a1).bind fun t386 => ((zgD.f a1).bind fun t387 => ((zoP.f (IntKind.u64.wrap (t386)) (IntKind.u64.wrap (t387))).bind fun bt388 => (if bt384.1 > (Go.bits .or .u64 (IntKind.u64.wrap (bt388.1 * 2)) (bt388.2 / 9223372036854775808)) then (some true) else (if bt384.1 = (Go.bits .or .u64 (IntKind.u64.wrap (bt388.1 * 2)) (bt388.2 / 9223372036854775808)) then (some (decide (bt384.2 > (IntKind.u64.wrap (bt388.2 * 2))))) else (some false))))))))) = some r := h
 clear h
 replace H := Option.bind_eq_some_iff.mp H
 obtain ⟨t382, A30, H⟩ := H
 replace H : ((zgD.f a0).bind fun t383 => ((zoP.f (IntKind.u64.wrap (t382)) (IntKind.u64.wrap (t383))).bind fun bt384 => ((zgD.f a1).bind fun t386 => ((zgD.f a1).bind fun t387 => ((zoP.f (IntKind.u64.wrap (t386)) (IntKind.u64.wrap (t387))).bind fun bt388 => (if bt384.1 > (Go.bits .or .u64 (IntKind.u64.wrap (bt388.1 * 2)) (bt388.2 / 9223372036854775808)) then (some true) else (if bt384.1 = (Go.bits .or .u64 (IntKind.u64.wrap (bt388.1 * 2)) (bt388.2 / 9223372036854775808)) then (some (decide (bt384.2 > (IntKind.u64.wrap (bt388.2 * 2))))) else (some false)))))))) = some r := H
 have A3 := zpS A30
 clear A30
 replace H := Option.bind_eq_some_iff.mp H
 obtain ⟨t383, A40, H⟩ := H
 replace H : ((zoP.f (IntKind.u64.wrap (t382)) (IntKind.u64.wrap (t383))).bind fun bt384 => ((zgD.f a1).bind fun t386 => ((zgD.f a1).bind fun t387 => ((zoP.f (IntKind.u64.wrap (t386)) (IntKind.u64.wrap (t387))).bind fun bt388 => (if bt384.1 > (Go.bits .or .u64 (IntKind.u64.wrap (bt388.1 * 2)) (bt388.2 / 9223372036854775808)) then (some true) else (if bt384.1 = (Go.bits .or .u64 (IntKind.u64.wrap (bt388.1 * 2)) (bt388.2 / 9223372036854775808)) then (some (decide (bt384.2 > (IntKind.u64.wrap (bt388.2 * 2))))) else (some false))))))) = some r := H
 have A4 := zpS A40
 clear A40
 replace H := Option.bind_eq_some_iff.mp H
 obtain ⟨⟨t384, t385⟩, A50, H⟩ := H
 replace H : ((zgD.f a1).bind fun t386 => ((zgD.f a1).bind fun t387 => ((zoP.f (IntKind.u64.wrap (t386)) (IntKind.u64.wrap (t387))).bind fun bt388 => (if t384 > (Go.bits .or .u64 (IntKind.u64.wrap (bt388.1 * 2)) (bt388.2 / 9223372036854775808)) then (some true) else (if t384 = (Go.bits .or .u64 (IntKind.u64.wrap (bt388.1 * 2)) (bt388.2 / 9223372036854775808)) then (some (decide (t385 > (IntKind.u64.wrap (bt388.2 * 2))))) else (some false)))))) = some r := H
 have A5 := zpS A50
 clear A50
 replace H := Option.bind_eq_some_iff.mp H
 obtain ⟨t386, A60, H⟩ := H
 replace H : ((zgD.f a1).bind fun t387 => ((zoP.f (IntKind.u64.wrap (t386)) (IntKind.u64.wrap (t387))).bind fun bt388 => (if t384 > (Go.bits .or .u64 (IntKind.u64.wrap (bt388.1 * 2)) (bt388.2 / 9223372036854775808)) then (some true) else (if t384 = (Go.bits .or .u64 (IntKind.u64.wrap (bt388.1 * 2)) (bt388.2 / 9223372036854775808)) then (some (decide (t385 > (IntKind.u64.wrap (bt388.2 * 2))))) else (some false))))) = some r := H
 have A6 := zpS A60
 clear A60
 replace H := Option.bind_eq_some_iff.mp H
 obtain ⟨t387, A70, H⟩ := H
 replace H : ((zoP.f (IntKind.u64.wrap (t386)) (IntKind.u64.wrap (t387))).bind fun bt388 => (if t384 > (Go.bits .or .u64 (IntKind.u64.wrap (bt388.1 * 2)) (bt388.2 / 9223372036854775808)) then (some true) else (if t384 = (Go.bits .or .u64 (IntKind.u64.wrap (bt388.1 * 2)) (bt388.2 / 9223372036854775808)) then (some (decide (t385 > (IntKind.u64.wrap (bt388.2 * 2))))) else (some false)))) = some r := H
 have A7 := zpS A70
 clear A70
 replace H := Option.bind_eq_some_iff.mp H
 obtain ⟨⟨t388, t389⟩, A80, H⟩ := H
 replace H : (if t384 > (Go.bits .or .u64 (IntKind.u64.wrap (t388 * 2)) (t389 / 9223372036854775808)) then (some true) else (if t384 = (Go.bits .or .u64 (IntKind.u64.wrap (t388 * 2)) (t389 / 9223372036854775808)) then (some (decide (t385 > (IntKind.u64.wrap (t389 * 2))))) else (some false))) = some r := H
 have A8 := zpS A80
 clear A80
 by_cases c9 : t384 > (Go.bits .or .u64 (IntKind.u64.wrap (t388 * 2)) (t389 / 9223372036854775808))
 ·rw [if_pos c9] at H
  have c9b0 : decide ((Go.bits .or .u64 (IntKind.u64.wrap (t388 * 2)) (t389 / 9223372036854775808)) < t384) = true := decide_eq_true c9
  clear c9
  obtain rfl := Option.some.inj H
  go_enter Tryd.func75, Tryd.ntmps75
  go_wp2_with (first | ((with_reducible refine zgK (f := 62) rfl ?_); refine zqQ (some 11) rfl rfl Tryd.func62 (by kernel_rfl) rfl #[.int .i64 a0] rfl (by (try simp only [List.map_toArray, List.map_cons, List.map_nil]); first | done | rfl | (simp only [List.length_drop, List.length_take]; rfl)) ?_; (with_reducible refine (zgD.calls a0 t382 _ A3.out).mono ?_); rintro e w10 ⟨rfl, hb⟩; refine ⟨_, rfl, ?_⟩; have n0_ := (ns_ hb); clear HB; have HB := n0_; clear n0_; (try clear hb); (try clear hb2)) | ((with_reducible refine zgK (f := 62) rfl ?_); refine zqQ (some 14) rfl rfl Tryd.func62 (by kernel_rfl) rfl #[.int .i64 a0] rfl (by (try simp only [List.map_toArray, List.map_cons, List.map_nil]); first | done | rfl | (simp only [List.length_drop, List.length_take]; rfl)) ?_; (with_reducible refine (zgD.calls a0 t383 _ A4.out).mono ?_); rintro e w11 ⟨rfl, hb⟩; refine ⟨_, rfl, ?_⟩; have n0_ := (ns_ hb); clear HB; have HB := n0_; clear n0_; (try clear hb); (try clear hb2)) | ((with_reducible refine zgK (f := 82) rfl ?_); refine zqQ (some 16) rfl rfl Tryd.func82 (by kernel_rfl) rfl #[.int .u64 (IntKind.u64.wrap (t382)), .int .u64 (IntKind.u64.wrap (t383))] rfl (by (try simp only [List.map_toArray, List.map_cons, List.map_nil]); first | done | rfl | (simp only [List.length_drop, List.length_take]; rfl)) ?_; (with_reducible refine (zoP.calls (IntKind.u64.wrap (t382)) (IntKind.u64.wrap (t383)) t384 t385 _ A5.out).mono ?_); rintro e w' ⟨rfl, ⟨nd, rfl⟩⟩; refine ⟨_, rfl, ?_⟩) | ((with_reducible refine zgK (f := 62) rfl ?_); refine zqQ (some 21) rfl rfl Tryd.func62 (by kernel_rfl) rfl #[.int .i64 a1] rfl (by (try simp only [List.map_toArray, List.map_cons, List.map_nil]); first | done | rfl | (simp only [List.length_drop, List.length_take]; rfl)) ?_; (with_reducible refine (zgD.calls a1 t386 _ A6.out).mono ?_); rintro e w12 ⟨rfl, hb⟩; refine ⟨_, rfl, ?_⟩; have n0_ := (ns_ hb); clear HB; have HB := n0_; clear n0_; (try clear hb); (try clear hb2)) | ((with_reducible refine zgK (f := 62) rfl ?_); refine zqQ (some 24) rfl rfl Tryd.func62 (by kernel_rfl) rfl #[.int .i64 a1] rfl (by (try simp only [List.map_toArray, List.map_cons, List.map_nil]); first | done | rfl | (simp only [List.length_drop, List.length_take]; rfl)) ?_; (with_reducible refine (zgD.calls a1 t387 _ A7.out).mono ?_); rintro e w13 ⟨rfl, hb⟩; refine ⟨_, rfl, ?_⟩; have n0_ := (ns_ hb); clear HB; have HB := n0_; clear n0_; (try clear hb); (try clear hb2)) | ((with_reducible refine zgK (f := 82) rfl ?_); refine zqQ (some 26) rfl rfl Tryd.func82 (by kernel_rfl) rfl #[.int .u64 (IntKind.u64.wrap (t386)), .int .u64 (IntKind.u64.wrap (t387))] rfl (by (try simp only [List.map_toArray, List.map_cons, List.map_nil]); first | done | rfl | (simp only [List.length_drop, List.length_take]; rfl)) ?_; (with_reducible refine (zoP.calls (IntKind.u64.wrap (t386)) (IntKind.u64.wrap (t387)) t388 t389 _ A8.out).mono ?_); rintro e w' ⟨rfl, ⟨nd, rfl⟩⟩; refine ⟨_, rfl, ?_⟩))
  go_ret
  exact ⟨by first | rfl | (simp [ziS, znJ] <;> rfl) | (simp [*, ziS, znJ] <;> rfl), bb_⟩
 ·rw [if_neg c9] at H
  have c9b0 : decide ((Go.bits .or .u64 (IntKind.u64.wrap (t388 * 2)) (t389 / 9223372036854775808)) < t384) = false := decide_eq_false c9
  clear c9
  by_cases c14 : t384 = (Go.bits .or .u64 (IntKind.u64.wrap (t388 * 2)) (t389 / 9223372036854775808))
  ·rw [if_pos c14] at H
   have c14b0 : (t384 == (Go.bits .or .u64 (IntKind.u64.wrap (t388 * 2)) (t389 / 9223372036854775808))) = true := beq_iff_eq.mpr c14
   have c14b1 : (t384 != (Go.bits .or .u64 (IntKind.u64.wrap (t388 * 2)) (t389 / 9223372036854775808))) = false := bne_eq_false_iff_eq.mpr c14
   clear c14
   obtain rfl := Option.some.inj H
   go_enter Tryd.func75, Tryd.ntmps75
   go_wp2_with (first | ((with_reducible refine zgK (f := 62) rfl ?_); refine zqQ (some 11) rfl rfl Tryd.func62 (by kernel_rfl) rfl #[.int .i64 a0] rfl (by (try simp only [List.map_toArray, List.map_cons, List.map_nil]); first | done | rfl | (simp only [List.length_drop, List.length_take]; rfl)) ?_; (with_reducible refine (zgD.calls a0 t382 _ A3.out).mono ?_); rintro e w15 ⟨rfl, hb⟩; refine ⟨_, rfl, ?_⟩; have n0_ := (ns_ hb); clear HB; have HB := n0_; clear n0_; (try clear hb); (try clear hb2)) | ((with_reducible refine zgK (f := 62) rfl ?_); refine zqQ (some 14) rfl rfl Tryd.func62 (by kernel_rfl) rfl #[.int .i64 a0] rfl (by (try simp only [List.map_toArray, List.map_cons, List.map_nil]); first | done | rfl | (simp only [List.length_drop, List.length_take]; rfl)) ?_; (with_reducible refine (zgD.calls a0 t383 _ A4.out).mono ?_); rintro e w16 ⟨rfl, hb⟩; refine ⟨_, rfl, ?_⟩; have n0_ := (ns_ hb); clear HB; have HB := n0_; clear n0_; (try clear hb); (try clear hb2)) | ((with_reducible refine zgK (f := 82) rfl ?_); refine zqQ (some 16) rfl rfl Tryd.func82 (by kernel_rfl) rfl #[.int .u64 (IntKind.u64.wrap (t382)), .int .u64 (IntKind.u64.wrap (t383))] rfl (by (try simp only [List.map_toArray, List.map_cons, List.map_nil]); first | done | rfl | (simp only [List.length_drop, List.length_take]; rfl)) ?_; (with_reducible refine (zoP.calls (IntKind.u64.wrap (t382)) (IntKind.u64.wrap (t383)) t384 t385 _ A5.out).mono ?_); rintro e w' ⟨rfl, ⟨nd, rfl⟩⟩; refine ⟨_, rfl, ?_⟩) | ((with_reducible refine zgK (f := 62) rfl ?_); refine zqQ (some 21) rfl rfl Tryd.func62 (by kernel_rfl) rfl #[.int .i64 a1] rfl (by (try simp only [List.map_toArray, List.map_cons, List.map_nil]); first | done | rfl | (simp only [List.length_drop, List.length_take]; rfl)) ?_; (with_reducible refine (zgD.calls a1 t386 _ A6.out).mono ?_); rintro e w17 ⟨rfl, hb⟩; refine ⟨_, rfl, ?_⟩; have n0_ := (ns_ hb); clear HB; have HB := n0_; clear n0_; (try clear hb); (try clear hb2)) | ((with_reducible refine zgK (f := 62) rfl ?_); refine zqQ (some 24) rfl rfl Tryd.func62 (by kernel_rfl) rfl #[.int .i64 a1] rfl (by (try simp only [List.map_toArray, List.map_cons, List.map_nil]); first | done | rfl | (simp only [List.length_drop, List.length_take]; rfl)) ?_; (with_reducible refine (zgD.calls a1 t387 _ A7.out).mono ?_); rintro e w18 ⟨rfl, hb⟩; refine ⟨_, rfl, ?_⟩; have n0_ := (ns_ hb); clear HB; have HB := n0_; clear n0_; (try clear hb); (try clear hb2)) | ((with_reducible refine zgK (f := 82) rfl ?_); refine zqQ (some 26) rfl rfl Tryd.func82 (by kernel_rfl) rfl #[.int .u64 (IntKind.u64.wrap (t386)), .int .u64 (IntKind.u64.wrap (t387))] rfl (by (try simp only [List.map_toArray, List.map_cons, List.map_nil]); first | done | rfl | (simp only [List.length_drop, List.length_take]; rfl)) ?_; (with_reducible refine (zoP.calls (IntKind.u64.wrap (t386)) (IntKind.u64.wrap (t387)) t388 t389 _ A8.out).mono ?_); rintro e w' ⟨rfl, ⟨nd, rfl⟩⟩; refine ⟨_, rfl, ?_⟩))
   go_ret
   exact ⟨by first | rfl | (simp [ziS, znJ] <;> rfl) | (simp [*, ziS, znJ] <;> rfl), bb_⟩
  ·rw [if_neg c14] at H
   have c14b0 : (t384 == (Go.bits .or .u64 (IntKind.u64.wrap (t388 * 2)) (t389 / 9223372036854775808))) = false := beq_eq_false_iff_ne.mpr c14
   have c14b1 : (t384 != (Go.bits .or .u64 (IntKind.u64.wrap (t388 * 2)) (t389 / 9223372036854775808))) = true := bne_iff_ne.mpr c14
   obtain rfl := Option.some.inj H
   go_enter Tryd.func75, Tryd.ntmps75
   go_wp2_with (first | ((with_reducible refine zgK (f := 62) rfl ?_); refine zqQ (some 11) rfl rfl Tryd.func62 (by kernel_rfl) rfl #[.int .i64 a0] rfl (by (try simp only [List.map_toArray, List.map_cons, List.map_nil]); first | done | rfl | (simp only [List.length_drop, List.length_take]; rfl)) ?_; (with_reducible refine (zgD.calls a0 t382 _ A3.out).mono ?_); rintro e w19 ⟨rfl, hb⟩; refine ⟨_, rfl, ?_⟩; have n0_ := (ns_ hb); clear HB; have HB := n0_; clear n0_; (try clear hb); (try clear hb2)) | ((with_reducible refine zgK (f := 62) rfl ?_); refine zqQ (some 14) rfl rfl Tryd.func62 (by kernel_rfl) rfl #[.int .i64 a0] rfl (by (try simp only [List.map_toArray, List.map_cons, List.map_nil]); first | done | rfl | (simp only [List.length_drop, List.length_take]; rfl)) ?_; (with_reducible refine (zgD.calls a0 t383 _ A4.out).mono ?_); rintro e w20 ⟨rfl, hb⟩; refine ⟨_, rfl, ?_⟩; have n0_ := (ns_ hb); clear HB; have HB := n0_; clear n0_; (try clear hb); (try clear hb2)) | ((with_reducible refine zgK (f := 82) rfl ?_); refine zqQ (some 16) rfl rfl Tryd.func82 (by kernel_rfl) rfl #[.int .u64 (IntKind.u64.wrap (t382)), .int .u64 (IntKind.u64.wrap (t383))] rfl (by (try simp only [List.map_toArray, List.map_cons, List.map_nil]); first | done | rfl | (simp only [List.length_drop, List.length_take]; rfl)) ?_; (with_reducible refine (zoP.calls (IntKind.u64.wrap (t382)) (IntKind.u64.wrap (t383)) t384 t385 _ A5.out).mono ?_); rintro e w' ⟨rfl, ⟨nd, rfl⟩⟩; refine ⟨_, rfl, ?_⟩) | ((with_reducible refine zgK (f := 62) rfl ?_); refine zqQ (some 21) rfl rfl Tryd.func62 (by kernel_rfl) rfl #[.int .i64 a1] rfl (by (try simp only [List.map_toArray, List.map_cons, List.map_nil]); first | done | rfl | (simp only [List.length_drop, List.length_take]; rfl)) ?_; (with_reducible refine (zgD.calls a1 t386 _ A6.out).mono ?_); rintro e w21 ⟨rfl, hb⟩; refine ⟨_, rfl, ?_⟩; have n0_ := (ns_ hb); clear HB; have HB := n0_; clear n0_; (try clear hb); (try clear hb2)) | ((with_reducible refine zgK (f := 62) rfl ?_); refine zqQ (some 24) rfl rfl Tryd.func62 (by kernel_rfl) rfl #[.int .i64 a1] rfl (by (try simp only [List.map_toArray, List.map_cons, List.map_nil]); first | done | rfl | (simp only [List.length_drop, List.length_take]; rfl)) ?_; (with_reducible refine (zgD.calls a1 t387 _ A7.out).mono ?_); rintro e w22 ⟨rfl, hb⟩; refine ⟨_, rfl, ?_⟩; have n0_ := (ns_ hb); clear HB; have HB := n0_; clear n0_; (try clear hb); (try clear hb2)) | ((with_reducible refine zgK (f := 82) rfl ?_); refine zqQ (some 26) rfl rfl Tryd.func82 (by kernel_rfl) rfl #[.int .u64 (IntKind.u64.wrap (t386)), .int .u64 (IntKind.u64.wrap (t387))] rfl (by (try simp only [List.map_toArray, List.map_cons, List.map_nil]); first | done | rfl | (simp only [List.length_drop, List.length_take]; rfl)) ?_; (with_reducible refine (zoP.calls (IntKind.u64.wrap (t386)) (IntKind.u64.wrap (t387)) t388 t389 _ A8.out).mono ?_); rintro e w' ⟨rfl, ⟨nd, rfl⟩⟩; refine ⟨_, rfl, ?_⟩))
   go_ret
   exact ⟨by first | rfl | (simp [ziS, znJ] <;> rfl) | (simp [*, ziS, znJ] <;> rfl), bb_⟩

def zyE.j0 : Nat → Int → Int → Bool → Int → Int → Int → Option (Int)
 | 0, _, _, _, _, _, _ => none
 | k + 1, x3, x4, x12, x391000, x391001, x391002 => if x12 = true then (some x3) else (if x3 = 0 then (some x4) else ((zyC.f x391000 x391001).bind fun t393 => (if t393 = true then (some x3) else (some x4))))
def zyE.f (k : Nat) (a0_0 : Int) (a0_1 : Int) (a0_2 : Int) : Option (Int) := (zpU.f a0_0).bind fun t391 => ((zpU.f a0_1).bind fun t392 => (if t391 = t392 then (zyE.j0 k t391 t392 true a0_0 a0_1 a0_2) else (zyE.j0 k t391 t392 (t392 == 0) a0_0 a0_1 a0_2)))
theorem zyE.mono_l : ∀ k, (∀ y0 y1 y2 y3 y4 y5, LeO (zyE.j0 k y0 y1 y2 y3 y4 y5) (zyE.j0 (k + 1) y0 y1 y2 y3 y4 y5))
 | 0 => fun _ _ _ _ _ _ r h => by simp [zyE.j0] at h
 | k + 1 => by
  have ih0 := zyE.mono_l k
  ·intro y0 y1 y2 y3 y4 y5
   unfold zyE.j0
   repeat' first
   | (with_reducible exact ih0 _ _ _ _ _ _)
   | (with_reducible exact LeO.refl _)
   | (with_reducible exact LeO.none _)
   | (with_reducible refine LeO.ite ?_ ?_)
   | (with_reducible refine LeO.bind ?_ (fun _ => ?_))
   | exact ih0 _ _ _ _ _ _
   | exact LeO.none _
   | refine LeO.ite ?_ ?_
   | refine LeO.bind ?_ (fun _ => ?_)
theorem zyE.mono : ∀ a0 a1 a2 k, LeO (zyE.f k a0 a1 a2) (zyE.f (k + 1) a0 a1 a2) := by
 intro a0 a1 a2 k
 have ih0 := zyE.mono_l k
 unfold zyE.f
 repeat' first
   | (with_reducible exact ih0 _ _ _ _ _ _)
   | (with_reducible exact LeO.refl _)
   | (with_reducible exact LeO.none _)
   | (with_reducible refine LeO.ite ?_ ?_)
   | (with_reducible refine LeO.bind ?_ (fun _ => ?_))
   | exact ih0 _ _ _ _ _ _
   | exact LeO.none _
   | refine LeO.ite ?_ ?_
   | refine LeO.bind ?_ (fun _ => ?_)
def zyE.T1 : Bool × List (List Nat × List Nat) := (true, [([], []), ([0], [0]), ([1], [1]), ([], []), ([3], [3]), ([4, 2], [4]), ([2, 5, 0, 1, 2], [2]), ([5, 6, 0, 1, 2, 3, 4, 5, 6], [5])])
def zyE.B1 : List Nat := [0, 1, 3, 0, 8, 31, 63, 127]
theorem zyE.tab1 : rtab .any (opsOf Tryd.f59 1) = zyE.T1 := by kernel_rfl
theorem zyE.bits1 : ztG zyE.T1.2 zyE.B1 = true := by kernel_rfl
set_option maxHeartbeats 8000000 in
set_option maxRecDepth 100000 in
theorem zyE.calls (k : Nat) (a0_0 : Int) (a0_1 : Int) (a0_2 : Int) (r : Int) (w : World) (h : zyE.f k a0_0 a0_1 a0_2 = some r) :
  Calls Tryd.prog 59 #[.agg #[.int .i64 a0_0, .int .i64 a0_1, .int .i64 a0_2]] w fun e w' => e = .returned (.int .i64 r) ∧ Below w.heap.size w w' := by
 have hu31 := Tryd.underlying31
 have HB := zpS (Below.refl w.heap.size w)
 have H : ((zpU.f a0_0).bind fun t391 => ((zpU.f a0_1).bind fun t392 => (if t391 = t392 then (zyE.j0 k t391 t392 true a0_0 a0_1 a0_2) else (zyE.j0 k t391 t392 (t392 == 0) a0_0 a0_1 a0_2)))) = some r := h
 clear h
 replace H := Option.bind_eq_some_iff.mp H
 obtain ⟨t391, A20, H⟩ := H
 replace H : ((zpU.f a0_1).bind fun t392 => (if t391 = t392 then (zyE.j0 k t391 t392 true a0_0 a0_1 a0_2) else (zyE.j0 k t391 t392 (t392 == 0) a0_0 a0_1 a0_2))) = some r := H
 have A2 := zpS A20
 clear A20
 replace H := Option.bind_eq_some_iff.mp H
 obtain ⟨t392, A30, H⟩ := H
 replace H : (if t391 = t392 then (zyE.j0 k t391 t392 true a0_0 a0_1 a0_2) else (zyE.j0 k t391 t392 (t392 == 0) a0_0 a0_1 a0_2)) = some r := H
 have A3 := zpS A30
 clear A30
 have HC4 := zpS H
 clear H
 go_enter Tryd.func59, Tryd.ntmps59
 try go_wp2_with (first | ((with_reducible refine zpZ (N := 1) rfl ?_); refine bx_ 1 #[.int .i64 a0_0, .int .i64 a0_1, .int .i64 a0_2] 31 ?_; intro gb390 hg w5 hbox hb; have n0_ := (ns_ hb); have n1_ := zpS (hbox); have n2_ := (ng_ hg); have n3_ := n2_; clear HB; have HB := n0_; have BK390 := n1_; have GW390 := n2_; have GE390 := n3_; clear n0_ n1_ n2_ n3_; clear hb hbox hg))
 have n0_ := zpS (ztN BK390.out)
 have n1_ := zpS (zvF HB.out)
 clear BK390
 clear HB
 have BK390 := n0_
 have HB := n1_
 clear n0_ n1_
 refine zpB (n := 8) (S := fun w' => w'.cell? ⟨gb390, 0, none⟩ = some (.int .i64 a0_0) ∧ w'.cell? ⟨gb390, 1, none⟩ = some (.int .i64 a0_1) ∧ w'.cell? ⟨gb390, 2, none⟩ = some (.int .i64 a0_2)) (ds := []) #[false, false, false, false, false, false, false, false] (by kernel_rfl) rfl rfl ⟨(zzS BK390.out 0).trans rfl, (zzS BK390.out 1).trans rfl, (zzS BK390.out 2).trans rfl⟩ (fun hHeld => ?_); refine zwI zyE.tab1 zyE.bits1 (fun HT_ HW_ => ?_)
 generalize w5.drew = w6 at BK390 HB hHeld ⊢
 refine pu_ 0 (some 5) (bl_ 8 1) ?_
 refine pu_ 3 (some 8) (bl_ 8 9) ?_
 refine tk3_ 1 (some 6) (bl_ 8 11) hHeld ?_
 refine tk3_ 4 (some 9) (bl_ 8 27) hHeld ?_
 refine zdC (i := 2) (N := some 7) (bl_ 8 31) rfl rfl (zeO HT_.out (by kernel_rfl)) (by decide) (fun K hK => ?_)
 refine zqW Tryd.func74 (by kernel_rfl) rfl #[.int .i64 a0_0] (by rfl) rfl rfl (by (try simp only [List.map_toArray, List.map_cons, List.map_nil]); first | done | rfl | (simp only [List.length_drop, List.length_take]; rfl)) ?_
 with_reducible refine (zpU.calls a0_0 t391 _ A2.out).mono ?_
 rintro e w7 ⟨rfl, hb⟩
 refine ⟨_, rfl, ?_⟩
 have n0_ := zpS (zgM (g := gb390) (o := .cells #[.int .i64 a0_0, .int .i64 a0_1, .int .i64 a0_2] 31 (0, 0)) bk_ hb)
 have n1_ := (ns_ hb)
 clear BK390
 clear HB
 have BK390 := n0_
 have HB := n1_
 clear n0_ n1_
 (try clear hb)
 (try clear hb2)
 (try clear hk)
 (try clear hi)
 refine hK.out _ _ ⟨(zzS BK390.out 0).trans rfl, (zzS BK390.out 1).trans rfl, (zzS BK390.out 2).trans rfl⟩ (fun hHeld => ?_)
 clear hK K
 refine zaN (a' := ?_) ?_ ?_
 rotate_left
 ·show Act.put _ (some 7) _ = _
  simp only [Act.put, List.setIfInBounds_toArray, List.set_cons_zero, List.set_cons_succ, zcM, ziJ]
  rfl
 refine zdC (i := 5) (N := some 10) (bl_ 8 63) rfl rfl (zeO HT_.out (by kernel_rfl)) (by decide) (fun K hK => ?_)
 refine zqW Tryd.func74 (by kernel_rfl) rfl #[.int .i64 a0_1] (by rfl) rfl rfl (by (try simp only [List.map_toArray, List.map_cons, List.map_nil]); first | done | rfl | (simp only [List.length_drop, List.length_take]; rfl)) ?_
 with_reducible refine (zpU.calls a0_1 t392 _ A3.out).mono ?_
 rintro e w8 ⟨rfl, hb⟩
 refine ⟨_, rfl, ?_⟩
 have n0_ := zpS (zgM (g := gb390) (o := .cells #[.int .i64 a0_0, .int .i64 a0_1, .int .i64 a0_2] 31 (0, 0)) bk_ hb)
 have n1_ := (ns_ hb)
 clear BK390
 clear HB
 have BK390 := n0_
 have HB := n1_
 clear n0_ n1_
 (try clear hb)
 (try clear hb2)
 (try clear hk)
 (try clear hi)
 refine hK.out _ _ ⟨(zzS BK390.out 0).trans rfl, (zzS BK390.out 1).trans rfl, (zzS BK390.out 2).trans rfl⟩ (fun hHeld => ?_)
 clear hK K
 refine zaN (a' := ?_) ?_ ?_
 rotate_left
 ·show Act.put _ (some 10) _ = _
  simp only [Act.put, List.setIfInBounds_toArray, List.set_cons_zero, List.set_cons_succ, zcM, ziJ]
  rfl
 refine pu_ 6 (some 3) (bl_ 8 127) ?_
 refine pu_ 7 (some 4) (bl_ 8 255) ?_
 refine znK (zzP HT_.out (by kernel_rfl)) ?_
 go_upto_region 3 with (fail)
 go_cut [12] (fun v12 wc => ∃ (kq : Nat) (x12_3 : Bool), v12 = .bool x12_3 ∧ Aside0 (zyE.j0 kq t391 t392 x12_3 a0_0 a0_1 a0_2 = some r) ∧ Aside0 (kq ≤ k) ∧ Aside0 (wc.heap[gb390]? = some (.cells #[.int .i64 a0_0, .int .i64 a0_1, .int .i64 a0_2] 31 (0, 0))) ∧ Aside0 (Below w.heap.size w wc))
 case first =>
  have H := HC4.out
  clear HC4
  by_cases c9 : t391 = t392
  ·rw [if_pos c9] at H
   have c9b0 : (t391 == t392) = true := beq_iff_eq.mpr c9
   have c9b1 : (t391 != t392) = false := bne_eq_false_iff_eq.mpr c9
   clear c9
   (first | rw [c9b0] | (simp only [zcM, ziJ]; rw [c9b0]) | skip)
   have H' := zpS H
   clear H
   go_wp2
   go_meet
   case rel => exact ⟨_, (true), (by first | rfl | (simp; done) | (simp [*]; done)), H', ⟨by first | omega | exact Nat.le_refl _⟩, ⟨bk_⟩, ⟨bb_⟩⟩
  ·rw [if_neg c9] at H
   have c9b0 : (t391 == t392) = false := beq_eq_false_iff_ne.mpr c9
   have c9b1 : (t391 != t392) = true := bne_iff_ne.mpr c9
   (first | rw [c9b0] | (simp only [zcM, ziJ]; rw [c9b0]) | skip)
   have H' := zpS H
   clear H
   go_wp2
   go_meet
   case rel => exact ⟨_, ((t392 == 0)), (by first | rfl | (simp; done) | (simp [*]; done)), H', ⟨by first | omega | exact Nat.le_refl _⟩, ⟨bk_⟩, ⟨bb_⟩⟩
 case rest =>
  clear HC4
  try clear p2
  try clear c5
  try clear c7
  try clear c9
  try clear c9b0
  try clear c9b1
  obtain ⟨kq, x12_3, rfl, HA, HJ3, BK390, HB⟩ := hcut
  cases kq with
  | zero => exact absurd HA.out (by simp [zyE.j0])
  | succ kj3 =>
   have H := HA.out
   clear HA
   simp only [zyE.j0] at H
   by_cases c10 : x12_3 = true
   ·subst c10
    have H1 : (some t391) = some r := by rw [if_pos rfl] at H; exact H
    clear H
    have H := H1
    clear H1
    obtain rfl := Option.some.inj H
    go_wp2
    go_ret
    exact ⟨by first | rfl | (simp [ziS, znJ] <;> rfl) | (simp [*, ziS, znJ] <;> rfl), bb_⟩
   ·replace c10 := Bool.eq_false_iff.mpr c10
    subst c10
    have H1 : (if t391 = 0 then (some t392) else ((zyC.f a0_0 a0_1).bind fun t393 => (if t393 = true then (some t391) else (some t392)))) = some r := by rw [if_neg (show ¬ (false = true) by decide)] at H; exact H
    clear H
    have H := H1
    clear H1
    by_cases c11 : t391 = 0
    ·rw [if_pos c11] at H
     have c11b0 : (t391 == 0) = true := beq_iff_eq.mpr c11
     have c11b1 : (t391 != 0) = false := bne_eq_false_iff_eq.mpr c11
     clear c11
     obtain rfl := Option.some.inj H
     go_wp2
     go_ret
     exact ⟨by first | rfl | (simp [ziS, znJ] <;> rfl) | (simp [*, ziS, znJ] <;> rfl), bb_⟩
    ·rw [if_neg c11] at H
     have c11b0 : (t391 == 0) = false := beq_eq_false_iff_ne.mpr c11
     have c11b1 : (t391 != 0) = true := bne_iff_ne.mpr c11
     replace H := Option.bind_eq_some_iff.mp H
     obtain ⟨t393, A120, H⟩ := H
     replace H : (if t393 = true then (some t391) else (some t392)) = some r := H
     have A12 := zpS A120
     clear A120
     by_cases c13 : t393 = true
     ·subst c13
      have H1 : (some t391) = some r := by rw [if_pos rfl] at H; exact H
      clear H
      have H := H1
      clear H1
      obtain rfl := Option.some.inj H
      obtain ⟨hcz14_0, hcz14_1, hcz14_2⟩ := zdT BK390.out
      obtain ⟨hfz14_0, hfz14_1, hfz14_2⟩ := zqD BK390.out
      go_wp2_with (first | (go_at_call 75; (with_reducible refine (zyC.calls a0_0 a0_1 true _ A12.out).mono ?_); rintro e w15 ⟨rfl, hb⟩; have n0_ := zpS (zgM (g := gb390) (o := .cells #[.int .i64 a0_0, .int .i64 a0_1, .int .i64 a0_2] 31 (0, 0)) bk_ hb); have n1_ := (ns_ hb); clear BK390; clear HB; have BK390 := n0_; have HB := n1_; clear n0_ n1_; (try clear hb); (try clear hb2)))
      go_ret
      exact ⟨by first | rfl | (simp [ziS, znJ] <;> rfl) | (simp [*, ziS, znJ] <;> rfl), bb_⟩
     ·replace c13 := Bool.eq_false_iff.mpr c13
      subst c13
      have H1 : (some t392) = some r := by rw [if_neg (show ¬ (false = true) by decide)] at H; exact H
      clear H
      have H := H1
      clear H1
      obtain rfl := Option.some.inj H
      obtain ⟨hcz16_0, hcz16_1, hcz16_2⟩ := zdT BK390.out
      obtain ⟨hfz16_0, hfz16_1, hfz16_2⟩ := zqD BK390.out
      go_wp2_with (first | (go_at_call 75; (with_reducible refine (zyC.calls a0_0 a0_1 false _ A12.out).mono ?_); rintro e w17 ⟨rfl, hb⟩; have n0_ := zpS (zgM (g := gb390) (o := .cells #[.int .i64 a0_0, .int .i64 a0_1, .int .i64 a0_2] 31 (0, 0)) bk_ hb); have n1_ := (ns_ hb); clear BK390; clear HB; have BK390 := n0_; have HB := n1_; clear n0_ n1_; (try clear hb); (try clear hb2)))
      go_ret
      exact ⟨by first | rfl | (simp [ziS, znJ] <;> rfl) | (simp [*, ziS, znJ] <;> rfl), bb_⟩

end Go.Proofs.YtmmedohdjfhmnaaDoor.PFnExactPolygonText
