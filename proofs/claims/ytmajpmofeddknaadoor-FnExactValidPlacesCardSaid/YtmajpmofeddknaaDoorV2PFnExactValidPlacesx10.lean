-- Printed for this claim by this session's program pp.py, which drives the kit's print with additions. Not trusted: Lean checks it.
import Derived.Test.YtmajpmofeddknaaDoorV2PFnExactValidPlacesx0
import Derived.Test.YtmajpmofeddknaaDoorV2PFnExactValidPlacesx8
import Derived.Test.YtmajpmofeddknaaDoorV2PFnExactValidPlacesx9
namespace Go.Proofs.YtmajpmofeddknaaDoor.PFnExactValidPlaces
open Go.RowKit Go.Proofs.YtmajpmofeddknaaDoorW.PrintWords Go.Proofs.YtmajpmofeddknaaDoorW.PrintLast Go.Proofs.YtmajpmofeddknaaDoorW.PrintMore
attribute [local go_sem] zbB ziC zrC zhD znE zuB znH zkT   -- for this text's walks alone
set_option linter.unusedVariables false
set_option linter.unusedSimpArgs false

def zdY.f (k : Nat) (a0_0 : Int) (a0_1 : Int) (a0_2 : Int) (a0_3 : Int) (a0_4 : Int) (a0_5 : Int) (a1_0 : Int) (a1_1 : Int) (a1_2 : Int) (a1_3 : Int) (a1_4 : Int) (a1_5 : Int) : Option (Int × Int × Int × Int × Int × Int) := (zpR.f k a0_0 a0_1 a0_2 a1_0 a1_1 a1_2).bind fun bt321 => ((zpR.f k a0_3 a0_4 a0_5 a1_3 a1_4 a1_5).bind fun bt324 => (some (bt321.1, bt321.2.1, bt321.2.2, bt324.1, bt324.2.1, bt324.2.2)))
theorem zdY.mono : ∀ a0 a1 a2 a3 a4 a5 a6 a7 a8 a9 a10 a11 k, LeO (zdY.f k a0 a1 a2 a3 a4 a5 a6 a7 a8 a9 a10 a11) (zdY.f (k + 1) a0 a1 a2 a3 a4 a5 a6 a7 a8 a9 a10 a11) := by
 intro a0 a1 a2 a3 a4 a5 a6 a7 a8 a9 a10 a11 k
 unfold zdY.f
 repeat' first
   | (with_reducible exact zpR.mono _ _ _ _ _ _ _)
   | (with_reducible exact LeO.refl _)
   | (with_reducible exact LeO.none _)
   | (with_reducible refine LeO.ite ?_ ?_)
   | (with_reducible refine LeO.bind ?_ (fun _ => ?_))
   | exact zpR.mono _ _ _ _ _ _ _
   | exact LeO.none _
   | refine LeO.ite ?_ ?_
   | refine LeO.bind ?_ (fun _ => ?_)
def zdY.T1 : Bool × List (List Nat × List Nat) := (true, [([], []), ([0], [0]), ([], []), ([2], [2]), ([1, 3], [1, 3]), ([], []), ([5], [5]), ([], []), ([7], [7]), ([6, 8, 4], [6, 8]), ([4, 9], [4, 9]), ([10, 9, 0, 1, 2, 3, 4, 5, 6, 7, 8, 9, 10], [10])])
def zdY.B1 : List Nat := [0, 1, 0, 4, 15, 0, 32, 0, 128, 511, 1023, 2047]
theorem zdY.tab1 : rtab .any (opsOf Tryd.f138 1) = zdY.T1 := by kernel_rfl
theorem zdY.bits1 : ztG zdY.T1.2 zdY.B1 = true := by kernel_rfl
set_option maxHeartbeats 8000000 in
set_option maxRecDepth 100000 in
theorem zdY.calls (k : Nat) (a0_0 : Int) (a0_1 : Int) (a0_2 : Int) (a0_3 : Int) (a0_4 : Int) (a0_5 : Int) (a1_0 : Int) (a1_1 : Int) (a1_2 : Int) (a1_3 : Int) (a1_4 : Int) (a1_5 : Int) (r1 : Int) (r2 : Int) (r3 : Int) (r4 : Int) (r5 : Int) (r6 : Int) (w : World) (h : zdY.f k a0_0 a0_1 a0_2 a0_3 a0_4 a0_5 a1_0 a1_1 a1_2 a1_3 a1_4 a1_5 = some (r1, r2, r3, r4, r5, r6)) :
  Calls Tryd.prog 138 #[.agg #[.int .i64 a0_0, .int .i64 a0_1, .int .i64 a0_2, .int .i64 a0_3, .int .i64 a0_4, .int .i64 a0_5], .agg #[.int .i64 a1_0, .int .i64 a1_1, .int .i64 a1_2, .int .i64 a1_3, .int .i64 a1_4, .int .i64 a1_5]] w fun e w' => e = .returned (.agg #[.int .i64 r1, .int .i64 r2, .int .i64 r3, .int .i64 r4, .int .i64 r5, .int .i64 r6]) ∧ Below w.heap.size w w' := by
 have hu36 := Tryd.underlying36
 have hu34 := Tryd.underlying34
 have HB := zpS (Below.refl w.heap.size w)
 have H : ((zpR.f k a0_0 a0_1 a0_2 a1_0 a1_1 a1_2).bind fun bt321 => ((zpR.f k a0_3 a0_4 a0_5 a1_3 a1_4 a1_5).bind fun bt324 => (some (bt321.1, bt321.2.1, bt321.2.2, bt324.1, bt324.2.1, bt324.2.2)))) = some (r1, r2, r3, r4, r5, r6) := h
 clear h
 replace H := Option.bind_eq_some_iff.mp H
 obtain ⟨⟨t321, t322, t323⟩, A30, H⟩ := H
 replace H : ((zpR.f k a0_3 a0_4 a0_5 a1_3 a1_4 a1_5).bind fun bt324 => (some (t321, t322, t323, bt324.1, bt324.2.1, bt324.2.2))) = some (r1, r2, r3, r4, r5, r6) := H
 have A3 := zpS A30
 clear A30
 replace H := Option.bind_eq_some_iff.mp H
 obtain ⟨⟨t324, t325, t326⟩, A40, H⟩ := H
 replace H : (some (t321, t322, t323, t324, t325, t326)) = some (r1, r2, r3, r4, r5, r6) := H
 have A4 := zpS A40
 clear A40
 simp only [Option.some.injEq, Prod.mk.injEq] at H
 obtain ⟨rfl, rfl, rfl, rfl, rfl, rfl⟩ := H
 go_enter Tryd.func138, Tryd.ntmps138
 try go_wp2_with (first | ((with_reducible refine zpZ (N := 2) rfl ?_); refine bx_ 2 #[.int .i64 a0_0, .int .i64 a0_1, .int .i64 a0_2, .int .i64 a0_3, .int .i64 a0_4, .int .i64 a0_5] 36 ?_; intro gb318 hg w5 hbox hb; have n0_ := (ns_ hb); have n1_ := zpS (hbox); have n2_ := (ng_ hg); have n3_ := n2_; clear HB; have HB := n0_; have BK318 := n1_; have GW318 := n2_; have GE318 := n3_; clear n0_ n1_ n2_ n3_; clear hb hbox hg) | ((with_reducible refine zpZ (N := 3) rfl ?_); refine bx_ 3 #[.int .i64 a1_0, .int .i64 a1_1, .int .i64 a1_2, .int .i64 a1_3, .int .i64 a1_4, .int .i64 a1_5] 36 ?_; intro gb319 hg w6 hbox hb; have n0_ := zpS (zgM (g := gb318) (o := .cells #[.int .i64 a0_0, .int .i64 a0_1, .int .i64 a0_2, .int .i64 a0_3, .int .i64 a0_4, .int .i64 a0_5] 36 (0, 0)) bk_ hb); have n1_ := (ns_ hb); have n2_ := zpS (hbox); have n3_ := (ng_ hg); have n4_ := n3_; have n5_ := zpS ((by rw [hg]; exact Nat.ne_of_lt (zmN (g := gb318) (o := .cells #[.int .i64 a0_0, .int .i64 a0_1, .int .i64 a0_2, .int .i64 a0_3, .int .i64 a0_4, .int .i64 a0_5] 36 (0, 0)) bk_) : gb318 ≠ gb319)); have n6_ := zpS ((by rw [hg]; exact Nat.ne_of_gt (zmN (g := gb318) (o := .cells #[.int .i64 a0_0, .int .i64 a0_1, .int .i64 a0_2, .int .i64 a0_3, .int .i64 a0_4, .int .i64 a0_5] 36 (0, 0)) bk_) : gb319 ≠ gb318)); clear BK318; clear HB; have BK318 := n0_; have HB := n1_; have BK319 := n2_; have GW319 := n3_; have GE319 := n4_; have NB318_319 := n5_; have NB319_318 := n6_; clear n0_ n1_ n2_ n3_ n4_ n5_ n6_; clear hb hbox hg) | ((with_reducible refine zpZ (N := 4) rfl ?_); refine bx_ 4 #[.int .i64 0, .int .i64 0, .int .i64 0, .int .i64 0, .int .i64 0, .int .i64 0] 36 ?_; intro gb320 hg w7 hbox hb; have n0_ := zpS (zgM (g := gb318) (o := .cells #[.int .i64 a0_0, .int .i64 a0_1, .int .i64 a0_2, .int .i64 a0_3, .int .i64 a0_4, .int .i64 a0_5] 36 (0, 0)) bk_ hb); have n1_ := zpS (zgM (g := gb319) (o := .cells #[.int .i64 a1_0, .int .i64 a1_1, .int .i64 a1_2, .int .i64 a1_3, .int .i64 a1_4, .int .i64 a1_5] 36 (0, 0)) bk_ hb); have n2_ := (ns_ hb); have n3_ := zpS (hbox); have n4_ := (ng_ hg); have n5_ := n4_; have n6_ := zpS ((by rw [hg]; exact Nat.ne_of_lt (zmN (g := gb318) (o := .cells #[.int .i64 a0_0, .int .i64 a0_1, .int .i64 a0_2, .int .i64 a0_3, .int .i64 a0_4, .int .i64 a0_5] 36 (0, 0)) bk_) : gb318 ≠ gb320)); have n7_ := zpS ((by rw [hg]; exact Nat.ne_of_gt (zmN (g := gb318) (o := .cells #[.int .i64 a0_0, .int .i64 a0_1, .int .i64 a0_2, .int .i64 a0_3, .int .i64 a0_4, .int .i64 a0_5] 36 (0, 0)) bk_) : gb320 ≠ gb318)); have n8_ := zpS ((by rw [hg]; exact Nat.ne_of_lt (zmN (g := gb319) (o := .cells #[.int .i64 a1_0, .int .i64 a1_1, .int .i64 a1_2, .int .i64 a1_3, .int .i64 a1_4, .int .i64 a1_5] 36 (0, 0)) bk_) : gb319 ≠ gb320)); have n9_ := zpS ((by rw [hg]; exact Nat.ne_of_gt (zmN (g := gb319) (o := .cells #[.int .i64 a1_0, .int .i64 a1_1, .int .i64 a1_2, .int .i64 a1_3, .int .i64 a1_4, .int .i64 a1_5] 36 (0, 0)) bk_) : gb320 ≠ gb319)); clear BK318; clear BK319; clear HB; have BK318 := n0_; have BK319 := n1_; have HB := n2_; have BK320 := n3_; have GW320 := n4_; have GE320 := n5_; have NB318_320 := n6_; have NB320_318 := n7_; have NB319_320 := n8_; have NB320_319 := n9_; clear n0_ n1_ n2_ n3_ n4_ n5_ n6_ n7_ n8_ n9_; clear hb hbox hg))
 have n0_ := zpS (ztN BK318.out)
 have n1_ := zpS (ztN BK319.out)
 have n2_ := zpS (ztN BK320.out)
 have n3_ := zpS (zvF HB.out)
 clear BK318
 clear BK319
 clear BK320
 clear HB
 have BK318 := n0_
 have BK319 := n1_
 have BK320 := n2_
 have HB := n3_
 clear n0_ n1_ n2_ n3_
 refine zpB (n := 12) (S := fun w' => w'.cell? ⟨gb318, 0, none⟩ = some (.int .i64 a0_0) ∧ w'.cell? ⟨gb318, 1, none⟩ = some (.int .i64 a0_1) ∧ w'.cell? ⟨gb318, 2, none⟩ = some (.int .i64 a0_2) ∧ w'.cell? ⟨gb318, 3, none⟩ = some (.int .i64 a0_3) ∧ w'.cell? ⟨gb318, 4, none⟩ = some (.int .i64 a0_4) ∧ w'.cell? ⟨gb318, 5, none⟩ = some (.int .i64 a0_5) ∧ w'.cell? ⟨gb319, 0, none⟩ = some (.int .i64 a1_0) ∧ w'.cell? ⟨gb319, 1, none⟩ = some (.int .i64 a1_1) ∧ w'.cell? ⟨gb319, 2, none⟩ = some (.int .i64 a1_2) ∧ w'.cell? ⟨gb319, 3, none⟩ = some (.int .i64 a1_3) ∧ w'.cell? ⟨gb319, 4, none⟩ = some (.int .i64 a1_4) ∧ w'.cell? ⟨gb319, 5, none⟩ = some (.int .i64 a1_5)) (ds := []) #[false, false, false, false, false, false, false, false, false, false, false, false] (by kernel_rfl) rfl rfl ⟨(zzS BK318.out 0).trans rfl, (zzS BK318.out 1).trans rfl, (zzS BK318.out 2).trans rfl, (zzS BK318.out 3).trans rfl, (zzS BK318.out 4).trans rfl, (zzS BK318.out 5).trans rfl, (zzS BK319.out 0).trans rfl, (zzS BK319.out 1).trans rfl, (zzS BK319.out 2).trans rfl, (zzS BK319.out 3).trans rfl, (zzS BK319.out 4).trans rfl, (zzS BK319.out 5).trans rfl⟩ (fun hHeld => ?_); refine zwI zdY.tab1 zdY.bits1 (fun HT_ HW_ => ?_)
 generalize w7.drew = w8 at BK318 BK319 BK320 HB hHeld ⊢
 refine pu_ 0 (some 5) (bl_ 12 1) ?_
 refine pu_ 2 (some 7) (bl_ 12 5) ?_
 refine pu_ 5 (some 10) (bl_ 12 37) ?_
 refine pu_ 7 (some 12) (bl_ 12 165) ?_
 refine zmW 1 (some 6) (bl_ 12 167) hHeld ?_
 refine zmW 3 (some 8) (bl_ 12 175) hHeld ?_
 refine zmW 6 (some 11) (bl_ 12 239) hHeld ?_
 refine zmW 8 (some 13) (bl_ 12 495) hHeld ?_
 refine zdC (i := 4) (N := some 9) (bl_ 12 511) rfl rfl (zeO HT_.out (by kernel_rfl)) (by decide) (fun K hK => ?_)
 refine zqW Tryd.func166 (by kernel_rfl) rfl #[.agg #[.int .i64 a0_0, .int .i64 a0_1, .int .i64 a0_2], .agg #[.int .i64 a1_0, .int .i64 a1_1, .int .i64 a1_2]] (by rfl) rfl rfl (by (try simp only [List.map_toArray, List.map_cons, List.map_nil]); first | done | rfl | (simp only [List.length_drop, List.length_take]; rfl)) ?_
 with_reducible refine (zpR.calls k a0_0 a0_1 a0_2 a1_0 a1_1 a1_2 t321 t322 t323 _ A3.out).mono ?_
 rintro e w9 ⟨rfl, hb⟩
 refine ⟨_, rfl, ?_⟩
 have n0_ := zpS (zgM (g := gb318) (o := .cells #[.int .i64 a0_0, .int .i64 a0_1, .int .i64 a0_2, .int .i64 a0_3, .int .i64 a0_4, .int .i64 a0_5] 36 (0, 0)) bk_ hb)
 have n1_ := zpS (zgM (g := gb319) (o := .cells #[.int .i64 a1_0, .int .i64 a1_1, .int .i64 a1_2, .int .i64 a1_3, .int .i64 a1_4, .int .i64 a1_5] 36 (0, 0)) bk_ hb)
 have n2_ := zpS (zgM (g := gb320) (o := .cells #[.int .i64 0, .int .i64 0, .int .i64 0, .int .i64 0, .int .i64 0, .int .i64 0] 36 (0, 0)) bk_ hb)
 have n3_ := (ns_ hb)
 clear BK318
 clear BK319
 clear BK320
 clear HB
 have BK318 := n0_
 have BK319 := n1_
 have BK320 := n2_
 have HB := n3_
 clear n0_ n1_ n2_ n3_
 (try clear hb)
 (try clear hb2)
 (try clear hk)
 (try clear hi)
 refine hK.out _ _ ⟨(zzS BK318.out 0).trans rfl, (zzS BK318.out 1).trans rfl, (zzS BK318.out 2).trans rfl, (zzS BK318.out 3).trans rfl, (zzS BK318.out 4).trans rfl, (zzS BK318.out 5).trans rfl, (zzS BK319.out 0).trans rfl, (zzS BK319.out 1).trans rfl, (zzS BK319.out 2).trans rfl, (zzS BK319.out 3).trans rfl, (zzS BK319.out 4).trans rfl, (zzS BK319.out 5).trans rfl⟩ (fun hHeld => ?_)
 clear hK K
 refine zaN (a' := ?_) ?_ ?_
 rotate_left
 ·show Act.put _ (some 9) _ = _
  simp only [Act.put, List.setIfInBounds_toArray, List.set_cons_zero, List.set_cons_succ, zcM, ziJ]
  rfl
 refine zdC (i := 9) (N := some 14) (bl_ 12 1023) rfl rfl (zeO HT_.out (by kernel_rfl)) (by decide) (fun K hK => ?_)
 refine zqW Tryd.func166 (by kernel_rfl) rfl #[.agg #[.int .i64 a0_3, .int .i64 a0_4, .int .i64 a0_5], .agg #[.int .i64 a1_3, .int .i64 a1_4, .int .i64 a1_5]] (by rfl) rfl rfl (by (try simp only [List.map_toArray, List.map_cons, List.map_nil]); first | done | rfl | (simp only [List.length_drop, List.length_take]; rfl)) ?_
 with_reducible refine (zpR.calls k a0_3 a0_4 a0_5 a1_3 a1_4 a1_5 t324 t325 t326 _ A4.out).mono ?_
 rintro e w10 ⟨rfl, hb⟩
 refine ⟨_, rfl, ?_⟩
 have n0_ := zpS (zgM (g := gb318) (o := .cells #[.int .i64 a0_0, .int .i64 a0_1, .int .i64 a0_2, .int .i64 a0_3, .int .i64 a0_4, .int .i64 a0_5] 36 (0, 0)) bk_ hb)
 have n1_ := zpS (zgM (g := gb319) (o := .cells #[.int .i64 a1_0, .int .i64 a1_1, .int .i64 a1_2, .int .i64 a1_3, .int .i64 a1_4, .int .i64 a1_5] 36 (0, 0)) bk_ hb)
 have n2_ := zpS (zgM (g := gb320) (o := .cells #[.int .i64 0, .int .i64 0, .int .i64 0, .int .i64 0, .int .i64 0, .int .i64 0] 36 (0, 0)) bk_ hb)
 have n3_ := (ns_ hb)
 clear BK318
 clear BK319
 clear BK320
 clear HB
 have BK318 := n0_
 have BK319 := n1_
 have BK320 := n2_
 have HB := n3_
 clear n0_ n1_ n2_ n3_
 (try clear hb)
 (try clear hb2)
 (try clear hk)
 (try clear hi)
 refine hK.out _ _ ⟨(zzS BK318.out 0).trans rfl, (zzS BK318.out 1).trans rfl, (zzS BK318.out 2).trans rfl, (zzS BK318.out 3).trans rfl, (zzS BK318.out 4).trans rfl, (zzS BK318.out 5).trans rfl, (zzS BK319.out 0).trans rfl, (zzS BK319.out 1).trans rfl, (zzS BK319.out 2).trans rfl, (zzS BK319.out 3).trans rfl, (zzS BK319.out 4).trans rfl, (zzS BK319.out 5).trans rfl⟩ (fun hHeld => ?_)
 clear hK K
 refine zaN (a' := ?_) ?_ ?_
 rotate_left
 ·show Act.put _ (some 14) _ = _
  simp only [Act.put, List.setIfInBounds_toArray, List.set_cons_zero, List.set_cons_succ, zcM, ziJ]
  rfl
 refine pu_ 10 (some 15) (bl_ 12 2047) ?_
 refine zdC (i := 11) (N := none) (bl_ 12 4095) rfl rfl (zeO HT_.out (by kernel_rfl)) (by decide) (fun K hK => ?_)
 have hs11 : w10.cell? ⟨gb320, 0, none⟩ = some (.int .i64 0) := (zzS BK320.out 0).trans rfl
 have hfs11 := zjF BK320.out 0
 have hns11_0 := NB318_320.out
 have hns11_1 := NB319_320.out
 have hms11_0 := NB320_318.out
 have hms11_1 := NB320_319.out
 have hs12 : w10.cell? ⟨gb320, 1, none⟩ = some (.int .i64 0) := (zzS BK320.out 1).trans rfl
 have hfs12 := zjF BK320.out 1
 have hns12_0 := NB318_320.out
 have hns12_1 := NB319_320.out
 have hms12_0 := NB320_318.out
 have hms12_1 := NB320_319.out
 have hs13 : w10.cell? ⟨gb320, 2, none⟩ = some (.int .i64 0) := (zzS BK320.out 2).trans rfl
 have hfs13 := zjF BK320.out 2
 have hns13_0 := NB318_320.out
 have hns13_1 := NB319_320.out
 have hms13_0 := NB320_318.out
 have hms13_1 := NB320_319.out
 have hs14 : w10.cell? ⟨gb320, 3, none⟩ = some (.int .i64 0) := (zzS BK320.out 3).trans rfl
 have hfs14 := zjF BK320.out 3
 have hns14_0 := NB318_320.out
 have hns14_1 := NB319_320.out
 have hms14_0 := NB320_318.out
 have hms14_1 := NB320_319.out
 have hs15 : w10.cell? ⟨gb320, 4, none⟩ = some (.int .i64 0) := (zzS BK320.out 4).trans rfl
 have hfs15 := zjF BK320.out 4
 have hns15_0 := NB318_320.out
 have hns15_1 := NB319_320.out
 have hms15_0 := NB320_318.out
 have hms15_1 := NB320_319.out
 have hs16 : w10.cell? ⟨gb320, 5, none⟩ = some (.int .i64 0) := (zzS BK320.out 5).trans rfl
 have hfs16 := zjF BK320.out 5
 have hns16_0 := NB318_320.out
 have hns16_1 := NB319_320.out
 have hms16_0 := NB320_318.out
 have hms16_1 := NB320_319.out
 refine skip_ (w1 := ?_) (by rfl) rfl ?_ ?_
 rotate_left
 ·go_simp
  rfl
 refine hK.out _ _ ⟨((zgQ (p := ⟨gb320, _, none⟩) NB318_320.out _).trans (((zgQ (p := ⟨gb320, _, none⟩) NB318_320.out _).trans (((zgQ (p := ⟨gb320, _, none⟩) NB318_320.out _).trans (((zgQ (p := ⟨gb320, _, none⟩) NB318_320.out _).trans (((zgQ (p := ⟨gb320, _, none⟩) NB318_320.out _).trans (((zgQ (p := ⟨gb320, _, none⟩) NB318_320.out _).trans (hHeld.1)))))))))))), ((zgQ (p := ⟨gb320, _, none⟩) NB318_320.out _).trans (((zgQ (p := ⟨gb320, _, none⟩) NB318_320.out _).trans (((zgQ (p := ⟨gb320, _, none⟩) NB318_320.out _).trans (((zgQ (p := ⟨gb320, _, none⟩) NB318_320.out _).trans (((zgQ (p := ⟨gb320, _, none⟩) NB318_320.out _).trans (((zgQ (p := ⟨gb320, _, none⟩) NB318_320.out _).trans (hHeld.2.1)))))))))))), ((zgQ (p := ⟨gb320, _, none⟩) NB318_320.out _).trans (((zgQ (p := ⟨gb320, _, none⟩) NB318_320.out _).trans (((zgQ (p := ⟨gb320, _, none⟩) NB318_320.out _).trans (((zgQ (p := ⟨gb320, _, none⟩) NB318_320.out _).trans (((zgQ (p := ⟨gb320, _, none⟩) NB318_320.out _).trans (((zgQ (p := ⟨gb320, _, none⟩) NB318_320.out _).trans (hHeld.2.2.1)))))))))))), ((zgQ (p := ⟨gb320, _, none⟩) NB318_320.out _).trans (((zgQ (p := ⟨gb320, _, none⟩) NB318_320.out _).trans (((zgQ (p := ⟨gb320, _, none⟩) NB318_320.out _).trans (((zgQ (p := ⟨gb320, _, none⟩) NB318_320.out _).trans (((zgQ (p := ⟨gb320, _, none⟩) NB318_320.out _).trans (((zgQ (p := ⟨gb320, _, none⟩) NB318_320.out _).trans (hHeld.2.2.2.1)))))))))))), ((zgQ (p := ⟨gb320, _, none⟩) NB318_320.out _).trans (((zgQ (p := ⟨gb320, _, none⟩) NB318_320.out _).trans (((zgQ (p := ⟨gb320, _, none⟩) NB318_320.out _).trans (((zgQ (p := ⟨gb320, _, none⟩) NB318_320.out _).trans (((zgQ (p := ⟨gb320, _, none⟩) NB318_320.out _).trans (((zgQ (p := ⟨gb320, _, none⟩) NB318_320.out _).trans (hHeld.2.2.2.2.1)))))))))))), ((zgQ (p := ⟨gb320, _, none⟩) NB318_320.out _).trans (((zgQ (p := ⟨gb320, _, none⟩) NB318_320.out _).trans (((zgQ (p := ⟨gb320, _, none⟩) NB318_320.out _).trans (((zgQ (p := ⟨gb320, _, none⟩) NB318_320.out _).trans (((zgQ (p := ⟨gb320, _, none⟩) NB318_320.out _).trans (((zgQ (p := ⟨gb320, _, none⟩) NB318_320.out _).trans (hHeld.2.2.2.2.2.1)))))))))))), ((zgQ (p := ⟨gb320, _, none⟩) NB319_320.out _).trans (((zgQ (p := ⟨gb320, _, none⟩) NB319_320.out _).trans (((zgQ (p := ⟨gb320, _, none⟩) NB319_320.out _).trans (((zgQ (p := ⟨gb320, _, none⟩) NB319_320.out _).trans (((zgQ (p := ⟨gb320, _, none⟩) NB319_320.out _).trans (((zgQ (p := ⟨gb320, _, none⟩) NB319_320.out _).trans (hHeld.2.2.2.2.2.2.1)))))))))))), ((zgQ (p := ⟨gb320, _, none⟩) NB319_320.out _).trans (((zgQ (p := ⟨gb320, _, none⟩) NB319_320.out _).trans (((zgQ (p := ⟨gb320, _, none⟩) NB319_320.out _).trans (((zgQ (p := ⟨gb320, _, none⟩) NB319_320.out _).trans (((zgQ (p := ⟨gb320, _, none⟩) NB319_320.out _).trans (((zgQ (p := ⟨gb320, _, none⟩) NB319_320.out _).trans (hHeld.2.2.2.2.2.2.2.1)))))))))))), ((zgQ (p := ⟨gb320, _, none⟩) NB319_320.out _).trans (((zgQ (p := ⟨gb320, _, none⟩) NB319_320.out _).trans (((zgQ (p := ⟨gb320, _, none⟩) NB319_320.out _).trans (((zgQ (p := ⟨gb320, _, none⟩) NB319_320.out _).trans (((zgQ (p := ⟨gb320, _, none⟩) NB319_320.out _).trans (((zgQ (p := ⟨gb320, _, none⟩) NB319_320.out _).trans (hHeld.2.2.2.2.2.2.2.2.1)))))))))))), ((zgQ (p := ⟨gb320, _, none⟩) NB319_320.out _).trans (((zgQ (p := ⟨gb320, _, none⟩) NB319_320.out _).trans (((zgQ (p := ⟨gb320, _, none⟩) NB319_320.out _).trans (((zgQ (p := ⟨gb320, _, none⟩) NB319_320.out _).trans (((zgQ (p := ⟨gb320, _, none⟩) NB319_320.out _).trans (((zgQ (p := ⟨gb320, _, none⟩) NB319_320.out _).trans (hHeld.2.2.2.2.2.2.2.2.2.1)))))))))))), ((zgQ (p := ⟨gb320, _, none⟩) NB319_320.out _).trans (((zgQ (p := ⟨gb320, _, none⟩) NB319_320.out _).trans (((zgQ (p := ⟨gb320, _, none⟩) NB319_320.out _).trans (((zgQ (p := ⟨gb320, _, none⟩) NB319_320.out _).trans (((zgQ (p := ⟨gb320, _, none⟩) NB319_320.out _).trans (((zgQ (p := ⟨gb320, _, none⟩) NB319_320.out _).trans (hHeld.2.2.2.2.2.2.2.2.2.2.1)))))))))))), ((zgQ (p := ⟨gb320, _, none⟩) NB319_320.out _).trans (((zgQ (p := ⟨gb320, _, none⟩) NB319_320.out _).trans (((zgQ (p := ⟨gb320, _, none⟩) NB319_320.out _).trans (((zgQ (p := ⟨gb320, _, none⟩) NB319_320.out _).trans (((zgQ (p := ⟨gb320, _, none⟩) NB319_320.out _).trans (((zgQ (p := ⟨gb320, _, none⟩) NB319_320.out _).trans (hHeld.2.2.2.2.2.2.2.2.2.2.2))))))))))))⟩ (fun hHeld => ?_)
 clear hK K
 refine znK (zzP HT_.out (by kernel_rfl)) ?_
 try go_wp2
 refine bodyPost_ret (results_cell_row rfl _ _ gb320 36 #[.int .i64 t321, .int .i64 t322, .int .i64 t323, .int .i64 t324, .int .i64 t325, .int .i64 t326] (0, 0) _ rfl (by (with_reducible repeat (first | apply zuW | apply ztN | apply zqY)); refine zlL (cs := #[.int .i64 t321, .int .i64 t322, .int .i64 t323, .int .i64 t324, .int .i64 t325, .int .i64 0]) ?_ 5 _ rfl; (with_reducible repeat (first | apply zuW | apply ztN | apply zqY)); refine zlL (cs := #[.int .i64 t321, .int .i64 t322, .int .i64 t323, .int .i64 t324, .int .i64 0, .int .i64 0]) ?_ 4 _ rfl; (with_reducible repeat (first | apply zuW | apply ztN | apply zqY)); refine zlL (cs := #[.int .i64 t321, .int .i64 t322, .int .i64 t323, .int .i64 0, .int .i64 0, .int .i64 0]) ?_ 3 _ rfl; (with_reducible repeat (first | apply zuW | apply ztN | apply zqY)); refine zlL (cs := #[.int .i64 t321, .int .i64 t322, .int .i64 0, .int .i64 0, .int .i64 0, .int .i64 0]) ?_ 2 _ rfl; (with_reducible repeat (first | apply zuW | apply ztN | apply zqY)); refine zlL (cs := #[.int .i64 t321, .int .i64 0, .int .i64 0, .int .i64 0, .int .i64 0, .int .i64 0]) ?_ 1 _ rfl; (with_reducible repeat (first | apply zuW | apply ztN | apply zqY)); refine zlL (cs := #[.int .i64 0, .int .i64 0, .int .i64 0, .int .i64 0, .int .i64 0, .int .i64 0]) ?_ 0 _ rfl; (with_reducible repeat (first | apply zuW | apply ztN | apply zqY)); exact BK320.out) Tryd.underlying36 rfl (by kernel_rfl)) rfl ?_
 exact ⟨by first | rfl | (simp [ziS, znJ] <;> rfl) | (simp [*, ziS, znJ] <;> rfl), bb_⟩

def gv0 : List S36 := [⟨⟨1, 0, 0⟩, ⟨0, 0, 0⟩⟩, ⟨⟨1, 0, 0⟩, ⟨-1, 1, 0⟩⟩, ⟨⟨1, 0, 0⟩, ⟨1, 0, 0⟩⟩, ⟨⟨-1, 1, 0⟩, ⟨1, 0, 0⟩⟩, ⟨⟨0, 0, 0⟩, ⟨1, 0, 0⟩⟩, ⟨⟨1, -1, 0⟩, ⟨1, 0, 0⟩⟩, ⟨⟨-1, 0, 0⟩, ⟨1, 0, 0⟩⟩, ⟨⟨-1, 0, 0⟩, ⟨-1, 1, 0⟩⟩]
def LaidV0 (w : World) : Prop := ∀ (j : Nat) (p : S36), gv0[j]? = some p → ∀ (i : Nat) (u : Value), [Value.int .i64 p.f0.f0, .int .i64 p.f0.f1, .int .i64 p.f0.f2, .int .i64 p.f1.f0, .int .i64 p.f1.f1, .int .i64 p.f1.f2][i]? = some u → w.cell? ((⟨0, 0, none⟩ : Addr).add (j * 6 + i)) = some u
theorem LaidV0.below {w w' : World} (h : LaidV0 w) (hB : Below w.heap.size w w') : LaidV0 w' := fun j p hp i u hu => (hB.cell (World.block_lt_of_cell? w _ (h j p hp i u hu))).trans (h j p hp i u hu)
theorem LaidV0.C {w : World} (h : LaidV0 w) : Kd.C k36 w (some ⟨0, 0, none⟩) gv0.length gv0 :=
 ⟨rfl, by decide, fun _ => ⟨_, rfl, fun j p hp => ⟨_, rfl, k36_mk w p, fun i u hu => h j p hp i u hu⟩⟩⟩
def gvCells0 : List Value := gv0.flatMap fun p => [Value.int .i64 p.f0.f0, .int .i64 p.f0.f1, .int .i64 p.f0.f2, .int .i64 p.f1.f0, .int .i64 p.f1.f1, .int .i64 p.f1.f2]
theorem LaidV0.of_cells {w : World} (h : ∀ off : Nat, w.cell? ⟨0, off, none⟩ = gvCells0[off]?) : LaidV0 w := by
 intro j p hp i u hu
 have hj : j < 8 := (List.getElem?_eq_some_iff.1 hp).1
 have hi : i < 6 := (List.getElem?_eq_some_iff.1 hu).1
 have ha : (⟨0, 0, none⟩ : Addr).add (j * 6 + i) = ⟨0, j * 6 + i, none⟩ := by rw [zyK]
 rw [ha, h]
 have : j = 0 ∨ j = 1 ∨ j = 2 ∨ j = 3 ∨ j = 4 ∨ j = 5 ∨ j = 6 ∨ j = 7 := by omega
 have : i = 0 ∨ i = 1 ∨ i = 2 ∨ i = 3 ∨ i = 4 ∨ i = 5 := by omega
 rcases ‹j = 0 ∨ _› with rfl | rfl | rfl | rfl | rfl | rfl | rfl | rfl <;> cases hp <;> rcases ‹i = 0 ∨ _› with rfl | rfl | rfl | rfl | rfl | rfl <;> cases hu <;> rfl
structure LaidV (w : World) : Prop where
 v0 : LaidV0 w
theorem LaidV.below {w w' : World} (h : LaidV w) (hB : Below w.heap.size w w') : LaidV w' := ⟨LaidV0.below h.v0 hB⟩

def zdP.f (a0 : Int) : Option (Int × Int × Int × Int × Int × Int) := if a0 ≥ 8 then (if 0 ≤ (wrap64 (a0 - 8)) then (if (wrap64 (a0 - 8)) < 8 then ((zjD.f ((ztO gv0 (wrap64 (a0 - 8))).f0.f0) ((ztO gv0 (wrap64 (a0 - 8))).f0.f1) ((ztO gv0 (wrap64 (a0 - 8))).f0.f2)).bind fun bt330 => ((zjD.f ((ztO gv0 (wrap64 (a0 - 8))).f1.f0) ((ztO gv0 (wrap64 (a0 - 8))).f1.f1) ((ztO gv0 (wrap64 (a0 - 8))).f1.f2)).bind fun bt333 => (some (bt330.1, bt330.2.1, bt330.2.2, bt333.1, bt333.2.1, bt333.2.2)))) else (none)) else (none)) else (if 0 ≤ a0 then (if a0 < 8 then (some ((ztO gv0 a0).f0.f0, (ztO gv0 a0).f0.f1, (ztO gv0 a0).f0.f2, (ztO gv0 a0).f1.f0, (ztO gv0 a0).f1.f1, (ztO gv0 a0).f1.f2)) else (none)) else (none))
def zdP.T3 : Bool × List (List Nat × List Nat) := (true, [([], []), ([0], [0]), ([1], [1]), ([], []), ([3], [3]), ([4, 2], [4]), ([2, 5], [2, 5]), ([6, 5, 0, 1, 2, 3, 4, 5, 6], [6])])
def zdP.B3 : List Nat := [0, 1, 3, 0, 8, 31, 63, 127]
theorem zdP.tab3 : rtab .any (opsOf Tryd.f139 3) = zdP.T3 := by kernel_rfl
theorem zdP.bits3 : ztG zdP.T3.2 zdP.B3 = true := by kernel_rfl
set_option maxHeartbeats 8000000 in
set_option maxRecDepth 100000 in
theorem zdP.calls (a0 : Int) (r1 : Int) (r2 : Int) (r3 : Int) (r4 : Int) (r5 : Int) (r6 : Int) (w : World) (hG : LaidV w) (h : zdP.f a0 = some (r1, r2, r3, r4, r5, r6)) :
  Calls Tryd.prog 139 #[.int .i64 a0] w fun e w' => e = .returned (.agg #[.int .i64 r1, .int .i64 r2, .int .i64 r3, .int .i64 r4, .int .i64 r5, .int .i64 r6]) ∧ Below w.heap.size w w' := by
 have hu36 := Tryd.underlying36
 have hu34 := Tryd.underlying34
 have HB := zpS (Below.refl w.heap.size w)
 have HRg0 := zpS (LaidV0.C hG.v0)
 have H : (if a0 ≥ 8 then (if 0 ≤ (wrap64 (a0 - 8)) then (if (wrap64 (a0 - 8)) < 8 then ((zjD.f ((ztO gv0 (wrap64 (a0 - 8))).f0.f0) ((ztO gv0 (wrap64 (a0 - 8))).f0.f1) ((ztO gv0 (wrap64 (a0 - 8))).f0.f2)).bind fun bt330 => ((zjD.f ((ztO gv0 (wrap64 (a0 - 8))).f1.f0) ((ztO gv0 (wrap64 (a0 - 8))).f1.f1) ((ztO gv0 (wrap64 (a0 - 8))).f1.f2)).bind fun bt333 => (some (bt330.1, bt330.2.1, bt330.2.2, bt333.1, bt333.2.1, bt333.2.2)))) else (none)) else (none)) else (if 0 ≤ a0 then (if a0 < 8 then (some ((ztO gv0 a0).f0.f0, (ztO gv0 a0).f0.f1, (ztO gv0 a0).f0.f2, (ztO gv0 a0).f1.f0, (ztO gv0 a0).f1.f1, (ztO gv0 a0).f1.f2)) else (none)) else (none))) = some (r1, r2, r3, r4, r5, r6) := h
 clear h
 by_cases c2 : a0 ≥ 8
 ·rw [if_pos c2] at H
  have c2b0 : decide (8 ≤ a0) = true := decide_eq_true c2
  clear c2
  obtain ⟨ji3, hji3⟩ : ∃ j_ : Int, (wrap64 (a0 - 8)) = j_ := ⟨_, rfl⟩
  replace H : (if 0 ≤ (ji3) then (if (ji3) < 8 then ((zjD.f ((ztO gv0 (ji3)).f0.f0) ((ztO gv0 (ji3)).f0.f1) ((ztO gv0 (ji3)).f0.f2)).bind fun bt330 => ((zjD.f ((ztO gv0 (ji3)).f1.f0) ((ztO gv0 (ji3)).f1.f1) ((ztO gv0 (ji3)).f1.f2)).bind fun bt333 => (some (bt330.1, bt330.2.1, bt330.2.2, bt333.1, bt333.2.1, bt333.2.2)))) else (none)) else (none)) = some (r1, r2, r3, r4, r5, r6) := by first | (rw [hji3] at H; exact H) | (simp only [hji3] at H ⊢; exact H)
  have hji3w : (IntKind.i64.wrap (a0 - 8)) = ji3 := (zcM _).trans hji3
  by_cases c4 : 0 ≤ (ji3)
  ·rw [if_pos c4] at H
   have c4b0 : decide (0 ≤ (ji3)) = true := decide_eq_true c4
   clear c4
   by_cases c5 : (ji3) < 8
   ·rw [if_pos c5] at H
    have c5b0 : decide ((ji3) < 8) = true := decide_eq_true c5
    clear c5
    replace H := Option.bind_eq_some_iff.mp H
    obtain ⟨⟨t330, t331, t332⟩, A60, H⟩ := H
    replace H : ((zjD.f ((ztO gv0 (ji3)).f1.f0) ((ztO gv0 (ji3)).f1.f1) ((ztO gv0 (ji3)).f1.f2)).bind fun bt333 => (some (t330, t331, t332, bt333.1, bt333.2.1, bt333.2.2))) = some (r1, r2, r3, r4, r5, r6) := H
    have A6 := zpS A60
    clear A60
    replace H := Option.bind_eq_some_iff.mp H
    obtain ⟨⟨t333, t334, t335⟩, A70, H⟩ := H
    replace H : (some (t330, t331, t332, t333, t334, t335)) = some (r1, r2, r3, r4, r5, r6) := H
    have A7 := zpS A70
    clear A70
    simp only [Option.some.injEq, Prod.mk.injEq] at H
    obtain ⟨rfl, rfl, rfl, rfl, rfl, rfl⟩ := H
    go_enter Tryd.func139, Tryd.ntmps139
    try go_wp2_with (first | ((with_reducible refine zpZ (N := 2) rfl ?_); refine bx_ 2 #[.int .i64 0, .int .i64 0, .int .i64 0, .int .i64 0, .int .i64 0, .int .i64 0] 36 ?_; intro gb327 hg w8 hbox hb; have n0_ := (ns_ hb); have n1_ := zpS (hbox); have n2_ := (ng_ hg); have n3_ := n2_; clear HB; have HB := n0_; have BK327 := n1_; have GW327 := n2_; have GE327 := n3_; clear n0_ n1_ n2_ n3_; clear hb hbox hg; have p328 : 0 ≤ ((ji3) : Int) := of_decide_eq_true (by first | (with_reducible assumption) | assumption); have q328 : (ji3) < (gv0.length : Int) := of_decide_eq_true (by first | (with_reducible assumption) | assumption); have ql328 : (((ji3) : Int) < (8 : Int)) = True := eq_true (of_decide_eq_true (by first | (with_reducible assumption) | assumption)); obtain ⟨ad328, e328, hx328_0, hx328_1, hx328_2, hx328_3, hx328_4, hx328_5⟩ := zqG HRg0.out (ji3) p328 q328; obtain rfl : (⟨0, 0, none⟩ : Addr) = ad328 := (by injection e328); (first | simp only [zyK] at hx328_0 | simp only [add_at] at hx328_0 | simp only [Addr.add, Nat.zero_add] at hx328_0 | skip); (first | simp only [zyK] at hx328_1 | simp only [add_at] at hx328_1 | simp only [Addr.add, Nat.zero_add] at hx328_1 | skip); (first | simp only [zyK] at hx328_2 | simp only [add_at] at hx328_2 | simp only [Addr.add, Nat.zero_add] at hx328_2 | skip); (first | simp only [zyK] at hx328_3 | simp only [add_at] at hx328_3 | simp only [Addr.add, Nat.zero_add] at hx328_3 | skip); (first | simp only [zyK] at hx328_4 | simp only [add_at] at hx328_4 | simp only [Addr.add, Nat.zero_add] at hx328_4 | skip); (first | simp only [zyK] at hx328_5 | simp only [add_at] at hx328_5 | simp only [Addr.add, Nat.zero_add] at hx328_5 | skip); replace hx328_0 := zeA HB.out hx328_0; replace hx328_1 := zeA HB.out hx328_1; replace hx328_2 := zeA HB.out hx328_2; replace hx328_3 := zeA HB.out hx328_3; replace hx328_4 := zeA HB.out hx328_4; replace hx328_5 := zeA HB.out hx328_5; replace p328 := eq_true p328; replace q328 := eq_true q328) | ((with_reducible refine zpZ (N := 3) rfl ?_); refine bx_ 3 #[.int .i64 0, .int .i64 0, .int .i64 0, .int .i64 0, .int .i64 0, .int .i64 0] 36 ?_; intro gb329 hg w9 hbox hb; have n0_ := zpS (zgM (g := gb327) (o := .cells #[.int .i64 0, .int .i64 0, .int .i64 0, .int .i64 0, .int .i64 0, .int .i64 0] 36 (0, 0)) bk_ hb); have n1_ := (ns_ hb); have n2_ := zpS (hbox); have n3_ := (ng_ hg); have n4_ := n3_; have n5_ := zpS ((by rw [hg]; exact Nat.ne_of_lt (zmN (g := gb327) (o := .cells #[.int .i64 0, .int .i64 0, .int .i64 0, .int .i64 0, .int .i64 0, .int .i64 0] 36 (0, 0)) bk_) : gb327 ≠ gb329)); have n6_ := zpS ((by rw [hg]; exact Nat.ne_of_gt (zmN (g := gb327) (o := .cells #[.int .i64 0, .int .i64 0, .int .i64 0, .int .i64 0, .int .i64 0, .int .i64 0] 36 (0, 0)) bk_) : gb329 ≠ gb327)); clear BK327; clear HB; have BK327 := n0_; have HB := n1_; have BK329 := n2_; have GW329 := n3_; have GE329 := n4_; have NB327_329 := n5_; have NB329_327 := n6_; clear n0_ n1_ n2_ n3_ n4_ n5_ n6_; clear hb hbox hg; have hnb10 := NB329_327.out; have hnc10 := NB327_329.out; obtain ⟨hcz11_0, hcz11_1, hcz11_2, hcz11_3, hcz11_4, hcz11_5⟩ := zrN BK329.out; obtain ⟨hfz11_0, hfz11_1, hfz11_2, hfz11_3, hfz11_4, hfz11_5⟩ := zoQ BK329.out))
    have n0_ : Aside0 (((((((w9.setCell ⟨gb329, 0, none⟩ (.int .i64 ((ztO gv0 (ji3)).f0.f0))).setCell ⟨gb329, 1, none⟩ (.int .i64 ((ztO gv0 (ji3)).f0.f1))).setCell ⟨gb329, 2, none⟩ (.int .i64 ((ztO gv0 (ji3)).f0.f2))).setCell ⟨gb329, 3, none⟩ (.int .i64 ((ztO gv0 (ji3)).f1.f0))).setCell ⟨gb329, 4, none⟩ (.int .i64 ((ztO gv0 (ji3)).f1.f1))).setCell ⟨gb329, 5, none⟩ (.int .i64 ((ztO gv0 (ji3)).f1.f2))).heap[gb327]? = some (.cells #[.int .i64 0, .int .i64 0, .int .i64 0, .int .i64 0, .int .i64 0, .int .i64 0] 36 (0, 0))) := ⟨by (with_reducible repeat (first | apply zuW | apply ztN | apply zqY)); refine znI ?_ NB327_329.out _; (with_reducible repeat (first | apply zuW | apply ztN | apply zqY)); refine znI ?_ NB327_329.out _; (with_reducible repeat (first | apply zuW | apply ztN | apply zqY)); refine znI ?_ NB327_329.out _; (with_reducible repeat (first | apply zuW | apply ztN | apply zqY)); refine znI ?_ NB327_329.out _; (with_reducible repeat (first | apply zuW | apply ztN | apply zqY)); refine znI ?_ NB327_329.out _; (with_reducible repeat (first | apply zuW | apply ztN | apply zqY)); refine znI ?_ NB327_329.out _; (with_reducible repeat (first | apply zuW | apply ztN | apply zqY)); exact BK327.out⟩
    have n1_ : Aside0 (((((((w9.setCell ⟨gb329, 0, none⟩ (.int .i64 ((ztO gv0 (ji3)).f0.f0))).setCell ⟨gb329, 1, none⟩ (.int .i64 ((ztO gv0 (ji3)).f0.f1))).setCell ⟨gb329, 2, none⟩ (.int .i64 ((ztO gv0 (ji3)).f0.f2))).setCell ⟨gb329, 3, none⟩ (.int .i64 ((ztO gv0 (ji3)).f1.f0))).setCell ⟨gb329, 4, none⟩ (.int .i64 ((ztO gv0 (ji3)).f1.f1))).setCell ⟨gb329, 5, none⟩ (.int .i64 ((ztO gv0 (ji3)).f1.f2))).heap[gb329]? = some (.cells #[.int .i64 ((ztO gv0 (ji3)).f0.f0), .int .i64 ((ztO gv0 (ji3)).f0.f1), .int .i64 ((ztO gv0 (ji3)).f0.f2), .int .i64 ((ztO gv0 (ji3)).f1.f0), .int .i64 ((ztO gv0 (ji3)).f1.f1), .int .i64 ((ztO gv0 (ji3)).f1.f2)] 36 (0, 0))) := ⟨by (with_reducible repeat (first | apply zuW | apply ztN | apply zqY)); refine zlL (cs := #[.int .i64 ((ztO gv0 (ji3)).f0.f0), .int .i64 ((ztO gv0 (ji3)).f0.f1), .int .i64 ((ztO gv0 (ji3)).f0.f2), .int .i64 ((ztO gv0 (ji3)).f1.f0), .int .i64 ((ztO gv0 (ji3)).f1.f1), .int .i64 0]) ?_ 5 _ rfl; (with_reducible repeat (first | apply zuW | apply ztN | apply zqY)); refine zlL (cs := #[.int .i64 ((ztO gv0 (ji3)).f0.f0), .int .i64 ((ztO gv0 (ji3)).f0.f1), .int .i64 ((ztO gv0 (ji3)).f0.f2), .int .i64 ((ztO gv0 (ji3)).f1.f0), .int .i64 0, .int .i64 0]) ?_ 4 _ rfl; (with_reducible repeat (first | apply zuW | apply ztN | apply zqY)); refine zlL (cs := #[.int .i64 ((ztO gv0 (ji3)).f0.f0), .int .i64 ((ztO gv0 (ji3)).f0.f1), .int .i64 ((ztO gv0 (ji3)).f0.f2), .int .i64 0, .int .i64 0, .int .i64 0]) ?_ 3 _ rfl; (with_reducible repeat (first | apply zuW | apply ztN | apply zqY)); refine zlL (cs := #[.int .i64 ((ztO gv0 (ji3)).f0.f0), .int .i64 ((ztO gv0 (ji3)).f0.f1), .int .i64 0, .int .i64 0, .int .i64 0, .int .i64 0]) ?_ 2 _ rfl; (with_reducible repeat (first | apply zuW | apply ztN | apply zqY)); refine zlL (cs := #[.int .i64 ((ztO gv0 (ji3)).f0.f0), .int .i64 0, .int .i64 0, .int .i64 0, .int .i64 0, .int .i64 0]) ?_ 1 _ rfl; (with_reducible repeat (first | apply zuW | apply ztN | apply zqY)); refine zlL (cs := #[.int .i64 0, .int .i64 0, .int .i64 0, .int .i64 0, .int .i64 0, .int .i64 0]) ?_ 0 _ rfl; (with_reducible repeat (first | apply zuW | apply ztN | apply zqY)); exact BK329.out⟩
    have n2_ : Aside0 (Below w.heap.size w ((((((w9.setCell ⟨gb329, 0, none⟩ (.int .i64 ((ztO gv0 (ji3)).f0.f0))).setCell ⟨gb329, 1, none⟩ (.int .i64 ((ztO gv0 (ji3)).f0.f1))).setCell ⟨gb329, 2, none⟩ (.int .i64 ((ztO gv0 (ji3)).f0.f2))).setCell ⟨gb329, 3, none⟩ (.int .i64 ((ztO gv0 (ji3)).f1.f0))).setCell ⟨gb329, 4, none⟩ (.int .i64 ((ztO gv0 (ji3)).f1.f1))).setCell ⟨gb329, 5, none⟩ (.int .i64 ((ztO gv0 (ji3)).f1.f2)))) := ⟨bb_⟩
    (try clear BK327)
    (try clear BK329)
    (try clear HB)
    generalize ((((((w9.setCell ⟨gb329, 0, none⟩ (.int .i64 ((ztO gv0 (ji3)).f0.f0))).setCell ⟨gb329, 1, none⟩ (.int .i64 ((ztO gv0 (ji3)).f0.f1))).setCell ⟨gb329, 2, none⟩ (.int .i64 ((ztO gv0 (ji3)).f0.f2))).setCell ⟨gb329, 3, none⟩ (.int .i64 ((ztO gv0 (ji3)).f1.f0))).setCell ⟨gb329, 4, none⟩ (.int .i64 ((ztO gv0 (ji3)).f1.f1))).setCell ⟨gb329, 5, none⟩ (.int .i64 ((ztO gv0 (ji3)).f1.f2))) = w12 at n0_ n1_ n2_ ⊢
    have BK327 := n0_
    have BK329 := n1_
    have HB := n2_
    clear n0_ n1_ n2_
    have n0_ := zpS (ztN BK327.out)
    have n1_ := zpS (ztN BK329.out)
    have n2_ := zpS (zvF HB.out)
    clear BK327
    clear BK329
    clear HB
    have BK327 := n0_
    have BK329 := n1_
    have HB := n2_
    clear n0_ n1_ n2_
    refine zpB (n := 8) (S := fun w' => w'.cell? ⟨gb329, 0, none⟩ = some (.int .i64 ((ztO gv0 (ji3)).f0.f0)) ∧ w'.cell? ⟨gb329, 1, none⟩ = some (.int .i64 ((ztO gv0 (ji3)).f0.f1)) ∧ w'.cell? ⟨gb329, 2, none⟩ = some (.int .i64 ((ztO gv0 (ji3)).f0.f2)) ∧ w'.cell? ⟨gb329, 3, none⟩ = some (.int .i64 ((ztO gv0 (ji3)).f1.f0)) ∧ w'.cell? ⟨gb329, 4, none⟩ = some (.int .i64 ((ztO gv0 (ji3)).f1.f1)) ∧ w'.cell? ⟨gb329, 5, none⟩ = some (.int .i64 ((ztO gv0 (ji3)).f1.f2))) (ds := []) #[false, false, false, false, false, false, false, false] (by kernel_rfl) rfl rfl ⟨(zzS BK329.out 0).trans rfl, (zzS BK329.out 1).trans rfl, (zzS BK329.out 2).trans rfl, (zzS BK329.out 3).trans rfl, (zzS BK329.out 4).trans rfl, (zzS BK329.out 5).trans rfl⟩ (fun hHeld => ?_); refine zwI zdP.tab3 zdP.bits3 (fun HT_ HW_ => ?_)
    generalize w12.drew = w13 at BK327 BK329 HB hHeld ⊢
    refine pu_ 0 (some 10) (bl_ 8 1) ?_
    refine pu_ 3 (some 13) (bl_ 8 9) ?_
    refine tk6_ 1 (some 11) (bl_ 8 11) hHeld ?_
    refine tk6_ 4 (some 14) (bl_ 8 27) hHeld ?_
    refine zdC (i := 2) (N := some 12) (bl_ 8 31) rfl rfl (zeO HT_.out (by kernel_rfl)) (by decide) (fun K hK => ?_)
    refine zqW Tryd.func167 (by kernel_rfl) rfl #[.agg #[.int .i64 ((ztO gv0 (ji3)).f0.f0), .int .i64 ((ztO gv0 (ji3)).f0.f1), .int .i64 ((ztO gv0 (ji3)).f0.f2)]] (by rfl) rfl rfl (by (try simp only [List.map_toArray, List.map_cons, List.map_nil]); first | done | (simp only [hji3]; rfl) | rfl | (simp only [List.length_drop, List.length_take]; rfl)) ?_
    with_reducible refine (zjD.calls ((ztO gv0 (ji3)).f0.f0) ((ztO gv0 (ji3)).f0.f1) ((ztO gv0 (ji3)).f0.f2) t330 t331 t332 _ A6.out).mono ?_
    rintro e w14 ⟨rfl, hb⟩
    refine ⟨_, rfl, ?_⟩
    have n0_ := zpS (zgM (g := gb327) (o := .cells #[.int .i64 0, .int .i64 0, .int .i64 0, .int .i64 0, .int .i64 0, .int .i64 0] 36 (0, 0)) bk_ hb)
    have n1_ := zpS (zgM (g := gb329) (o := .cells #[.int .i64 ((ztO gv0 (ji3)).f0.f0), .int .i64 ((ztO gv0 (ji3)).f0.f1), .int .i64 ((ztO gv0 (ji3)).f0.f2), .int .i64 ((ztO gv0 (ji3)).f1.f0), .int .i64 ((ztO gv0 (ji3)).f1.f1), .int .i64 ((ztO gv0 (ji3)).f1.f2)] 36 (0, 0)) bk_ hb)
    have n2_ := (ns_ hb)
    clear BK327
    clear BK329
    clear HB
    have BK327 := n0_
    have BK329 := n1_
    have HB := n2_
    clear n0_ n1_ n2_
    (try clear hb)
    (try clear hb2)
    (try clear hk)
    (try clear hi)
    refine hK.out _ _ ⟨(zzS BK329.out 0).trans rfl, (zzS BK329.out 1).trans rfl, (zzS BK329.out 2).trans rfl, (zzS BK329.out 3).trans rfl, (zzS BK329.out 4).trans rfl, (zzS BK329.out 5).trans rfl⟩ (fun hHeld => ?_)
    clear hK K
    refine zaN (a' := ?_) ?_ ?_
    rotate_left
    ·show Act.put _ (some 12) _ = _
     simp only [Act.put, List.setIfInBounds_toArray, List.set_cons_zero, List.set_cons_succ, zcM, ziJ]
     rfl
    refine zdC (i := 5) (N := some 15) (bl_ 8 63) rfl rfl (zeO HT_.out (by kernel_rfl)) (by decide) (fun K hK => ?_)
    refine zqW Tryd.func167 (by kernel_rfl) rfl #[.agg #[.int .i64 ((ztO gv0 (ji3)).f1.f0), .int .i64 ((ztO gv0 (ji3)).f1.f1), .int .i64 ((ztO gv0 (ji3)).f1.f2)]] (by rfl) rfl rfl (by (try simp only [List.map_toArray, List.map_cons, List.map_nil]); first | done | (simp only [hji3]; rfl) | rfl | (simp only [List.length_drop, List.length_take]; rfl)) ?_
    with_reducible refine (zjD.calls ((ztO gv0 (ji3)).f1.f0) ((ztO gv0 (ji3)).f1.f1) ((ztO gv0 (ji3)).f1.f2) t333 t334 t335 _ A7.out).mono ?_
    rintro e w15 ⟨rfl, hb⟩
    refine ⟨_, rfl, ?_⟩
    have n0_ := zpS (zgM (g := gb327) (o := .cells #[.int .i64 0, .int .i64 0, .int .i64 0, .int .i64 0, .int .i64 0, .int .i64 0] 36 (0, 0)) bk_ hb)
    have n1_ := zpS (zgM (g := gb329) (o := .cells #[.int .i64 ((ztO gv0 (ji3)).f0.f0), .int .i64 ((ztO gv0 (ji3)).f0.f1), .int .i64 ((ztO gv0 (ji3)).f0.f2), .int .i64 ((ztO gv0 (ji3)).f1.f0), .int .i64 ((ztO gv0 (ji3)).f1.f1), .int .i64 ((ztO gv0 (ji3)).f1.f2)] 36 (0, 0)) bk_ hb)
    have n2_ := (ns_ hb)
    clear BK327
    clear BK329
    clear HB
    have BK327 := n0_
    have BK329 := n1_
    have HB := n2_
    clear n0_ n1_ n2_
    (try clear hb)
    (try clear hb2)
    (try clear hk)
    (try clear hi)
    refine hK.out _ _ ⟨(zzS BK329.out 0).trans rfl, (zzS BK329.out 1).trans rfl, (zzS BK329.out 2).trans rfl, (zzS BK329.out 3).trans rfl, (zzS BK329.out 4).trans rfl, (zzS BK329.out 5).trans rfl⟩ (fun hHeld => ?_)
    clear hK K
    refine zaN (a' := ?_) ?_ ?_
    rotate_left
    ·show Act.put _ (some 15) _ = _
     simp only [Act.put, List.setIfInBounds_toArray, List.set_cons_zero, List.set_cons_succ, zcM, ziJ]
     rfl
    refine pu_ 6 (some 16) (bl_ 8 127) ?_
    refine zdC (i := 7) (N := none) (bl_ 8 255) rfl rfl (zeO HT_.out (by kernel_rfl)) (by decide) (fun K hK => ?_)
    have hs16 : w15.cell? ⟨gb327, 0, none⟩ = some (.int .i64 0) := (zzS BK327.out 0).trans rfl
    have hfs16 := zjF BK327.out 0
    have hns16_1 := NB329_327.out
    have hms16_1 := NB327_329.out
    have hs17 : w15.cell? ⟨gb327, 1, none⟩ = some (.int .i64 0) := (zzS BK327.out 1).trans rfl
    have hfs17 := zjF BK327.out 1
    have hns17_1 := NB329_327.out
    have hms17_1 := NB327_329.out
    have hs18 : w15.cell? ⟨gb327, 2, none⟩ = some (.int .i64 0) := (zzS BK327.out 2).trans rfl
    have hfs18 := zjF BK327.out 2
    have hns18_1 := NB329_327.out
    have hms18_1 := NB327_329.out
    have hs19 : w15.cell? ⟨gb327, 3, none⟩ = some (.int .i64 0) := (zzS BK327.out 3).trans rfl
    have hfs19 := zjF BK327.out 3
    have hns19_1 := NB329_327.out
    have hms19_1 := NB327_329.out
    have hs20 : w15.cell? ⟨gb327, 4, none⟩ = some (.int .i64 0) := (zzS BK327.out 4).trans rfl
    have hfs20 := zjF BK327.out 4
    have hns20_1 := NB329_327.out
    have hms20_1 := NB327_329.out
    have hs21 : w15.cell? ⟨gb327, 5, none⟩ = some (.int .i64 0) := (zzS BK327.out 5).trans rfl
    have hfs21 := zjF BK327.out 5
    have hns21_1 := NB329_327.out
    have hms21_1 := NB327_329.out
    refine skip_ (w1 := ?_) (by rfl) rfl ?_ ?_
    rotate_left
    ·go_simp
     rfl
    refine hK.out _ _ ⟨((zgQ (p := ⟨gb327, _, none⟩) NB329_327.out _).trans (((zgQ (p := ⟨gb327, _, none⟩) NB329_327.out _).trans (((zgQ (p := ⟨gb327, _, none⟩) NB329_327.out _).trans (((zgQ (p := ⟨gb327, _, none⟩) NB329_327.out _).trans (((zgQ (p := ⟨gb327, _, none⟩) NB329_327.out _).trans (((zgQ (p := ⟨gb327, _, none⟩) NB329_327.out _).trans (hHeld.1)))))))))))), ((zgQ (p := ⟨gb327, _, none⟩) NB329_327.out _).trans (((zgQ (p := ⟨gb327, _, none⟩) NB329_327.out _).trans (((zgQ (p := ⟨gb327, _, none⟩) NB329_327.out _).trans (((zgQ (p := ⟨gb327, _, none⟩) NB329_327.out _).trans (((zgQ (p := ⟨gb327, _, none⟩) NB329_327.out _).trans (((zgQ (p := ⟨gb327, _, none⟩) NB329_327.out _).trans (hHeld.2.1)))))))))))), ((zgQ (p := ⟨gb327, _, none⟩) NB329_327.out _).trans (((zgQ (p := ⟨gb327, _, none⟩) NB329_327.out _).trans (((zgQ (p := ⟨gb327, _, none⟩) NB329_327.out _).trans (((zgQ (p := ⟨gb327, _, none⟩) NB329_327.out _).trans (((zgQ (p := ⟨gb327, _, none⟩) NB329_327.out _).trans (((zgQ (p := ⟨gb327, _, none⟩) NB329_327.out _).trans (hHeld.2.2.1)))))))))))), ((zgQ (p := ⟨gb327, _, none⟩) NB329_327.out _).trans (((zgQ (p := ⟨gb327, _, none⟩) NB329_327.out _).trans (((zgQ (p := ⟨gb327, _, none⟩) NB329_327.out _).trans (((zgQ (p := ⟨gb327, _, none⟩) NB329_327.out _).trans (((zgQ (p := ⟨gb327, _, none⟩) NB329_327.out _).trans (((zgQ (p := ⟨gb327, _, none⟩) NB329_327.out _).trans (hHeld.2.2.2.1)))))))))))), ((zgQ (p := ⟨gb327, _, none⟩) NB329_327.out _).trans (((zgQ (p := ⟨gb327, _, none⟩) NB329_327.out _).trans (((zgQ (p := ⟨gb327, _, none⟩) NB329_327.out _).trans (((zgQ (p := ⟨gb327, _, none⟩) NB329_327.out _).trans (((zgQ (p := ⟨gb327, _, none⟩) NB329_327.out _).trans (((zgQ (p := ⟨gb327, _, none⟩) NB329_327.out _).trans (hHeld.2.2.2.2.1)))))))))))), ((zgQ (p := ⟨gb327, _, none⟩) NB329_327.out _).trans (((zgQ (p := ⟨gb327, _, none⟩) NB329_327.out _).trans (((zgQ (p := ⟨gb327, _, none⟩) NB329_327.out _).trans (((zgQ (p := ⟨gb327, _, none⟩) NB329_327.out _).trans (((zgQ (p := ⟨gb327, _, none⟩) NB329_327.out _).trans (((zgQ (p := ⟨gb327, _, none⟩) NB329_327.out _).trans (hHeld.2.2.2.2.2))))))))))))⟩ (fun hHeld => ?_)
    clear hK K
    refine znK (zzP HT_.out (by kernel_rfl)) ?_
    try go_wp2
    refine bodyPost_ret (results_cell_row rfl _ _ gb327 36 #[.int .i64 t330, .int .i64 t331, .int .i64 t332, .int .i64 t333, .int .i64 t334, .int .i64 t335] (0, 0) _ rfl (by (with_reducible repeat (first | apply zuW | apply ztN | apply zqY)); refine zlL (cs := #[.int .i64 t330, .int .i64 t331, .int .i64 t332, .int .i64 t333, .int .i64 t334, .int .i64 0]) ?_ 5 _ rfl; (with_reducible repeat (first | apply zuW | apply ztN | apply zqY)); refine zlL (cs := #[.int .i64 t330, .int .i64 t331, .int .i64 t332, .int .i64 t333, .int .i64 0, .int .i64 0]) ?_ 4 _ rfl; (with_reducible repeat (first | apply zuW | apply ztN | apply zqY)); refine zlL (cs := #[.int .i64 t330, .int .i64 t331, .int .i64 t332, .int .i64 0, .int .i64 0, .int .i64 0]) ?_ 3 _ rfl; (with_reducible repeat (first | apply zuW | apply ztN | apply zqY)); refine zlL (cs := #[.int .i64 t330, .int .i64 t331, .int .i64 0, .int .i64 0, .int .i64 0, .int .i64 0]) ?_ 2 _ rfl; (with_reducible repeat (first | apply zuW | apply ztN | apply zqY)); refine zlL (cs := #[.int .i64 t330, .int .i64 0, .int .i64 0, .int .i64 0, .int .i64 0, .int .i64 0]) ?_ 1 _ rfl; (with_reducible repeat (first | apply zuW | apply ztN | apply zqY)); refine zlL (cs := #[.int .i64 0, .int .i64 0, .int .i64 0, .int .i64 0, .int .i64 0, .int .i64 0]) ?_ 0 _ rfl; (with_reducible repeat (first | apply zuW | apply ztN | apply zqY)); exact BK327.out) Tryd.underlying36 rfl (by kernel_rfl)) rfl ?_
    exact ⟨by first | rfl | (simp [ziS, znJ] <;> rfl) | (simp only [← hji3]; first | rfl | (simp [ziS, znJ] <;> rfl)) | (simp [*, ziS, znJ] <;> rfl), bb_⟩
   ·rw [if_neg c5] at H
    exact absurd H (by simp)
  ·rw [if_neg c4] at H
   exact absurd H (by simp)
 ·rw [if_neg c2] at H
  have c2b0 : decide (8 ≤ a0) = false := decide_eq_false c2
  clear c2
  by_cases c22 : 0 ≤ a0
  ·rw [if_pos c22] at H
   have c22b0 : decide (0 ≤ a0) = true := decide_eq_true c22
   clear c22
   by_cases c23 : a0 < 8
   ·rw [if_pos c23] at H
    have c23b0 : decide (a0 < 8) = true := decide_eq_true c23
    clear c23
    simp only [Option.some.injEq, Prod.mk.injEq] at H
    obtain ⟨rfl, rfl, rfl, rfl, rfl, rfl⟩ := H
    go_enter Tryd.func139, Tryd.ntmps139
    go_wp2_with (first | ((with_reducible refine zpZ (N := 2) rfl ?_); refine bx_ 2 #[.int .i64 0, .int .i64 0, .int .i64 0, .int .i64 0, .int .i64 0, .int .i64 0] 36 ?_; intro gb327 hg w24 hbox hb; have n0_ := (ns_ hb); have n1_ := zpS (hbox); have n2_ := (ng_ hg); have n3_ := n2_; clear HB; have HB := n0_; have BK327 := n1_; have GW327 := n2_; have GE327 := n3_; clear n0_ n1_ n2_ n3_; clear hb hbox hg; have p336 : 0 ≤ (a0 : Int) := of_decide_eq_true (by first | (with_reducible assumption) | assumption); have q336 : a0 < (gv0.length : Int) := of_decide_eq_true (by first | (with_reducible assumption) | assumption); have ql336 : ((a0 : Int) < (8 : Int)) = True := eq_true (of_decide_eq_true (by first | (with_reducible assumption) | assumption)); obtain ⟨ad336, e336, hx336_0, hx336_1, hx336_2, hx336_3, hx336_4, hx336_5⟩ := zqG HRg0.out a0 p336 q336; obtain rfl : (⟨0, 0, none⟩ : Addr) = ad336 := (by injection e336); (first | simp only [zyK] at hx336_0 | simp only [add_at] at hx336_0 | simp only [Addr.add, Nat.zero_add] at hx336_0 | skip); (first | simp only [zyK] at hx336_1 | simp only [add_at] at hx336_1 | simp only [Addr.add, Nat.zero_add] at hx336_1 | skip); (first | simp only [zyK] at hx336_2 | simp only [add_at] at hx336_2 | simp only [Addr.add, Nat.zero_add] at hx336_2 | skip); (first | simp only [zyK] at hx336_3 | simp only [add_at] at hx336_3 | simp only [Addr.add, Nat.zero_add] at hx336_3 | skip); (first | simp only [zyK] at hx336_4 | simp only [add_at] at hx336_4 | simp only [Addr.add, Nat.zero_add] at hx336_4 | skip); (first | simp only [zyK] at hx336_5 | simp only [add_at] at hx336_5 | simp only [Addr.add, Nat.zero_add] at hx336_5 | skip); replace hx336_0 := zeA HB.out hx336_0; replace hx336_1 := zeA HB.out hx336_1; replace hx336_2 := zeA HB.out hx336_2; replace hx336_3 := zeA HB.out hx336_3; replace hx336_4 := zeA HB.out hx336_4; replace hx336_5 := zeA HB.out hx336_5; replace p336 := eq_true p336; replace q336 := eq_true q336; obtain ⟨hcz25_0, hcz25_1, hcz25_2, hcz25_3, hcz25_4, hcz25_5⟩ := zrN BK327.out; obtain ⟨hfz25_0, hfz25_1, hfz25_2, hfz25_3, hfz25_4, hfz25_5⟩ := zoQ BK327.out))
    refine bodyPost_ret (results_cell_row rfl _ _ gb327 36 #[.int .i64 ((ztO gv0 a0).f0.f0), .int .i64 ((ztO gv0 a0).f0.f1), .int .i64 ((ztO gv0 a0).f0.f2), .int .i64 ((ztO gv0 a0).f1.f0), .int .i64 ((ztO gv0 a0).f1.f1), .int .i64 ((ztO gv0 a0).f1.f2)] (0, 0) _ rfl (by (with_reducible repeat (first | apply zuW | apply ztN | apply zqY)); refine zlL (cs := #[.int .i64 ((ztO gv0 a0).f0.f0), .int .i64 ((ztO gv0 a0).f0.f1), .int .i64 ((ztO gv0 a0).f0.f2), .int .i64 ((ztO gv0 a0).f1.f0), .int .i64 ((ztO gv0 a0).f1.f1), .int .i64 0]) ?_ 5 _ rfl; (with_reducible repeat (first | apply zuW | apply ztN | apply zqY)); refine zlL (cs := #[.int .i64 ((ztO gv0 a0).f0.f0), .int .i64 ((ztO gv0 a0).f0.f1), .int .i64 ((ztO gv0 a0).f0.f2), .int .i64 ((ztO gv0 a0).f1.f0), .int .i64 0, .int .i64 0]) ?_ 4 _ rfl; (with_reducible repeat (first | apply zuW | apply ztN | apply zqY)); refine zlL (cs := #[.int .i64 ((ztO gv0 a0).f0.f0), .int .i64 ((ztO gv0 a0).f0.f1), .int .i64 ((ztO gv0 a0).f0.f2), .int .i64 0, .int .i64 0, .int .i64 0]) ?_ 3 _ rfl; (with_reducible repeat (first | apply zuW | apply ztN | apply zqY)); refine zlL (cs := #[.int .i64 ((ztO gv0 a0).f0.f0), .int .i64 ((ztO gv0 a0).f0.f1), .int .i64 0, .int .i64 0, .int .i64 0, .int .i64 0]) ?_ 2 _ rfl; (with_reducible repeat (first | apply zuW | apply ztN | apply zqY)); refine zlL (cs := #[.int .i64 ((ztO gv0 a0).f0.f0), .int .i64 0, .int .i64 0, .int .i64 0, .int .i64 0, .int .i64 0]) ?_ 1 _ rfl; (with_reducible repeat (first | apply zuW | apply ztN | apply zqY)); refine zlL (cs := #[.int .i64 0, .int .i64 0, .int .i64 0, .int .i64 0, .int .i64 0, .int .i64 0]) ?_ 0 _ rfl; (with_reducible repeat (first | apply zuW | apply ztN | apply zqY)); exact BK327.out) Tryd.underlying36 rfl (by kernel_rfl)) rfl ?_
    exact ⟨by first | rfl | (simp [ziS, znJ] <;> rfl) | (simp [*, ziS, znJ] <;> rfl), bb_⟩
   ·rw [if_neg c23] at H
    exact absurd H (by simp)
  ·rw [if_neg c22] at H
   exact absurd H (by simp)

def zeF.f (k : Nat) (a0_0 : Int) (a0_1 : Int) (a0_2 : Int) (a1_0 : Int) (a1_1 : Int) (a1_2 : Int) : Option (Int × Int × Int) := (zbI.f k (wrap64 ((wrap64 (a0_0 * a1_0)) + (wrap64 ((wrap64 (2 * a0_1)) * a1_1)))) (wrap64 ((wrap64 (a0_0 * a1_1)) + (wrap64 (a0_1 * a1_0)))) (wrap64 (a0_2 + a1_2))).bind fun bt340 => (some (bt340.1, bt340.2.1, bt340.2.2))
theorem zeF.mono : ∀ a0 a1 a2 a3 a4 a5 k, LeO (zeF.f k a0 a1 a2 a3 a4 a5) (zeF.f (k + 1) a0 a1 a2 a3 a4 a5) := by
 intro a0 a1 a2 a3 a4 a5 k
 unfold zeF.f
 repeat' first
   | (with_reducible exact zbI.mono _ _ _ _)
   | (with_reducible exact LeO.refl _)
   | (with_reducible exact LeO.none _)
   | (with_reducible refine LeO.ite ?_ ?_)
   | (with_reducible refine LeO.bind ?_ (fun _ => ?_))
   | exact zbI.mono _ _ _ _
   | exact LeO.none _
   | refine LeO.ite ?_ ?_
   | refine LeO.bind ?_ (fun _ => ?_)
set_option maxHeartbeats 8000000 in
set_option maxRecDepth 100000 in
theorem zeF.calls (k : Nat) (a0_0 : Int) (a0_1 : Int) (a0_2 : Int) (a1_0 : Int) (a1_1 : Int) (a1_2 : Int) (r1 : Int) (r2 : Int) (r3 : Int) (w : World) (h : zeF.f k a0_0 a0_1 a0_2 a1_0 a1_1 a1_2 = some (r1, r2, r3)) :
  Calls Tryd.prog 168 #[.agg #[.int .i64 a0_0, .int .i64 a0_1, .int .i64 a0_2], .agg #[.int .i64 a1_0, .int .i64 a1_1, .int .i64 a1_2]] w fun e w' => e = .returned (.agg #[.int .i64 r1, .int .i64 r2, .int .i64 r3]) ∧ Below w.heap.size w w' := by
 have hu34 := Tryd.underlying34
 have HB := zpS (Below.refl w.heap.size w)
 have H : ((zbI.f k (wrap64 ((wrap64 (a0_0 * a1_0)) + (wrap64 ((wrap64 (2 * a0_1)) * a1_1)))) (wrap64 ((wrap64 (a0_0 * a1_1)) + (wrap64 (a0_1 * a1_0)))) (wrap64 (a0_2 + a1_2))).bind fun bt340 => (some (bt340.1, bt340.2.1, bt340.2.2))) = some (r1, r2, r3) := h
 clear h
 replace H := Option.bind_eq_some_iff.mp H
 obtain ⟨⟨t340, t341, t342⟩, A30, H⟩ := H
 replace H : (some (t340, t341, t342)) = some (r1, r2, r3) := H
 have A3 := zpS A30
 clear A30
 simp only [Option.some.injEq, Prod.mk.injEq] at H
 obtain ⟨rfl, rfl, rfl⟩ := H
 go_enter Tryd.func168, Tryd.ntmps168
 go_wp2_with (first | ((with_reducible refine zpZ (N := 2) rfl ?_); refine bx_ 2 #[.int .i64 a0_0, .int .i64 a0_1, .int .i64 a0_2] 34 ?_; intro gb337 hg w4 hbox hb; have n0_ := (ns_ hb); have n1_ := zpS (hbox); have n2_ := (ng_ hg); have n3_ := n2_; clear HB; have HB := n0_; have BK337 := n1_; have GW337 := n2_; have GE337 := n3_; clear n0_ n1_ n2_ n3_; clear hb hbox hg) | ((with_reducible refine zpZ (N := 3) rfl ?_); refine bx_ 3 #[.int .i64 a1_0, .int .i64 a1_1, .int .i64 a1_2] 34 ?_; intro gb338 hg w5 hbox hb; have n0_ := zpS (zgM (g := gb337) (o := .cells #[.int .i64 a0_0, .int .i64 a0_1, .int .i64 a0_2] 34 (0, 0)) bk_ hb); have n1_ := (ns_ hb); have n2_ := zpS (hbox); have n3_ := (ng_ hg); have n4_ := n3_; have n5_ := zpS ((by rw [hg]; exact Nat.ne_of_lt (zmN (g := gb337) (o := .cells #[.int .i64 a0_0, .int .i64 a0_1, .int .i64 a0_2] 34 (0, 0)) bk_) : gb337 ≠ gb338)); have n6_ := zpS ((by rw [hg]; exact Nat.ne_of_gt (zmN (g := gb337) (o := .cells #[.int .i64 a0_0, .int .i64 a0_1, .int .i64 a0_2] 34 (0, 0)) bk_) : gb338 ≠ gb337)); clear BK337; clear HB; have BK337 := n0_; have HB := n1_; have BK338 := n2_; have GW338 := n3_; have GE338 := n4_; have NB337_338 := n5_; have NB338_337 := n6_; clear n0_ n1_ n2_ n3_ n4_ n5_ n6_; clear hb hbox hg) | ((with_reducible refine zpZ (N := 4) rfl ?_); refine bx_ 4 #[.int .i64 0, .int .i64 0, .int .i64 0] 34 ?_; intro gb339 hg w6 hbox hb; have n0_ := zpS (zgM (g := gb337) (o := .cells #[.int .i64 a0_0, .int .i64 a0_1, .int .i64 a0_2] 34 (0, 0)) bk_ hb); have n1_ := zpS (zgM (g := gb338) (o := .cells #[.int .i64 a1_0, .int .i64 a1_1, .int .i64 a1_2] 34 (0, 0)) bk_ hb); have n2_ := (ns_ hb); have n3_ := zpS (hbox); have n4_ := (ng_ hg); have n5_ := n4_; have n6_ := zpS ((by rw [hg]; exact Nat.ne_of_lt (zmN (g := gb337) (o := .cells #[.int .i64 a0_0, .int .i64 a0_1, .int .i64 a0_2] 34 (0, 0)) bk_) : gb337 ≠ gb339)); have n7_ := zpS ((by rw [hg]; exact Nat.ne_of_gt (zmN (g := gb337) (o := .cells #[.int .i64 a0_0, .int .i64 a0_1, .int .i64 a0_2] 34 (0, 0)) bk_) : gb339 ≠ gb337)); have n8_ := zpS ((by rw [hg]; exact Nat.ne_of_lt (zmN (g := gb338) (o := .cells #[.int .i64 a1_0, .int .i64 a1_1, .int .i64 a1_2] 34 (0, 0)) bk_) : gb338 ≠ gb339)); have n9_ := zpS ((by rw [hg]; exact Nat.ne_of_gt (zmN (g := gb338) (o := .cells #[.int .i64 a1_0, .int .i64 a1_1, .int .i64 a1_2] 34 (0, 0)) bk_) : gb339 ≠ gb338)); clear BK337; clear BK338; clear HB; have BK337 := n0_; have BK338 := n1_; have HB := n2_; have BK339 := n3_; have GW339 := n4_; have GE339 := n5_; have NB337_339 := n6_; have NB339_337 := n7_; have NB338_339 := n8_; have NB339_338 := n9_; clear n0_ n1_ n2_ n3_ n4_ n5_ n6_ n7_ n8_ n9_; clear hb hbox hg; have hnb7 := NB337_338.out; have hnc7 := NB338_337.out; have hnb8 := NB337_339.out; have hnc8 := NB339_337.out; obtain ⟨hcz9_0, hcz9_1, hcz9_2⟩ := zdT BK337.out; obtain ⟨hfz9_0, hfz9_1, hfz9_2⟩ := zqD BK337.out; have hnb10 := NB338_339.out; have hnc10 := NB339_338.out; obtain ⟨hcz11_0, hcz11_1, hcz11_2⟩ := zdT BK338.out; obtain ⟨hfz11_0, hfz11_1, hfz11_2⟩ := zqD BK338.out) | ((with_reducible refine zgK (f := 191) rfl ?_); refine zqQ (some 34) rfl rfl Tryd.func191 (by kernel_rfl) rfl #[.agg #[.int .i64 (wrap64 ((wrap64 (a0_0 * a1_0)) + (wrap64 ((wrap64 (2 * a0_1)) * a1_1)))), .int .i64 (wrap64 ((wrap64 (a0_0 * a1_1)) + (wrap64 (a0_1 * a1_0)))), .int .i64 (wrap64 (a0_2 + a1_2))]] rfl (by (try simp only [List.map_toArray, List.map_cons, List.map_nil]); first | done | rfl | (simp only [List.length_drop, List.length_take]; rfl)) ?_; (with_reducible refine (zbI.calls k (wrap64 ((wrap64 (a0_0 * a1_0)) + (wrap64 ((wrap64 (2 * a0_1)) * a1_1)))) (wrap64 ((wrap64 (a0_0 * a1_1)) + (wrap64 (a0_1 * a1_0)))) (wrap64 (a0_2 + a1_2)) t340 t341 t342 _ A3.out).mono ?_); rintro e w12 ⟨rfl, hb⟩; refine ⟨_, rfl, ?_⟩; have n0_ := zpS (zgM (g := gb337) (o := .cells #[.int .i64 a0_0, .int .i64 a0_1, .int .i64 a0_2] 34 (0, 0)) bk_ hb); have n1_ := zpS (zgM (g := gb338) (o := .cells #[.int .i64 a1_0, .int .i64 a1_1, .int .i64 a1_2] 34 (0, 0)) bk_ hb); have n2_ := zpS (zgM (g := gb339) (o := .cells #[.int .i64 0, .int .i64 0, .int .i64 0] 34 (0, 0)) bk_ hb); have n3_ := (ns_ hb); clear BK337; clear BK338; clear BK339; clear HB; have BK337 := n0_; have BK338 := n1_; have BK339 := n2_; have HB := n3_; clear n0_ n1_ n2_ n3_; (try clear hb); (try clear hb2); obtain ⟨hcz13_0, hcz13_1, hcz13_2⟩ := zdT BK339.out; obtain ⟨hfz13_0, hfz13_1, hfz13_2⟩ := zqD BK339.out))
 refine bodyPost_ret (results_cell_row rfl _ _ gb339 34 #[.int .i64 t340, .int .i64 t341, .int .i64 t342] (0, 0) _ rfl (by (with_reducible repeat (first | apply zuW | apply ztN | apply zqY)); refine zlL (cs := #[.int .i64 t340, .int .i64 t341, .int .i64 0]) ?_ 2 _ rfl; (with_reducible repeat (first | apply zuW | apply ztN | apply zqY)); refine zlL (cs := #[.int .i64 t340, .int .i64 0, .int .i64 0]) ?_ 1 _ rfl; (with_reducible repeat (first | apply zuW | apply ztN | apply zqY)); refine zlL (cs := #[.int .i64 0, .int .i64 0, .int .i64 0]) ?_ 0 _ rfl; (with_reducible repeat (first | apply zuW | apply ztN | apply zqY)); exact BK339.out) Tryd.underlying34 rfl (by kernel_rfl)) rfl ?_
 exact ⟨by first | rfl | (simp [ziS, znJ] <;> rfl) | (simp [*, ziS, znJ] <;> rfl), bb_⟩

def zhX.f (k : Nat) (a0_0 : Int) (a0_1 : Int) (a0_2 : Int) (a0_3 : Int) (a0_4 : Int) (a0_5 : Int) (a1_0 : Int) (a1_1 : Int) (a1_2 : Int) (a1_3 : Int) (a1_4 : Int) (a1_5 : Int) : Option (Int × Int × Int) := (zeF.f k a0_0 a0_1 a0_2 a1_3 a1_4 a1_5).bind fun bt346 => ((zeF.f k a0_3 a0_4 a0_5 a1_0 a1_1 a1_2).bind fun bt349 => ((zpR.f k bt346.1 bt346.2.1 bt346.2.2 bt349.1 bt349.2.1 bt349.2.2).bind fun bt352 => (some (bt352.1, bt352.2.1, bt352.2.2))))
theorem zhX.mono : ∀ a0 a1 a2 a3 a4 a5 a6 a7 a8 a9 a10 a11 k, LeO (zhX.f k a0 a1 a2 a3 a4 a5 a6 a7 a8 a9 a10 a11) (zhX.f (k + 1) a0 a1 a2 a3 a4 a5 a6 a7 a8 a9 a10 a11) := by
 intro a0 a1 a2 a3 a4 a5 a6 a7 a8 a9 a10 a11 k
 unfold zhX.f
 repeat' first
   | (with_reducible exact zpR.mono _ _ _ _ _ _ _)
   | (with_reducible exact zeF.mono _ _ _ _ _ _ _)
   | (with_reducible exact LeO.refl _)
   | (with_reducible exact LeO.none _)
   | (with_reducible refine LeO.ite ?_ ?_)
   | (with_reducible refine LeO.bind ?_ (fun _ => ?_))
   | exact zpR.mono _ _ _ _ _ _ _
   | exact zeF.mono _ _ _ _ _ _ _
   | exact LeO.none _
   | refine LeO.ite ?_ ?_
   | refine LeO.bind ?_ (fun _ => ?_)
def zhX.T1 : Bool × List (List Nat × List Nat) := (true, [([], []), ([0], [0]), ([], []), ([2], [2]), ([1, 3], [1, 3]), ([], []), ([5], [5]), ([], []), ([7], [7]), ([6, 8, 4], [6, 8]), ([4, 9, 9], [4, 9]), ([10, 10, 0, 1, 2, 3, 4, 5, 6, 7, 8, 9, 10], [10])])
def zhX.B1 : List Nat := [0, 1, 0, 4, 15, 0, 32, 0, 128, 511, 1023, 2047]
theorem zhX.tab1 : rtab .any (opsOf Tryd.f140 1) = zhX.T1 := by kernel_rfl
theorem zhX.bits1 : ztG zhX.T1.2 zhX.B1 = true := by kernel_rfl
set_option maxHeartbeats 8000000 in
set_option maxRecDepth 100000 in
theorem zhX.calls (k : Nat) (a0_0 : Int) (a0_1 : Int) (a0_2 : Int) (a0_3 : Int) (a0_4 : Int) (a0_5 : Int) (a1_0 : Int) (a1_1 : Int) (a1_2 : Int) (a1_3 : Int) (a1_4 : Int) (a1_5 : Int) (r1 : Int) (r2 : Int) (r3 : Int) (w : World) (h : zhX.f k a0_0 a0_1 a0_2 a0_3 a0_4 a0_5 a1_0 a1_1 a1_2 a1_3 a1_4 a1_5 = some (r1, r2, r3)) :
  Calls Tryd.prog 140 #[.agg #[.int .i64 a0_0, .int .i64 a0_1, .int .i64 a0_2, .int .i64 a0_3, .int .i64 a0_4, .int .i64 a0_5], .agg #[.int .i64 a1_0, .int .i64 a1_1, .int .i64 a1_2, .int .i64 a1_3, .int .i64 a1_4, .int .i64 a1_5]] w fun e w' => e = .returned (.agg #[.int .i64 r1, .int .i64 r2, .int .i64 r3]) ∧ Below w.heap.size w w' := by
 have hu36 := Tryd.underlying36
 have hu34 := Tryd.underlying34
 have HB := zpS (Below.refl w.heap.size w)
 have H : ((zeF.f k a0_0 a0_1 a0_2 a1_3 a1_4 a1_5).bind fun bt346 => ((zeF.f k a0_3 a0_4 a0_5 a1_0 a1_1 a1_2).bind fun bt349 => ((zpR.f k bt346.1 bt346.2.1 bt346.2.2 bt349.1 bt349.2.1 bt349.2.2).bind fun bt352 => (some (bt352.1, bt352.2.1, bt352.2.2))))) = some (r1, r2, r3) := h
 clear h
 replace H := Option.bind_eq_some_iff.mp H
 obtain ⟨⟨t346, t347, t348⟩, A30, H⟩ := H
 replace H : ((zeF.f k a0_3 a0_4 a0_5 a1_0 a1_1 a1_2).bind fun bt349 => ((zpR.f k t346 t347 t348 bt349.1 bt349.2.1 bt349.2.2).bind fun bt352 => (some (bt352.1, bt352.2.1, bt352.2.2)))) = some (r1, r2, r3) := H
 have A3 := zpS A30
 clear A30
 replace H := Option.bind_eq_some_iff.mp H
 obtain ⟨⟨t349, t350, t351⟩, A40, H⟩ := H
 replace H : ((zpR.f k t346 t347 t348 t349 t350 t351).bind fun bt352 => (some (bt352.1, bt352.2.1, bt352.2.2))) = some (r1, r2, r3) := H
 have A4 := zpS A40
 clear A40
 replace H := Option.bind_eq_some_iff.mp H
 obtain ⟨⟨t352, t353, t354⟩, A50, H⟩ := H
 replace H : (some (t352, t353, t354)) = some (r1, r2, r3) := H
 have A5 := zpS A50
 clear A50
 simp only [Option.some.injEq, Prod.mk.injEq] at H
 obtain ⟨rfl, rfl, rfl⟩ := H
 go_enter Tryd.func140, Tryd.ntmps140
 try go_wp2_with (first | ((with_reducible refine zpZ (N := 2) rfl ?_); refine bx_ 2 #[.int .i64 a0_0, .int .i64 a0_1, .int .i64 a0_2, .int .i64 a0_3, .int .i64 a0_4, .int .i64 a0_5] 36 ?_; intro gb343 hg w6 hbox hb; have n0_ := (ns_ hb); have n1_ := zpS (hbox); have n2_ := (ng_ hg); have n3_ := n2_; clear HB; have HB := n0_; have BK343 := n1_; have GW343 := n2_; have GE343 := n3_; clear n0_ n1_ n2_ n3_; clear hb hbox hg) | ((with_reducible refine zpZ (N := 3) rfl ?_); refine bx_ 3 #[.int .i64 a1_0, .int .i64 a1_1, .int .i64 a1_2, .int .i64 a1_3, .int .i64 a1_4, .int .i64 a1_5] 36 ?_; intro gb344 hg w7 hbox hb; have n0_ := zpS (zgM (g := gb343) (o := .cells #[.int .i64 a0_0, .int .i64 a0_1, .int .i64 a0_2, .int .i64 a0_3, .int .i64 a0_4, .int .i64 a0_5] 36 (0, 0)) bk_ hb); have n1_ := (ns_ hb); have n2_ := zpS (hbox); have n3_ := (ng_ hg); have n4_ := n3_; have n5_ := zpS ((by rw [hg]; exact Nat.ne_of_lt (zmN (g := gb343) (o := .cells #[.int .i64 a0_0, .int .i64 a0_1, .int .i64 a0_2, .int .i64 a0_3, .int .i64 a0_4, .int .i64 a0_5] 36 (0, 0)) bk_) : gb343 ≠ gb344)); have n6_ := zpS ((by rw [hg]; exact Nat.ne_of_gt (zmN (g := gb343) (o := .cells #[.int .i64 a0_0, .int .i64 a0_1, .int .i64 a0_2, .int .i64 a0_3, .int .i64 a0_4, .int .i64 a0_5] 36 (0, 0)) bk_) : gb344 ≠ gb343)); clear BK343; clear HB; have BK343 := n0_; have HB := n1_; have BK344 := n2_; have GW344 := n3_; have GE344 := n4_; have NB343_344 := n5_; have NB344_343 := n6_; clear n0_ n1_ n2_ n3_ n4_ n5_ n6_; clear hb hbox hg) | ((with_reducible refine zpZ (N := 4) rfl ?_); refine bx_ 4 #[.int .i64 0, .int .i64 0, .int .i64 0] 34 ?_; intro gb345 hg w8 hbox hb; have n0_ := zpS (zgM (g := gb343) (o := .cells #[.int .i64 a0_0, .int .i64 a0_1, .int .i64 a0_2, .int .i64 a0_3, .int .i64 a0_4, .int .i64 a0_5] 36 (0, 0)) bk_ hb); have n1_ := zpS (zgM (g := gb344) (o := .cells #[.int .i64 a1_0, .int .i64 a1_1, .int .i64 a1_2, .int .i64 a1_3, .int .i64 a1_4, .int .i64 a1_5] 36 (0, 0)) bk_ hb); have n2_ := (ns_ hb); have n3_ := zpS (hbox); have n4_ := (ng_ hg); have n5_ := n4_; have n6_ := zpS ((by rw [hg]; exact Nat.ne_of_lt (zmN (g := gb343) (o := .cells #[.int .i64 a0_0, .int .i64 a0_1, .int .i64 a0_2, .int .i64 a0_3, .int .i64 a0_4, .int .i64 a0_5] 36 (0, 0)) bk_) : gb343 ≠ gb345)); have n7_ := zpS ((by rw [hg]; exact Nat.ne_of_gt (zmN (g := gb343) (o := .cells #[.int .i64 a0_0, .int .i64 a0_1, .int .i64 a0_2, .int .i64 a0_3, .int .i64 a0_4, .int .i64 a0_5] 36 (0, 0)) bk_) : gb345 ≠ gb343)); have n8_ := zpS ((by rw [hg]; exact Nat.ne_of_lt (zmN (g := gb344) (o := .cells #[.int .i64 a1_0, .int .i64 a1_1, .int .i64 a1_2, .int .i64 a1_3, .int .i64 a1_4, .int .i64 a1_5] 36 (0, 0)) bk_) : gb344 ≠ gb345)); have n9_ := zpS ((by rw [hg]; exact Nat.ne_of_gt (zmN (g := gb344) (o := .cells #[.int .i64 a1_0, .int .i64 a1_1, .int .i64 a1_2, .int .i64 a1_3, .int .i64 a1_4, .int .i64 a1_5] 36 (0, 0)) bk_) : gb345 ≠ gb344)); clear BK343; clear BK344; clear HB; have BK343 := n0_; have BK344 := n1_; have HB := n2_; have BK345 := n3_; have GW345 := n4_; have GE345 := n5_; have NB343_345 := n6_; have NB345_343 := n7_; have NB344_345 := n8_; have NB345_344 := n9_; clear n0_ n1_ n2_ n3_ n4_ n5_ n6_ n7_ n8_ n9_; clear hb hbox hg))
 have n0_ := zpS (ztN BK343.out)
 have n1_ := zpS (ztN BK344.out)
 have n2_ := zpS (ztN BK345.out)
 have n3_ := zpS (zvF HB.out)
 clear BK343
 clear BK344
 clear BK345
 clear HB
 have BK343 := n0_
 have BK344 := n1_
 have BK345 := n2_
 have HB := n3_
 clear n0_ n1_ n2_ n3_
 refine zpB (n := 12) (S := fun w' => w'.cell? ⟨gb343, 0, none⟩ = some (.int .i64 a0_0) ∧ w'.cell? ⟨gb343, 1, none⟩ = some (.int .i64 a0_1) ∧ w'.cell? ⟨gb343, 2, none⟩ = some (.int .i64 a0_2) ∧ w'.cell? ⟨gb343, 3, none⟩ = some (.int .i64 a0_3) ∧ w'.cell? ⟨gb343, 4, none⟩ = some (.int .i64 a0_4) ∧ w'.cell? ⟨gb343, 5, none⟩ = some (.int .i64 a0_5) ∧ w'.cell? ⟨gb344, 0, none⟩ = some (.int .i64 a1_0) ∧ w'.cell? ⟨gb344, 1, none⟩ = some (.int .i64 a1_1) ∧ w'.cell? ⟨gb344, 2, none⟩ = some (.int .i64 a1_2) ∧ w'.cell? ⟨gb344, 3, none⟩ = some (.int .i64 a1_3) ∧ w'.cell? ⟨gb344, 4, none⟩ = some (.int .i64 a1_4) ∧ w'.cell? ⟨gb344, 5, none⟩ = some (.int .i64 a1_5)) (ds := []) #[false, false, false, false, false, false, false, false, false, false, false, false] (by kernel_rfl) rfl rfl ⟨(zzS BK343.out 0).trans rfl, (zzS BK343.out 1).trans rfl, (zzS BK343.out 2).trans rfl, (zzS BK343.out 3).trans rfl, (zzS BK343.out 4).trans rfl, (zzS BK343.out 5).trans rfl, (zzS BK344.out 0).trans rfl, (zzS BK344.out 1).trans rfl, (zzS BK344.out 2).trans rfl, (zzS BK344.out 3).trans rfl, (zzS BK344.out 4).trans rfl, (zzS BK344.out 5).trans rfl⟩ (fun hHeld => ?_); refine zwI zhX.tab1 zhX.bits1 (fun HT_ HW_ => ?_)
 generalize w8.drew = w9 at BK343 BK344 BK345 HB hHeld ⊢
 refine pu_ 0 (some 5) (bl_ 12 1) ?_
 refine pu_ 2 (some 7) (bl_ 12 5) ?_
 refine pu_ 5 (some 10) (bl_ 12 37) ?_
 refine pu_ 7 (some 12) (bl_ 12 165) ?_
 refine zmW 1 (some 6) (bl_ 12 167) hHeld ?_
 refine zmW 3 (some 8) (bl_ 12 175) hHeld ?_
 refine zmW 6 (some 11) (bl_ 12 239) hHeld ?_
 refine zmW 8 (some 13) (bl_ 12 495) hHeld ?_
 refine zdC (i := 4) (N := some 9) (bl_ 12 511) rfl rfl (zeO HT_.out (by kernel_rfl)) (by decide) (fun K hK => ?_)
 refine zqW Tryd.func168 (by kernel_rfl) rfl #[.agg #[.int .i64 a0_0, .int .i64 a0_1, .int .i64 a0_2], .agg #[.int .i64 a1_3, .int .i64 a1_4, .int .i64 a1_5]] (by rfl) rfl rfl (by (try simp only [List.map_toArray, List.map_cons, List.map_nil]); first | done | rfl | (simp only [List.length_drop, List.length_take]; rfl)) ?_
 with_reducible refine (zeF.calls k a0_0 a0_1 a0_2 a1_3 a1_4 a1_5 t346 t347 t348 _ A3.out).mono ?_
 rintro e w10 ⟨rfl, hb⟩
 refine ⟨_, rfl, ?_⟩
 have n0_ := zpS (zgM (g := gb343) (o := .cells #[.int .i64 a0_0, .int .i64 a0_1, .int .i64 a0_2, .int .i64 a0_3, .int .i64 a0_4, .int .i64 a0_5] 36 (0, 0)) bk_ hb)
 have n1_ := zpS (zgM (g := gb344) (o := .cells #[.int .i64 a1_0, .int .i64 a1_1, .int .i64 a1_2, .int .i64 a1_3, .int .i64 a1_4, .int .i64 a1_5] 36 (0, 0)) bk_ hb)
 have n2_ := zpS (zgM (g := gb345) (o := .cells #[.int .i64 0, .int .i64 0, .int .i64 0] 34 (0, 0)) bk_ hb)
 have n3_ := (ns_ hb)
 clear BK343
 clear BK344
 clear BK345
 clear HB
 have BK343 := n0_
 have BK344 := n1_
 have BK345 := n2_
 have HB := n3_
 clear n0_ n1_ n2_ n3_
 (try clear hb)
 (try clear hb2)
 (try clear hk)
 (try clear hi)
 refine hK.out _ _ ⟨(zzS BK343.out 0).trans rfl, (zzS BK343.out 1).trans rfl, (zzS BK343.out 2).trans rfl, (zzS BK343.out 3).trans rfl, (zzS BK343.out 4).trans rfl, (zzS BK343.out 5).trans rfl, (zzS BK344.out 0).trans rfl, (zzS BK344.out 1).trans rfl, (zzS BK344.out 2).trans rfl, (zzS BK344.out 3).trans rfl, (zzS BK344.out 4).trans rfl, (zzS BK344.out 5).trans rfl⟩ (fun hHeld => ?_)
 clear hK K
 refine zaN (a' := ?_) ?_ ?_
 rotate_left
 ·show Act.put _ (some 9) _ = _
  simp only [Act.put, List.setIfInBounds_toArray, List.set_cons_zero, List.set_cons_succ, zcM, ziJ]
  rfl
 refine zdC (i := 9) (N := some 14) (bl_ 12 1023) rfl rfl (zeO HT_.out (by kernel_rfl)) (by decide) (fun K hK => ?_)
 refine zqW Tryd.func168 (by kernel_rfl) rfl #[.agg #[.int .i64 a0_3, .int .i64 a0_4, .int .i64 a0_5], .agg #[.int .i64 a1_0, .int .i64 a1_1, .int .i64 a1_2]] (by rfl) rfl rfl (by (try simp only [List.map_toArray, List.map_cons, List.map_nil]); first | done | rfl | (simp only [List.length_drop, List.length_take]; rfl)) ?_
 with_reducible refine (zeF.calls k a0_3 a0_4 a0_5 a1_0 a1_1 a1_2 t349 t350 t351 _ A4.out).mono ?_
 rintro e w11 ⟨rfl, hb⟩
 refine ⟨_, rfl, ?_⟩
 have n0_ := zpS (zgM (g := gb343) (o := .cells #[.int .i64 a0_0, .int .i64 a0_1, .int .i64 a0_2, .int .i64 a0_3, .int .i64 a0_4, .int .i64 a0_5] 36 (0, 0)) bk_ hb)
 have n1_ := zpS (zgM (g := gb344) (o := .cells #[.int .i64 a1_0, .int .i64 a1_1, .int .i64 a1_2, .int .i64 a1_3, .int .i64 a1_4, .int .i64 a1_5] 36 (0, 0)) bk_ hb)
 have n2_ := zpS (zgM (g := gb345) (o := .cells #[.int .i64 0, .int .i64 0, .int .i64 0] 34 (0, 0)) bk_ hb)
 have n3_ := (ns_ hb)
 clear BK343
 clear BK344
 clear BK345
 clear HB
 have BK343 := n0_
 have BK344 := n1_
 have BK345 := n2_
 have HB := n3_
 clear n0_ n1_ n2_ n3_
 (try clear hb)
 (try clear hb2)
 (try clear hk)
 (try clear hi)
 refine hK.out _ _ ⟨(zzS BK343.out 0).trans rfl, (zzS BK343.out 1).trans rfl, (zzS BK343.out 2).trans rfl, (zzS BK343.out 3).trans rfl, (zzS BK343.out 4).trans rfl, (zzS BK343.out 5).trans rfl, (zzS BK344.out 0).trans rfl, (zzS BK344.out 1).trans rfl, (zzS BK344.out 2).trans rfl, (zzS BK344.out 3).trans rfl, (zzS BK344.out 4).trans rfl, (zzS BK344.out 5).trans rfl⟩ (fun hHeld => ?_)
 clear hK K
 refine zaN (a' := ?_) ?_ ?_
 rotate_left
 ·show Act.put _ (some 14) _ = _
  simp only [Act.put, List.setIfInBounds_toArray, List.set_cons_zero, List.set_cons_succ, zcM, ziJ]
  rfl
 refine zdC (i := 10) (N := some 15) (bl_ 12 2047) rfl rfl (zeO HT_.out (by kernel_rfl)) (by decide) (fun K hK => ?_)
 refine zqW Tryd.func166 (by kernel_rfl) rfl #[.agg #[.int .i64 t346, .int .i64 t347, .int .i64 t348], .agg #[.int .i64 t349, .int .i64 t350, .int .i64 t351]] (by rfl) rfl rfl (by (try simp only [List.map_toArray, List.map_cons, List.map_nil]); first | done | rfl | (simp only [List.length_drop, List.length_take]; rfl)) ?_
 with_reducible refine (zpR.calls k t346 t347 t348 t349 t350 t351 t352 t353 t354 _ A5.out).mono ?_
 rintro e w12 ⟨rfl, hb⟩
 refine ⟨_, rfl, ?_⟩
 have n0_ := zpS (zgM (g := gb343) (o := .cells #[.int .i64 a0_0, .int .i64 a0_1, .int .i64 a0_2, .int .i64 a0_3, .int .i64 a0_4, .int .i64 a0_5] 36 (0, 0)) bk_ hb)
 have n1_ := zpS (zgM (g := gb344) (o := .cells #[.int .i64 a1_0, .int .i64 a1_1, .int .i64 a1_2, .int .i64 a1_3, .int .i64 a1_4, .int .i64 a1_5] 36 (0, 0)) bk_ hb)
 have n2_ := zpS (zgM (g := gb345) (o := .cells #[.int .i64 0, .int .i64 0, .int .i64 0] 34 (0, 0)) bk_ hb)
 have n3_ := (ns_ hb)
 clear BK343
 clear BK344
 clear BK345
 clear HB
 have BK343 := n0_
 have BK344 := n1_
 have BK345 := n2_
 have HB := n3_
 clear n0_ n1_ n2_ n3_
 (try clear hb)
 (try clear hb2)
 (try clear hk)
 (try clear hi)
 refine hK.out _ _ ⟨(zzS BK343.out 0).trans rfl, (zzS BK343.out 1).trans rfl, (zzS BK343.out 2).trans rfl, (zzS BK343.out 3).trans rfl, (zzS BK343.out 4).trans rfl, (zzS BK343.out 5).trans rfl, (zzS BK344.out 0).trans rfl, (zzS BK344.out 1).trans rfl, (zzS BK344.out 2).trans rfl, (zzS BK344.out 3).trans rfl, (zzS BK344.out 4).trans rfl, (zzS BK344.out 5).trans rfl⟩ (fun hHeld => ?_)
 clear hK K
 refine zaN (a' := ?_) ?_ ?_
 rotate_left
 ·show Act.put _ (some 15) _ = _
  simp only [Act.put, List.setIfInBounds_toArray, List.set_cons_zero, List.set_cons_succ, zcM, ziJ]
  rfl
 refine zdC (i := 11) (N := none) (bl_ 12 4095) rfl rfl (zeO HT_.out (by kernel_rfl)) (by decide) (fun K hK => ?_)
 have hs13 : w12.cell? ⟨gb345, 0, none⟩ = some (.int .i64 0) := (zzS BK345.out 0).trans rfl
 have hfs13 := zjF BK345.out 0
 have hns13_0 := NB343_345.out
 have hns13_1 := NB344_345.out
 have hms13_0 := NB345_343.out
 have hms13_1 := NB345_344.out
 have hs14 : w12.cell? ⟨gb345, 1, none⟩ = some (.int .i64 0) := (zzS BK345.out 1).trans rfl
 have hfs14 := zjF BK345.out 1
 have hns14_0 := NB343_345.out
 have hns14_1 := NB344_345.out
 have hms14_0 := NB345_343.out
 have hms14_1 := NB345_344.out
 have hs15 : w12.cell? ⟨gb345, 2, none⟩ = some (.int .i64 0) := (zzS BK345.out 2).trans rfl
 have hfs15 := zjF BK345.out 2
 have hns15_0 := NB343_345.out
 have hns15_1 := NB344_345.out
 have hms15_0 := NB345_343.out
 have hms15_1 := NB345_344.out
 refine skip_ (w1 := ?_) (by rfl) rfl ?_ ?_
 rotate_left
 ·go_simp
  rfl
 refine hK.out _ _ ⟨((zgQ (p := ⟨gb345, _, none⟩) NB343_345.out _).trans (((zgQ (p := ⟨gb345, _, none⟩) NB343_345.out _).trans (((zgQ (p := ⟨gb345, _, none⟩) NB343_345.out _).trans (hHeld.1)))))), ((zgQ (p := ⟨gb345, _, none⟩) NB343_345.out _).trans (((zgQ (p := ⟨gb345, _, none⟩) NB343_345.out _).trans (((zgQ (p := ⟨gb345, _, none⟩) NB343_345.out _).trans (hHeld.2.1)))))), ((zgQ (p := ⟨gb345, _, none⟩) NB343_345.out _).trans (((zgQ (p := ⟨gb345, _, none⟩) NB343_345.out _).trans (((zgQ (p := ⟨gb345, _, none⟩) NB343_345.out _).trans (hHeld.2.2.1)))))), ((zgQ (p := ⟨gb345, _, none⟩) NB343_345.out _).trans (((zgQ (p := ⟨gb345, _, none⟩) NB343_345.out _).trans (((zgQ (p := ⟨gb345, _, none⟩) NB343_345.out _).trans (hHeld.2.2.2.1)))))), ((zgQ (p := ⟨gb345, _, none⟩) NB343_345.out _).trans (((zgQ (p := ⟨gb345, _, none⟩) NB343_345.out _).trans (((zgQ (p := ⟨gb345, _, none⟩) NB343_345.out _).trans (hHeld.2.2.2.2.1)))))), ((zgQ (p := ⟨gb345, _, none⟩) NB343_345.out _).trans (((zgQ (p := ⟨gb345, _, none⟩) NB343_345.out _).trans (((zgQ (p := ⟨gb345, _, none⟩) NB343_345.out _).trans (hHeld.2.2.2.2.2.1)))))), ((zgQ (p := ⟨gb345, _, none⟩) NB344_345.out _).trans (((zgQ (p := ⟨gb345, _, none⟩) NB344_345.out _).trans (((zgQ (p := ⟨gb345, _, none⟩) NB344_345.out _).trans (hHeld.2.2.2.2.2.2.1)))))), ((zgQ (p := ⟨gb345, _, none⟩) NB344_345.out _).trans (((zgQ (p := ⟨gb345, _, none⟩) NB344_345.out _).trans (((zgQ (p := ⟨gb345, _, none⟩) NB344_345.out _).trans (hHeld.2.2.2.2.2.2.2.1)))))), ((zgQ (p := ⟨gb345, _, none⟩) NB344_345.out _).trans (((zgQ (p := ⟨gb345, _, none⟩) NB344_345.out _).trans (((zgQ (p := ⟨gb345, _, none⟩) NB344_345.out _).trans (hHeld.2.2.2.2.2.2.2.2.1)))))), ((zgQ (p := ⟨gb345, _, none⟩) NB344_345.out _).trans (((zgQ (p := ⟨gb345, _, none⟩) NB344_345.out _).trans (((zgQ (p := ⟨gb345, _, none⟩) NB344_345.out _).trans (hHeld.2.2.2.2.2.2.2.2.2.1)))))), ((zgQ (p := ⟨gb345, _, none⟩) NB344_345.out _).trans (((zgQ (p := ⟨gb345, _, none⟩) NB344_345.out _).trans (((zgQ (p := ⟨gb345, _, none⟩) NB344_345.out _).trans (hHeld.2.2.2.2.2.2.2.2.2.2.1)))))), ((zgQ (p := ⟨gb345, _, none⟩) NB344_345.out _).trans (((zgQ (p := ⟨gb345, _, none⟩) NB344_345.out _).trans (((zgQ (p := ⟨gb345, _, none⟩) NB344_345.out _).trans (hHeld.2.2.2.2.2.2.2.2.2.2.2))))))⟩ (fun hHeld => ?_)
 clear hK K
 refine znK (zzP HT_.out (by kernel_rfl)) ?_
 try go_wp2
 refine bodyPost_ret (results_cell_row rfl _ _ gb345 34 #[.int .i64 t352, .int .i64 t353, .int .i64 t354] (0, 0) _ rfl (by (with_reducible repeat (first | apply zuW | apply ztN | apply zqY)); refine zlL (cs := #[.int .i64 t352, .int .i64 t353, .int .i64 0]) ?_ 2 _ rfl; (with_reducible repeat (first | apply zuW | apply ztN | apply zqY)); refine zlL (cs := #[.int .i64 t352, .int .i64 0, .int .i64 0]) ?_ 1 _ rfl; (with_reducible repeat (first | apply zuW | apply ztN | apply zqY)); refine zlL (cs := #[.int .i64 0, .int .i64 0, .int .i64 0]) ?_ 0 _ rfl; (with_reducible repeat (first | apply zuW | apply ztN | apply zqY)); exact BK345.out) Tryd.underlying34 rfl (by kernel_rfl)) rfl ?_
 exact ⟨by first | rfl | (simp [ziS, znJ] <;> rfl) | (simp [*, ziS, znJ] <;> rfl), bb_⟩

end Go.Proofs.YtmajpmofeddknaaDoor.PFnExactValidPlaces
