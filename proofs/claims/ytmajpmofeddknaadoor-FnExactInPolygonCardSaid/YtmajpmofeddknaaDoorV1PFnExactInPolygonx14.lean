-- Printed for this claim by this session's program pp.py, which drives the kit's print with additions. Not trusted: Lean checks it.
import Derived.Test.YtmajpmofeddknaaDoorV1PFnExactInPolygonx0
import Derived.Test.YtmajpmofeddknaaDoorV1PFnExactInPolygonx8
import Derived.Test.YtmajpmofeddknaaDoorV1PFnExactInPolygonx9
import Derived.Test.YtmajpmofeddknaaDoorV1PFnExactInPolygonx10
import Derived.Test.YtmajpmofeddknaaDoorV1PFnExactInPolygonx11
import Derived.Test.YtmajpmofeddknaaDoorV1PFnExactInPolygonx13
namespace Go.Proofs.YtmajpmofeddknaaDoor.PFnExactInPolygon
open Go.RowKit Go.Proofs.YtmajpmofeddknaaDoorW.PrintWords Go.Proofs.YtmajpmofeddknaaDoorW.PrintLast Go.Proofs.YtmajpmofeddknaaDoorW.PrintMore
attribute [local go_sem] zeE zdX zeQ zeO zdK zdI zeA zeC   -- for this text's walks alone
set_option linter.unusedVariables false
set_option linter.unusedSimpArgs false

def zcC.f (k : Nat) (a0_0 : Int) (a0_1 : Int) (a0_2 : Int) (a1_0 : Int) (a1_1 : Int) (a1_2 : Int) : Option (Int) := (zbR.f k a0_0 a0_1 a0_2 a1_0 a1_1 a1_2).bind fun bt438 => ((zaU.f k bt438.1 bt438.2.1 bt438.2.2).bind fun t441 => (some t441))
theorem zcC.mono : ∀ a0 a1 a2 a3 a4 a5 k, LeO (zcC.f k a0 a1 a2 a3 a4 a5) (zcC.f (k + 1) a0 a1 a2 a3 a4 a5) := by
 intro a0 a1 a2 a3 a4 a5 k
 unfold zcC.f
 repeat' first
   | (with_reducible exact zbR.mono _ _ _ _ _ _ _)
   | (with_reducible exact zaU.mono _ _ _ _)
   | (with_reducible exact LeO.refl _)
   | (with_reducible exact LeO.none _)
   | (with_reducible refine LeO.ite ?_ ?_)
   | (with_reducible refine LeO.bind ?_ (fun _ => ?_))
   | exact zbR.mono _ _ _ _ _ _ _
   | exact zaU.mono _ _ _ _
   | exact LeO.none _
   | refine LeO.ite ?_ ?_
   | refine LeO.bind ?_ (fun _ => ?_)
set_option maxHeartbeats 8000000 in
set_option maxRecDepth 100000 in
theorem zcC.calls (k : Nat) (a0_0 : Int) (a0_1 : Int) (a0_2 : Int) (a1_0 : Int) (a1_1 : Int) (a1_2 : Int) (r : Int) (w : World) (h : zcC.f k a0_0 a0_1 a0_2 a1_0 a1_1 a1_2 = some r) :
  Calls Tryd.prog 143 #[.agg #[.int .i64 a0_0, .int .i64 a0_1, .int .i64 a0_2], .agg #[.int .i64 a1_0, .int .i64 a1_1, .int .i64 a1_2]] w fun e w' => e = .returned (.int .i64 r) ∧ Below w.heap.size w w' := by
 have hu34 := Tryd.underlying34
 have HB := zaJ (Below.refl w.heap.size w)
 have H : ((zbR.f k a0_0 a0_1 a0_2 a1_0 a1_1 a1_2).bind fun bt438 => ((zaU.f k bt438.1 bt438.2.1 bt438.2.2).bind fun t441 => (some t441))) = some r := h
 clear h
 replace H := Option.bind_eq_some_iff.mp H
 obtain ⟨⟨t438, t439, t440⟩, A30, H⟩ := H
 replace H : ((zaU.f k t438 t439 t440).bind fun t441 => (some t441)) = some r := H
 have A3 := zaJ A30
 clear A30
 replace H := Option.bind_eq_some_iff.mp H
 obtain ⟨t441, A40, H⟩ := H
 replace H : (some t441) = some r := H
 have A4 := zaJ A40
 clear A40
 obtain rfl := Option.some.inj H
 go_enter Tryd.func143, Tryd.ntmps143
 go_wp2_with (first | ((with_reducible refine zaQ (N := 2) rfl ?_); refine bx_ 2 #[.int .i64 a0_0, .int .i64 a0_1, .int .i64 a0_2] 34 ?_; intro gb436 hg w5 hbox hb; have n0_ := (ns_ hb); have n1_ := zaJ (hbox); have n2_ := (ng_ hg); have n3_ := n2_; clear HB; have HB := n0_; have BK436 := n1_; have GW436 := n2_; have GE436 := n3_; clear n0_ n1_ n2_ n3_; clear hb hbox hg) | ((with_reducible refine zaQ (N := 3) rfl ?_); refine bx_ 3 #[.int .i64 a1_0, .int .i64 a1_1, .int .i64 a1_2] 34 ?_; intro gb437 hg w6 hbox hb; have n0_ := zaJ (zaG (g := gb436) (o := .cells #[.int .i64 a0_0, .int .i64 a0_1, .int .i64 a0_2] 34 (0, 0)) bk_ hb); have n1_ := (ns_ hb); have n2_ := zaJ (hbox); have n3_ := (ng_ hg); have n4_ := n3_; have n5_ := zaJ ((by rw [hg]; exact Nat.ne_of_lt (zbC (g := gb436) (o := .cells #[.int .i64 a0_0, .int .i64 a0_1, .int .i64 a0_2] 34 (0, 0)) bk_) : gb436 ≠ gb437)); have n6_ := zaJ ((by rw [hg]; exact Nat.ne_of_gt (zbC (g := gb436) (o := .cells #[.int .i64 a0_0, .int .i64 a0_1, .int .i64 a0_2] 34 (0, 0)) bk_) : gb437 ≠ gb436)); clear BK436; clear HB; have BK436 := n0_; have HB := n1_; have BK437 := n2_; have GW437 := n3_; have GE437 := n4_; have NB436_437 := n5_; have NB437_436 := n6_; clear n0_ n1_ n2_ n3_ n4_ n5_ n6_; clear hb hbox hg; have hnb7 := NB436_437.out; have hnc7 := NB437_436.out; obtain ⟨hcz8_0, hcz8_1, hcz8_2⟩ := zeI BK436.out; obtain ⟨hfz8_0, hfz8_1, hfz8_2⟩ := zeH BK436.out; obtain ⟨hcz9_0, hcz9_1, hcz9_2⟩ := zeI BK437.out; obtain ⟨hfz9_0, hfz9_1, hfz9_2⟩ := zeH BK437.out) | ((with_reducible refine zaK (f := 166) rfl ?_); refine zbQ (some 7) rfl rfl Tryd.func166 (by kernel_rfl) rfl #[.agg #[.int .i64 a0_0, .int .i64 a0_1, .int .i64 a0_2], .agg #[.int .i64 a1_0, .int .i64 a1_1, .int .i64 a1_2]] rfl (by (try simp only [List.map_toArray, List.map_cons, List.map_nil]); first | done | rfl | (simp only [List.length_drop, List.length_take]; rfl)) ?_; (with_reducible refine (zbR.calls k a0_0 a0_1 a0_2 a1_0 a1_1 a1_2 t438 t439 t440 _ A3.out).mono ?_); rintro e w10 ⟨rfl, hb⟩; refine ⟨_, rfl, ?_⟩; have n0_ := zaJ (zaG (g := gb436) (o := .cells #[.int .i64 a0_0, .int .i64 a0_1, .int .i64 a0_2] 34 (0, 0)) bk_ hb); have n1_ := zaJ (zaG (g := gb437) (o := .cells #[.int .i64 a1_0, .int .i64 a1_1, .int .i64 a1_2] 34 (0, 0)) bk_ hb); have n2_ := (ns_ hb); clear BK436; clear BK437; clear HB; have BK436 := n0_; have BK437 := n1_; have HB := n2_; clear n0_ n1_ n2_; (try clear hb); (try clear hb2)) | ((with_reducible refine zaK (f := 142) rfl ?_); refine zbQ (some 8) rfl rfl Tryd.func142 (by kernel_rfl) rfl #[.agg #[.int .i64 t438, .int .i64 t439, .int .i64 t440]] rfl (by (try simp only [List.map_toArray, List.map_cons, List.map_nil]); first | done | rfl | (simp only [List.length_drop, List.length_take]; rfl)) ?_; (with_reducible refine (zaU.calls k t438 t439 t440 t441 _ A4.out).mono ?_); rintro e w11 ⟨rfl, hb⟩; refine ⟨_, rfl, ?_⟩; have n0_ := zaJ (zaG (g := gb436) (o := .cells #[.int .i64 a0_0, .int .i64 a0_1, .int .i64 a0_2] 34 (0, 0)) bk_ hb); have n1_ := zaJ (zaG (g := gb437) (o := .cells #[.int .i64 a1_0, .int .i64 a1_1, .int .i64 a1_2] 34 (0, 0)) bk_ hb); have n2_ := (ns_ hb); clear BK436; clear BK437; clear HB; have BK436 := n0_; have BK437 := n1_; have HB := n2_; clear n0_ n1_ n2_; (try clear hb); (try clear hb2)))
 go_ret
 exact ⟨by first | rfl | (simp [zaI, zaH] <;> rfl) | (simp [*, zaI, zaH] <;> rfl), bb_⟩

def zcE.f (k : Nat) (a0_0 : Int) (a0_1 : Int) (a0_2 : Int) (a0_3 : Int) (a0_4 : Int) (a0_5 : Int) (a1_0 : Int) (a1_1 : Int) (a1_2 : Int) (a1_3 : Int) (a1_4 : Int) (a1_5 : Int) : Option (Int) := (zcC.f k a0_0 a0_1 a0_2 a1_0 a1_1 a1_2).bind fun t444 => (if t444 = 0 then ((zcC.f k a0_3 a0_4 a0_5 a1_3 a1_4 a1_5).bind fun t445 => (some t445)) else (some t444))
theorem zcE.mono : ∀ a0 a1 a2 a3 a4 a5 a6 a7 a8 a9 a10 a11 k, LeO (zcE.f k a0 a1 a2 a3 a4 a5 a6 a7 a8 a9 a10 a11) (zcE.f (k + 1) a0 a1 a2 a3 a4 a5 a6 a7 a8 a9 a10 a11) := by
 intro a0 a1 a2 a3 a4 a5 a6 a7 a8 a9 a10 a11 k
 unfold zcE.f
 repeat' first
   | (with_reducible exact zcC.mono _ _ _ _ _ _ _)
   | (with_reducible exact LeO.refl _)
   | (with_reducible exact LeO.none _)
   | (with_reducible refine LeO.ite ?_ ?_)
   | (with_reducible refine LeO.bind ?_ (fun _ => ?_))
   | exact zcC.mono _ _ _ _ _ _ _
   | exact LeO.none _
   | refine LeO.ite ?_ ?_
   | refine LeO.bind ?_ (fun _ => ?_)
set_option maxHeartbeats 8000000 in
set_option maxRecDepth 100000 in
theorem zcE.calls (k : Nat) (a0_0 : Int) (a0_1 : Int) (a0_2 : Int) (a0_3 : Int) (a0_4 : Int) (a0_5 : Int) (a1_0 : Int) (a1_1 : Int) (a1_2 : Int) (a1_3 : Int) (a1_4 : Int) (a1_5 : Int) (r : Int) (w : World) (h : zcE.f k a0_0 a0_1 a0_2 a0_3 a0_4 a0_5 a1_0 a1_1 a1_2 a1_3 a1_4 a1_5 = some r) :
  Calls Tryd.prog 108 #[.agg #[.int .i64 a0_0, .int .i64 a0_1, .int .i64 a0_2, .int .i64 a0_3, .int .i64 a0_4, .int .i64 a0_5], .agg #[.int .i64 a1_0, .int .i64 a1_1, .int .i64 a1_2, .int .i64 a1_3, .int .i64 a1_4, .int .i64 a1_5]] w fun e w' => e = .returned (.int .i64 r) ∧ Below w.heap.size w w' := by
 have hu36 := Tryd.underlying36
 have hu34 := Tryd.underlying34
 have HB := zaJ (Below.refl w.heap.size w)
 have H : ((zcC.f k a0_0 a0_1 a0_2 a1_0 a1_1 a1_2).bind fun t444 => (if t444 = 0 then ((zcC.f k a0_3 a0_4 a0_5 a1_3 a1_4 a1_5).bind fun t445 => (some t445)) else (some t444))) = some r := h
 clear h
 replace H := Option.bind_eq_some_iff.mp H
 obtain ⟨t444, A30, H⟩ := H
 replace H : (if t444 = 0 then ((zcC.f k a0_3 a0_4 a0_5 a1_3 a1_4 a1_5).bind fun t445 => (some t445)) else (some t444)) = some r := H
 have A3 := zaJ A30
 clear A30
 by_cases c4 : t444 = 0
 ·rw [if_pos c4] at H
  have c4b0 : (t444 == 0) = true := beq_iff_eq.mpr c4
  have c4b1 : (t444 != 0) = false := bne_eq_false_iff_eq.mpr c4
  clear c4
  replace H := Option.bind_eq_some_iff.mp H
  obtain ⟨t445, A50, H⟩ := H
  replace H : (some t445) = some r := H
  have A5 := zaJ A50
  clear A50
  obtain rfl := Option.some.inj H
  go_enter Tryd.func108, Tryd.ntmps108
  go_wp2_with (first | ((with_reducible refine zaQ (N := 2) rfl ?_); refine bx_ 2 #[.int .i64 a0_0, .int .i64 a0_1, .int .i64 a0_2, .int .i64 a0_3, .int .i64 a0_4, .int .i64 a0_5] 36 ?_; intro gb442 hg w6 hbox hb; have n0_ := (ns_ hb); have n1_ := zaJ (hbox); have n2_ := (ng_ hg); have n3_ := n2_; clear HB; have HB := n0_; have BK442 := n1_; have GW442 := n2_; have GE442 := n3_; clear n0_ n1_ n2_ n3_; clear hb hbox hg) | ((with_reducible refine zaQ (N := 3) rfl ?_); refine bx_ 3 #[.int .i64 a1_0, .int .i64 a1_1, .int .i64 a1_2, .int .i64 a1_3, .int .i64 a1_4, .int .i64 a1_5] 36 ?_; intro gb443 hg w7 hbox hb; have n0_ := zaJ (zaG (g := gb442) (o := .cells #[.int .i64 a0_0, .int .i64 a0_1, .int .i64 a0_2, .int .i64 a0_3, .int .i64 a0_4, .int .i64 a0_5] 36 (0, 0)) bk_ hb); have n1_ := (ns_ hb); have n2_ := zaJ (hbox); have n3_ := (ng_ hg); have n4_ := n3_; have n5_ := zaJ ((by rw [hg]; exact Nat.ne_of_lt (zbC (g := gb442) (o := .cells #[.int .i64 a0_0, .int .i64 a0_1, .int .i64 a0_2, .int .i64 a0_3, .int .i64 a0_4, .int .i64 a0_5] 36 (0, 0)) bk_) : gb442 ≠ gb443)); have n6_ := zaJ ((by rw [hg]; exact Nat.ne_of_gt (zbC (g := gb442) (o := .cells #[.int .i64 a0_0, .int .i64 a0_1, .int .i64 a0_2, .int .i64 a0_3, .int .i64 a0_4, .int .i64 a0_5] 36 (0, 0)) bk_) : gb443 ≠ gb442)); clear BK442; clear HB; have BK442 := n0_; have HB := n1_; have BK443 := n2_; have GW443 := n3_; have GE443 := n4_; have NB442_443 := n5_; have NB443_442 := n6_; clear n0_ n1_ n2_ n3_ n4_ n5_ n6_; clear hb hbox hg; have hnb8 := NB442_443.out; have hnc8 := NB443_442.out; obtain ⟨hcz9_0, hcz9_1, hcz9_2, hcz9_3, hcz9_4, hcz9_5⟩ := zeX BK442.out; obtain ⟨hfz9_0, hfz9_1, hfz9_2, hfz9_3, hfz9_4, hfz9_5⟩ := zeW BK442.out; obtain ⟨hcz10_0, hcz10_1, hcz10_2, hcz10_3, hcz10_4, hcz10_5⟩ := zeX BK443.out; obtain ⟨hfz10_0, hfz10_1, hfz10_2, hfz10_3, hfz10_4, hfz10_5⟩ := zeW BK443.out) | ((with_reducible refine zaK (f := 143) rfl ?_); refine zbQ (some 10) rfl rfl Tryd.func143 (by kernel_rfl) rfl #[.agg #[.int .i64 a0_0, .int .i64 a0_1, .int .i64 a0_2], .agg #[.int .i64 a1_0, .int .i64 a1_1, .int .i64 a1_2]] rfl (by (try simp only [List.map_toArray, List.map_cons, List.map_nil]); first | done | rfl | (simp only [List.length_drop, List.length_take]; rfl)) ?_; (with_reducible refine (zcC.calls k a0_0 a0_1 a0_2 a1_0 a1_1 a1_2 t444 _ A3.out).mono ?_); rintro e w11 ⟨rfl, hb⟩; refine ⟨_, rfl, ?_⟩; have n0_ := zaJ (zaG (g := gb442) (o := .cells #[.int .i64 a0_0, .int .i64 a0_1, .int .i64 a0_2, .int .i64 a0_3, .int .i64 a0_4, .int .i64 a0_5] 36 (0, 0)) bk_ hb); have n1_ := zaJ (zaG (g := gb443) (o := .cells #[.int .i64 a1_0, .int .i64 a1_1, .int .i64 a1_2, .int .i64 a1_3, .int .i64 a1_4, .int .i64 a1_5] 36 (0, 0)) bk_ hb); have n2_ := (ns_ hb); clear BK442; clear BK443; clear HB; have BK442 := n0_; have BK443 := n1_; have HB := n2_; clear n0_ n1_ n2_; (try clear hb); (try clear hb2); obtain ⟨hcz12_0, hcz12_1, hcz12_2, hcz12_3, hcz12_4, hcz12_5⟩ := zeX BK442.out; obtain ⟨hfz12_0, hfz12_1, hfz12_2, hfz12_3, hfz12_4, hfz12_5⟩ := zeW BK442.out; obtain ⟨hcz13_0, hcz13_1, hcz13_2, hcz13_3, hcz13_4, hcz13_5⟩ := zeX BK443.out; obtain ⟨hfz13_0, hfz13_1, hfz13_2, hfz13_3, hfz13_4, hfz13_5⟩ := zeW BK443.out) | ((with_reducible refine zaK (f := 143) rfl ?_); refine zbQ (some 18) rfl rfl Tryd.func143 (by kernel_rfl) rfl #[.agg #[.int .i64 a0_3, .int .i64 a0_4, .int .i64 a0_5], .agg #[.int .i64 a1_3, .int .i64 a1_4, .int .i64 a1_5]] rfl (by (try simp only [List.map_toArray, List.map_cons, List.map_nil]); first | done | rfl | (simp only [List.length_drop, List.length_take]; rfl)) ?_; (with_reducible refine (zcC.calls k a0_3 a0_4 a0_5 a1_3 a1_4 a1_5 t445 _ A5.out).mono ?_); rintro e w14 ⟨rfl, hb⟩; refine ⟨_, rfl, ?_⟩; have n0_ := zaJ (zaG (g := gb442) (o := .cells #[.int .i64 a0_0, .int .i64 a0_1, .int .i64 a0_2, .int .i64 a0_3, .int .i64 a0_4, .int .i64 a0_5] 36 (0, 0)) bk_ hb); have n1_ := zaJ (zaG (g := gb443) (o := .cells #[.int .i64 a1_0, .int .i64 a1_1, .int .i64 a1_2, .int .i64 a1_3, .int .i64 a1_4, .int .i64 a1_5] 36 (0, 0)) bk_ hb); have n2_ := (ns_ hb); clear BK442; clear BK443; clear HB; have BK442 := n0_; have BK443 := n1_; have HB := n2_; clear n0_ n1_ n2_; (try clear hb); (try clear hb2)))
  go_ret
  exact ⟨by first | rfl | (simp [zaI, zaH] <;> rfl) | (simp [*, zaI, zaH] <;> rfl), bb_⟩
 ·rw [if_neg c4] at H
  have c4b0 : (t444 == 0) = false := beq_eq_false_iff_ne.mpr c4
  have c4b1 : (t444 != 0) = true := bne_iff_ne.mpr c4
  obtain rfl := Option.some.inj H
  go_enter Tryd.func108, Tryd.ntmps108
  go_wp2_with (first | ((with_reducible refine zaQ (N := 2) rfl ?_); refine bx_ 2 #[.int .i64 a0_0, .int .i64 a0_1, .int .i64 a0_2, .int .i64 a0_3, .int .i64 a0_4, .int .i64 a0_5] 36 ?_; intro gb442 hg w15 hbox hb; have n0_ := (ns_ hb); have n1_ := zaJ (hbox); have n2_ := (ng_ hg); have n3_ := n2_; clear HB; have HB := n0_; have BK442 := n1_; have GW442 := n2_; have GE442 := n3_; clear n0_ n1_ n2_ n3_; clear hb hbox hg) | ((with_reducible refine zaQ (N := 3) rfl ?_); refine bx_ 3 #[.int .i64 a1_0, .int .i64 a1_1, .int .i64 a1_2, .int .i64 a1_3, .int .i64 a1_4, .int .i64 a1_5] 36 ?_; intro gb443 hg w16 hbox hb; have n0_ := zaJ (zaG (g := gb442) (o := .cells #[.int .i64 a0_0, .int .i64 a0_1, .int .i64 a0_2, .int .i64 a0_3, .int .i64 a0_4, .int .i64 a0_5] 36 (0, 0)) bk_ hb); have n1_ := (ns_ hb); have n2_ := zaJ (hbox); have n3_ := (ng_ hg); have n4_ := n3_; have n5_ := zaJ ((by rw [hg]; exact Nat.ne_of_lt (zbC (g := gb442) (o := .cells #[.int .i64 a0_0, .int .i64 a0_1, .int .i64 a0_2, .int .i64 a0_3, .int .i64 a0_4, .int .i64 a0_5] 36 (0, 0)) bk_) : gb442 ≠ gb443)); have n6_ := zaJ ((by rw [hg]; exact Nat.ne_of_gt (zbC (g := gb442) (o := .cells #[.int .i64 a0_0, .int .i64 a0_1, .int .i64 a0_2, .int .i64 a0_3, .int .i64 a0_4, .int .i64 a0_5] 36 (0, 0)) bk_) : gb443 ≠ gb442)); clear BK442; clear HB; have BK442 := n0_; have HB := n1_; have BK443 := n2_; have GW443 := n3_; have GE443 := n4_; have NB442_443 := n5_; have NB443_442 := n6_; clear n0_ n1_ n2_ n3_ n4_ n5_ n6_; clear hb hbox hg; have hnb17 := NB442_443.out; have hnc17 := NB443_442.out; obtain ⟨hcz18_0, hcz18_1, hcz18_2, hcz18_3, hcz18_4, hcz18_5⟩ := zeX BK442.out; obtain ⟨hfz18_0, hfz18_1, hfz18_2, hfz18_3, hfz18_4, hfz18_5⟩ := zeW BK442.out; obtain ⟨hcz19_0, hcz19_1, hcz19_2, hcz19_3, hcz19_4, hcz19_5⟩ := zeX BK443.out; obtain ⟨hfz19_0, hfz19_1, hfz19_2, hfz19_3, hfz19_4, hfz19_5⟩ := zeW BK443.out) | ((with_reducible refine zaK (f := 143) rfl ?_); refine zbQ (some 10) rfl rfl Tryd.func143 (by kernel_rfl) rfl #[.agg #[.int .i64 a0_0, .int .i64 a0_1, .int .i64 a0_2], .agg #[.int .i64 a1_0, .int .i64 a1_1, .int .i64 a1_2]] rfl (by (try simp only [List.map_toArray, List.map_cons, List.map_nil]); first | done | rfl | (simp only [List.length_drop, List.length_take]; rfl)) ?_; (with_reducible refine (zcC.calls k a0_0 a0_1 a0_2 a1_0 a1_1 a1_2 t444 _ A3.out).mono ?_); rintro e w20 ⟨rfl, hb⟩; refine ⟨_, rfl, ?_⟩; have n0_ := zaJ (zaG (g := gb442) (o := .cells #[.int .i64 a0_0, .int .i64 a0_1, .int .i64 a0_2, .int .i64 a0_3, .int .i64 a0_4, .int .i64 a0_5] 36 (0, 0)) bk_ hb); have n1_ := zaJ (zaG (g := gb443) (o := .cells #[.int .i64 a1_0, .int .i64 a1_1, .int .i64 a1_2, .int .i64 a1_3, .int .i64 a1_4, .int .i64 a1_5] 36 (0, 0)) bk_ hb); have n2_ := (ns_ hb); clear BK442; clear BK443; clear HB; have BK442 := n0_; have BK443 := n1_; have HB := n2_; clear n0_ n1_ n2_; (try clear hb); (try clear hb2)))
  go_ret
  exact ⟨by first | rfl | (simp [zaI, zaH] <;> rfl) | (simp [*, zaI, zaH] <;> rfl), bb_⟩

def zaW.l0 : Nat → List (S36) → Int → List (S36) → Int → Int → Option (Int)
 | 0, _, _, _, _, _ => none
 | k + 1, x0, x3, x6, x7, x8 => if x8 < x7 then (if 0 ≤ x8 then (if x8 < (x6.length : Int) then (if 0 ≤ x3 then (if x3 < (x0.length : Int) then ((zcE.f k ((zaA x6 x8).f0.f0) ((zaA x6 x8).f0.f1) ((zaA x6 x8).f0.f2) ((zaA x6 x8).f1.f0) ((zaA x6 x8).f1.f1) ((zaA x6 x8).f1.f2) ((zaA x0 x3).f0.f0) ((zaA x0 x3).f0.f1) ((zaA x0 x3).f0.f2) ((zaA x0 x3).f1.f0) ((zaA x0 x3).f1.f1) ((zaA x0 x3).f1.f2)).bind fun t449 => (if t449 < 0 then (zaW.l0 k x0 x8 x6 x7 (wrap64 (x8 + 1))) else (zaW.l0 k x0 x3 x6 x7 (wrap64 (x8 + 1))))) else (none)) else (none)) else (none)) else (none)) else (some x3)
def zaW.f (k : Nat) (l0 : List (S36)) : Option (Int) := zaW.l0 k l0 0 l0 (l0.length : Int) 0
theorem zaW.mono_l : ∀ k, (∀ y0 y1 y2 y3 y4, LeO (zaW.l0 k y0 y1 y2 y3 y4) (zaW.l0 (k + 1) y0 y1 y2 y3 y4))
 | 0 => fun _ _ _ _ _ r h => by simp [zaW.l0] at h
 | k + 1 => by
  have ih0 := zaW.mono_l k
  ·intro y0 y1 y2 y3 y4
   unfold zaW.l0
   repeat' first
   | (with_reducible exact ih0 _ _ _ _ _)
   | (with_reducible exact zcE.mono _ _ _ _ _ _ _ _ _ _ _ _ _)
   | (with_reducible exact LeO.refl _)
   | (with_reducible exact LeO.none _)
   | (with_reducible refine LeO.ite ?_ ?_)
   | (with_reducible refine LeO.bind ?_ (fun _ => ?_))
   | exact ih0 _ _ _ _ _
   | exact zcE.mono _ _ _ _ _ _ _ _ _ _ _ _ _
   | exact LeO.none _
   | refine LeO.ite ?_ ?_
   | refine LeO.bind ?_ (fun _ => ?_)
theorem zaW.mono : ∀ a0 k, LeO (zaW.f k a0) (zaW.f (k + 1) a0) := by
 intro a0 k
 have ih0 := zaW.mono_l k
 unfold zaW.f
 repeat' first
   | (with_reducible exact ih0 _ _ _ _ _)
   | (with_reducible exact zcE.mono _ _ _ _ _ _ _ _ _ _ _ _ _)
   | (with_reducible exact LeO.refl _)
   | (with_reducible exact LeO.none _)
   | (with_reducible refine LeO.ite ?_ ?_)
   | (with_reducible refine LeO.bind ?_ (fun _ => ?_))
   | exact ih0 _ _ _ _ _
   | exact zcE.mono _ _ _ _ _ _ _ _ _ _ _ _ _
   | exact LeO.none _
   | refine LeO.ite ?_ ?_
   | refine LeO.bind ?_ (fun _ => ?_)
set_option maxHeartbeats 8000000 in
set_option maxRecDepth 100000 in
theorem zaW.calls (k : Nat) (A0 : Option Addr) (c0 : Nat) (l0 : List (S36)) (r : Int) (w : World) (hr0 : Kd.C k36 w A0 l0.length l0) (hc0 : l0.length ≤ c0) (h : zaW.f k l0 = some r) :
  Calls Tryd.prog 58 #[.slice A0 l0.length c0] w fun e w' => e = .returned (.int .i64 r) ∧ Below w.heap.size w w' := by
 have hu36 := Tryd.underlying36
 have HR0 := zaJ hr0
 have HC0 := zaJ hc0
 clear hr0 hc0
 have HB := zaJ (Below.refl w.heap.size w)
 have H : (zaW.l0 k l0 0 l0 (l0.length : Int) 0) = some r := h
 clear h
 have H' := zaJ H
 clear H
 go_enter Tryd.func58, Tryd.ntmps58
 go_wp2
 (try go_simp)
 go_loopg [3, 8] k (fun kq v3 v8 w' => ∃ (x3_1 : Int) (x8_1 : Int), v3 = .int .i64 x3_1 ∧ v8 = .int .i64 x8_1 ∧ Aside0 (zaW.l0 kq l0 x3_1 l0 (l0.length : Int) x8_1 = some r) ∧ Aside0 (kq ≤ k) ∧ Aside0 (Below w.heap.size w w'))
 case atStart => exact ⟨(0), (0), (by first | rfl | (simp; done) | (simp [*]; done)), (by first | rfl | (simp; done) | (simp [*]; done)), H', ⟨Nat.le_refl _⟩, ⟨bb_⟩⟩
 case round =>
  clear H'
  obtain ⟨x3_1, x8_1, rfl, rfl, HA, HK1, HB⟩ := hrel
  cases gk with
  | zero => exact absurd HA.out (by simp [zaW.l0])
  | succ k1 =>
   have H := HA.out
   clear HA
   simp only [zaW.l0] at H
   by_cases c2 : x8_1 < (l0.length : Int)
   ·rw [if_pos c2] at H
    have c2b0 : decide (x8_1 < (l0.length : Int)) = true := decide_eq_true c2
    clear c2
    by_cases c3 : 0 ≤ x8_1
    ·rw [if_pos c3] at H
     have c3b0 : decide (0 ≤ x8_1) = true := decide_eq_true c3
     clear c3
     by_cases c4 : x8_1 < (l0.length : Int)
     ·rw [if_pos c4] at H
      have c4b0 : decide (x8_1 < (l0.length : Int)) = true := decide_eq_true c4
      clear c4
      by_cases c5 : 0 ≤ x3_1
      ·rw [if_pos c5] at H
       have c5b0 : decide (0 ≤ x3_1) = true := decide_eq_true c5
       clear c5
       by_cases c6 : x3_1 < (l0.length : Int)
       ·rw [if_pos c6] at H
        have c6b0 : decide (x3_1 < (l0.length : Int)) = true := decide_eq_true c6
        clear c6
        replace H := Option.bind_eq_some_iff.mp H
        obtain ⟨t449, A70, H⟩ := H
        replace H : (if t449 < 0 then (zaW.l0 k1 l0 x8_1 l0 (l0.length : Int) (wrap64 (x8_1 + 1))) else (zaW.l0 k1 l0 x3_1 l0 (l0.length : Int) (wrap64 (x8_1 + 1)))) = some r := H
        have A7 := zaJ A70
        clear A70
        by_cases c8 : t449 < 0
        ·rw [if_pos c8] at H
         have c8b0 : decide (t449 < 0) = true := decide_eq_true c8
         clear c8
         have H' := zaJ H
         clear H
         have p446 : 0 ≤ (x8_1 : Int) := of_decide_eq_true (by first | (with_reducible assumption) | assumption)
         have q446 : x8_1 < (l0.length : Int) := of_decide_eq_true (by first | (with_reducible assumption) | assumption)
         obtain ⟨ad446, e446, hx446_0, hx446_1, hx446_2, hx446_3, hx446_4, hx446_5⟩ := zdN HR0.out x8_1 p446 q446
         cases e446
         replace hx446_0 := zaR HB.out hx446_0
         replace hx446_1 := zaR HB.out hx446_1
         replace hx446_2 := zaR HB.out hx446_2
         replace hx446_3 := zaR HB.out hx446_3
         replace hx446_4 := zaR HB.out hx446_4
         replace hx446_5 := zaR HB.out hx446_5
         replace p446 := eq_true p446
         replace q446 := eq_true q446
         try go_wp2_with (first | ((with_reducible refine zaQ (N := 5) rfl ?_); refine bx_ 5 #[.int .i64 0, .int .i64 0, .int .i64 0, .int .i64 0, .int .i64 0, .int .i64 0] 36 ?_; intro gb447 hg w9 hbox hb; have n0_ := (ns_ hb); have n1_ := zaJ (hbox); have n2_ := (ng_ hg); have n3_ := n2_; clear HB; have HB := n0_; have BK447 := n1_; have GW447 := n2_; have GE447 := n3_; clear n0_ n1_ n2_ n3_; clear hb hbox hg; obtain ⟨hcz10_0, hcz10_1, hcz10_2, hcz10_3, hcz10_4, hcz10_5⟩ := zeX BK447.out; obtain ⟨hfz10_0, hfz10_1, hfz10_2, hfz10_3, hfz10_4, hfz10_5⟩ := zeW BK447.out))
         have n0_ : Aside0 (((((((w9.setCell ⟨gb447, 0, none⟩ (.int .i64 ((zaA l0 x8_1).f0.f0))).setCell ⟨gb447, 1, none⟩ (.int .i64 ((zaA l0 x8_1).f0.f1))).setCell ⟨gb447, 2, none⟩ (.int .i64 ((zaA l0 x8_1).f0.f2))).setCell ⟨gb447, 3, none⟩ (.int .i64 ((zaA l0 x8_1).f1.f0))).setCell ⟨gb447, 4, none⟩ (.int .i64 ((zaA l0 x8_1).f1.f1))).setCell ⟨gb447, 5, none⟩ (.int .i64 ((zaA l0 x8_1).f1.f2))).heap[gb447]? = some (.cells #[.int .i64 ((zaA l0 x8_1).f0.f0), .int .i64 ((zaA l0 x8_1).f0.f1), .int .i64 ((zaA l0 x8_1).f0.f2), .int .i64 ((zaA l0 x8_1).f1.f0), .int .i64 ((zaA l0 x8_1).f1.f1), .int .i64 ((zaA l0 x8_1).f1.f2)] 36 (0, 0))) := ⟨by (with_reducible repeat (first | apply zaD | apply zaE | apply zaC)); refine zaL (cs := #[.int .i64 ((zaA l0 x8_1).f0.f0), .int .i64 ((zaA l0 x8_1).f0.f1), .int .i64 ((zaA l0 x8_1).f0.f2), .int .i64 ((zaA l0 x8_1).f1.f0), .int .i64 ((zaA l0 x8_1).f1.f1), .int .i64 0]) ?_ 5 _ rfl; (with_reducible repeat (first | apply zaD | apply zaE | apply zaC)); refine zaL (cs := #[.int .i64 ((zaA l0 x8_1).f0.f0), .int .i64 ((zaA l0 x8_1).f0.f1), .int .i64 ((zaA l0 x8_1).f0.f2), .int .i64 ((zaA l0 x8_1).f1.f0), .int .i64 0, .int .i64 0]) ?_ 4 _ rfl; (with_reducible repeat (first | apply zaD | apply zaE | apply zaC)); refine zaL (cs := #[.int .i64 ((zaA l0 x8_1).f0.f0), .int .i64 ((zaA l0 x8_1).f0.f1), .int .i64 ((zaA l0 x8_1).f0.f2), .int .i64 0, .int .i64 0, .int .i64 0]) ?_ 3 _ rfl; (with_reducible repeat (first | apply zaD | apply zaE | apply zaC)); refine zaL (cs := #[.int .i64 ((zaA l0 x8_1).f0.f0), .int .i64 ((zaA l0 x8_1).f0.f1), .int .i64 0, .int .i64 0, .int .i64 0, .int .i64 0]) ?_ 2 _ rfl; (with_reducible repeat (first | apply zaD | apply zaE | apply zaC)); refine zaL (cs := #[.int .i64 ((zaA l0 x8_1).f0.f0), .int .i64 0, .int .i64 0, .int .i64 0, .int .i64 0, .int .i64 0]) ?_ 1 _ rfl; (with_reducible repeat (first | apply zaD | apply zaE | apply zaC)); refine zaL (cs := #[.int .i64 0, .int .i64 0, .int .i64 0, .int .i64 0, .int .i64 0, .int .i64 0]) ?_ 0 _ rfl; (with_reducible repeat (first | apply zaD | apply zaE | apply zaC)); exact BK447.out⟩
         have n1_ : Aside0 (Below w.heap.size w ((((((w9.setCell ⟨gb447, 0, none⟩ (.int .i64 ((zaA l0 x8_1).f0.f0))).setCell ⟨gb447, 1, none⟩ (.int .i64 ((zaA l0 x8_1).f0.f1))).setCell ⟨gb447, 2, none⟩ (.int .i64 ((zaA l0 x8_1).f0.f2))).setCell ⟨gb447, 3, none⟩ (.int .i64 ((zaA l0 x8_1).f1.f0))).setCell ⟨gb447, 4, none⟩ (.int .i64 ((zaA l0 x8_1).f1.f1))).setCell ⟨gb447, 5, none⟩ (.int .i64 ((zaA l0 x8_1).f1.f2)))) := ⟨bb_⟩
         (try clear BK447)
         (try clear HB)
         generalize ((((((w9.setCell ⟨gb447, 0, none⟩ (.int .i64 ((zaA l0 x8_1).f0.f0))).setCell ⟨gb447, 1, none⟩ (.int .i64 ((zaA l0 x8_1).f0.f1))).setCell ⟨gb447, 2, none⟩ (.int .i64 ((zaA l0 x8_1).f0.f2))).setCell ⟨gb447, 3, none⟩ (.int .i64 ((zaA l0 x8_1).f1.f0))).setCell ⟨gb447, 4, none⟩ (.int .i64 ((zaA l0 x8_1).f1.f1))).setCell ⟨gb447, 5, none⟩ (.int .i64 ((zaA l0 x8_1).f1.f2))) = w11 at n0_ n1_ ⊢
         have BK447 := n0_
         have HB := n1_
         clear n0_ n1_
         have n0_ := zaJ (zaE BK447.out)
         have n1_ := zaJ (zbT HB.out)
         clear BK447
         clear HB
         have BK447 := n0_
         have HB := n1_
         clear n0_ n1_
         have p448 : 0 ≤ (x3_1 : Int) := of_decide_eq_true (by first | (with_reducible assumption) | assumption)
         have q448 : x3_1 < (l0.length : Int) := of_decide_eq_true (by first | (with_reducible assumption) | assumption)
         obtain ⟨ad448, e448, hx448_0, hx448_1, hx448_2, hx448_3, hx448_4, hx448_5⟩ := zdN HR0.out x3_1 p448 q448
         have hw448_5 := hx448_5
         have hw448_4 := hx448_4
         have hw448_3 := hx448_3
         have hw448_2 := hx448_2
         have hw448_1 := hx448_1
         have hw448_0 := hx448_0
         obtain rfl : ad446 = ad448 := (by injection e448)
         replace hx448_0 := zaR HB.out hx448_0
         replace hx448_1 := zaR HB.out hx448_1
         replace hx448_2 := zaR HB.out hx448_2
         replace hx448_3 := zaR HB.out hx448_3
         replace hx448_4 := zaR HB.out hx448_4
         replace hx448_5 := zaR HB.out hx448_5
         replace p448 := eq_true p448
         replace q448 := eq_true q448
         refine zdL (n := 7) (S := fun w' => w'.cell? ⟨gb447, 0, none⟩ = some (.int .i64 ((zaA l0 x8_1).f0.f0)) ∧ w'.cell? ⟨gb447, 1, none⟩ = some (.int .i64 ((zaA l0 x8_1).f0.f1)) ∧ w'.cell? ⟨gb447, 2, none⟩ = some (.int .i64 ((zaA l0 x8_1).f0.f2)) ∧ w'.cell? ⟨gb447, 3, none⟩ = some (.int .i64 ((zaA l0 x8_1).f1.f0)) ∧ w'.cell? ⟨gb447, 4, none⟩ = some (.int .i64 ((zaA l0 x8_1).f1.f1)) ∧ w'.cell? ⟨gb447, 5, none⟩ = some (.int .i64 ((zaA l0 x8_1).f1.f2)) ∧ w'.cell? (ad446.add ((x3_1).toNat * 6)) = some (.int .i64 ((zaA l0 x3_1).f0.f0)) ∧ w'.cell? ⟨(ad446.add ((x3_1).toNat * 6)).block, (ad446.add ((x3_1).toNat * 6)).off + 1, none⟩ = some (.int .i64 ((zaA l0 x3_1).f0.f1)) ∧ w'.cell? ⟨(ad446.add ((x3_1).toNat * 6)).block, (ad446.add ((x3_1).toNat * 6)).off + 2, none⟩ = some (.int .i64 ((zaA l0 x3_1).f0.f2)) ∧ w'.cell? ⟨(ad446.add ((x3_1).toNat * 6)).block, (ad446.add ((x3_1).toNat * 6)).off + 3, none⟩ = some (.int .i64 ((zaA l0 x3_1).f1.f0)) ∧ w'.cell? ⟨(ad446.add ((x3_1).toNat * 6)).block, (ad446.add ((x3_1).toNat * 6)).off + 4, none⟩ = some (.int .i64 ((zaA l0 x3_1).f1.f1)) ∧ w'.cell? ⟨(ad446.add ((x3_1).toNat * 6)).block, (ad446.add ((x3_1).toNat * 6)).off + 5, none⟩ = some (.int .i64 ((zaA l0 x3_1).f1.f2))) (ds := []) #[false, false, false, false, false, false, false] (by kernel_rfl) rfl rfl ⟨(zaB BK447.out 0).trans rfl, (zaB BK447.out 1).trans rfl, (zaB BK447.out 2).trans rfl, (zaB BK447.out 3).trans rfl, (zaB BK447.out 4).trans rfl, (zaB BK447.out 5).trans rfl, (zaR HB.out hw448_0), (zaR HB.out hw448_1), (zaR HB.out hw448_2), (zaR HB.out hw448_3), (zaR HB.out hw448_4), (zaR HB.out hw448_5)⟩ (fun hHeld => ?_)
         generalize w11.drew = w12 at BK447 HB hx448_0 hx448_1 hx448_2 hx448_3 hx448_4 hx448_5 hHeld ⊢
         refine zeU (i := 1) (N := some 14) (v := ?_) (a' := ?_) (bl_ 7 2) rfl rfl (by kernel_rfl) (fun _ _ _ h => h) (Or.inl ⟨by rfl, ?_⟩) ?_ ?_
         rotate_left
         ·intro w'
          go_simp
          with_reducible rfl
         rotate_left
         ·simp only [Act.put, List.setIfInBounds_toArray, List.set_cons_zero, List.set_cons_succ, zbW, zbY]
          rfl
         refine zeU (i := 2) (N := some 15) (v := ?_) (a' := ?_) (bl_ 7 6) rfl rfl (by kernel_rfl) (fun _ _ _ h => h) (Or.inl ⟨by rfl, ?_⟩) ?_ ?_
         rotate_left
         ·intro w'
          go_simp
          with_reducible rfl
         rotate_left
         ·simp only [Act.put, List.setIfInBounds_toArray, List.set_cons_zero, List.set_cons_succ, zbW, zbY]
          rfl
         refine zeU (i := 3) (N := some 16) (v := ?_) (a' := ?_) (bl_ 7 14) rfl rfl (by kernel_rfl) (fun _ _ _ h => h) (Or.inl ⟨by rfl, ?_⟩) ?_ ?_
         rotate_left
         ·intro w'
          go_simp
          with_reducible rfl
         rotate_left
         ·simp only [Act.put, List.setIfInBounds_toArray, List.set_cons_zero, List.set_cons_succ, zbW, zbY]
          rfl
         refine take_ (i := 0) (N := some 13) (v := ?_) (a' := ?_) (bl_ 7 15) rfl rfl (by kernel_rfl) (fun _ _ _ h => h) (Or.inl ⟨by rfl, ?_⟩) hHeld ?_ ?_
         rotate_left
         ·rintro w' ⟨s0, s1, s2, s3, s4, s5, s6, s7, s8, s9, s10, s11⟩
          go_simp
          with_reducible rfl
         rotate_left
         ·simp only [Act.put, List.setIfInBounds_toArray, List.set_cons_zero, List.set_cons_succ, zbW, zbY]
          rfl
         refine take_ (i := 4) (N := some 17) (v := ?_) (a' := ?_) (bl_ 7 31) rfl rfl (by kernel_rfl) (fun _ _ _ h => h) (Or.inl ⟨by rfl, ?_⟩) hHeld ?_ ?_
         rotate_left
         ·rintro w' ⟨s0, s1, s2, s3, s4, s5, s6, s7, s8, s9, s10, s11⟩
          go_simp
          with_reducible rfl
         rotate_left
         ·simp only [Act.put, List.setIfInBounds_toArray, List.set_cons_zero, List.set_cons_succ, zbW, zbY]
          rfl
         refine zeK (i := 5) (N := some 18) (bl_ 7 63) rfl rfl (by kernel_rfl) (by decide) (fun K hK => ?_)
         refine zcY Tryd.func108 (by kernel_rfl) rfl #[.agg #[.int .i64 ((zaA l0 x8_1).f0.f0), .int .i64 ((zaA l0 x8_1).f0.f1), .int .i64 ((zaA l0 x8_1).f0.f2), .int .i64 ((zaA l0 x8_1).f1.f0), .int .i64 ((zaA l0 x8_1).f1.f1), .int .i64 ((zaA l0 x8_1).f1.f2)], .agg #[.int .i64 ((zaA l0 x3_1).f0.f0), .int .i64 ((zaA l0 x3_1).f0.f1), .int .i64 ((zaA l0 x3_1).f0.f2), .int .i64 ((zaA l0 x3_1).f1.f0), .int .i64 ((zaA l0 x3_1).f1.f1), .int .i64 ((zaA l0 x3_1).f1.f2)]] (by rfl) rfl rfl (by (try simp only [List.map_toArray, List.map_cons, List.map_nil]); first | done | rfl | (simp only [List.length_drop, List.length_take]; rfl)) ?_
         with_reducible refine (zcE.calls k1 ((zaA l0 x8_1).f0.f0) ((zaA l0 x8_1).f0.f1) ((zaA l0 x8_1).f0.f2) ((zaA l0 x8_1).f1.f0) ((zaA l0 x8_1).f1.f1) ((zaA l0 x8_1).f1.f2) ((zaA l0 x3_1).f0.f0) ((zaA l0 x3_1).f0.f1) ((zaA l0 x3_1).f0.f2) ((zaA l0 x3_1).f1.f0) ((zaA l0 x3_1).f1.f1) ((zaA l0 x3_1).f1.f2) t449 _ A7.out).mono ?_
         rintro e w13 ⟨rfl, hb⟩
         refine ⟨_, rfl, ?_⟩
         have n0_ := zaJ (zaG (g := gb447) (o := .cells #[.int .i64 ((zaA l0 x8_1).f0.f0), .int .i64 ((zaA l0 x8_1).f0.f1), .int .i64 ((zaA l0 x8_1).f0.f2), .int .i64 ((zaA l0 x8_1).f1.f0), .int .i64 ((zaA l0 x8_1).f1.f1), .int .i64 ((zaA l0 x8_1).f1.f2)] 36 (0, 0)) bk_ hb)
         have n1_ := (ns_ hb)
         clear BK447
         clear HB
         have BK447 := n0_
         have HB := n1_
         clear n0_ n1_
         (try clear hb)
         (try clear hb2)
         (try clear hk)
         (try clear hi)
         refine hK.out _ _ ⟨(zaB BK447.out 0).trans rfl, (zaB BK447.out 1).trans rfl, (zaB BK447.out 2).trans rfl, (zaB BK447.out 3).trans rfl, (zaB BK447.out 4).trans rfl, (zaB BK447.out 5).trans rfl, (zaR HB.out hw448_0), (zaR HB.out hw448_1), (zaR HB.out hw448_2), (zaR HB.out hw448_3), (zaR HB.out hw448_4), (zaR HB.out hw448_5)⟩ (fun hHeld => ?_)
         clear hK K
         refine zcX (a' := ?_) ?_ ?_
         rotate_left
         ·show Act.put _ (some 18) _ = _
          simp only [Act.put, List.setIfInBounds_toArray, List.set_cons_zero, List.set_cons_succ, zbW, zbY]
          rfl
         refine zeU (i := 6) (N := some 19) (v := ?_) (a' := ?_) (bl_ 7 127) rfl rfl (by kernel_rfl) (fun _ _ _ h => h) (Or.inl ⟨by rfl, ?_⟩) ?_ ?_
         rotate_left
         ·intro w'
          go_simp
          with_reducible rfl
         rotate_left
         ·simp only [Act.put, List.setIfInBounds_toArray, List.set_cons_zero, List.set_cons_succ, zbW, zbY]
          rfl
         refine zeS (by kernel_rfl) ?_
         try go_wp2
         go_roundg k1
         case measure => have := HK1.out; omega
         case rel => exact ⟨(x8_1), (wrap64 (x8_1 + 1)), (by first | rfl | (simp; done) | (simp [*]; done)), (by first | rfl | (simp; done) | (simp [*]; done)), H', ⟨by have := HK1.out; omega⟩, ⟨bb_⟩⟩
        ·rw [if_neg c8] at H
         have c8b0 : decide (t449 < 0) = false := decide_eq_false c8
         clear c8
         have H' := zaJ H
         clear H
         have p446 : 0 ≤ (x8_1 : Int) := of_decide_eq_true (by first | (with_reducible assumption) | assumption)
         have q446 : x8_1 < (l0.length : Int) := of_decide_eq_true (by first | (with_reducible assumption) | assumption)
         obtain ⟨ad446, e446, hx446_0, hx446_1, hx446_2, hx446_3, hx446_4, hx446_5⟩ := zdN HR0.out x8_1 p446 q446
         cases e446
         replace hx446_0 := zaR HB.out hx446_0
         replace hx446_1 := zaR HB.out hx446_1
         replace hx446_2 := zaR HB.out hx446_2
         replace hx446_3 := zaR HB.out hx446_3
         replace hx446_4 := zaR HB.out hx446_4
         replace hx446_5 := zaR HB.out hx446_5
         replace p446 := eq_true p446
         replace q446 := eq_true q446
         try go_wp2_with (first | ((with_reducible refine zaQ (N := 5) rfl ?_); refine bx_ 5 #[.int .i64 0, .int .i64 0, .int .i64 0, .int .i64 0, .int .i64 0, .int .i64 0] 36 ?_; intro gb447 hg w14 hbox hb; have n0_ := (ns_ hb); have n1_ := zaJ (hbox); have n2_ := (ng_ hg); have n3_ := n2_; clear HB; have HB := n0_; have BK447 := n1_; have GW447 := n2_; have GE447 := n3_; clear n0_ n1_ n2_ n3_; clear hb hbox hg; obtain ⟨hcz15_0, hcz15_1, hcz15_2, hcz15_3, hcz15_4, hcz15_5⟩ := zeX BK447.out; obtain ⟨hfz15_0, hfz15_1, hfz15_2, hfz15_3, hfz15_4, hfz15_5⟩ := zeW BK447.out))
         have n0_ : Aside0 (((((((w14.setCell ⟨gb447, 0, none⟩ (.int .i64 ((zaA l0 x8_1).f0.f0))).setCell ⟨gb447, 1, none⟩ (.int .i64 ((zaA l0 x8_1).f0.f1))).setCell ⟨gb447, 2, none⟩ (.int .i64 ((zaA l0 x8_1).f0.f2))).setCell ⟨gb447, 3, none⟩ (.int .i64 ((zaA l0 x8_1).f1.f0))).setCell ⟨gb447, 4, none⟩ (.int .i64 ((zaA l0 x8_1).f1.f1))).setCell ⟨gb447, 5, none⟩ (.int .i64 ((zaA l0 x8_1).f1.f2))).heap[gb447]? = some (.cells #[.int .i64 ((zaA l0 x8_1).f0.f0), .int .i64 ((zaA l0 x8_1).f0.f1), .int .i64 ((zaA l0 x8_1).f0.f2), .int .i64 ((zaA l0 x8_1).f1.f0), .int .i64 ((zaA l0 x8_1).f1.f1), .int .i64 ((zaA l0 x8_1).f1.f2)] 36 (0, 0))) := ⟨by (with_reducible repeat (first | apply zaD | apply zaE | apply zaC)); refine zaL (cs := #[.int .i64 ((zaA l0 x8_1).f0.f0), .int .i64 ((zaA l0 x8_1).f0.f1), .int .i64 ((zaA l0 x8_1).f0.f2), .int .i64 ((zaA l0 x8_1).f1.f0), .int .i64 ((zaA l0 x8_1).f1.f1), .int .i64 0]) ?_ 5 _ rfl; (with_reducible repeat (first | apply zaD | apply zaE | apply zaC)); refine zaL (cs := #[.int .i64 ((zaA l0 x8_1).f0.f0), .int .i64 ((zaA l0 x8_1).f0.f1), .int .i64 ((zaA l0 x8_1).f0.f2), .int .i64 ((zaA l0 x8_1).f1.f0), .int .i64 0, .int .i64 0]) ?_ 4 _ rfl; (with_reducible repeat (first | apply zaD | apply zaE | apply zaC)); refine zaL (cs := #[.int .i64 ((zaA l0 x8_1).f0.f0), .int .i64 ((zaA l0 x8_1).f0.f1), .int .i64 ((zaA l0 x8_1).f0.f2), .int .i64 0, .int .i64 0, .int .i64 0]) ?_ 3 _ rfl; (with_reducible repeat (first | apply zaD | apply zaE | apply zaC)); refine zaL (cs := #[.int .i64 ((zaA l0 x8_1).f0.f0), .int .i64 ((zaA l0 x8_1).f0.f1), .int .i64 0, .int .i64 0, .int .i64 0, .int .i64 0]) ?_ 2 _ rfl; (with_reducible repeat (first | apply zaD | apply zaE | apply zaC)); refine zaL (cs := #[.int .i64 ((zaA l0 x8_1).f0.f0), .int .i64 0, .int .i64 0, .int .i64 0, .int .i64 0, .int .i64 0]) ?_ 1 _ rfl; (with_reducible repeat (first | apply zaD | apply zaE | apply zaC)); refine zaL (cs := #[.int .i64 0, .int .i64 0, .int .i64 0, .int .i64 0, .int .i64 0, .int .i64 0]) ?_ 0 _ rfl; (with_reducible repeat (first | apply zaD | apply zaE | apply zaC)); exact BK447.out⟩
         have n1_ : Aside0 (Below w.heap.size w ((((((w14.setCell ⟨gb447, 0, none⟩ (.int .i64 ((zaA l0 x8_1).f0.f0))).setCell ⟨gb447, 1, none⟩ (.int .i64 ((zaA l0 x8_1).f0.f1))).setCell ⟨gb447, 2, none⟩ (.int .i64 ((zaA l0 x8_1).f0.f2))).setCell ⟨gb447, 3, none⟩ (.int .i64 ((zaA l0 x8_1).f1.f0))).setCell ⟨gb447, 4, none⟩ (.int .i64 ((zaA l0 x8_1).f1.f1))).setCell ⟨gb447, 5, none⟩ (.int .i64 ((zaA l0 x8_1).f1.f2)))) := ⟨bb_⟩
         (try clear BK447)
         (try clear HB)
         generalize ((((((w14.setCell ⟨gb447, 0, none⟩ (.int .i64 ((zaA l0 x8_1).f0.f0))).setCell ⟨gb447, 1, none⟩ (.int .i64 ((zaA l0 x8_1).f0.f1))).setCell ⟨gb447, 2, none⟩ (.int .i64 ((zaA l0 x8_1).f0.f2))).setCell ⟨gb447, 3, none⟩ (.int .i64 ((zaA l0 x8_1).f1.f0))).setCell ⟨gb447, 4, none⟩ (.int .i64 ((zaA l0 x8_1).f1.f1))).setCell ⟨gb447, 5, none⟩ (.int .i64 ((zaA l0 x8_1).f1.f2))) = w16 at n0_ n1_ ⊢
         have BK447 := n0_
         have HB := n1_
         clear n0_ n1_
         have n0_ := zaJ (zaE BK447.out)
         have n1_ := zaJ (zbT HB.out)
         clear BK447
         clear HB
         have BK447 := n0_
         have HB := n1_
         clear n0_ n1_
         have p448 : 0 ≤ (x3_1 : Int) := of_decide_eq_true (by first | (with_reducible assumption) | assumption)
         have q448 : x3_1 < (l0.length : Int) := of_decide_eq_true (by first | (with_reducible assumption) | assumption)
         obtain ⟨ad448, e448, hx448_0, hx448_1, hx448_2, hx448_3, hx448_4, hx448_5⟩ := zdN HR0.out x3_1 p448 q448
         have hw448_5 := hx448_5
         have hw448_4 := hx448_4
         have hw448_3 := hx448_3
         have hw448_2 := hx448_2
         have hw448_1 := hx448_1
         have hw448_0 := hx448_0
         obtain rfl : ad446 = ad448 := (by injection e448)
         replace hx448_0 := zaR HB.out hx448_0
         replace hx448_1 := zaR HB.out hx448_1
         replace hx448_2 := zaR HB.out hx448_2
         replace hx448_3 := zaR HB.out hx448_3
         replace hx448_4 := zaR HB.out hx448_4
         replace hx448_5 := zaR HB.out hx448_5
         replace p448 := eq_true p448
         replace q448 := eq_true q448
         refine zdL (n := 7) (S := fun w' => w'.cell? ⟨gb447, 0, none⟩ = some (.int .i64 ((zaA l0 x8_1).f0.f0)) ∧ w'.cell? ⟨gb447, 1, none⟩ = some (.int .i64 ((zaA l0 x8_1).f0.f1)) ∧ w'.cell? ⟨gb447, 2, none⟩ = some (.int .i64 ((zaA l0 x8_1).f0.f2)) ∧ w'.cell? ⟨gb447, 3, none⟩ = some (.int .i64 ((zaA l0 x8_1).f1.f0)) ∧ w'.cell? ⟨gb447, 4, none⟩ = some (.int .i64 ((zaA l0 x8_1).f1.f1)) ∧ w'.cell? ⟨gb447, 5, none⟩ = some (.int .i64 ((zaA l0 x8_1).f1.f2)) ∧ w'.cell? (ad446.add ((x3_1).toNat * 6)) = some (.int .i64 ((zaA l0 x3_1).f0.f0)) ∧ w'.cell? ⟨(ad446.add ((x3_1).toNat * 6)).block, (ad446.add ((x3_1).toNat * 6)).off + 1, none⟩ = some (.int .i64 ((zaA l0 x3_1).f0.f1)) ∧ w'.cell? ⟨(ad446.add ((x3_1).toNat * 6)).block, (ad446.add ((x3_1).toNat * 6)).off + 2, none⟩ = some (.int .i64 ((zaA l0 x3_1).f0.f2)) ∧ w'.cell? ⟨(ad446.add ((x3_1).toNat * 6)).block, (ad446.add ((x3_1).toNat * 6)).off + 3, none⟩ = some (.int .i64 ((zaA l0 x3_1).f1.f0)) ∧ w'.cell? ⟨(ad446.add ((x3_1).toNat * 6)).block, (ad446.add ((x3_1).toNat * 6)).off + 4, none⟩ = some (.int .i64 ((zaA l0 x3_1).f1.f1)) ∧ w'.cell? ⟨(ad446.add ((x3_1).toNat * 6)).block, (ad446.add ((x3_1).toNat * 6)).off + 5, none⟩ = some (.int .i64 ((zaA l0 x3_1).f1.f2))) (ds := []) #[false, false, false, false, false, false, false] (by kernel_rfl) rfl rfl ⟨(zaB BK447.out 0).trans rfl, (zaB BK447.out 1).trans rfl, (zaB BK447.out 2).trans rfl, (zaB BK447.out 3).trans rfl, (zaB BK447.out 4).trans rfl, (zaB BK447.out 5).trans rfl, (zaR HB.out hw448_0), (zaR HB.out hw448_1), (zaR HB.out hw448_2), (zaR HB.out hw448_3), (zaR HB.out hw448_4), (zaR HB.out hw448_5)⟩ (fun hHeld => ?_)
         generalize w16.drew = w17 at BK447 HB hx448_0 hx448_1 hx448_2 hx448_3 hx448_4 hx448_5 hHeld ⊢
         refine zeU (i := 1) (N := some 14) (v := ?_) (a' := ?_) (bl_ 7 2) rfl rfl (by kernel_rfl) (fun _ _ _ h => h) (Or.inl ⟨by rfl, ?_⟩) ?_ ?_
         rotate_left
         ·intro w'
          go_simp
          with_reducible rfl
         rotate_left
         ·simp only [Act.put, List.setIfInBounds_toArray, List.set_cons_zero, List.set_cons_succ, zbW, zbY]
          rfl
         refine zeU (i := 2) (N := some 15) (v := ?_) (a' := ?_) (bl_ 7 6) rfl rfl (by kernel_rfl) (fun _ _ _ h => h) (Or.inl ⟨by rfl, ?_⟩) ?_ ?_
         rotate_left
         ·intro w'
          go_simp
          with_reducible rfl
         rotate_left
         ·simp only [Act.put, List.setIfInBounds_toArray, List.set_cons_zero, List.set_cons_succ, zbW, zbY]
          rfl
         refine zeU (i := 3) (N := some 16) (v := ?_) (a' := ?_) (bl_ 7 14) rfl rfl (by kernel_rfl) (fun _ _ _ h => h) (Or.inl ⟨by rfl, ?_⟩) ?_ ?_
         rotate_left
         ·intro w'
          go_simp
          with_reducible rfl
         rotate_left
         ·simp only [Act.put, List.setIfInBounds_toArray, List.set_cons_zero, List.set_cons_succ, zbW, zbY]
          rfl
         refine take_ (i := 0) (N := some 13) (v := ?_) (a' := ?_) (bl_ 7 15) rfl rfl (by kernel_rfl) (fun _ _ _ h => h) (Or.inl ⟨by rfl, ?_⟩) hHeld ?_ ?_
         rotate_left
         ·rintro w' ⟨s0, s1, s2, s3, s4, s5, s6, s7, s8, s9, s10, s11⟩
          go_simp
          with_reducible rfl
         rotate_left
         ·simp only [Act.put, List.setIfInBounds_toArray, List.set_cons_zero, List.set_cons_succ, zbW, zbY]
          rfl
         refine take_ (i := 4) (N := some 17) (v := ?_) (a' := ?_) (bl_ 7 31) rfl rfl (by kernel_rfl) (fun _ _ _ h => h) (Or.inl ⟨by rfl, ?_⟩) hHeld ?_ ?_
         rotate_left
         ·rintro w' ⟨s0, s1, s2, s3, s4, s5, s6, s7, s8, s9, s10, s11⟩
          go_simp
          with_reducible rfl
         rotate_left
         ·simp only [Act.put, List.setIfInBounds_toArray, List.set_cons_zero, List.set_cons_succ, zbW, zbY]
          rfl
         refine zeK (i := 5) (N := some 18) (bl_ 7 63) rfl rfl (by kernel_rfl) (by decide) (fun K hK => ?_)
         refine zcY Tryd.func108 (by kernel_rfl) rfl #[.agg #[.int .i64 ((zaA l0 x8_1).f0.f0), .int .i64 ((zaA l0 x8_1).f0.f1), .int .i64 ((zaA l0 x8_1).f0.f2), .int .i64 ((zaA l0 x8_1).f1.f0), .int .i64 ((zaA l0 x8_1).f1.f1), .int .i64 ((zaA l0 x8_1).f1.f2)], .agg #[.int .i64 ((zaA l0 x3_1).f0.f0), .int .i64 ((zaA l0 x3_1).f0.f1), .int .i64 ((zaA l0 x3_1).f0.f2), .int .i64 ((zaA l0 x3_1).f1.f0), .int .i64 ((zaA l0 x3_1).f1.f1), .int .i64 ((zaA l0 x3_1).f1.f2)]] (by rfl) rfl rfl (by (try simp only [List.map_toArray, List.map_cons, List.map_nil]); first | done | rfl | (simp only [List.length_drop, List.length_take]; rfl)) ?_
         with_reducible refine (zcE.calls k1 ((zaA l0 x8_1).f0.f0) ((zaA l0 x8_1).f0.f1) ((zaA l0 x8_1).f0.f2) ((zaA l0 x8_1).f1.f0) ((zaA l0 x8_1).f1.f1) ((zaA l0 x8_1).f1.f2) ((zaA l0 x3_1).f0.f0) ((zaA l0 x3_1).f0.f1) ((zaA l0 x3_1).f0.f2) ((zaA l0 x3_1).f1.f0) ((zaA l0 x3_1).f1.f1) ((zaA l0 x3_1).f1.f2) t449 _ A7.out).mono ?_
         rintro e w18 ⟨rfl, hb⟩
         refine ⟨_, rfl, ?_⟩
         have n0_ := zaJ (zaG (g := gb447) (o := .cells #[.int .i64 ((zaA l0 x8_1).f0.f0), .int .i64 ((zaA l0 x8_1).f0.f1), .int .i64 ((zaA l0 x8_1).f0.f2), .int .i64 ((zaA l0 x8_1).f1.f0), .int .i64 ((zaA l0 x8_1).f1.f1), .int .i64 ((zaA l0 x8_1).f1.f2)] 36 (0, 0)) bk_ hb)
         have n1_ := (ns_ hb)
         clear BK447
         clear HB
         have BK447 := n0_
         have HB := n1_
         clear n0_ n1_
         (try clear hb)
         (try clear hb2)
         (try clear hk)
         (try clear hi)
         refine hK.out _ _ ⟨(zaB BK447.out 0).trans rfl, (zaB BK447.out 1).trans rfl, (zaB BK447.out 2).trans rfl, (zaB BK447.out 3).trans rfl, (zaB BK447.out 4).trans rfl, (zaB BK447.out 5).trans rfl, (zaR HB.out hw448_0), (zaR HB.out hw448_1), (zaR HB.out hw448_2), (zaR HB.out hw448_3), (zaR HB.out hw448_4), (zaR HB.out hw448_5)⟩ (fun hHeld => ?_)
         clear hK K
         refine zcX (a' := ?_) ?_ ?_
         rotate_left
         ·show Act.put _ (some 18) _ = _
          simp only [Act.put, List.setIfInBounds_toArray, List.set_cons_zero, List.set_cons_succ, zbW, zbY]
          rfl
         refine zeU (i := 6) (N := some 19) (v := ?_) (a' := ?_) (bl_ 7 127) rfl rfl (by kernel_rfl) (fun _ _ _ h => h) (Or.inl ⟨by rfl, ?_⟩) ?_ ?_
         rotate_left
         ·intro w'
          go_simp
          with_reducible rfl
         rotate_left
         ·simp only [Act.put, List.setIfInBounds_toArray, List.set_cons_zero, List.set_cons_succ, zbW, zbY]
          rfl
         refine zeS (by kernel_rfl) ?_
         try go_wp2
         go_roundg k1
         case measure => have := HK1.out; omega
         case rel => exact ⟨(x3_1), (wrap64 (x8_1 + 1)), (by first | rfl | (simp; done) | (simp [*]; done)), (by first | rfl | (simp; done) | (simp [*]; done)), H', ⟨by have := HK1.out; omega⟩, ⟨bb_⟩⟩
       ·rw [if_neg c6] at H
        exact absurd H (by simp)
      ·rw [if_neg c5] at H
       exact absurd H (by simp)
     ·rw [if_neg c4] at H
      exact absurd H (by simp)
    ·rw [if_neg c3] at H
     exact absurd H (by simp)
   ·rw [if_neg c2] at H
    have c2b0 : decide (x8_1 < (l0.length : Int)) = false := decide_eq_false c2
    clear c2
    obtain rfl := Option.some.inj H
    go_wp2
    go_ret
    exact ⟨by first | rfl | (simp [zaI, zaH] <;> rfl) | (simp [*, zaI, zaH] <;> rfl), bb_⟩

def zcA.f (k : Nat) (l0 : List (S36)) : Option (Bool) := (zdH.f l0).bind fun t450 => ((zbO.f t450 3 16).bind fun t451 => (if t451 = true then ((zcW.f l0).bind fun t452 => (if t452 = true then ((zaP.f k l0).bind fun t453 => (if t453 = true then ((zaW.f k l0).bind fun t454 => (some (t454 == 0))) else (some false))) else (some false))) else (some false)))
theorem zcA.mono : ∀ a0 k, LeO (zcA.f k a0) (zcA.f (k + 1) a0) := by
 intro a0 k
 unfold zcA.f
 repeat' first
   | (with_reducible exact zaP.mono _ _)
   | (with_reducible exact zaW.mono _ _)
   | (with_reducible exact LeO.refl _)
   | (with_reducible exact LeO.none _)
   | (with_reducible refine LeO.ite ?_ ?_)
   | (with_reducible refine LeO.bind ?_ (fun _ => ?_))
   | exact zaP.mono _ _
   | exact zaW.mono _ _
   | exact LeO.none _
   | refine LeO.ite ?_ ?_
   | refine LeO.bind ?_ (fun _ => ?_)
set_option maxHeartbeats 8000000 in
set_option maxRecDepth 100000 in
theorem zcA.calls (k : Nat) (A0 : Option Addr) (c0 : Nat) (l0 : List (S36)) (r : Bool) (w : World) (hG : LaidV w) (hr0 : Kd.C k36 w A0 l0.length l0) (hc0 : l0.length ≤ c0) (h : zcA.f k l0 = some r) :
  Calls Tryd.prog 17 #[.slice A0 l0.length c0] w fun e w' => e = .returned (.bool r) ∧ Below w.heap.size w w' := by
 have HR0 := zaJ hr0
 have HC0 := zaJ hc0
 clear hr0 hc0
 have HB := zaJ (Below.refl w.heap.size w)
 have H : ((zdH.f l0).bind fun t450 => ((zbO.f t450 3 16).bind fun t451 => (if t451 = true then ((zcW.f l0).bind fun t452 => (if t452 = true then ((zaP.f k l0).bind fun t453 => (if t453 = true then ((zaW.f k l0).bind fun t454 => (some (t454 == 0))) else (some false))) else (some false))) else (some false)))) = some r := h
 clear h
 replace H := Option.bind_eq_some_iff.mp H
 obtain ⟨t450, A20, H⟩ := H
 replace H : ((zbO.f t450 3 16).bind fun t451 => (if t451 = true then ((zcW.f l0).bind fun t452 => (if t452 = true then ((zaP.f k l0).bind fun t453 => (if t453 = true then ((zaW.f k l0).bind fun t454 => (some (t454 == 0))) else (some false))) else (some false))) else (some false))) = some r := H
 have A2 := zaJ A20
 clear A20
 replace H := Option.bind_eq_some_iff.mp H
 obtain ⟨t451, A30, H⟩ := H
 replace H : (if t451 = true then ((zcW.f l0).bind fun t452 => (if t452 = true then ((zaP.f k l0).bind fun t453 => (if t453 = true then ((zaW.f k l0).bind fun t454 => (some (t454 == 0))) else (some false))) else (some false))) else (some false)) = some r := H
 have A3 := zaJ A30
 clear A30
 by_cases c4 : t451 = true
 ·subst c4
  have H1 : ((zcW.f l0).bind fun t452 => (if t452 = true then ((zaP.f k l0).bind fun t453 => (if t453 = true then ((zaW.f k l0).bind fun t454 => (some (t454 == 0))) else (some false))) else (some false))) = some r := by rw [if_pos rfl] at H; exact H
  clear H
  have H := H1
  clear H1
  replace H := Option.bind_eq_some_iff.mp H
  obtain ⟨t452, A50, H⟩ := H
  replace H : (if t452 = true then ((zaP.f k l0).bind fun t453 => (if t453 = true then ((zaW.f k l0).bind fun t454 => (some (t454 == 0))) else (some false))) else (some false)) = some r := H
  have A5 := zaJ A50
  clear A50
  by_cases c6 : t452 = true
  ·subst c6
   have H1 : ((zaP.f k l0).bind fun t453 => (if t453 = true then ((zaW.f k l0).bind fun t454 => (some (t454 == 0))) else (some false))) = some r := by rw [if_pos rfl] at H; exact H
   clear H
   have H := H1
   clear H1
   replace H := Option.bind_eq_some_iff.mp H
   obtain ⟨t453, A70, H⟩ := H
   replace H : (if t453 = true then ((zaW.f k l0).bind fun t454 => (some (t454 == 0))) else (some false)) = some r := H
   have A7 := zaJ A70
   clear A70
   by_cases c8 : t453 = true
   ·subst c8
    have H1 : ((zaW.f k l0).bind fun t454 => (some (t454 == 0))) = some r := by rw [if_pos rfl] at H; exact H
    clear H
    have H := H1
    clear H1
    replace H := Option.bind_eq_some_iff.mp H
    obtain ⟨t454, A90, H⟩ := H
    replace H : (some (t454 == 0)) = some r := H
    have A9 := zaJ A90
    clear A90
    obtain rfl := Option.some.inj H
    go_enter Tryd.func17, Tryd.ntmps17
    go_wp2_with (first | ((with_reducible refine zaK (f := 55) rfl ?_); refine zbQ (some 4) rfl rfl Tryd.func55 (by kernel_rfl) rfl #[.slice A0 l0.length c0] rfl (by (try simp only [List.map_toArray, List.map_cons, List.map_nil]); first | done | rfl | (simp only [List.length_drop, List.length_take]; rfl)) ?_; (with_reducible refine (zdH.calls _ _ l0 t450 _ ?side1 ?side2 A2.out).mono ?_); (case side1 => repeat (first | exact HR0.out | (with_reducible refine Kd.C_alloc ?_ _) | (with_reducible refine Kd.C_drewN ?_ _) | (with_reducible refine Kd.C_drew ?_))); (case side2 => exact HC0.out); rintro e w' ⟨rfl, ⟨nd, rfl⟩⟩; refine ⟨_, rfl, ?_⟩) | ((with_reducible refine zaK (f := 54) rfl ?_); refine zbQ (some 5) rfl rfl Tryd.func54 (by kernel_rfl) rfl #[.int .i64 t450, .int .i64 3, .int .i64 16] rfl (by (try simp only [List.map_toArray, List.map_cons, List.map_nil]); first | done | rfl | (simp only [List.length_drop, List.length_take]; rfl)) ?_; (with_reducible refine (zbO.calls t450 3 16 true _ A3.out).mono ?_); rintro e w' ⟨rfl, ⟨nd, rfl⟩⟩; refine ⟨_, rfl, ?_⟩) | (go_at_call 56; (with_reducible refine (zcW.calls _ _ l0 true _ ?side1 ?side2 A5.out).mono ?_); (case side1 => repeat (first | exact HR0.out | (with_reducible refine Kd.C_alloc ?_ _) | (with_reducible refine Kd.C_drewN ?_ _) | (with_reducible refine Kd.C_drew ?_))); (case side2 => exact HC0.out); rintro e w10 ⟨rfl, hb⟩; have n0_ := (ns_ hb); clear HB; have HB := n0_; clear n0_; (try clear hb); (try clear hb2)) | (go_at_call 57; (with_reducible refine (zaP.calls k _ _ l0 true _ ?side3 ?side1 ?side2 A7.out).mono ?_); (case side1 => repeat (first | exact (Kd.C_below HR0.out HB.out) | (with_reducible refine Kd.C_alloc ?_ _) | (with_reducible refine Kd.C_drewN ?_ _) | (with_reducible refine Kd.C_drew ?_))); (case side2 => exact HC0.out); (case side3 => exact LaidV.below hG bb_); rintro e w11 ⟨rfl, hb⟩; have n0_ := (ns_ hb); clear HB; have HB := n0_; clear n0_; (try clear hb); (try clear hb2)) | (go_at_call 58; (with_reducible refine (zaW.calls k _ _ l0 t454 _ ?side1 ?side2 A9.out).mono ?_); (case side1 => repeat (first | exact (Kd.C_below HR0.out HB.out) | (with_reducible refine Kd.C_alloc ?_ _) | (with_reducible refine Kd.C_drewN ?_ _) | (with_reducible refine Kd.C_drew ?_))); (case side2 => exact HC0.out); rintro e w12 ⟨rfl, hb⟩; have n0_ := (ns_ hb); clear HB; have HB := n0_; clear n0_; (try clear hb); (try clear hb2)))
    go_ret
    exact ⟨by first | rfl | (simp [zaI, zaH] <;> rfl) | (simp [*, zaI, zaH] <;> rfl), bb_⟩
   ·replace c8 := Bool.eq_false_iff.mpr c8
    subst c8
    have H1 : (some false) = some r := by rw [if_neg (show ¬ (false = true) by decide)] at H; exact H
    clear H
    have H := H1
    clear H1
    obtain rfl := Option.some.inj H
    go_enter Tryd.func17, Tryd.ntmps17
    go_wp2_with (first | ((with_reducible refine zaK (f := 55) rfl ?_); refine zbQ (some 4) rfl rfl Tryd.func55 (by kernel_rfl) rfl #[.slice A0 l0.length c0] rfl (by (try simp only [List.map_toArray, List.map_cons, List.map_nil]); first | done | rfl | (simp only [List.length_drop, List.length_take]; rfl)) ?_; (with_reducible refine (zdH.calls _ _ l0 t450 _ ?side1 ?side2 A2.out).mono ?_); (case side1 => repeat (first | exact HR0.out | (with_reducible refine Kd.C_alloc ?_ _) | (with_reducible refine Kd.C_drewN ?_ _) | (with_reducible refine Kd.C_drew ?_))); (case side2 => exact HC0.out); rintro e w' ⟨rfl, ⟨nd, rfl⟩⟩; refine ⟨_, rfl, ?_⟩) | ((with_reducible refine zaK (f := 54) rfl ?_); refine zbQ (some 5) rfl rfl Tryd.func54 (by kernel_rfl) rfl #[.int .i64 t450, .int .i64 3, .int .i64 16] rfl (by (try simp only [List.map_toArray, List.map_cons, List.map_nil]); first | done | rfl | (simp only [List.length_drop, List.length_take]; rfl)) ?_; (with_reducible refine (zbO.calls t450 3 16 true _ A3.out).mono ?_); rintro e w' ⟨rfl, ⟨nd, rfl⟩⟩; refine ⟨_, rfl, ?_⟩) | (go_at_call 56; (with_reducible refine (zcW.calls _ _ l0 true _ ?side1 ?side2 A5.out).mono ?_); (case side1 => repeat (first | exact HR0.out | (with_reducible refine Kd.C_alloc ?_ _) | (with_reducible refine Kd.C_drewN ?_ _) | (with_reducible refine Kd.C_drew ?_))); (case side2 => exact HC0.out); rintro e w13 ⟨rfl, hb⟩; have n0_ := (ns_ hb); clear HB; have HB := n0_; clear n0_; (try clear hb); (try clear hb2)) | (go_at_call 57; (with_reducible refine (zaP.calls k _ _ l0 false _ ?side3 ?side1 ?side2 A7.out).mono ?_); (case side1 => repeat (first | exact (Kd.C_below HR0.out HB.out) | (with_reducible refine Kd.C_alloc ?_ _) | (with_reducible refine Kd.C_drewN ?_ _) | (with_reducible refine Kd.C_drew ?_))); (case side2 => exact HC0.out); (case side3 => exact LaidV.below hG bb_); rintro e w14 ⟨rfl, hb⟩; have n0_ := (ns_ hb); clear HB; have HB := n0_; clear n0_; (try clear hb); (try clear hb2)))
    go_ret
    exact ⟨by first | rfl | (simp [zaI, zaH] <;> rfl) | (simp [*, zaI, zaH] <;> rfl), bb_⟩
  ·replace c6 := Bool.eq_false_iff.mpr c6
   subst c6
   have H1 : (some false) = some r := by rw [if_neg (show ¬ (false = true) by decide)] at H; exact H
   clear H
   have H := H1
   clear H1
   obtain rfl := Option.some.inj H
   go_enter Tryd.func17, Tryd.ntmps17
   go_wp2_with (first | ((with_reducible refine zaK (f := 55) rfl ?_); refine zbQ (some 4) rfl rfl Tryd.func55 (by kernel_rfl) rfl #[.slice A0 l0.length c0] rfl (by (try simp only [List.map_toArray, List.map_cons, List.map_nil]); first | done | rfl | (simp only [List.length_drop, List.length_take]; rfl)) ?_; (with_reducible refine (zdH.calls _ _ l0 t450 _ ?side1 ?side2 A2.out).mono ?_); (case side1 => repeat (first | exact HR0.out | (with_reducible refine Kd.C_alloc ?_ _) | (with_reducible refine Kd.C_drewN ?_ _) | (with_reducible refine Kd.C_drew ?_))); (case side2 => exact HC0.out); rintro e w' ⟨rfl, ⟨nd, rfl⟩⟩; refine ⟨_, rfl, ?_⟩) | ((with_reducible refine zaK (f := 54) rfl ?_); refine zbQ (some 5) rfl rfl Tryd.func54 (by kernel_rfl) rfl #[.int .i64 t450, .int .i64 3, .int .i64 16] rfl (by (try simp only [List.map_toArray, List.map_cons, List.map_nil]); first | done | rfl | (simp only [List.length_drop, List.length_take]; rfl)) ?_; (with_reducible refine (zbO.calls t450 3 16 true _ A3.out).mono ?_); rintro e w' ⟨rfl, ⟨nd, rfl⟩⟩; refine ⟨_, rfl, ?_⟩) | (go_at_call 56; (with_reducible refine (zcW.calls _ _ l0 false _ ?side1 ?side2 A5.out).mono ?_); (case side1 => repeat (first | exact HR0.out | (with_reducible refine Kd.C_alloc ?_ _) | (with_reducible refine Kd.C_drewN ?_ _) | (with_reducible refine Kd.C_drew ?_))); (case side2 => exact HC0.out); rintro e w15 ⟨rfl, hb⟩; have n0_ := (ns_ hb); clear HB; have HB := n0_; clear n0_; (try clear hb); (try clear hb2)))
   go_ret
   exact ⟨by first | rfl | (simp [zaI, zaH] <;> rfl) | (simp [*, zaI, zaH] <;> rfl), bb_⟩
 ·replace c4 := Bool.eq_false_iff.mpr c4
  subst c4
  have H1 : (some false) = some r := by rw [if_neg (show ¬ (false = true) by decide)] at H; exact H
  clear H
  have H := H1
  clear H1
  obtain rfl := Option.some.inj H
  go_enter Tryd.func17, Tryd.ntmps17
  go_wp2_with (first | ((with_reducible refine zaK (f := 55) rfl ?_); refine zbQ (some 4) rfl rfl Tryd.func55 (by kernel_rfl) rfl #[.slice A0 l0.length c0] rfl (by (try simp only [List.map_toArray, List.map_cons, List.map_nil]); first | done | rfl | (simp only [List.length_drop, List.length_take]; rfl)) ?_; (with_reducible refine (zdH.calls _ _ l0 t450 _ ?side1 ?side2 A2.out).mono ?_); (case side1 => repeat (first | exact HR0.out | (with_reducible refine Kd.C_alloc ?_ _) | (with_reducible refine Kd.C_drewN ?_ _) | (with_reducible refine Kd.C_drew ?_))); (case side2 => exact HC0.out); rintro e w' ⟨rfl, ⟨nd, rfl⟩⟩; refine ⟨_, rfl, ?_⟩) | ((with_reducible refine zaK (f := 54) rfl ?_); refine zbQ (some 5) rfl rfl Tryd.func54 (by kernel_rfl) rfl #[.int .i64 t450, .int .i64 3, .int .i64 16] rfl (by (try simp only [List.map_toArray, List.map_cons, List.map_nil]); first | done | rfl | (simp only [List.length_drop, List.length_take]; rfl)) ?_; (with_reducible refine (zbO.calls t450 3 16 false _ A3.out).mono ?_); rintro e w' ⟨rfl, ⟨nd, rfl⟩⟩; refine ⟨_, rfl, ?_⟩))
  go_ret
  exact ⟨by first | rfl | (simp [zaI, zaH] <;> rfl) | (simp [*, zaI, zaH] <;> rfl), bb_⟩

def zcH.f (k : Nat) (a0_0 : Int) (a0_1 : Int) (a0_2 : Int) (a0_3 : Int) (a0_4 : Int) (a0_5 : Int) (a1_0 : Int) (a1_1 : Int) (a1_2 : Int) (a1_3 : Int) (a1_4 : Int) (a1_5 : Int) (a2_0 : Int) (a2_1 : Int) (a2_2 : Int) (a2_3 : Int) (a2_4 : Int) (a2_5 : Int) : Option (Int) := (zbB.f k a1_0 a1_1 a1_2 a1_3 a1_4 a1_5 a0_0 a0_1 a0_2 a0_3 a0_4 a0_5).bind fun bt458 => ((zbB.f k a2_0 a2_1 a2_2 a2_3 a2_4 a2_5 a0_0 a0_1 a0_2 a0_3 a0_4 a0_5).bind fun bt464 => ((zbD.f k bt458.1 bt458.2.1 bt458.2.2.1 bt458.2.2.2.1 bt458.2.2.2.2.1 bt458.2.2.2.2.2 bt464.1 bt464.2.1 bt464.2.2.1 bt464.2.2.2.1 bt464.2.2.2.2.1 bt464.2.2.2.2.2).bind fun bt470 => ((zaU.f k bt470.1 bt470.2.1 bt470.2.2).bind fun t473 => (some t473))))
theorem zcH.mono : ∀ a0 a1 a2 a3 a4 a5 a6 a7 a8 a9 a10 a11 a12 a13 a14 a15 a16 a17 k, LeO (zcH.f k a0 a1 a2 a3 a4 a5 a6 a7 a8 a9 a10 a11 a12 a13 a14 a15 a16 a17) (zcH.f (k + 1) a0 a1 a2 a3 a4 a5 a6 a7 a8 a9 a10 a11 a12 a13 a14 a15 a16 a17) := by
 intro a0 a1 a2 a3 a4 a5 a6 a7 a8 a9 a10 a11 a12 a13 a14 a15 a16 a17 k
 unfold zcH.f
 repeat' first
   | (with_reducible exact zaU.mono _ _ _ _)
   | (with_reducible exact zbD.mono _ _ _ _ _ _ _ _ _ _ _ _ _)
   | (with_reducible exact zbB.mono _ _ _ _ _ _ _ _ _ _ _ _ _)
   | (with_reducible exact LeO.refl _)
   | (with_reducible exact LeO.none _)
   | (with_reducible refine LeO.ite ?_ ?_)
   | (with_reducible refine LeO.bind ?_ (fun _ => ?_))
   | exact zaU.mono _ _ _ _
   | exact zbD.mono _ _ _ _ _ _ _ _ _ _ _ _ _
   | exact zbB.mono _ _ _ _ _ _ _ _ _ _ _ _ _
   | exact LeO.none _
   | refine LeO.ite ?_ ?_
   | refine LeO.bind ?_ (fun _ => ?_)
def zcH.T1 : Bool × List (List Nat × List Nat) := (true, [([], []), ([], []), ([0, 1], [0, 1]), ([], []), ([], []), ([3, 4, 2], [3, 4]), ([2, 5, 5], [2, 5]), ([6, 6], [6]), ([7, 7, 0, 1, 2, 3, 4, 5, 6, 7], [7])])
def zcH.B1 : List Nat := [0, 0, 3, 0, 0, 31, 63, 127, 255]
theorem zcH.tab1 : rtab .any (opsOf Tryd.f115 1) = zcH.T1 := by kernel_rfl
theorem zcH.bits1 : zdW zcH.T1.2 zcH.B1 = true := by kernel_rfl
set_option maxHeartbeats 8000000 in
set_option maxRecDepth 100000 in
theorem zcH.calls (k : Nat) (a0_0 : Int) (a0_1 : Int) (a0_2 : Int) (a0_3 : Int) (a0_4 : Int) (a0_5 : Int) (a1_0 : Int) (a1_1 : Int) (a1_2 : Int) (a1_3 : Int) (a1_4 : Int) (a1_5 : Int) (a2_0 : Int) (a2_1 : Int) (a2_2 : Int) (a2_3 : Int) (a2_4 : Int) (a2_5 : Int) (r : Int) (w : World) (h : zcH.f k a0_0 a0_1 a0_2 a0_3 a0_4 a0_5 a1_0 a1_1 a1_2 a1_3 a1_4 a1_5 a2_0 a2_1 a2_2 a2_3 a2_4 a2_5 = some r) :
  Calls Tryd.prog 115 #[.agg #[.int .i64 a0_0, .int .i64 a0_1, .int .i64 a0_2, .int .i64 a0_3, .int .i64 a0_4, .int .i64 a0_5], .agg #[.int .i64 a1_0, .int .i64 a1_1, .int .i64 a1_2, .int .i64 a1_3, .int .i64 a1_4, .int .i64 a1_5], .agg #[.int .i64 a2_0, .int .i64 a2_1, .int .i64 a2_2, .int .i64 a2_3, .int .i64 a2_4, .int .i64 a2_5]] w fun e w' => e = .returned (.int .i64 r) ∧ Below w.heap.size w w' := by
 have hu36 := Tryd.underlying36
 have HB := zaJ (Below.refl w.heap.size w)
 have H : ((zbB.f k a1_0 a1_1 a1_2 a1_3 a1_4 a1_5 a0_0 a0_1 a0_2 a0_3 a0_4 a0_5).bind fun bt458 => ((zbB.f k a2_0 a2_1 a2_2 a2_3 a2_4 a2_5 a0_0 a0_1 a0_2 a0_3 a0_4 a0_5).bind fun bt464 => ((zbD.f k bt458.1 bt458.2.1 bt458.2.2.1 bt458.2.2.2.1 bt458.2.2.2.2.1 bt458.2.2.2.2.2 bt464.1 bt464.2.1 bt464.2.2.1 bt464.2.2.2.1 bt464.2.2.2.2.1 bt464.2.2.2.2.2).bind fun bt470 => ((zaU.f k bt470.1 bt470.2.1 bt470.2.2).bind fun t473 => (some t473))))) = some r := h
 clear h
 replace H := Option.bind_eq_some_iff.mp H
 obtain ⟨⟨t458, t459, t460, t461, t462, t463⟩, A40, H⟩ := H
 replace H : ((zbB.f k a2_0 a2_1 a2_2 a2_3 a2_4 a2_5 a0_0 a0_1 a0_2 a0_3 a0_4 a0_5).bind fun bt464 => ((zbD.f k t458 t459 t460 t461 t462 t463 bt464.1 bt464.2.1 bt464.2.2.1 bt464.2.2.2.1 bt464.2.2.2.2.1 bt464.2.2.2.2.2).bind fun bt470 => ((zaU.f k bt470.1 bt470.2.1 bt470.2.2).bind fun t473 => (some t473)))) = some r := H
 have A4 := zaJ A40
 clear A40
 replace H := Option.bind_eq_some_iff.mp H
 obtain ⟨⟨t464, t465, t466, t467, t468, t469⟩, A50, H⟩ := H
 replace H : ((zbD.f k t458 t459 t460 t461 t462 t463 t464 t465 t466 t467 t468 t469).bind fun bt470 => ((zaU.f k bt470.1 bt470.2.1 bt470.2.2).bind fun t473 => (some t473))) = some r := H
 have A5 := zaJ A50
 clear A50
 replace H := Option.bind_eq_some_iff.mp H
 obtain ⟨⟨t470, t471, t472⟩, A60, H⟩ := H
 replace H : ((zaU.f k t470 t471 t472).bind fun t473 => (some t473)) = some r := H
 have A6 := zaJ A60
 clear A60
 replace H := Option.bind_eq_some_iff.mp H
 obtain ⟨t473, A70, H⟩ := H
 replace H : (some t473) = some r := H
 have A7 := zaJ A70
 clear A70
 obtain rfl := Option.some.inj H
 go_enter Tryd.func115, Tryd.ntmps115
 try go_wp2_with (first | ((with_reducible refine zaQ (N := 3) rfl ?_); refine bx_ 3 #[.int .i64 a0_0, .int .i64 a0_1, .int .i64 a0_2, .int .i64 a0_3, .int .i64 a0_4, .int .i64 a0_5] 36 ?_; intro gb455 hg w8 hbox hb; have n0_ := (ns_ hb); have n1_ := zaJ (hbox); have n2_ := (ng_ hg); have n3_ := n2_; clear HB; have HB := n0_; have BK455 := n1_; have GW455 := n2_; have GE455 := n3_; clear n0_ n1_ n2_ n3_; clear hb hbox hg) | ((with_reducible refine zaQ (N := 4) rfl ?_); refine bx_ 4 #[.int .i64 a1_0, .int .i64 a1_1, .int .i64 a1_2, .int .i64 a1_3, .int .i64 a1_4, .int .i64 a1_5] 36 ?_; intro gb456 hg w9 hbox hb; have n0_ := zaJ (zaG (g := gb455) (o := .cells #[.int .i64 a0_0, .int .i64 a0_1, .int .i64 a0_2, .int .i64 a0_3, .int .i64 a0_4, .int .i64 a0_5] 36 (0, 0)) bk_ hb); have n1_ := (ns_ hb); have n2_ := zaJ (hbox); have n3_ := (ng_ hg); have n4_ := n3_; have n5_ := zaJ ((by rw [hg]; exact Nat.ne_of_lt (zbC (g := gb455) (o := .cells #[.int .i64 a0_0, .int .i64 a0_1, .int .i64 a0_2, .int .i64 a0_3, .int .i64 a0_4, .int .i64 a0_5] 36 (0, 0)) bk_) : gb455 ≠ gb456)); have n6_ := zaJ ((by rw [hg]; exact Nat.ne_of_gt (zbC (g := gb455) (o := .cells #[.int .i64 a0_0, .int .i64 a0_1, .int .i64 a0_2, .int .i64 a0_3, .int .i64 a0_4, .int .i64 a0_5] 36 (0, 0)) bk_) : gb456 ≠ gb455)); clear BK455; clear HB; have BK455 := n0_; have HB := n1_; have BK456 := n2_; have GW456 := n3_; have GE456 := n4_; have NB455_456 := n5_; have NB456_455 := n6_; clear n0_ n1_ n2_ n3_ n4_ n5_ n6_; clear hb hbox hg) | ((with_reducible refine zaQ (N := 5) rfl ?_); refine bx_ 5 #[.int .i64 a2_0, .int .i64 a2_1, .int .i64 a2_2, .int .i64 a2_3, .int .i64 a2_4, .int .i64 a2_5] 36 ?_; intro gb457 hg w10 hbox hb; have n0_ := zaJ (zaG (g := gb455) (o := .cells #[.int .i64 a0_0, .int .i64 a0_1, .int .i64 a0_2, .int .i64 a0_3, .int .i64 a0_4, .int .i64 a0_5] 36 (0, 0)) bk_ hb); have n1_ := zaJ (zaG (g := gb456) (o := .cells #[.int .i64 a1_0, .int .i64 a1_1, .int .i64 a1_2, .int .i64 a1_3, .int .i64 a1_4, .int .i64 a1_5] 36 (0, 0)) bk_ hb); have n2_ := (ns_ hb); have n3_ := zaJ (hbox); have n4_ := (ng_ hg); have n5_ := n4_; have n6_ := zaJ ((by rw [hg]; exact Nat.ne_of_lt (zbC (g := gb455) (o := .cells #[.int .i64 a0_0, .int .i64 a0_1, .int .i64 a0_2, .int .i64 a0_3, .int .i64 a0_4, .int .i64 a0_5] 36 (0, 0)) bk_) : gb455 ≠ gb457)); have n7_ := zaJ ((by rw [hg]; exact Nat.ne_of_gt (zbC (g := gb455) (o := .cells #[.int .i64 a0_0, .int .i64 a0_1, .int .i64 a0_2, .int .i64 a0_3, .int .i64 a0_4, .int .i64 a0_5] 36 (0, 0)) bk_) : gb457 ≠ gb455)); have n8_ := zaJ ((by rw [hg]; exact Nat.ne_of_lt (zbC (g := gb456) (o := .cells #[.int .i64 a1_0, .int .i64 a1_1, .int .i64 a1_2, .int .i64 a1_3, .int .i64 a1_4, .int .i64 a1_5] 36 (0, 0)) bk_) : gb456 ≠ gb457)); have n9_ := zaJ ((by rw [hg]; exact Nat.ne_of_gt (zbC (g := gb456) (o := .cells #[.int .i64 a1_0, .int .i64 a1_1, .int .i64 a1_2, .int .i64 a1_3, .int .i64 a1_4, .int .i64 a1_5] 36 (0, 0)) bk_) : gb457 ≠ gb456)); clear BK455; clear BK456; clear HB; have BK455 := n0_; have BK456 := n1_; have HB := n2_; have BK457 := n3_; have GW457 := n4_; have GE457 := n5_; have NB455_457 := n6_; have NB457_455 := n7_; have NB456_457 := n8_; have NB457_456 := n9_; clear n0_ n1_ n2_ n3_ n4_ n5_ n6_ n7_ n8_ n9_; clear hb hbox hg))
 have n0_ := zaJ (zaE BK455.out)
 have n1_ := zaJ (zaE BK456.out)
 have n2_ := zaJ (zaE BK457.out)
 have n3_ := zaJ (zbT HB.out)
 clear BK455
 clear BK456
 clear BK457
 clear HB
 have BK455 := n0_
 have BK456 := n1_
 have BK457 := n2_
 have HB := n3_
 clear n0_ n1_ n2_ n3_
 refine zdL (n := 9) (S := fun w' => w'.cell? ⟨gb456, 0, none⟩ = some (.int .i64 a1_0) ∧ w'.cell? ⟨gb456, 1, none⟩ = some (.int .i64 a1_1) ∧ w'.cell? ⟨gb456, 2, none⟩ = some (.int .i64 a1_2) ∧ w'.cell? ⟨gb456, 3, none⟩ = some (.int .i64 a1_3) ∧ w'.cell? ⟨gb456, 4, none⟩ = some (.int .i64 a1_4) ∧ w'.cell? ⟨gb456, 5, none⟩ = some (.int .i64 a1_5) ∧ w'.cell? ⟨gb455, 0, none⟩ = some (.int .i64 a0_0) ∧ w'.cell? ⟨gb455, 1, none⟩ = some (.int .i64 a0_1) ∧ w'.cell? ⟨gb455, 2, none⟩ = some (.int .i64 a0_2) ∧ w'.cell? ⟨gb455, 3, none⟩ = some (.int .i64 a0_3) ∧ w'.cell? ⟨gb455, 4, none⟩ = some (.int .i64 a0_4) ∧ w'.cell? ⟨gb455, 5, none⟩ = some (.int .i64 a0_5) ∧ w'.cell? ⟨gb457, 0, none⟩ = some (.int .i64 a2_0) ∧ w'.cell? ⟨gb457, 1, none⟩ = some (.int .i64 a2_1) ∧ w'.cell? ⟨gb457, 2, none⟩ = some (.int .i64 a2_2) ∧ w'.cell? ⟨gb457, 3, none⟩ = some (.int .i64 a2_3) ∧ w'.cell? ⟨gb457, 4, none⟩ = some (.int .i64 a2_4) ∧ w'.cell? ⟨gb457, 5, none⟩ = some (.int .i64 a2_5)) (ds := []) #[false, false, false, false, false, false, false, false, false] (by kernel_rfl) rfl rfl ⟨(zaB BK456.out 0).trans rfl, (zaB BK456.out 1).trans rfl, (zaB BK456.out 2).trans rfl, (zaB BK456.out 3).trans rfl, (zaB BK456.out 4).trans rfl, (zaB BK456.out 5).trans rfl, (zaB BK455.out 0).trans rfl, (zaB BK455.out 1).trans rfl, (zaB BK455.out 2).trans rfl, (zaB BK455.out 3).trans rfl, (zaB BK455.out 4).trans rfl, (zaB BK455.out 5).trans rfl, (zaB BK457.out 0).trans rfl, (zaB BK457.out 1).trans rfl, (zaB BK457.out 2).trans rfl, (zaB BK457.out 3).trans rfl, (zaB BK457.out 4).trans rfl, (zaB BK457.out 5).trans rfl⟩ (fun hHeld => ?_); refine zcN zcH.tab1 zcH.bits1 (fun HT_ HW_ => ?_)
 generalize w10.drew = w11 at BK455 BK456 BK457 HB hHeld ⊢
 refine tk18_ 0 (some 7) (bl_ 9 1) hHeld ?_
 refine tk18_ 1 (some 8) (bl_ 9 3) hHeld ?_
 refine tk18_ 3 (some 10) (bl_ 9 11) hHeld ?_
 refine tk18_ 4 (some 11) (bl_ 9 27) hHeld ?_
 refine zeK (i := 2) (N := some 9) (bl_ 9 31) rfl rfl (zcK HT_.out (by kernel_rfl)) (by decide) (fun K hK => ?_)
 refine zcY Tryd.func138 (by kernel_rfl) rfl #[.agg #[.int .i64 a1_0, .int .i64 a1_1, .int .i64 a1_2, .int .i64 a1_3, .int .i64 a1_4, .int .i64 a1_5], .agg #[.int .i64 a0_0, .int .i64 a0_1, .int .i64 a0_2, .int .i64 a0_3, .int .i64 a0_4, .int .i64 a0_5]] (by rfl) rfl rfl (by (try simp only [List.map_toArray, List.map_cons, List.map_nil]); first | done | rfl | (simp only [List.length_drop, List.length_take]; rfl)) ?_
 with_reducible refine (zbB.calls k a1_0 a1_1 a1_2 a1_3 a1_4 a1_5 a0_0 a0_1 a0_2 a0_3 a0_4 a0_5 t458 t459 t460 t461 t462 t463 _ A4.out).mono ?_
 rintro e w12 ⟨rfl, hb⟩
 refine ⟨_, rfl, ?_⟩
 have n0_ := zaJ (zaG (g := gb455) (o := .cells #[.int .i64 a0_0, .int .i64 a0_1, .int .i64 a0_2, .int .i64 a0_3, .int .i64 a0_4, .int .i64 a0_5] 36 (0, 0)) bk_ hb)
 have n1_ := zaJ (zaG (g := gb456) (o := .cells #[.int .i64 a1_0, .int .i64 a1_1, .int .i64 a1_2, .int .i64 a1_3, .int .i64 a1_4, .int .i64 a1_5] 36 (0, 0)) bk_ hb)
 have n2_ := zaJ (zaG (g := gb457) (o := .cells #[.int .i64 a2_0, .int .i64 a2_1, .int .i64 a2_2, .int .i64 a2_3, .int .i64 a2_4, .int .i64 a2_5] 36 (0, 0)) bk_ hb)
 have n3_ := (ns_ hb)
 clear BK455
 clear BK456
 clear BK457
 clear HB
 have BK455 := n0_
 have BK456 := n1_
 have BK457 := n2_
 have HB := n3_
 clear n0_ n1_ n2_ n3_
 (try clear hb)
 (try clear hb2)
 (try clear hk)
 (try clear hi)
 refine hK.out _ _ ⟨(zaB BK456.out 0).trans rfl, (zaB BK456.out 1).trans rfl, (zaB BK456.out 2).trans rfl, (zaB BK456.out 3).trans rfl, (zaB BK456.out 4).trans rfl, (zaB BK456.out 5).trans rfl, (zaB BK455.out 0).trans rfl, (zaB BK455.out 1).trans rfl, (zaB BK455.out 2).trans rfl, (zaB BK455.out 3).trans rfl, (zaB BK455.out 4).trans rfl, (zaB BK455.out 5).trans rfl, (zaB BK457.out 0).trans rfl, (zaB BK457.out 1).trans rfl, (zaB BK457.out 2).trans rfl, (zaB BK457.out 3).trans rfl, (zaB BK457.out 4).trans rfl, (zaB BK457.out 5).trans rfl⟩ (fun hHeld => ?_)
 clear hK K
 refine zcX (a' := ?_) ?_ ?_
 rotate_left
 ·show Act.put _ (some 9) _ = _
  simp only [Act.put, List.setIfInBounds_toArray, List.set_cons_zero, List.set_cons_succ, zbW, zbY]
  rfl
 refine zeK (i := 5) (N := some 12) (bl_ 9 63) rfl rfl (zcK HT_.out (by kernel_rfl)) (by decide) (fun K hK => ?_)
 refine zcY Tryd.func138 (by kernel_rfl) rfl #[.agg #[.int .i64 a2_0, .int .i64 a2_1, .int .i64 a2_2, .int .i64 a2_3, .int .i64 a2_4, .int .i64 a2_5], .agg #[.int .i64 a0_0, .int .i64 a0_1, .int .i64 a0_2, .int .i64 a0_3, .int .i64 a0_4, .int .i64 a0_5]] (by rfl) rfl rfl (by (try simp only [List.map_toArray, List.map_cons, List.map_nil]); first | done | rfl | (simp only [List.length_drop, List.length_take]; rfl)) ?_
 with_reducible refine (zbB.calls k a2_0 a2_1 a2_2 a2_3 a2_4 a2_5 a0_0 a0_1 a0_2 a0_3 a0_4 a0_5 t464 t465 t466 t467 t468 t469 _ A5.out).mono ?_
 rintro e w13 ⟨rfl, hb⟩
 refine ⟨_, rfl, ?_⟩
 have n0_ := zaJ (zaG (g := gb455) (o := .cells #[.int .i64 a0_0, .int .i64 a0_1, .int .i64 a0_2, .int .i64 a0_3, .int .i64 a0_4, .int .i64 a0_5] 36 (0, 0)) bk_ hb)
 have n1_ := zaJ (zaG (g := gb456) (o := .cells #[.int .i64 a1_0, .int .i64 a1_1, .int .i64 a1_2, .int .i64 a1_3, .int .i64 a1_4, .int .i64 a1_5] 36 (0, 0)) bk_ hb)
 have n2_ := zaJ (zaG (g := gb457) (o := .cells #[.int .i64 a2_0, .int .i64 a2_1, .int .i64 a2_2, .int .i64 a2_3, .int .i64 a2_4, .int .i64 a2_5] 36 (0, 0)) bk_ hb)
 have n3_ := (ns_ hb)
 clear BK455
 clear BK456
 clear BK457
 clear HB
 have BK455 := n0_
 have BK456 := n1_
 have BK457 := n2_
 have HB := n3_
 clear n0_ n1_ n2_ n3_
 (try clear hb)
 (try clear hb2)
 (try clear hk)
 (try clear hi)
 refine hK.out _ _ ⟨(zaB BK456.out 0).trans rfl, (zaB BK456.out 1).trans rfl, (zaB BK456.out 2).trans rfl, (zaB BK456.out 3).trans rfl, (zaB BK456.out 4).trans rfl, (zaB BK456.out 5).trans rfl, (zaB BK455.out 0).trans rfl, (zaB BK455.out 1).trans rfl, (zaB BK455.out 2).trans rfl, (zaB BK455.out 3).trans rfl, (zaB BK455.out 4).trans rfl, (zaB BK455.out 5).trans rfl, (zaB BK457.out 0).trans rfl, (zaB BK457.out 1).trans rfl, (zaB BK457.out 2).trans rfl, (zaB BK457.out 3).trans rfl, (zaB BK457.out 4).trans rfl, (zaB BK457.out 5).trans rfl⟩ (fun hHeld => ?_)
 clear hK K
 refine zcX (a' := ?_) ?_ ?_
 rotate_left
 ·show Act.put _ (some 12) _ = _
  simp only [Act.put, List.setIfInBounds_toArray, List.set_cons_zero, List.set_cons_succ, zbW, zbY]
  rfl
 refine zeK (i := 6) (N := some 13) (bl_ 9 127) rfl rfl (zcK HT_.out (by kernel_rfl)) (by decide) (fun K hK => ?_)
 refine zcY Tryd.func140 (by kernel_rfl) rfl #[.agg #[.int .i64 t458, .int .i64 t459, .int .i64 t460, .int .i64 t461, .int .i64 t462, .int .i64 t463], .agg #[.int .i64 t464, .int .i64 t465, .int .i64 t466, .int .i64 t467, .int .i64 t468, .int .i64 t469]] (by rfl) rfl rfl (by (try simp only [List.map_toArray, List.map_cons, List.map_nil]); first | done | rfl | (simp only [List.length_drop, List.length_take]; rfl)) ?_
 with_reducible refine (zbD.calls k t458 t459 t460 t461 t462 t463 t464 t465 t466 t467 t468 t469 t470 t471 t472 _ A6.out).mono ?_
 rintro e w14 ⟨rfl, hb⟩
 refine ⟨_, rfl, ?_⟩
 have n0_ := zaJ (zaG (g := gb455) (o := .cells #[.int .i64 a0_0, .int .i64 a0_1, .int .i64 a0_2, .int .i64 a0_3, .int .i64 a0_4, .int .i64 a0_5] 36 (0, 0)) bk_ hb)
 have n1_ := zaJ (zaG (g := gb456) (o := .cells #[.int .i64 a1_0, .int .i64 a1_1, .int .i64 a1_2, .int .i64 a1_3, .int .i64 a1_4, .int .i64 a1_5] 36 (0, 0)) bk_ hb)
 have n2_ := zaJ (zaG (g := gb457) (o := .cells #[.int .i64 a2_0, .int .i64 a2_1, .int .i64 a2_2, .int .i64 a2_3, .int .i64 a2_4, .int .i64 a2_5] 36 (0, 0)) bk_ hb)
 have n3_ := (ns_ hb)
 clear BK455
 clear BK456
 clear BK457
 clear HB
 have BK455 := n0_
 have BK456 := n1_
 have BK457 := n2_
 have HB := n3_
 clear n0_ n1_ n2_ n3_
 (try clear hb)
 (try clear hb2)
 (try clear hk)
 (try clear hi)
 refine hK.out _ _ ⟨(zaB BK456.out 0).trans rfl, (zaB BK456.out 1).trans rfl, (zaB BK456.out 2).trans rfl, (zaB BK456.out 3).trans rfl, (zaB BK456.out 4).trans rfl, (zaB BK456.out 5).trans rfl, (zaB BK455.out 0).trans rfl, (zaB BK455.out 1).trans rfl, (zaB BK455.out 2).trans rfl, (zaB BK455.out 3).trans rfl, (zaB BK455.out 4).trans rfl, (zaB BK455.out 5).trans rfl, (zaB BK457.out 0).trans rfl, (zaB BK457.out 1).trans rfl, (zaB BK457.out 2).trans rfl, (zaB BK457.out 3).trans rfl, (zaB BK457.out 4).trans rfl, (zaB BK457.out 5).trans rfl⟩ (fun hHeld => ?_)
 clear hK K
 refine zcX (a' := ?_) ?_ ?_
 rotate_left
 ·show Act.put _ (some 13) _ = _
  simp only [Act.put, List.setIfInBounds_toArray, List.set_cons_zero, List.set_cons_succ, zbW, zbY]
  rfl
 refine zeK (i := 7) (N := some 14) (bl_ 9 255) rfl rfl (zcK HT_.out (by kernel_rfl)) (by decide) (fun K hK => ?_)
 refine zcY Tryd.func142 (by kernel_rfl) rfl #[.agg #[.int .i64 t470, .int .i64 t471, .int .i64 t472]] (by rfl) rfl rfl (by (try simp only [List.map_toArray, List.map_cons, List.map_nil]); first | done | rfl | (simp only [List.length_drop, List.length_take]; rfl)) ?_
 with_reducible refine (zaU.calls k t470 t471 t472 t473 _ A7.out).mono ?_
 rintro e w15 ⟨rfl, hb⟩
 refine ⟨_, rfl, ?_⟩
 have n0_ := zaJ (zaG (g := gb455) (o := .cells #[.int .i64 a0_0, .int .i64 a0_1, .int .i64 a0_2, .int .i64 a0_3, .int .i64 a0_4, .int .i64 a0_5] 36 (0, 0)) bk_ hb)
 have n1_ := zaJ (zaG (g := gb456) (o := .cells #[.int .i64 a1_0, .int .i64 a1_1, .int .i64 a1_2, .int .i64 a1_3, .int .i64 a1_4, .int .i64 a1_5] 36 (0, 0)) bk_ hb)
 have n2_ := zaJ (zaG (g := gb457) (o := .cells #[.int .i64 a2_0, .int .i64 a2_1, .int .i64 a2_2, .int .i64 a2_3, .int .i64 a2_4, .int .i64 a2_5] 36 (0, 0)) bk_ hb)
 have n3_ := (ns_ hb)
 clear BK455
 clear BK456
 clear BK457
 clear HB
 have BK455 := n0_
 have BK456 := n1_
 have BK457 := n2_
 have HB := n3_
 clear n0_ n1_ n2_ n3_
 (try clear hb)
 (try clear hb2)
 (try clear hk)
 (try clear hi)
 refine hK.out _ _ ⟨(zaB BK456.out 0).trans rfl, (zaB BK456.out 1).trans rfl, (zaB BK456.out 2).trans rfl, (zaB BK456.out 3).trans rfl, (zaB BK456.out 4).trans rfl, (zaB BK456.out 5).trans rfl, (zaB BK455.out 0).trans rfl, (zaB BK455.out 1).trans rfl, (zaB BK455.out 2).trans rfl, (zaB BK455.out 3).trans rfl, (zaB BK455.out 4).trans rfl, (zaB BK455.out 5).trans rfl, (zaB BK457.out 0).trans rfl, (zaB BK457.out 1).trans rfl, (zaB BK457.out 2).trans rfl, (zaB BK457.out 3).trans rfl, (zaB BK457.out 4).trans rfl, (zaB BK457.out 5).trans rfl⟩ (fun hHeld => ?_)
 clear hK K
 refine zcX (a' := ?_) ?_ ?_
 rotate_left
 ·show Act.put _ (some 14) _ = _
  simp only [Act.put, List.setIfInBounds_toArray, List.set_cons_zero, List.set_cons_succ, zbW, zbY]
  rfl
 refine pu_ 8 (some 6) (bl_ 9 511) ?_
 refine zeS (zdD HT_.out (by kernel_rfl)) ?_
 try go_wp2
 go_ret
 exact ⟨by first | rfl | (simp [zaI, zaH] <;> rfl) | (simp [*, zaI, zaH] <;> rfl), bb_⟩

end Go.Proofs.YtmajpmofeddknaaDoor.PFnExactInPolygon
