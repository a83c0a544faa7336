-- Printed for this claim by this session's program pp.py, which drives the kit's print with additions. Not trusted: Lean checks it.
import Derived.Test.YtmajpmofeddknaaDoorV2PFnExactValidPlacesx0
import Derived.Test.YtmajpmofeddknaaDoorV2PFnExactValidPlacesx8
import Derived.Test.YtmajpmofeddknaaDoorV2PFnExactValidPlacesx9
import Derived.Test.YtmajpmofeddknaaDoorV2PFnExactValidPlacesx10
import Derived.Test.YtmajpmofeddknaaDoorV2PFnExactValidPlacesx11
import Derived.Test.YtmajpmofeddknaaDoorV2PFnExactValidPlacesx12
namespace Go.Proofs.YtmajpmofeddknaaDoor.PFnExactValidPlaces
open Go.RowKit Go.Proofs.YtmajpmofeddknaaDoorW.PrintWords Go.Proofs.YtmajpmofeddknaaDoorW.PrintLast Go.Proofs.YtmajpmofeddknaaDoorW.PrintMore
attribute [local go_sem] zbB ziC zrC zhD znE zuB znH zkT   -- for this text's walks alone
set_option linter.unusedVariables false
set_option linter.unusedSimpArgs false

def ziA.f (k : Nat) (a0_0 : Int) (a0_1 : Int) (a0_2 : Int) (a1_0 : Int) (a1_1 : Int) (a1_2 : Int) : Option (Int) := (zpR.f k a0_0 a0_1 a0_2 a1_0 a1_1 a1_2).bind fun bt413 => ((zyE.f k bt413.1 bt413.2.1 bt413.2.2).bind fun t416 => (some t416))
theorem ziA.mono : ∀ a0 a1 a2 a3 a4 a5 k, LeO (ziA.f k a0 a1 a2 a3 a4 a5) (ziA.f (k + 1) a0 a1 a2 a3 a4 a5) := by
 intro a0 a1 a2 a3 a4 a5 k
 unfold ziA.f
 repeat' first
   | (with_reducible exact zpR.mono _ _ _ _ _ _ _)
   | (with_reducible exact zyE.mono _ _ _ _)
   | (with_reducible exact LeO.refl _)
   | (with_reducible exact LeO.none _)
   | (with_reducible refine LeO.ite ?_ ?_)
   | (with_reducible refine LeO.bind ?_ (fun _ => ?_))
   | exact zpR.mono _ _ _ _ _ _ _
   | exact zyE.mono _ _ _ _
   | exact LeO.none _
   | refine LeO.ite ?_ ?_
   | refine LeO.bind ?_ (fun _ => ?_)
set_option maxHeartbeats 8000000 in
set_option maxRecDepth 100000 in
theorem ziA.calls (k : Nat) (a0_0 : Int) (a0_1 : Int) (a0_2 : Int) (a1_0 : Int) (a1_1 : Int) (a1_2 : Int) (r : Int) (w : World) (h : ziA.f k a0_0 a0_1 a0_2 a1_0 a1_1 a1_2 = some r) :
  Calls Tryd.prog 143 #[.agg #[.int .i64 a0_0, .int .i64 a0_1, .int .i64 a0_2], .agg #[.int .i64 a1_0, .int .i64 a1_1, .int .i64 a1_2]] w fun e w' => e = .returned (.int .i64 r) ∧ Below w.heap.size w w' := by
 have hu34 := Tryd.underlying34
 have HB := zpS (Below.refl w.heap.size w)
 have H : ((zpR.f k a0_0 a0_1 a0_2 a1_0 a1_1 a1_2).bind fun bt413 => ((zyE.f k bt413.1 bt413.2.1 bt413.2.2).bind fun t416 => (some t416))) = some r := h
 clear h
 replace H := Option.bind_eq_some_iff.mp H
 obtain ⟨⟨t413, t414, t415⟩, A30, H⟩ := H
 replace H : ((zyE.f k t413 t414 t415).bind fun t416 => (some t416)) = some r := H
 have A3 := zpS A30
 clear A30
 replace H := Option.bind_eq_some_iff.mp H
 obtain ⟨t416, A40, H⟩ := H
 replace H : (some t416) = some r := H
 have A4 := zpS A40
 clear A40
 obtain rfl := Option.some.inj H
 go_enter Tryd.func143, Tryd.ntmps143
 go_wp2_with (first | ((with_reducible refine zpZ (N := 2) rfl ?_); refine bx_ 2 #[.int .i64 a0_0, .int .i64 a0_1, .int .i64 a0_2] 34 ?_; intro gb411 hg w5 hbox hb; have n0_ := (ns_ hb); have n1_ := zpS (hbox); have n2_ := (ng_ hg); have n3_ := n2_; clear HB; have HB := n0_; have BK411 := n1_; have GW411 := n2_; have GE411 := n3_; clear n0_ n1_ n2_ n3_; clear hb hbox hg) | ((with_reducible refine zpZ (N := 3) rfl ?_); refine bx_ 3 #[.int .i64 a1_0, .int .i64 a1_1, .int .i64 a1_2] 34 ?_; intro gb412 hg w6 hbox hb; have n0_ := zpS (zgM (g := gb411) (o := .cells #[.int .i64 a0_0, .int .i64 a0_1, .int .i64 a0_2] 34 (0, 0)) bk_ hb); have n1_ := (ns_ hb); have n2_ := zpS (hbox); have n3_ := (ng_ hg); have n4_ := n3_; have n5_ := zpS ((by rw [hg]; exact Nat.ne_of_lt (zmN (g := gb411) (o := .cells #[.int .i64 a0_0, .int .i64 a0_1, .int .i64 a0_2] 34 (0, 0)) bk_) : gb411 ≠ gb412)); have n6_ := zpS ((by rw [hg]; exact Nat.ne_of_gt (zmN (g := gb411) (o := .cells #[.int .i64 a0_0, .int .i64 a0_1, .int .i64 a0_2] 34 (0, 0)) bk_) : gb412 ≠ gb411)); clear BK411; clear HB; have BK411 := n0_; have HB := n1_; have BK412 := n2_; have GW412 := n3_; have GE412 := n4_; have NB411_412 := n5_; have NB412_411 := n6_; clear n0_ n1_ n2_ n3_ n4_ n5_ n6_; clear hb hbox hg; have hnb7 := NB411_412.out; have hnc7 := NB412_411.out; obtain ⟨hcz8_0, hcz8_1, hcz8_2⟩ := zdT BK411.out; obtain ⟨hfz8_0, hfz8_1, hfz8_2⟩ := zqD BK411.out; obtain ⟨hcz9_0, hcz9_1, hcz9_2⟩ := zdT BK412.out; obtain ⟨hfz9_0, hfz9_1, hfz9_2⟩ := zqD BK412.out) | ((with_reducible refine zgK (f := 166) rfl ?_); refine zqQ (some 7) rfl rfl Tryd.func166 (by kernel_rfl) rfl #[.agg #[.int .i64 a0_0, .int .i64 a0_1, .int .i64 a0_2], .agg #[.int .i64 a1_0, .int .i64 a1_1, .int .i64 a1_2]] rfl (by (try simp only [List.map_toArray, List.map_cons, List.map_nil]); first | done | rfl | (simp only [List.length_drop, List.length_take]; rfl)) ?_; (with_reducible refine (zpR.calls k a0_0 a0_1 a0_2 a1_0 a1_1 a1_2 t413 t414 t415 _ A3.out).mono ?_); rintro e w10 ⟨rfl, hb⟩; refine ⟨_, rfl, ?_⟩; have n0_ := zpS (zgM (g := gb411) (o := .cells #[.int .i64 a0_0, .int .i64 a0_1, .int .i64 a0_2] 34 (0, 0)) bk_ hb); have n1_ := zpS (zgM (g := gb412) (o := .cells #[.int .i64 a1_0, .int .i64 a1_1, .int .i64 a1_2] 34 (0, 0)) bk_ hb); have n2_ := (ns_ hb); clear BK411; clear BK412; clear HB; have BK411 := n0_; have BK412 := n1_; have HB := n2_; clear n0_ n1_ n2_; (try clear hb); (try clear hb2)) | ((with_reducible refine zgK (f := 142) rfl ?_); refine zqQ (some 8) rfl rfl Tryd.func142 (by kernel_rfl) rfl #[.agg #[.int .i64 t413, .int .i64 t414, .int .i64 t415]] rfl (by (try simp only [List.map_toArray, List.map_cons, List.map_nil]); first | done | rfl | (simp only [List.length_drop, List.length_take]; rfl)) ?_; (with_reducible refine (zyE.calls k t413 t414 t415 t416 _ A4.out).mono ?_); rintro e w11 ⟨rfl, hb⟩; refine ⟨_, rfl, ?_⟩; have n0_ := zpS (zgM (g := gb411) (o := .cells #[.int .i64 a0_0, .int .i64 a0_1, .int .i64 a0_2] 34 (0, 0)) bk_ hb); have n1_ := zpS (zgM (g := gb412) (o := .cells #[.int .i64 a1_0, .int .i64 a1_1, .int .i64 a1_2] 34 (0, 0)) bk_ hb); have n2_ := (ns_ hb); clear BK411; clear BK412; clear HB; have BK411 := n0_; have BK412 := n1_; have HB := n2_; clear n0_ n1_ n2_; (try clear hb); (try clear hb2)))
 go_ret
 exact ⟨by first | rfl | (simp [ziS, znJ] <;> rfl) | (simp [*, ziS, znJ] <;> rfl), bb_⟩

def zmC.f (k : Nat) (a0_0 : Int) (a0_1 : Int) (a0_2 : Int) (a0_3 : Int) (a0_4 : Int) (a0_5 : Int) (a1_0 : Int) (a1_1 : Int) (a1_2 : Int) (a1_3 : Int) (a1_4 : Int) (a1_5 : Int) : Option (Int) := (ziA.f k a0_0 a0_1 a0_2 a1_0 a1_1 a1_2).bind fun t419 => (if t419 = 0 then ((ziA.f k a0_3 a0_4 a0_5 a1_3 a1_4 a1_5).bind fun t420 => (some t420)) else (some t419))
theorem zmC.mono : ∀ a0 a1 a2 a3 a4 a5 a6 a7 a8 a9 a10 a11 k, LeO (zmC.f k a0 a1 a2 a3 a4 a5 a6 a7 a8 a9 a10 a11) (zmC.f (k + 1) a0 a1 a2 a3 a4 a5 a6 a7 a8 a9 a10 a11) := by
 intro a0 a1 a2 a3 a4 a5 a6 a7 a8 a9 a10 a11 k
 unfold zmC.f
 repeat' first
   | (with_reducible exact ziA.mono _ _ _ _ _ _ _)
   | (with_reducible exact LeO.refl _)
   | (with_reducible exact LeO.none _)
   | (with_reducible refine LeO.ite ?_ ?_)
   | (with_reducible refine LeO.bind ?_ (fun _ => ?_))
   | exact ziA.mono _ _ _ _ _ _ _
   | exact LeO.none _
   | refine LeO.ite ?_ ?_
   | refine LeO.bind ?_ (fun _ => ?_)
set_option maxHeartbeats 8000000 in
set_option maxRecDepth 100000 in
theorem zmC.calls (k : Nat) (a0_0 : Int) (a0_1 : Int) (a0_2 : Int) (a0_3 : Int) (a0_4 : Int) (a0_5 : Int) (a1_0 : Int) (a1_1 : Int) (a1_2 : Int) (a1_3 : Int) (a1_4 : Int) (a1_5 : Int) (r : Int) (w : World) (h : zmC.f k a0_0 a0_1 a0_2 a0_3 a0_4 a0_5 a1_0 a1_1 a1_2 a1_3 a1_4 a1_5 = some r) :
  Calls Tryd.prog 108 #[.agg #[.int .i64 a0_0, .int .i64 a0_1, .int .i64 a0_2, .int .i64 a0_3, .int .i64 a0_4, .int .i64 a0_5], .agg #[.int .i64 a1_0, .int .i64 a1_1, .int .i64 a1_2, .int .i64 a1_3, .int .i64 a1_4, .int .i64 a1_5]] w fun e w' => e = .returned (.int .i64 r) ∧ Below w.heap.size w w' := by
 have hu36 := Tryd.underlying36
 have hu34 := Tryd.underlying34
 have HB := zpS (Below.refl w.heap.size w)
 have H : ((ziA.f k a0_0 a0_1 a0_2 a1_0 a1_1 a1_2).bind fun t419 => (if t419 = 0 then ((ziA.f k a0_3 a0_4 a0_5 a1_3 a1_4 a1_5).bind fun t420 => (some t420)) else (some t419))) = some r := h
 clear h
 replace H := Option.bind_eq_some_iff.mp H
 obtain ⟨t419, A30, H⟩ := H
 replace H : (if t419 = 0 then ((ziA.f k a0_3 a0_4 a0_5 a1_3 a1_4 a1_5).bind fun t420 => (some t420)) else (some t419)) = some r := H
 have A3 := zpS A30
 clear A30
 by_cases c4 : t419 = 0
 ·rw [if_pos c4] at H
  have c4b0 : (t419 == 0) = true := beq_iff_eq.mpr c4
  have c4b1 : (t419 != 0) = false := bne_eq_false_iff_eq.mpr c4
  clear c4
  replace H := Option.bind_eq_some_iff.mp H
  obtain ⟨t420, A50, H⟩ := H
  replace H : (some t420) = some r := H
  have A5 := zpS A50
  clear A50
  obtain rfl := Option.some.inj H
  go_enter Tryd.func108, Tryd.ntmps108
  go_wp2_with (first | ((with_reducible refine zpZ (N := 2) rfl ?_); refine bx_ 2 #[.int .i64 a0_0, .int .i64 a0_1, .int .i64 a0_2, .int .i64 a0_3, .int .i64 a0_4, .int .i64 a0_5] 36 ?_; intro gb417 hg w6 hbox hb; have n0_ := (ns_ hb); have n1_ := zpS (hbox); have n2_ := (ng_ hg); have n3_ := n2_; clear HB; have HB := n0_; have BK417 := n1_; have GW417 := n2_; have GE417 := n3_; clear n0_ n1_ n2_ n3_; clear hb hbox hg) | ((with_reducible refine zpZ (N := 3) rfl ?_); refine bx_ 3 #[.int .i64 a1_0, .int .i64 a1_1, .int .i64 a1_2, .int .i64 a1_3, .int .i64 a1_4, .int .i64 a1_5] 36 ?_; intro gb418 hg w7 hbox hb; have n0_ := zpS (zgM (g := gb417) (o := .cells #[.int .i64 a0_0, .int .i64 a0_1, .int .i64 a0_2, .int .i64 a0_3, .int .i64 a0_4, .int .i64 a0_5] 36 (0, 0)) bk_ hb); have n1_ := (ns_ hb); have n2_ := zpS (hbox); have n3_ := (ng_ hg); have n4_ := n3_; have n5_ := zpS ((by rw [hg]; exact Nat.ne_of_lt (zmN (g := gb417) (o := .cells #[.int .i64 a0_0, .int .i64 a0_1, .int .i64 a0_2, .int .i64 a0_3, .int .i64 a0_4, .int .i64 a0_5] 36 (0, 0)) bk_) : gb417 ≠ gb418)); have n6_ := zpS ((by rw [hg]; exact Nat.ne_of_gt (zmN (g := gb417) (o := .cells #[.int .i64 a0_0, .int .i64 a0_1, .int .i64 a0_2, .int .i64 a0_3, .int .i64 a0_4, .int .i64 a0_5] 36 (0, 0)) bk_) : gb418 ≠ gb417)); clear BK417; clear HB; have BK417 := n0_; have HB := n1_; have BK418 := n2_; have GW418 := n3_; have GE418 := n4_; have NB417_418 := n5_; have NB418_417 := n6_; clear n0_ n1_ n2_ n3_ n4_ n5_ n6_; clear hb hbox hg; have hnb8 := NB417_418.out; have hnc8 := NB418_417.out; obtain ⟨hcz9_0, hcz9_1, hcz9_2, hcz9_3, hcz9_4, hcz9_5⟩ := zrN BK417.out; obtain ⟨hfz9_0, hfz9_1, hfz9_2, hfz9_3, hfz9_4, hfz9_5⟩ := zoQ BK417.out; obtain ⟨hcz10_0, hcz10_1, hcz10_2, hcz10_3, hcz10_4, hcz10_5⟩ := zrN BK418.out; obtain ⟨hfz10_0, hfz10_1, hfz10_2, hfz10_3, hfz10_4, hfz10_5⟩ := zoQ BK418.out) | ((with_reducible refine zgK (f := 143) rfl ?_); refine zqQ (some 10) rfl rfl Tryd.func143 (by kernel_rfl) rfl #[.agg #[.int .i64 a0_0, .int .i64 a0_1, .int .i64 a0_2], .agg #[.int .i64 a1_0, .int .i64 a1_1, .int .i64 a1_2]] rfl (by (try simp only [List.map_toArray, List.map_cons, List.map_nil]); first | done | rfl | (simp only [List.length_drop, List.length_take]; rfl)) ?_; (with_reducible refine (ziA.calls k a0_0 a0_1 a0_2 a1_0 a1_1 a1_2 t419 _ A3.out).mono ?_); rintro e w11 ⟨rfl, hb⟩; refine ⟨_, rfl, ?_⟩; have n0_ := zpS (zgM (g := gb417) (o := .cells #[.int .i64 a0_0, .int .i64 a0_1, .int .i64 a0_2, .int .i64 a0_3, .int .i64 a0_4, .int .i64 a0_5] 36 (0, 0)) bk_ hb); have n1_ := zpS (zgM (g := gb418) (o := .cells #[.int .i64 a1_0, .int .i64 a1_1, .int .i64 a1_2, .int .i64 a1_3, .int .i64 a1_4, .int .i64 a1_5] 36 (0, 0)) bk_ hb); have n2_ := (ns_ hb); clear BK417; clear BK418; clear HB; have BK417 := n0_; have BK418 := n1_; have HB := n2_; clear n0_ n1_ n2_; (try clear hb); (try clear hb2); obtain ⟨hcz12_0, hcz12_1, hcz12_2, hcz12_3, hcz12_4, hcz12_5⟩ := zrN BK417.out; obtain ⟨hfz12_0, hfz12_1, hfz12_2, hfz12_3, hfz12_4, hfz12_5⟩ := zoQ BK417.out; obtain ⟨hcz13_0, hcz13_1, hcz13_2, hcz13_3, hcz13_4, hcz13_5⟩ := zrN BK418.out; obtain ⟨hfz13_0, hfz13_1, hfz13_2, hfz13_3, hfz13_4, hfz13_5⟩ := zoQ BK418.out) | ((with_reducible refine zgK (f := 143) rfl ?_); refine zqQ (some 18) rfl rfl Tryd.func143 (by kernel_rfl) rfl #[.agg #[.int .i64 a0_3, .int .i64 a0_4, .int .i64 a0_5], .agg #[.int .i64 a1_3, .int .i64 a1_4, .int .i64 a1_5]] rfl (by (try simp only [List.map_toArray, List.map_cons, List.map_nil]); first | done | rfl | (simp only [List.length_drop, List.length_take]; rfl)) ?_; (with_reducible refine (ziA.calls k a0_3 a0_4 a0_5 a1_3 a1_4 a1_5 t420 _ A5.out).mono ?_); rintro e w14 ⟨rfl, hb⟩; refine ⟨_, rfl, ?_⟩; have n0_ := zpS (zgM (g := gb417) (o := .cells #[.int .i64 a0_0, .int .i64 a0_1, .int .i64 a0_2, .int .i64 a0_3, .int .i64 a0_4, .int .i64 a0_5] 36 (0, 0)) bk_ hb); have n1_ := zpS (zgM (g := gb418) (o := .cells #[.int .i64 a1_0, .int .i64 a1_1, .int .i64 a1_2, .int .i64 a1_3, .int .i64 a1_4, .int .i64 a1_5] 36 (0, 0)) bk_ hb); have n2_ := (ns_ hb); clear BK417; clear BK418; clear HB; have BK417 := n0_; have BK418 := n1_; have HB := n2_; clear n0_ n1_ n2_; (try clear hb); (try clear hb2)))
  go_ret
  exact ⟨by first | rfl | (simp [ziS, znJ] <;> rfl) | (simp [*, ziS, znJ] <;> rfl), bb_⟩
 ·rw [if_neg c4] at H
  have c4b0 : (t419 == 0) = false := beq_eq_false_iff_ne.mpr c4
  have c4b1 : (t419 != 0) = true := bne_iff_ne.mpr c4
  obtain rfl := Option.some.inj H
  go_enter Tryd.func108, Tryd.ntmps108
  go_wp2_with (first | ((with_reducible refine zpZ (N := 2) rfl ?_); refine bx_ 2 #[.int .i64 a0_0, .int .i64 a0_1, .int .i64 a0_2, .int .i64 a0_3, .int .i64 a0_4, .int .i64 a0_5] 36 ?_; intro gb417 hg w15 hbox hb; have n0_ := (ns_ hb); have n1_ := zpS (hbox); have n2_ := (ng_ hg); have n3_ := n2_; clear HB; have HB := n0_; have BK417 := n1_; have GW417 := n2_; have GE417 := n3_; clear n0_ n1_ n2_ n3_; clear hb hbox hg) | ((with_reducible refine zpZ (N := 3) rfl ?_); refine bx_ 3 #[.int .i64 a1_0, .int .i64 a1_1, .int .i64 a1_2, .int .i64 a1_3, .int .i64 a1_4, .int .i64 a1_5] 36 ?_; intro gb418 hg w16 hbox hb; have n0_ := zpS (zgM (g := gb417) (o := .cells #[.int .i64 a0_0, .int .i64 a0_1, .int .i64 a0_2, .int .i64 a0_3, .int .i64 a0_4, .int .i64 a0_5] 36 (0, 0)) bk_ hb); have n1_ := (ns_ hb); have n2_ := zpS (hbox); have n3_ := (ng_ hg); have n4_ := n3_; have n5_ := zpS ((by rw [hg]; exact Nat.ne_of_lt (zmN (g := gb417) (o := .cells #[.int .i64 a0_0, .int .i64 a0_1, .int .i64 a0_2, .int .i64 a0_3, .int .i64 a0_4, .int .i64 a0_5] 36 (0, 0)) bk_) : gb417 ≠ gb418)); have n6_ := zpS ((by rw [hg]; exact Nat.ne_of_gt (zmN (g := gb417) (o := .cells #[.int .i64 a0_0, .int .i64 a0_1, .int .i64 a0_2, .int .i64 a0_3, .int .i64 a0_4, .int .i64 a0_5] 36 (0, 0)) bk_) : gb418 ≠ gb417)); clear BK417; clear HB; have BK417 := n0_; have HB := n1_; have BK418 := n2_; have GW418 := n3_; have GE418 := n4_; have NB417_418 := n5_; have NB418_417 := n6_; clear n0_ n1_ n2_ n3_ n4_ n5_ n6_; clear hb hbox hg; have hnb17 := NB417_418.out; have hnc17 := NB418_417.out; obtain ⟨hcz18_0, hcz18_1, hcz18_2, hcz18_3, hcz18_4, hcz18_5⟩ := zrN BK417.out; obtain ⟨hfz18_0, hfz18_1, hfz18_2, hfz18_3, hfz18_4, hfz18_5⟩ := zoQ BK417.out; obtain ⟨hcz19_0, hcz19_1, hcz19_2, hcz19_3, hcz19_4, hcz19_5⟩ := zrN BK418.out; obtain ⟨hfz19_0, hfz19_1, hfz19_2, hfz19_3, hfz19_4, hfz19_5⟩ := zoQ BK418.out) | ((with_reducible refine zgK (f := 143) rfl ?_); refine zqQ (some 10) rfl rfl Tryd.func143 (by kernel_rfl) rfl #[.agg #[.int .i64 a0_0, .int .i64 a0_1, .int .i64 a0_2], .agg #[.int .i64 a1_0, .int .i64 a1_1, .int .i64 a1_2]] rfl (by (try simp only [List.map_toArray, List.map_cons, List.map_nil]); first | done | rfl | (simp only [List.length_drop, List.length_take]; rfl)) ?_; (with_reducible refine (ziA.calls k a0_0 a0_1 a0_2 a1_0 a1_1 a1_2 t419 _ A3.out).mono ?_); rintro e w20 ⟨rfl, hb⟩; refine ⟨_, rfl, ?_⟩; have n0_ := zpS (zgM (g := gb417) (o := .cells #[.int .i64 a0_0, .int .i64 a0_1, .int .i64 a0_2, .int .i64 a0_3, .int .i64 a0_4, .int .i64 a0_5] 36 (0, 0)) bk_ hb); have n1_ := zpS (zgM (g := gb418) (o := .cells #[.int .i64 a1_0, .int .i64 a1_1, .int .i64 a1_2, .int .i64 a1_3, .int .i64 a1_4, .int .i64 a1_5] 36 (0, 0)) bk_ hb); have n2_ := (ns_ hb); clear BK417; clear BK418; clear HB; have BK417 := n0_; have BK418 := n1_; have HB := n2_; clear n0_ n1_ n2_; (try clear hb); (try clear hb2)))
  go_ret
  exact ⟨by first | rfl | (simp [ziS, znJ] <;> rfl) | (simp [*, ziS, znJ] <;> rfl), bb_⟩

def ztP.l0 : Nat → List (S36) → Int → List (S36) → Int → Int → Option (Int)
 | 0, _, _, _, _, _ => none
 | k + 1, x0, x3, x6, x7, x8 => if x8 < x7 then (if 0 ≤ x8 then (if x8 < (x6.length : Int) then (if 0 ≤ x3 then (if x3 < (x0.length : Int) then ((zmC.f k ((ztO x6 x8).f0.f0) ((ztO x6 x8).f0.f1) ((ztO x6 x8).f0.f2) ((ztO x6 x8).f1.f0) ((ztO x6 x8).f1.f1) ((ztO x6 x8).f1.f2) ((ztO x0 x3).f0.f0) ((ztO x0 x3).f0.f1) ((ztO x0 x3).f0.f2) ((ztO x0 x3).f1.f0) ((ztO x0 x3).f1.f1) ((ztO x0 x3).f1.f2)).bind fun t424 => (if t424 < 0 then (ztP.l0 k x0 x8 x6 x7 (wrap64 (x8 + 1))) else (ztP.l0 k x0 x3 x6 x7 (wrap64 (x8 + 1))))) else (none)) else (none)) else (none)) else (none)) else (some x3)
def ztP.f (k : Nat) (l0 : List (S36)) : Option (Int) := ztP.l0 k l0 0 l0 (l0.length : Int) 0
theorem ztP.mono_l : ∀ k, (∀ y0 y1 y2 y3 y4, LeO (ztP.l0 k y0 y1 y2 y3 y4) (ztP.l0 (k + 1) y0 y1 y2 y3 y4))
 | 0 => fun _ _ _ _ _ r h => by simp [ztP.l0] at h
 | k + 1 => by
  have ih0 := ztP.mono_l k
  ·intro y0 y1 y2 y3 y4
   unfold ztP.l0
   repeat' first
   | (with_reducible exact ih0 _ _ _ _ _)
   | (with_reducible exact zmC.mono _ _ _ _ _ _ _ _ _ _ _ _ _)
   | (with_reducible exact LeO.refl _)
   | (with_reducible exact LeO.none _)
   | (with_reducible refine LeO.ite ?_ ?_)
   | (with_reducible refine LeO.bind ?_ (fun _ => ?_))
   | exact ih0 _ _ _ _ _
   | exact zmC.mono _ _ _ _ _ _ _ _ _ _ _ _ _
   | exact LeO.none _
   | refine LeO.ite ?_ ?_
   | refine LeO.bind ?_ (fun _ => ?_)
theorem ztP.mono : ∀ a0 k, LeO (ztP.f k a0) (ztP.f (k + 1) a0) := by
 intro a0 k
 have ih0 := ztP.mono_l k
 unfold ztP.f
 repeat' first
   | (with_reducible exact ih0 _ _ _ _ _)
   | (with_reducible exact zmC.mono _ _ _ _ _ _ _ _ _ _ _ _ _)
   | (with_reducible exact LeO.refl _)
   | (with_reducible exact LeO.none _)
   | (with_reducible refine LeO.ite ?_ ?_)
   | (with_reducible refine LeO.bind ?_ (fun _ => ?_))
   | exact ih0 _ _ _ _ _
   | exact zmC.mono _ _ _ _ _ _ _ _ _ _ _ _ _
   | exact LeO.none _
   | refine LeO.ite ?_ ?_
   | refine LeO.bind ?_ (fun _ => ?_)
set_option maxHeartbeats 8000000 in
set_option maxRecDepth 100000 in
theorem ztP.calls (k : Nat) (A0 : Option Addr) (c0 : Nat) (l0 : List (S36)) (r : Int) (w : World) (hr0 : Kd.C k36 w A0 l0.length l0) (hc0 : l0.length ≤ c0) (h : ztP.f k l0 = some r) :
  Calls Tryd.prog 58 #[.slice A0 l0.length c0] w fun e w' => e = .returned (.int .i64 r) ∧ Below w.heap.size w w' := by
 have hu36 := Tryd.underlying36
 have HR0 := zpS hr0
 have HC0 := zpS hc0
 clear hr0 hc0
 have HB := zpS (Below.refl w.heap.size w)
 have H : (ztP.l0 k l0 0 l0 (l0.length : Int) 0) = some r := h
 clear h
 have H' := zpS H
 clear H
 go_enter Tryd.func58, Tryd.ntmps58
 go_wp2
 (try go_simp)
 go_loopg [3, 8] k (fun kq v3 v8 w' => ∃ (x3_1 : Int) (x8_1 : Int), v3 = .int .i64 x3_1 ∧ v8 = .int .i64 x8_1 ∧ Aside0 (ztP.l0 kq l0 x3_1 l0 (l0.length : Int) x8_1 = some r) ∧ Aside0 (kq ≤ k) ∧ Aside0 (Below w.heap.size w w'))
 case atStart => exact ⟨(0), (0), (by first | rfl | (simp; done) | (simp [*]; done)), (by first | rfl | (simp; done) | (simp [*]; done)), H', ⟨Nat.le_refl _⟩, ⟨bb_⟩⟩
 case round =>
  clear H'
  obtain ⟨x3_1, x8_1, rfl, rfl, HA, HK1, HB⟩ := hrel
  cases gk with
  | zero => exact absurd HA.out (by simp [ztP.l0])
  | succ k1 =>
   have H := HA.out
   clear HA
   simp only [ztP.l0] at H
   by_cases c2 : x8_1 < (l0.length : Int)
   ·rw [if_pos c2] at H
    have c2b0 : decide (x8_1 < (l0.length : Int)) = true := decide_eq_true c2
    clear c2
    by_cases c3 : 0 ≤ x8_1
    ·rw [if_pos c3] at H
     have c3b0 : decide (0 ≤ x8_1) = true := decide_eq_true c3
     clear c3
     by_cases c4 : x8_1 < (l0.length : Int)
     ·rw [if_pos c4] at H
      have c4b0 : decide (x8_1 < (l0.length : Int)) = true := decide_eq_true c4
      clear c4
      by_cases c5 : 0 ≤ x3_1
      ·rw [if_pos c5] at H
       have c5b0 : decide (0 ≤ x3_1) = true := decide_eq_true c5
       clear c5
       by_cases c6 : x3_1 < (l0.length : Int)
       ·rw [if_pos c6] at H
        have c6b0 : decide (x3_1 < (l0.length : Int)) = true := decide_eq_true c6
        clear c6
        replace H := Option.bind_eq_some_iff.mp H
        obtain ⟨t424, A70, H⟩ := H
        replace H : (if t424 < 0 then (ztP.l0 k1 l0 x8_1 l0 (l0.length : Int) (wrap64 (x8_1 + 1))) else (ztP.l0 k1 l0 x3_1 l0 (l0.length : Int) (wrap64 (x8_1 + 1)))) = some r := H
        have A7 := zpS A70
        clear A70
        by_cases c8 : t424 < 0
        ·rw [if_pos c8] at H
         have c8b0 : decide (t424 < 0) = true := decide_eq_true c8
         clear c8
         have H' := zpS H
         clear H
         have p421 : 0 ≤ (x8_1 : Int) := of_decide_eq_true (by first | (with_reducible assumption) | assumption)
         have q421 : x8_1 < (l0.length : Int) := of_decide_eq_true (by first | (with_reducible assumption) | assumption)
         obtain ⟨ad421, e421, hx421_0, hx421_1, hx421_2, hx421_3, hx421_4, hx421_5⟩ := zqG HR0.out x8_1 p421 q421
         cases e421
         replace hx421_0 := zeA HB.out hx421_0
         replace hx421_1 := zeA HB.out hx421_1
         replace hx421_2 := zeA HB.out hx421_2
         replace hx421_3 := zeA HB.out hx421_3
         replace hx421_4 := zeA HB.out hx421_4
         replace hx421_5 := zeA HB.out hx421_5
         replace p421 := eq_true p421
         replace q421 := eq_true q421
         try go_wp2_with (first | ((with_reducible refine zpZ (N := 5) rfl ?_); refine bx_ 5 #[.int .i64 0, .int .i64 0, .int .i64 0, .int .i64 0, .int .i64 0, .int .i64 0] 36 ?_; intro gb422 hg w9 hbox hb; have n0_ := (ns_ hb); have n1_ := zpS (hbox); have n2_ := (ng_ hg); have n3_ := n2_; clear HB; have HB := n0_; have BK422 := n1_; have GW422 := n2_; have GE422 := n3_; clear n0_ n1_ n2_ n3_; clear hb hbox hg; obtain ⟨hcz10_0, hcz10_1, hcz10_2, hcz10_3, hcz10_4, hcz10_5⟩ := zrN BK422.out; obtain ⟨hfz10_0, hfz10_1, hfz10_2, hfz10_3, hfz10_4, hfz10_5⟩ := zoQ BK422.out))
         have n0_ : Aside0 (((((((w9.setCell ⟨gb422, 0, none⟩ (.int .i64 ((ztO l0 x8_1).f0.f0))).setCell ⟨gb422, 1, none⟩ (.int .i64 ((ztO l0 x8_1).f0.f1))).setCell ⟨gb422, 2, none⟩ (.int .i64 ((ztO l0 x8_1).f0.f2))).setCell ⟨gb422, 3, none⟩ (.int .i64 ((ztO l0 x8_1).f1.f0))).setCell ⟨gb422, 4, none⟩ (.int .i64 ((ztO l0 x8_1).f1.f1))).setCell ⟨gb422, 5, none⟩ (.int .i64 ((ztO l0 x8_1).f1.f2))).heap[gb422]? = some (.cells #[.int .i64 ((ztO l0 x8_1).f0.f0), .int .i64 ((ztO l0 x8_1).f0.f1), .int .i64 ((ztO l0 x8_1).f0.f2), .int .i64 ((ztO l0 x8_1).f1.f0), .int .i64 ((ztO l0 x8_1).f1.f1), .int .i64 ((ztO l0 x8_1).f1.f2)] 36 (0, 0))) := ⟨by (with_reducible repeat (first | apply zuW | apply ztN | apply zqY)); refine zlL (cs := #[.int .i64 ((ztO l0 x8_1).f0.f0), .int .i64 ((ztO l0 x8_1).f0.f1), .int .i64 ((ztO l0 x8_1).f0.f2), .int .i64 ((ztO l0 x8_1).f1.f0), .int .i64 ((ztO l0 x8_1).f1.f1), .int .i64 0]) ?_ 5 _ rfl; (with_reducible repeat (first | apply zuW | apply ztN | apply zqY)); refine zlL (cs := #[.int .i64 ((ztO l0 x8_1).f0.f0), .int .i64 ((ztO l0 x8_1).f0.f1), .int .i64 ((ztO l0 x8_1).f0.f2), .int .i64 ((ztO l0 x8_1).f1.f0), .int .i64 0, .int .i64 0]) ?_ 4 _ rfl; (with_reducible repeat (first | apply zuW | apply ztN | apply zqY)); refine zlL (cs := #[.int .i64 ((ztO l0 x8_1).f0.f0), .int .i64 ((ztO l0 x8_1).f0.f1), .int .i64 ((ztO l0 x8_1).f0.f2), .int .i64 0, .int .i64 0, .int .i64 0]) ?_ 3 _ rfl; (with_reducible repeat (first | apply zuW | apply ztN | apply zqY)); refine zlL (cs := #[.int .i64 ((ztO l0 x8_1).f0.f0), .int .i64 ((ztO l0 x8_1).f0.f1), .int .i64 0, .int .i64 0, .int .i64 0, .int .i64 0]) ?_ 2 _ rfl; (with_reducible repeat (first | apply zuW | apply ztN | apply zqY)); refine zlL (cs := #[.int .i64 ((ztO l0 x8_1).f0.f0), .int .i64 0, .int .i64 0, .int .i64 0, .int .i64 0, .int .i64 0]) ?_ 1 _ rfl; (with_reducible repeat (first | apply zuW | apply ztN | apply zqY)); refine zlL (cs := #[.int .i64 0, .int .i64 0, .int .i64 0, .int .i64 0, .int .i64 0, .int .i64 0]) ?_ 0 _ rfl; (with_reducible repeat (first | apply zuW | apply ztN | apply zqY)); exact BK422.out⟩
         have n1_ : Aside0 (Below w.heap.size w ((((((w9.setCell ⟨gb422, 0, none⟩ (.int .i64 ((ztO l0 x8_1).f0.f0))).setCell ⟨gb422, 1, none⟩ (.int .i64 ((ztO l0 x8_1).f0.f1))).setCell ⟨gb422, 2, none⟩ (.int .i64 ((ztO l0 x8_1).f0.f2))).setCell ⟨gb422, 3, none⟩ (.int .i64 ((ztO l0 x8_1).f1.f0))).setCell ⟨gb422, 4, none⟩ (.int .i64 ((ztO l0 x8_1).f1.f1))).setCell ⟨gb422, 5, none⟩ (.int .i64 ((ztO l0 x8_1).f1.f2)))) := ⟨bb_⟩
         (try clear BK422)
         (try clear HB)
         generalize ((((((w9.setCell ⟨gb422, 0, none⟩ (.int .i64 ((ztO l0 x8_1).f0.f0))).setCell ⟨gb422, 1, none⟩ (.int .i64 ((ztO l0 x8_1).f0.f1))).setCell ⟨gb422, 2, none⟩ (.int .i64 ((ztO l0 x8_1).f0.f2))).setCell ⟨gb422, 3, none⟩ (.int .i64 ((ztO l0 x8_1).f1.f0))).setCell ⟨gb422, 4, none⟩ (.int .i64 ((ztO l0 x8_1).f1.f1))).setCell ⟨gb422, 5, none⟩ (.int .i64 ((ztO l0 x8_1).f1.f2))) = w11 at n0_ n1_ ⊢
         have BK422 := n0_
         have HB := n1_
         clear n0_ n1_
         have n0_ := zpS (ztN BK422.out)
         have n1_ := zpS (zvF HB.out)
         clear BK422
         clear HB
         have BK422 := n0_
         have HB := n1_
         clear n0_ n1_
         have p423 : 0 ≤ (x3_1 : Int) := of_decide_eq_true (by first | (with_reducible assumption) | assumption)
         have q423 : x3_1 < (l0.length : Int) := of_decide_eq_true (by first | (with_reducible assumption) | assumption)
         obtain ⟨ad423, e423, hx423_0, hx423_1, hx423_2, hx423_3, hx423_4, hx423_5⟩ := zqG HR0.out x3_1 p423 q423
         have hw423_5 := hx423_5
         have hw423_4 := hx423_4
         have hw423_3 := hx423_3
         have hw423_2 := hx423_2
         have hw423_1 := hx423_1
         have hw423_0 := hx423_0
         obtain rfl : ad421 = ad423 := (by injection e423)
         replace hx423_0 := zeA HB.out hx423_0
         replace hx423_1 := zeA HB.out hx423_1
         replace hx423_2 := zeA HB.out hx423_2
         replace hx423_3 := zeA HB.out hx423_3
         replace hx423_4 := zeA HB.out hx423_4
         replace hx423_5 := zeA HB.out hx423_5
         replace p423 := eq_true p423
         replace q423 := eq_true q423
         refine zpB (n := 7) (S := fun w' => w'.cell? ⟨gb422, 0, none⟩ = some (.int .i64 ((ztO l0 x8_1).f0.f0)) ∧ w'.cell? ⟨gb422, 1, none⟩ = some (.int .i64 ((ztO l0 x8_1).f0.f1)) ∧ w'.cell? ⟨gb422, 2, none⟩ = some (.int .i64 ((ztO l0 x8_1).f0.f2)) ∧ w'.cell? ⟨gb422, 3, none⟩ = some (.int .i64 ((ztO l0 x8_1).f1.f0)) ∧ w'.cell? ⟨gb422, 4, none⟩ = some (.int .i64 ((ztO l0 x8_1).f1.f1)) ∧ w'.cell? ⟨gb422, 5, none⟩ = some (.int .i64 ((ztO l0 x8_1).f1.f2)) ∧ w'.cell? (ad421.add ((x3_1).toNat * 6)) = some (.int .i64 ((ztO l0 x3_1).f0.f0)) ∧ w'.cell? ⟨(ad421.add ((x3_1).toNat * 6)).block, (ad421.add ((x3_1).toNat * 6)).off + 1, none⟩ = some (.int .i64 ((ztO l0 x3_1).f0.f1)) ∧ w'.cell? ⟨(ad421.add ((x3_1).toNat * 6)).block, (ad421.add ((x3_1).toNat * 6)).off + 2, none⟩ = some (.int .i64 ((ztO l0 x3_1).f0.f2)) ∧ w'.cell? ⟨(ad421.add ((x3_1).toNat * 6)).block, (ad421.add ((x3_1).toNat * 6)).off + 3, none⟩ = some (.int .i64 ((ztO l0 x3_1).f1.f0)) ∧ w'.cell? ⟨(ad421.add ((x3_1).toNat * 6)).block, (ad421.add ((x3_1).toNat * 6)).off + 4, none⟩ = some (.int .i64 ((ztO l0 x3_1).f1.f1)) ∧ w'.cell? ⟨(ad421.add ((x3_1).toNat * 6)).block, (ad421.add ((x3_1).toNat * 6)).off + 5, none⟩ = some (.int .i64 ((ztO l0 x3_1).f1.f2))) (ds := []) #[false, false, false, false, false, false, false] (by kernel_rfl) rfl rfl ⟨(zzS BK422.out 0).trans rfl, (zzS BK422.out 1).trans rfl, (zzS BK422.out 2).trans rfl, (zzS BK422.out 3).trans rfl, (zzS BK422.out 4).trans rfl, (zzS BK422.out 5).trans rfl, (zeA HB.out hw423_0), (zeA HB.out hw423_1), (zeA HB.out hw423_2), (zeA HB.out hw423_3), (zeA HB.out hw423_4), (zeA HB.out hw423_5)⟩ (fun hHeld => ?_)
         generalize w11.drew = w12 at BK422 HB hx423_0 hx423_1 hx423_2 hx423_3 hx423_4 hx423_5 hHeld ⊢
         refine ztK (i := 1) (N := some 14) (v := ?_) (a' := ?_) (bl_ 7 2) rfl rfl (by kernel_rfl) (fun _ _ _ h => h) (Or.inl ⟨by rfl, ?_⟩) ?_ ?_
         rotate_left
         ·intro w'
          go_simp
          with_reducible rfl
         rotate_left
         ·simp only [Act.put, List.setIfInBounds_toArray, List.set_cons_zero, List.set_cons_succ, zcM, ziJ]
          rfl
         refine ztK (i := 2) (N := some 15) (v := ?_) (a' := ?_) (bl_ 7 6) rfl rfl (by kernel_rfl) (fun _ _ _ h => h) (Or.inl ⟨by rfl, ?_⟩) ?_ ?_
         rotate_left
         ·intro w'
          go_simp
          with_reducible rfl
         rotate_left
         ·simp only [Act.put, List.setIfInBounds_toArray, List.set_cons_zero, List.set_cons_succ, zcM, ziJ]
          rfl
         refine ztK (i := 3) (N := some 16) (v := ?_) (a' := ?_) (bl_ 7 14) rfl rfl (by kernel_rfl) (fun _ _ _ h => h) (Or.inl ⟨by rfl, ?_⟩) ?_ ?_
         rotate_left
         ·intro w'
          go_simp
          with_reducible rfl
         rotate_left
         ·simp only [Act.put, List.setIfInBounds_toArray, List.set_cons_zero, List.set_cons_succ, zcM, ziJ]
          rfl
         refine take_ (i := 0) (N := some 13) (v := ?_) (a' := ?_) (bl_ 7 15) rfl rfl (by kernel_rfl) (fun _ _ _ h => h) (Or.inl ⟨by rfl, ?_⟩) hHeld ?_ ?_
         rotate_left
         ·rintro w' ⟨s0, s1, s2, s3, s4, s5, s6, s7, s8, s9, s10, s11⟩
          go_simp
          with_reducible rfl
         rotate_left
         ·simp only [Act.put, List.setIfInBounds_toArray, List.set_cons_zero, List.set_cons_succ, zcM, ziJ]
          rfl
         refine take_ (i := 4) (N := some 17) (v := ?_) (a' := ?_) (bl_ 7 31) rfl rfl (by kernel_rfl) (fun _ _ _ h => h) (Or.inl ⟨by rfl, ?_⟩) hHeld ?_ ?_
         rotate_left
         ·rintro w' ⟨s0, s1, s2, s3, s4, s5, s6, s7, s8, s9, s10, s11⟩
          go_simp
          with_reducible rfl
         rotate_left
         ·simp only [Act.put, List.setIfInBounds_toArray, List.set_cons_zero, List.set_cons_succ, zcM, ziJ]
          rfl
         refine zdC (i := 5) (N := some 18) (bl_ 7 63) rfl rfl (by kernel_rfl) (by decide) (fun K hK => ?_)
         refine zqW Tryd.func108 (by kernel_rfl) rfl #[.agg #[.int .i64 ((ztO l0 x8_1).f0.f0), .int .i64 ((ztO l0 x8_1).f0.f1), .int .i64 ((ztO l0 x8_1).f0.f2), .int .i64 ((ztO l0 x8_1).f1.f0), .int .i64 ((ztO l0 x8_1).f1.f1), .int .i64 ((ztO l0 x8_1).f1.f2)], .agg #[.int .i64 ((ztO l0 x3_1).f0.f0), .int .i64 ((ztO l0 x3_1).f0.f1), .int .i64 ((ztO l0 x3_1).f0.f2), .int .i64 ((ztO l0 x3_1).f1.f0), .int .i64 ((ztO l0 x3_1).f1.f1), .int .i64 ((ztO l0 x3_1).f1.f2)]] (by rfl) rfl rfl (by (try simp only [List.map_toArray, List.map_cons, List.map_nil]); first | done | rfl | (simp only [List.length_drop, List.length_take]; rfl)) ?_
         with_reducible refine (zmC.calls k1 ((ztO l0 x8_1).f0.f0) ((ztO l0 x8_1).f0.f1) ((ztO l0 x8_1).f0.f2) ((ztO l0 x8_1).f1.f0) ((ztO l0 x8_1).f1.f1) ((ztO l0 x8_1).f1.f2) ((ztO l0 x3_1).f0.f0) ((ztO l0 x3_1).f0.f1) ((ztO l0 x3_1).f0.f2) ((ztO l0 x3_1).f1.f0) ((ztO l0 x3_1).f1.f1) ((ztO l0 x3_1).f1.f2) t424 _ A7.out).mono ?_
         rintro e w13 ⟨rfl, hb⟩
         refine ⟨_, rfl, ?_⟩
         have n0_ := zpS (zgM (g := gb422) (o := .cells #[.int .i64 ((ztO l0 x8_1).f0.f0), .int .i64 ((ztO l0 x8_1).f0.f1), .int .i64 ((ztO l0 x8_1).f0.f2), .int .i64 ((ztO l0 x8_1).f1.f0), .int .i64 ((ztO l0 x8_1).f1.f1), .int .i64 ((ztO l0 x8_1).f1.f2)] 36 (0, 0)) bk_ hb)
         have n1_ := (ns_ hb)
         clear BK422
         clear HB
         have BK422 := n0_
         have HB := n1_
         clear n0_ n1_
         (try clear hb)
         (try clear hb2)
         (try clear hk)
         (try clear hi)
         refine hK.out _ _ ⟨(zzS BK422.out 0).trans rfl, (zzS BK422.out 1).trans rfl, (zzS BK422.out 2).trans rfl, (zzS BK422.out 3).trans rfl, (zzS BK422.out 4).trans rfl, (zzS BK422.out 5).trans rfl, (zeA HB.out hw423_0), (zeA HB.out hw423_1), (zeA HB.out hw423_2), (zeA HB.out hw423_3), (zeA HB.out hw423_4), (zeA HB.out hw423_5)⟩ (fun hHeld => ?_)
         clear hK K
         refine zaN (a' := ?_) ?_ ?_
         rotate_left
         ·show Act.put _ (some 18) _ = _
          simp only [Act.put, List.setIfInBounds_toArray, List.set_cons_zero, List.set_cons_succ, zcM, ziJ]
          rfl
         refine ztK (i := 6) (N := some 19) (v := ?_) (a' := ?_) (bl_ 7 127) rfl rfl (by kernel_rfl) (fun _ _ _ h => h) (Or.inl ⟨by rfl, ?_⟩) ?_ ?_
         rotate_left
         ·intro w'
          go_simp
          with_reducible rfl
         rotate_left
         ·simp only [Act.put, List.setIfInBounds_toArray, List.set_cons_zero, List.set_cons_succ, zcM, ziJ]
          rfl
         refine znK (by kernel_rfl) ?_
         try go_wp2
         go_roundg k1
         case measure => have := HK1.out; omega
         case rel => exact ⟨(x8_1), (wrap64 (x8_1 + 1)), (by first | rfl | (simp; done) | (simp [*]; done)), (by first | rfl | (simp; done) | (simp [*]; done)), H', ⟨by have := HK1.out; omega⟩, ⟨bb_⟩⟩
        ·rw [if_neg c8] at H
         have c8b0 : decide (t424 < 0) = false := decide_eq_false c8
         clear c8
         have H' := zpS H
         clear H
         have p421 : 0 ≤ (x8_1 : Int) := of_decide_eq_true (by first | (with_reducible assumption) | assumption)
         have q421 : x8_1 < (l0.length : Int) := of_decide_eq_true (by first | (with_reducible assumption) | assumption)
         obtain ⟨ad421, e421, hx421_0, hx421_1, hx421_2, hx421_3, hx421_4, hx421_5⟩ := zqG HR0.out x8_1 p421 q421
         cases e421
         replace hx421_0 := zeA HB.out hx421_0
         replace hx421_1 := zeA HB.out hx421_1
         replace hx421_2 := zeA HB.out hx421_2
         replace hx421_3 := zeA HB.out hx421_3
         replace hx421_4 := zeA HB.out hx421_4
         replace hx421_5 := zeA HB.out hx421_5
         replace p421 := eq_true p421
         replace q421 := eq_true q421
         try go_wp2_with (first | ((with_reducible refine zpZ (N := 5) rfl ?_); refine bx_ 5 #[.int .i64 0, .int .i64 0, .int .i64 0, .int .i64 0, .int .i64 0, .int .i64 0] 36 ?_; intro gb422 hg w14 hbox hb; have n0_ := (ns_ hb); have n1_ := zpS (hbox); have n2_ := (ng_ hg); have n3_ := n2_; clear HB; have HB := n0_; have BK422 := n1_; have GW422 := n2_; have GE422 := n3_; clear n0_ n1_ n2_ n3_; clear hb hbox hg; obtain ⟨hcz15_0, hcz15_1, hcz15_2, hcz15_3, hcz15_4, hcz15_5⟩ := zrN BK422.out; obtain ⟨hfz15_0, hfz15_1, hfz15_2, hfz15_3, hfz15_4, hfz15_5⟩ := zoQ BK422.out))
         have n0_ : Aside0 (((((((w14.setCell ⟨gb422, 0, none⟩ (.int .i64 ((ztO l0 x8_1).f0.f0))).setCell ⟨gb422, 1, none⟩ (.int .i64 ((ztO l0 x8_1).f0.f1))).setCell ⟨gb422, 2, none⟩ (.int .i64 ((ztO l0 x8_1).f0.f2))).setCell ⟨gb422, 3, none⟩ (.int .i64 ((ztO l0 x8_1).f1.f0))).setCell ⟨gb422, 4, none⟩ (.int .i64 ((ztO l0 x8_1).f1.f1))).setCell ⟨gb422, 5, none⟩ (.int .i64 ((ztO l0 x8_1).f1.f2))).heap[gb422]? = some (.cells #[.int .i64 ((ztO l0 x8_1).f0.f0), .int .i64 ((ztO l0 x8_1).f0.f1), .int .i64 ((ztO l0 x8_1).f0.f2), .int .i64 ((ztO l0 x8_1).f1.f0), .int .i64 ((ztO l0 x8_1).f1.f1), .int .i64 ((ztO l0 x8_1).f1.f2)] 36 (0, 0))) := ⟨by (with_reducible repeat (first | apply zuW | apply ztN | apply zqY)); refine zlL (cs := #[.int .i64 ((ztO l0 x8_1).f0.f0), .int .i64 ((ztO l0 x8_1).f0.f1), .int .i64 ((ztO l0 x8_1).f0.f2), .int .i64 ((ztO l0 x8_1).f1.f0), .int .i64 ((ztO l0 x8_1).f1.f1), .int .i64 0]) ?_ 5 _ rfl; (with_reducible repeat (first | apply zuW | apply ztN | apply zqY)); refine zlL (cs := #[.int .i64 ((ztO l0 x8_1).f0.f0), .int .i64 ((ztO l0 x8_1).f0.f1), .int .i64 ((ztO l0 x8_1).f0.f2), .int .i64 ((ztO l0 x8_1).f1.f0), .int .i64 0, .int .i64 0]) ?_ 4 _ rfl; (with_reducible repeat (first | apply zuW | apply ztN | apply zqY)); refine zlL (cs := #[.int .i64 ((ztO l0 x8_1).f0.f0), .int .i64 ((ztO l0 x8_1).f0.f1), .int .i64 ((ztO l0 x8_1).f0.f2), .int .i64 0, .int .i64 0, .int .i64 0]) ?_ 3 _ rfl; (with_reducible repeat (first | apply zuW | apply ztN | apply zqY)); refine zlL (cs := #[.int .i64 ((ztO l0 x8_1).f0.f0), .int .i64 ((ztO l0 x8_1).f0.f1), .int .i64 0, .int .i64 0, .int .i64 0, .int .i64 0]) ?_ 2 _ rfl; (with_reducible repeat (first | apply zuW | apply ztN | apply zqY)); refine zlL (cs := #[.int .i64 ((ztO l0 x8_1).f0.f0), .int .i64 0, .int .i64 0, .int .i64 0, .int .i64 0, .int .i64 0]) ?_ 1 _ rfl; (with_reducible repeat (first | apply zuW | apply ztN | apply zqY)); refine zlL (cs := #[.int .i64 0, .int .i64 0, .int .i64 0, .int .i64 0, .int .i64 0, .int .i64 0]) ?_ 0 _ rfl; (with_reducible repeat (first | apply zuW | apply ztN | apply zqY)); exact BK422.out⟩
         have n1_ : Aside0 (Below w.heap.size w ((((((w14.setCell ⟨gb422, 0, none⟩ (.int .i64 ((ztO l0 x8_1).f0.f0))).setCell ⟨gb422, 1, none⟩ (.int .i64 ((ztO l0 x8_1).f0.f1))).setCell ⟨gb422, 2, none⟩ (.int .i64 ((ztO l0 x8_1).f0.f2))).setCell ⟨gb422, 3, none⟩ (.int .i64 ((ztO l0 x8_1).f1.f0))).setCell ⟨gb422, 4, none⟩ (.int .i64 ((ztO l0 x8_1).f1.f1))).setCell ⟨gb422, 5, none⟩ (.int .i64 ((ztO l0 x8_1).f1.f2)))) := ⟨bb_⟩
         (try clear BK422)
         (try clear HB)
         generalize ((((((w14.setCell ⟨gb422, 0, none⟩ (.int .i64 ((ztO l0 x8_1).f0.f0))).setCell ⟨gb422, 1, none⟩ (.int .i64 ((ztO l0 x8_1).f0.f1))).setCell ⟨gb422, 2, none⟩ (.int .i64 ((ztO l0 x8_1).f0.f2))).setCell ⟨gb422, 3, none⟩ (.int .i64 ((ztO l0 x8_1).f1.f0))).setCell ⟨gb422, 4, none⟩ (.int .i64 ((ztO l0 x8_1).f1.f1))).setCell ⟨gb422, 5, none⟩ (.int .i64 ((ztO l0 x8_1).f1.f2))) = w16 at n0_ n1_ ⊢
         have BK422 := n0_
         have HB := n1_
         clear n0_ n1_
         have n0_ := zpS (ztN BK422.out)
         have n1_ := zpS (zvF HB.out)
         clear BK422
         clear HB
         have BK422 := n0_
         have HB := n1_
         clear n0_ n1_
         have p423 : 0 ≤ (x3_1 : Int) := of_decide_eq_true (by first | (with_reducible assumption) | assumption)
         have q423 : x3_1 < (l0.length : Int) := of_decide_eq_true (by first | (with_reducible assumption) | assumption)
         obtain ⟨ad423, e423, hx423_0, hx423_1, hx423_2, hx423_3, hx423_4, hx423_5⟩ := zqG HR0.out x3_1 p423 q423
         have hw423_5 := hx423_5
         have hw423_4 := hx423_4
         have hw423_3 := hx423_3
         have hw423_2 := hx423_2
         have hw423_1 := hx423_1
         have hw423_0 := hx423_0
         obtain rfl : ad421 = ad423 := (by injection e423)
         replace hx423_0 := zeA HB.out hx423_0
         replace hx423_1 := zeA HB.out hx423_1
         replace hx423_2 := zeA HB.out hx423_2
         replace hx423_3 := zeA HB.out hx423_3
         replace hx423_4 := zeA HB.out hx423_4
         replace hx423_5 := zeA HB.out hx423_5
         replace p423 := eq_true p423
         replace q423 := eq_true q423
         refine zpB (n := 7) (S := fun w' => w'.cell? ⟨gb422, 0, none⟩ = some (.int .i64 ((ztO l0 x8_1).f0.f0)) ∧ w'.cell? ⟨gb422, 1, none⟩ = some (.int .i64 ((ztO l0 x8_1).f0.f1)) ∧ w'.cell? ⟨gb422, 2, none⟩ = some (.int .i64 ((ztO l0 x8_1).f0.f2)) ∧ w'.cell? ⟨gb422, 3, none⟩ = some (.int .i64 ((ztO l0 x8_1).f1.f0)) ∧ w'.cell? ⟨gb422, 4, none⟩ = some (.int .i64 ((ztO l0 x8_1).f1.f1)) ∧ w'.cell? ⟨gb422, 5, none⟩ = some (.int .i64 ((ztO l0 x8_1).f1.f2)) ∧ w'.cell? (ad421.add ((x3_1).toNat * 6)) = some (.int .i64 ((ztO l0 x3_1).f0.f0)) ∧ w'.cell? ⟨(ad421.add ((x3_1).toNat * 6)).block, (ad421.add ((x3_1).toNat * 6)).off + 1, none⟩ = some (.int .i64 ((ztO l0 x3_1).f0.f1)) ∧ w'.cell? ⟨(ad421.add ((x3_1).toNat * 6)).block, (ad421.add ((x3_1).toNat * 6)).off + 2, none⟩ = some (.int .i64 ((ztO l0 x3_1).f0.f2)) ∧ w'.cell? ⟨(ad421.add ((x3_1).toNat * 6)).block, (ad421.add ((x3_1).toNat * 6)).off + 3, none⟩ = some (.int .i64 ((ztO l0 x3_1).f1.f0)) ∧ w'.cell? ⟨(ad421.add ((x3_1).toNat * 6)).block, (ad421.add ((x3_1).toNat * 6)).off + 4, none⟩ = some (.int .i64 ((ztO l0 x3_1).f1.f1)) ∧ w'.cell? ⟨(ad421.add ((x3_1).toNat * 6)).block, (ad421.add ((x3_1).toNat * 6)).off + 5, none⟩ = some (.int .i64 ((ztO l0 x3_1).f1.f2))) (ds := []) #[false, false, false, false, false, false, false] (by kernel_rfl) rfl rfl ⟨(zzS BK422.out 0).trans rfl, (zzS BK422.out 1).trans rfl, (zzS BK422.out 2).trans rfl, (zzS BK422.out 3).trans rfl, (zzS BK422.out 4).trans rfl, (zzS BK422.out 5).trans rfl, (zeA HB.out hw423_0), (zeA HB.out hw423_1), (zeA HB.out hw423_2), (zeA HB.out hw423_3), (zeA HB.out hw423_4), (zeA HB.out hw423_5)⟩ (fun hHeld => ?_)
         generalize w16.drew = w17 at BK422 HB hx423_0 hx423_1 hx423_2 hx423_3 hx423_4 hx423_5 hHeld ⊢
         refine ztK (i := 1) (N := some 14) (v := ?_) (a' := ?_) (bl_ 7 2) rfl rfl (by kernel_rfl) (fun _ _ _ h => h) (Or.inl ⟨by rfl, ?_⟩) ?_ ?_
         rotate_left
         ·intro w'
          go_simp
          with_reducible rfl
         rotate_left
         ·simp only [Act.put, List.setIfInBounds_toArray, List.set_cons_zero, List.set_cons_succ, zcM, ziJ]
          rfl
         refine ztK (i := 2) (N := some 15) (v := ?_) (a' := ?_) (bl_ 7 6) rfl rfl (by kernel_rfl) (fun _ _ _ h => h) (Or.inl ⟨by rfl, ?_⟩) ?_ ?_
         rotate_left
         ·intro w'
          go_simp
          with_reducible rfl
         rotate_left
         ·simp only [Act.put, List.setIfInBounds_toArray, List.set_cons_zero, List.set_cons_succ, zcM, ziJ]
          rfl
         refine ztK (i := 3) (N := some 16) (v := ?_) (a' := ?_) (bl_ 7 14) rfl rfl (by kernel_rfl) (fun _ _ _ h => h) (Or.inl ⟨by rfl, ?_⟩) ?_ ?_
         rotate_left
         ·intro w'
          go_simp
          with_reducible rfl
         rotate_left
         ·simp only [Act.put, List.setIfInBounds_toArray, List.set_cons_zero, List.set_cons_succ, zcM, ziJ]
          rfl
         refine take_ (i := 0) (N := some 13) (v := ?_) (a' := ?_) (bl_ 7 15) rfl rfl (by kernel_rfl) (fun _ _ _ h => h) (Or.inl ⟨by rfl, ?_⟩) hHeld ?_ ?_
         rotate_left
         ·rintro w' ⟨s0, s1, s2, s3, s4, s5, s6, s7, s8, s9, s10, s11⟩
          go_simp
          with_reducible rfl
         rotate_left
         ·simp only [Act.put, List.setIfInBounds_toArray, List.set_cons_zero, List.set_cons_succ, zcM, ziJ]
          rfl
         refine take_ (i := 4) (N := some 17) (v := ?_) (a' := ?_) (bl_ 7 31) rfl rfl (by kernel_rfl) (fun _ _ _ h => h) (Or.inl ⟨by rfl, ?_⟩) hHeld ?_ ?_
         rotate_left
         ·rintro w' ⟨s0, s1, s2, s3, s4, s5, s6, s7, s8, s9, s10, s11⟩
          go_simp
          with_reducible rfl
         rotate_left
         ·simp only [Act.put, List.setIfInBounds_toArray, List.set_cons_zero, List.set_cons_succ, zcM, ziJ]
          rfl
         refine zdC (i := 5) (N := some 18) (bl_ 7 63) rfl rfl (by kernel_rfl) (by decide) (fun K hK => ?_)
         refine zqW Tryd.func108 (by kernel_rfl) rfl #[.agg #[.int .i64 ((ztO l0 x8_1).f0.f0), .int .i64 ((ztO l0 x8_1).f0.f1), .int .i64 ((ztO l0 x8_1).f0.f2), .int .i64 ((ztO l0 x8_1).f1.f0), .int .i64 ((ztO l0 x8_1).f1.f1), .int .i64 ((ztO l0 x8_1).f1.f2)], .agg #[.int .i64 ((ztO l0 x3_1).f0.f0), .int .i64 ((ztO l0 x3_1).f0.f1), .int .i64 ((ztO l0 x3_1).f0.f2), .int .i64 ((ztO l0 x3_1).f1.f0), .int .i64 ((ztO l0 x3_1).f1.f1), .int .i64 ((ztO l0 x3_1).f1.f2)]] (by rfl) rfl rfl (by (try simp only [List.map_toArray, List.map_cons, List.map_nil]); first | done | rfl | (simp only [List.length_drop, List.length_take]; rfl)) ?_
         with_reducible refine (zmC.calls k1 ((ztO l0 x8_1).f0.f0) ((ztO l0 x8_1).f0.f1) ((ztO l0 x8_1).f0.f2) ((ztO l0 x8_1).f1.f0) ((ztO l0 x8_1).f1.f1) ((ztO l0 x8_1).f1.f2) ((ztO l0 x3_1).f0.f0) ((ztO l0 x3_1).f0.f1) ((ztO l0 x3_1).f0.f2) ((ztO l0 x3_1).f1.f0) ((ztO l0 x3_1).f1.f1) ((ztO l0 x3_1).f1.f2) t424 _ A7.out).mono ?_
         rintro e w18 ⟨rfl, hb⟩
         refine ⟨_, rfl, ?_⟩
         have n0_ := zpS (zgM (g := gb422) (o := .cells #[.int .i64 ((ztO l0 x8_1).f0.f0), .int .i64 ((ztO l0 x8_1).f0.f1), .int .i64 ((ztO l0 x8_1).f0.f2), .int .i64 ((ztO l0 x8_1).f1.f0), .int .i64 ((ztO l0 x8_1).f1.f1), .int .i64 ((ztO l0 x8_1).f1.f2)] 36 (0, 0)) bk_ hb)
         have n1_ := (ns_ hb)
         clear BK422
         clear HB
         have BK422 := n0_
         have HB := n1_
         clear n0_ n1_
         (try clear hb)
         (try clear hb2)
         (try clear hk)
         (try clear hi)
         refine hK.out _ _ ⟨(zzS BK422.out 0).trans rfl, (zzS BK422.out 1).trans rfl, (zzS BK422.out 2).trans rfl, (zzS BK422.out 3).trans rfl, (zzS BK422.out 4).trans rfl, (zzS BK422.out 5).trans rfl, (zeA HB.out hw423_0), (zeA HB.out hw423_1), (zeA HB.out hw423_2), (zeA HB.out hw423_3), (zeA HB.out hw423_4), (zeA HB.out hw423_5)⟩ (fun hHeld => ?_)
         clear hK K
         refine zaN (a' := ?_) ?_ ?_
         rotate_left
         ·show Act.put _ (some 18) _ = _
          simp only [Act.put, List.setIfInBounds_toArray, List.set_cons_zero, List.set_cons_succ, zcM, ziJ]
          rfl
         refine ztK (i := 6) (N := some 19) (v := ?_) (a' := ?_) (bl_ 7 127) rfl rfl (by kernel_rfl) (fun _ _ _ h => h) (Or.inl ⟨by rfl, ?_⟩) ?_ ?_
         rotate_left
         ·intro w'
          go_simp
          with_reducible rfl
         rotate_left
         ·simp only [Act.put, List.setIfInBounds_toArray, List.set_cons_zero, List.set_cons_succ, zcM, ziJ]
          rfl
         refine znK (by kernel_rfl) ?_
         try go_wp2
         go_roundg k1
         case measure => have := HK1.out; omega
         case rel => exact ⟨(x3_1), (wrap64 (x8_1 + 1)), (by first | rfl | (simp; done) | (simp [*]; done)), (by first | rfl | (simp; done) | (simp [*]; done)), H', ⟨by have := HK1.out; omega⟩, ⟨bb_⟩⟩
       ·rw [if_neg c6] at H
        exact absurd H (by simp)
      ·rw [if_neg c5] at H
       exact absurd H (by simp)
     ·rw [if_neg c4] at H
      exact absurd H (by simp)
    ·rw [if_neg c3] at H
     exact absurd H (by simp)
   ·rw [if_neg c2] at H
    have c2b0 : decide (x8_1 < (l0.length : Int)) = false := decide_eq_false c2
    clear c2
    obtain rfl := Option.some.inj H
    go_wp2
    go_ret
    exact ⟨by first | rfl | (simp [ziS, znJ] <;> rfl) | (simp [*, ziS, znJ] <;> rfl), bb_⟩

def zoR.f (k : Nat) (l0 : List (S36)) : Option (Bool) := (zmO.f l0).bind fun t425 => ((zrP.f t425 3 16).bind fun t426 => (if t426 = true then ((zmH.f l0).bind fun t427 => (if t427 = true then ((zjY.f k l0).bind fun t428 => (if t428 = true then ((ztP.f k l0).bind fun t429 => (some (t429 == 0))) else (some false))) else (some false))) else (some false)))
theorem zoR.mono : ∀ a0 k, LeO (zoR.f k a0) (zoR.f (k + 1) a0) := by
 intro a0 k
 unfold zoR.f
 repeat' first
   | (with_reducible exact zjY.mono _ _)
   | (with_reducible exact ztP.mono _ _)
   | (with_reducible exact LeO.refl _)
   | (with_reducible exact LeO.none _)
   | (with_reducible refine LeO.ite ?_ ?_)
   | (with_reducible refine LeO.bind ?_ (fun _ => ?_))
   | exact zjY.mono _ _
   | exact ztP.mono _ _
   | exact LeO.none _
   | refine LeO.ite ?_ ?_
   | refine LeO.bind ?_ (fun _ => ?_)
set_option maxHeartbeats 8000000 in
set_option maxRecDepth 100000 in
theorem zoR.calls (k : Nat) (A0 : Option Addr) (c0 : Nat) (l0 : List (S36)) (r : Bool) (w : World) (hG : LaidV w) (hr0 : Kd.C k36 w A0 l0.length l0) (hc0 : l0.length ≤ c0) (h : zoR.f k l0 = some r) :
  Calls Tryd.prog 17 #[.slice A0 l0.length c0] w fun e w' => e = .returned (.bool r) ∧ Below w.heap.size w w' := by
 have HR0 := zpS hr0
 have HC0 := zpS hc0
 clear hr0 hc0
 have HB := zpS (Below.refl w.heap.size w)
 have H : ((zmO.f l0).bind fun t425 => ((zrP.f t425 3 16).bind fun t426 => (if t426 = true then ((zmH.f l0).bind fun t427 => (if t427 = true then ((zjY.f k l0).bind fun t428 => (if t428 = true then ((ztP.f k l0).bind fun t429 => (some (t429 == 0))) else (some false))) else (some false))) else (some false)))) = some r := h
 clear h
 replace H := Option.bind_eq_some_iff.mp H
 obtain ⟨t425, A20, H⟩ := H
 replace H : ((zrP.f t425 3 16).bind fun t426 => (if t426 = true then ((zmH.f l0).bind fun t427 => (if t427 = true then ((zjY.f k l0).bind fun t428 => (if t428 = true then ((ztP.f k l0).bind fun t429 => (some (t429 == 0))) else (some false))) else (some false))) else (some false))) = some r := H
 have A2 := zpS A20
 clear A20
 replace H := Option.bind_eq_some_iff.mp H
 obtain ⟨t426, A30, H⟩ := H
 replace H : (if t426 = true then ((zmH.f l0).bind fun t427 => (if t427 = true then ((zjY.f k l0).bind fun t428 => (if t428 = true then ((ztP.f k l0).bind fun t429 => (some (t429 == 0))) else (some false))) else (some false))) else (some false)) = some r := H
 have A3 := zpS A30
 clear A30
 by_cases c4 : t426 = true
 ·subst c4
  have H1 : ((zmH.f l0).bind fun t427 => (if t427 = true then ((zjY.f k l0).bind fun t428 => (if t428 = true then ((ztP.f k l0).bind fun t429 => (some (t429 == 0))) else (some false))) else (some false))) = some r := by rw [if_pos rfl] at H; exact H
  clear H
  have H := H1
  clear H1
  replace H := Option.bind_eq_some_iff.mp H
  obtain ⟨t427, A50, H⟩ := H
  replace H : (if t427 = true then ((zjY.f k l0).bind fun t428 => (if t428 = true then ((ztP.f k l0).bind fun t429 => (some (t429 == 0))) else (some false))) else (some false)) = some r := H
  have A5 := zpS A50
  clear A50
  by_cases c6 : t427 = true
  ·subst c6
   have H1 : ((zjY.f k l0).bind fun t428 => (if t428 = true then ((ztP.f k l0).bind fun t429 => (some (t429 == 0))) else (some false))) = some r := by rw [if_pos rfl] at H; exact H
   clear H
   have H := H1
   clear H1
   replace H := Option.bind_eq_some_iff.mp H
   obtain ⟨t428, A70, H⟩ := H
   replace H : (if t428 = true then ((ztP.f k l0).bind fun t429 => (some (t429 == 0))) else (some false)) = some r := H
   have A7 := zpS A70
   clear A70
   by_cases c8 : t428 = true
   ·subst c8
    have H1 : ((ztP.f k l0).bind fun t429 => (some (t429 == 0))) = some r := by rw [if_pos rfl] at H; exact H
    clear H
    have H := H1
    clear H1
    replace H := Option.bind_eq_some_iff.mp H
    obtain ⟨t429, A90, H⟩ := H
    replace H : (some (t429 == 0)) = some r := H
    have A9 := zpS A90
    clear A90
    obtain rfl := Option.some.inj H
    go_enter Tryd.func17, Tryd.ntmps17
    go_wp2_with (first | ((with_reducible refine zgK (f := 55) rfl ?_); refine zqQ (some 4) rfl rfl Tryd.func55 (by kernel_rfl) rfl #[.slice A0 l0.length c0] rfl (by (try simp only [List.map_toArray, List.map_cons, List.map_nil]); first | done | rfl | (simp only [List.length_drop, List.length_take]; rfl)) ?_; (with_reducible refine (zmO.calls _ _ l0 t425 _ ?side1 ?side2 A2.out).mono ?_); (case side1 => repeat (first | exact HR0.out | (with_reducible refine Kd.C_alloc ?_ _) | (with_reducible refine Kd.C_drewN ?_ _) | (with_reducible refine Kd.C_drew ?_))); (case side2 => exact HC0.out); rintro e w' ⟨rfl, ⟨nd, rfl⟩⟩; refine ⟨_, rfl, ?_⟩) | ((with_reducible refine zgK (f := 54) rfl ?_); refine zqQ (some 5) rfl rfl Tryd.func54 (by kernel_rfl) rfl #[.int .i64 t425, .int .i64 3, .int .i64 16] rfl (by (try simp only [List.map_toArray, List.map_cons, List.map_nil]); first | done | rfl | (simp only [List.length_drop, List.length_take]; rfl)) ?_; (with_reducible refine (zrP.calls t425 3 16 true _ A3.out).mono ?_); rintro e w' ⟨rfl, ⟨nd, rfl⟩⟩; refine ⟨_, rfl, ?_⟩) | (go_at_call 56; (with_reducible refine (zmH.calls _ _ l0 true _ ?side1 ?side2 A5.out).mono ?_); (case side1 => repeat (first | exact HR0.out | (with_reducible refine Kd.C_alloc ?_ _) | (with_reducible refine Kd.C_drewN ?_ _) | (with_reducible refine Kd.C_drew ?_))); (case side2 => exact HC0.out); rintro e w10 ⟨rfl, hb⟩; have n0_ := (ns_ hb); clear HB; have HB := n0_; clear n0_; (try clear hb); (try clear hb2)) | (go_at_call 57; (with_reducible refine (zjY.calls k _ _ l0 true _ ?side3 ?side1 ?side2 A7.out).mono ?_); (case side1 => repeat (first | exact (Kd.C_below HR0.out HB.out) | (with_reducible refine Kd.C_alloc ?_ _) | (with_reducible refine Kd.C_drewN ?_ _) | (with_reducible refine Kd.C_drew ?_))); (case side2 => exact HC0.out); (case side3 => exact LaidV.below hG bb_); rintro e w11 ⟨rfl, hb⟩; have n0_ := (ns_ hb); clear HB; have HB := n0_; clear n0_; (try clear hb); (try clear hb2)) | (go_at_call 58; (with_reducible refine (ztP.calls k _ _ l0 t429 _ ?side1 ?side2 A9.out).mono ?_); (case side1 => repeat (first | exact (Kd.C_below HR0.out HB.out) | (with_reducible refine Kd.C_alloc ?_ _) | (with_reducible refine Kd.C_drewN ?_ _) | (with_reducible refine Kd.C_drew ?_))); (case side2 => exact HC0.out); rintro e w12 ⟨rfl, hb⟩; have n0_ := (ns_ hb); clear HB; have HB := n0_; clear n0_; (try clear hb); (try clear hb2)))
    go_ret
    exact ⟨by first | rfl | (simp [ziS, znJ] <;> rfl) | (simp [*, ziS, znJ] <;> rfl), bb_⟩
   ·replace c8 := Bool.eq_false_iff.mpr c8
    subst c8
    have H1 : (some false) = some r := by rw [if_neg (show ¬ (false = true) by decide)] at H; exact H
    clear H
    have H := H1
    clear H1
    obtain rfl := Option.some.inj H
    go_enter Tryd.func17, Tryd.ntmps17
    go_wp2_with (first | ((with_reducible refine zgK (f := 55) rfl ?_); refine zqQ (some 4) rfl rfl Tryd.func55 (by kernel_rfl) rfl #[.slice A0 l0.length c0] rfl (by (try simp only [List.map_toArray, List.map_cons, List.map_nil]); first | done | rfl | (simp only [List.length_drop, List.length_take]; rfl)) ?_; (with_reducible refine (zmO.calls _ _ l0 t425 _ ?side1 ?side2 A2.out).mono ?_); (case side1 => repeat (first | exact HR0.out | (with_reducible refine Kd.C_alloc ?_ _) | (with_reducible refine Kd.C_drewN ?_ _) | (with_reducible refine Kd.C_drew ?_))); (case side2 => exact HC0.out); rintro e w' ⟨rfl, ⟨nd, rfl⟩⟩; refine ⟨_, rfl, ?_⟩) | ((with_reducible refine zgK (f := 54) rfl ?_); refine zqQ (some 5) rfl rfl Tryd.func54 (by kernel_rfl) rfl #[.int .i64 t425, .int .i64 3, .int .i64 16] rfl (by (try simp only [List.map_toArray, List.map_cons, List.map_nil]); first | done | rfl | (simp only [List.length_drop, List.length_take]; rfl)) ?_; (with_reducible refine (zrP.calls t425 3 16 true _ A3.out).mono ?_); rintro e w' ⟨rfl, ⟨nd, rfl⟩⟩; refine ⟨_, rfl, ?_⟩) | (go_at_call 56; (with_reducible refine (zmH.calls _ _ l0 true _ ?side1 ?side2 A5.out).mono ?_); (case side1 => repeat (first | exact HR0.out | (with_reducible refine Kd.C_alloc ?_ _) | (with_reducible refine Kd.C_drewN ?_ _) | (with_reducible refine Kd.C_drew ?_))); (case side2 => exact HC0.out); rintro e w13 ⟨rfl, hb⟩; have n0_ := (ns_ hb); clear HB; have HB := n0_; clear n0_; (try clear hb); (try clear hb2)) | (go_at_call 57; (with_reducible refine (zjY.calls k _ _ l0 false _ ?side3 ?side1 ?side2 A7.out).mono ?_); (case side1 => repeat (first | exact (Kd.C_below HR0.out HB.out) | (with_reducible refine Kd.C_alloc ?_ _) | (with_reducible refine Kd.C_drewN ?_ _) | (with_reducible refine Kd.C_drew ?_))); (case side2 => exact HC0.out); (case side3 => exact LaidV.below hG bb_); rintro e w14 ⟨rfl, hb⟩; have n0_ := (ns_ hb); clear HB; have HB := n0_; clear n0_; (try clear hb); (try clear hb2)))
    go_ret
    exact ⟨by first | rfl | (simp [ziS, znJ] <;> rfl) | (simp [*, ziS, znJ] <;> rfl), bb_⟩
  ·replace c6 := Bool.eq_false_iff.mpr c6
   subst c6
   have H1 : (some false) = some r := by rw [if_neg (show ¬ (false = true) by decide)] at H; exact H
   clear H
   have H := H1
   clear H1
   obtain rfl := Option.some.inj H
   go_enter Tryd.func17, Tryd.ntmps17
   go_wp2_with (first | ((with_reducible refine zgK (f := 55) rfl ?_); refine zqQ (some 4) rfl rfl Tryd.func55 (by kernel_rfl) rfl #[.slice A0 l0.length c0] rfl (by (try simp only [List.map_toArray, List.map_cons, List.map_nil]); first | done | rfl | (simp only [List.length_drop, List.length_take]; rfl)) ?_; (with_reducible refine (zmO.calls _ _ l0 t425 _ ?side1 ?side2 A2.out).mono ?_); (case side1 => repeat (first | exact HR0.out | (with_reducible refine Kd.C_alloc ?_ _) | (with_reducible refine Kd.C_drewN ?_ _) | (with_reducible refine Kd.C_drew ?_))); (case side2 => exact HC0.out); rintro e w' ⟨rfl, ⟨nd, rfl⟩⟩; refine ⟨_, rfl, ?_⟩) | ((with_reducible refine zgK (f := 54) rfl ?_); refine zqQ (some 5) rfl rfl Tryd.func54 (by kernel_rfl) rfl #[.int .i64 t425, .int .i64 3, .int .i64 16] rfl (by (try simp only [List.map_toArray, List.map_cons, List.map_nil]); first | done | rfl | (simp only [List.length_drop, List.length_take]; rfl)) ?_; (with_reducible refine (zrP.calls t425 3 16 true _ A3.out).mono ?_); rintro e w' ⟨rfl, ⟨nd, rfl⟩⟩; refine ⟨_, rfl, ?_⟩) | (go_at_call 56; (with_reducible refine (zmH.calls _ _ l0 false _ ?side1 ?side2 A5.out).mono ?_); (case side1 => repeat (first | exact HR0.out | (with_reducible refine Kd.C_alloc ?_ _) | (with_reducible refine Kd.C_drewN ?_ _) | (with_reducible refine Kd.C_drew ?_))); (case side2 => exact HC0.out); rintro e w15 ⟨rfl, hb⟩; have n0_ := (ns_ hb); clear HB; have HB := n0_; clear n0_; (try clear hb); (try clear hb2)))
   go_ret
   exact ⟨by first | rfl | (simp [ziS, znJ] <;> rfl) | (simp [*, ziS, znJ] <;> rfl), bb_⟩
 ·replace c4 := Bool.eq_false_iff.mpr c4
  subst c4
  have H1 : (some false) = some r := by rw [if_neg (show ¬ (false = true) by decide)] at H; exact H
  clear H
  have H := H1
  clear H1
  obtain rfl := Option.some.inj H
  go_enter Tryd.func17, Tryd.ntmps17
  go_wp2_with (first | ((with_reducible refine zgK (f := 55) rfl ?_); refine zqQ (some 4) rfl rfl Tryd.func55 (by kernel_rfl) rfl #[.slice A0 l0.length c0] rfl (by (try simp only [List.map_toArray, List.map_cons, List.map_nil]); first | done | rfl | (simp only [List.length_drop, List.length_take]; rfl)) ?_; (with_reducible refine (zmO.calls _ _ l0 t425 _ ?side1 ?side2 A2.out).mono ?_); (case side1 => repeat (first | exact HR0.out | (with_reducible refine Kd.C_alloc ?_ _) | (with_reducible refine Kd.C_drewN ?_ _) | (with_reducible refine Kd.C_drew ?_))); (case side2 => exact HC0.out); rintro e w' ⟨rfl, ⟨nd, rfl⟩⟩; refine ⟨_, rfl, ?_⟩) | ((with_reducible refine zgK (f := 54) rfl ?_); refine zqQ (some 5) rfl rfl Tryd.func54 (by kernel_rfl) rfl #[.int .i64 t425, .int .i64 3, .int .i64 16] rfl (by (try simp only [List.map_toArray, List.map_cons, List.map_nil]); first | done | rfl | (simp only [List.length_drop, List.length_take]; rfl)) ?_; (with_reducible refine (zrP.calls t425 3 16 false _ A3.out).mono ?_); rintro e w' ⟨rfl, ⟨nd, rfl⟩⟩; refine ⟨_, rfl, ?_⟩))
  go_ret
  exact ⟨by first | rfl | (simp [ziS, znJ] <;> rfl) | (simp [*, ziS, znJ] <;> rfl), bb_⟩

def zcN.f (k : Nat) (l0 : List (S36)) : Option (Bool) := (zoR.f k l0).bind fun t430 => (some (!t430))
theorem zcN.mono : ∀ a0 k, LeO (zcN.f k a0) (zcN.f (k + 1) a0) := by
 intro a0 k
 unfold zcN.f
 repeat' first
   | (with_reducible exact zoR.mono _ _)
   | (with_reducible exact LeO.refl _)
   | (with_reducible exact LeO.none _)
   | (with_reducible refine LeO.ite ?_ ?_)
   | (with_reducible refine LeO.bind ?_ (fun _ => ?_))
   | exact zoR.mono _ _
   | exact LeO.none _
   | refine LeO.ite ?_ ?_
   | refine LeO.bind ?_ (fun _ => ?_)
set_option maxHeartbeats 8000000 in
set_option maxRecDepth 100000 in
theorem zcN.calls (k : Nat) (A0 : Option Addr) (c0 : Nat) (l0 : List (S36)) (r : Bool) (w : World) (hG : LaidV w) (hr0 : Kd.C k36 w A0 l0.length l0) (hc0 : l0.length ≤ c0) (h : zcN.f k l0 = some r) :
  Calls Tryd.prog 70 #[.slice A0 l0.length c0] w fun e w' => e = .returned (.bool r) ∧ Below w.heap.size w w' := by
 have HR0 := zpS hr0
 have HC0 := zpS hc0
 clear hr0 hc0
 have HB := zpS (Below.refl w.heap.size w)
 have H : ((zoR.f k l0).bind fun t430 => (some (!t430))) = some r := h
 clear h
 replace H := Option.bind_eq_some_iff.mp H
 obtain ⟨t430, A20, H⟩ := H
 replace H : (some (!t430)) = some r := H
 have A2 := zpS A20
 clear A20
 obtain rfl := Option.some.inj H
 go_enter Tryd.func70, Tryd.ntmps70
 go_wp2_with (first | ((with_reducible refine zgK (f := 17) rfl ?_); refine zqQ (some 4) rfl rfl Tryd.func17 (by kernel_rfl) rfl #[.slice A0 l0.length c0] rfl (by (try simp only [List.map_toArray, List.map_cons, List.map_nil]); first | done | rfl | (simp only [List.length_drop, List.length_take]; rfl)) ?_; (with_reducible refine (zoR.calls k _ _ l0 t430 _ ?side3 ?side1 ?side2 A2.out).mono ?_); (case side1 => repeat (first | exact HR0.out | (with_reducible refine Kd.C_alloc ?_ _) | (with_reducible refine Kd.C_drewN ?_ _) | (with_reducible refine Kd.C_drew ?_))); (case side2 => exact HC0.out); (case side3 => exact LaidV.below hG bb_); rintro e w3 ⟨rfl, hb⟩; refine ⟨_, rfl, ?_⟩; have n0_ := (ns_ hb); clear HB; have HB := n0_; clear n0_; (try clear hb); (try clear hb2)))
 go_ret
 exact ⟨by first | rfl | (simp [ziS, znJ] <;> rfl) | (simp [*, ziS, znJ] <;> rfl), bb_⟩

def zeM.i (k : Nat) : Nat → List (List S36) → Option Int
 | _, [] => some (-1)
 | j, x :: xs => (zcN.f k x).bind fun b => if b = true then some (j : Int) else zeM.i k (j + 1) xs
def zeM.f (k : Nat) (l0 : List (List S36)) : Option Bool := (zeM.i k 0 l0).bind fun j => some (decide (0 ≤ j))
theorem zeM.mono_i (k : Nat) : ∀ l j, LeO (zeM.i k j l) (zeM.i (k + 1) j l)
 | [], _ => LeO.refl _
 | x :: xs, j => LeO.bind (zcN.mono _ k) (fun b => LeO.ite (LeO.refl _) (zeM.mono_i k xs (j + 1)))
theorem zeM.mono : ∀ l0 k, LeO (zeM.f k l0) (zeM.f (k + 1) l0) := fun l0 k => LeO.bind (zeM.mono_i k l0 0) (fun _ => LeO.refl _)
theorem zeM.at_ {w : World} {A : Option Addr} {n : Nat} {xs : List (List S36)} (h : Kd.C (Kd.slice 36 k36) w A n xs) (j : Nat) (hj : j < xs.length) (hn : xs.length = n) : ∃ ad A0 c0, A = some ad ∧ w.cell? (ad.add j) = some (.slice A0 xs[j].length c0) ∧ xs[j].length ≤ c0 ∧ Kd.C k36 w A0 xs[j].length xs[j] := by
 obtain ⟨ad, c, e, _, hK, hc0⟩ := Kd.C_get h [] (j : Int) (by omega) (by omega)
 obtain ⟨A0, c0, rfl, l0, g0⟩ := hK
 have hc := hc0 0 _ rfl
 rw [Int.toNat_natCast, List.getD_eq_getElem?_getD, List.getElem?_eq_getElem hj] at hc l0 g0
 refine ⟨ad, A0, c0, e, ?_, l0, g0⟩
 have e1 : (Kd.slice 36 k36).sz = 1 := rfl
 rw [e1, Nat.mul_one, Nat.add_zero] at hc
 exact hc
set_option maxHeartbeats 8000000 in
set_option maxRecDepth 100000 in
theorem zeM.icalls (k : Nat) (A0 : Option Addr) (c0 : Nat) (l0 : List (List S36)) (r : Int) (w : World) (hG : LaidV w) (hr0 : Kd.C (Kd.slice 36 k36) w A0 l0.length l0) (hc0 : l0.length ≤ c0) (h : zeM.i k 0 l0 = some r) :
  Calls Tryd.prog 116 #[.slice A0 l0.length c0, .func (.func 70) #[] #[]] w fun e w' => e = .returned (.int .i64 r) ∧ Below w.heap.size w w' := by
 have hmx := hr0.2.1
 have HR0 := zpS hr0
 have HC0 := zpS hc0
 clear hr0 hc0
 have H' := zpS h
 clear h
 have HB := zpS (Below.refl w.heap.size w)
 go_enter Tryd.func116, Tryd.ntmps116
 go_wp2
 go_loopg [8] l0.length (fun kq v8 w' => ∃ j : Nat, v8 = .int .i64 j ∧ Aside0 (zeM.i k j (l0.drop j) = some r) ∧ Aside0 (kq + j = l0.length) ∧ Aside0 (Below w.heap.size w w'))
 case atStart => exact ⟨0, rfl, H', ⟨rfl⟩, ⟨bb_⟩⟩
 case round =>
  clear H' HB
  obtain ⟨j, rfl, HA, HK1, HB⟩ := hrel
  by_cases hlt : j < l0.length
  ·have H := HA.out
   rw [List.drop_eq_getElem_cons hlt] at H
   simp only [zeM.i] at H
   obtain ⟨b, A20, H⟩ := Option.bind_eq_some_iff.mp H
   have A2 := zpS A20
   clear A20 HA
   have c2b0 : decide ((j : Int) < (l0.length : Int)) = true := decide_eq_true (by omega)
   have c3b0 : decide (0 ≤ (j : Int)) = true := decide_eq_true (by omega)
   obtain ⟨ad111, A1, c1, e111, hx0, hl1, hr1⟩ := zeM.at_ HR0.out j hlt rfl
   cases e111
   have HR1 := zpS (Kd.C_below hr1 HB.out)
   have HC1 := zpS hl1
   clear hl1 hr1
   replace hx0 := zeA HB.out hx0
   obtain ⟨x1, hx1⟩ : ∃ x, x = l0[j] := ⟨_, rfl⟩
   rw [← hx1] at hx0 A2 HR1 HC1
   have HX1 := zpS hx1
   clear hx1
   cases b with
   | true =>
    simp only [if_true, Option.some.injEq] at H
    subst H
    go_wp2_with (go_at_call 70; (with_reducible refine (zcN.calls k A1 c1 x1 true _ ?hg ?h1 HC1.out A2.out).mono ?_); (case hg => exact LaidV.below hG bb_); (case h1 => exact Kd.C_below HR1.out (by repeat (first | exact Below.refl _ _ | apply znU | apply zkZ | apply zvF))); rintro e wz ⟨rfl, hz⟩; have HZ := (ns_ hz); clear hz)
    go_ret
    exact ⟨rfl, by repeat (first | (with_reducible first | exact HZ.out | apply znU | apply zkZ | apply zvF) | exact HZ.out)⟩
   | false =>
    have H2 := zpS (show zeM.i k (j + 1) (l0.drop (j + 1)) = some r from by simpa using H)
    clear H
    go_wp2_with (go_at_call 70; (with_reducible refine (zcN.calls k A1 c1 x1 false _ ?hg ?h1 HC1.out A2.out).mono ?_); (case hg => exact LaidV.below hG bb_); (case h1 => exact Kd.C_below HR1.out (by repeat (first | exact Below.refl _ _ | apply znU | apply zkZ | apply zvF))); rintro e wz ⟨rfl, hz⟩; have HZ := (ns_ hz); clear hz)
    go_roundg (l0.length - (j + 1))
    case measure => have := HK1.out; omega
    case rel => exact ⟨j + 1, by (try rw [wrap64]); go_num, H2, ⟨by omega⟩, ⟨by repeat (first | (with_reducible first | exact HZ.out | apply znU | apply zkZ | apply zvF) | exact HZ.out)⟩⟩
  ·have H := HA.out
   rw [List.drop_eq_nil_of_le (by omega)] at H
   simp only [zeM.i, Option.some.injEq] at H
   subst H
   have c2b0 : decide ((j : Int) < (l0.length : Int)) = false := decide_eq_false (by omega)
   go_wp2
   go_ret
   exact ⟨rfl, bb_⟩
set_option maxHeartbeats 8000000 in
set_option maxRecDepth 100000 in
theorem zeM.calls (k : Nat) (A0 : Option Addr) (c0 : Nat) (l0 : List (List S36)) (r : Bool) (w : World) (hG : LaidV w) (hr0 : Kd.C (Kd.slice 36 k36) w A0 l0.length l0) (hc0 : l0.length ≤ c0) (h : zeM.f k l0 = some r) :
  Calls Tryd.prog 69 #[.slice A0 l0.length c0, .func (.func 70) #[] #[]] w fun e w' => e = .returned (.bool r) ∧ Below w.heap.size w w' := by
 obtain ⟨q, hq, h⟩ := Option.bind_eq_some_iff.mp h
 obtain rfl := Option.some.inj h
 have HQ := zpS hq
 clear hq
 have HB := zpS (Below.refl w.heap.size w)
 go_enter Tryd.func69, Tryd.ntmps69
 go_wp2_with (go_at_call 116; (with_reducible refine (zeM.icalls k _ _ l0 q _ ?hg ?h1 ?h2 HQ.out).mono ?_); (case hg => exact LaidV.below hG bb_); (case h1 => exact hr0); (case h2 => exact hc0); rintro e wz ⟨rfl, hz⟩; have HZ := (ns_ hz); clear hz)
 go_ret
 exact ⟨rfl, by repeat (first | (with_reducible first | exact HZ.out | apply znU | apply zkZ | apply zvF) | exact HZ.out)⟩
theorem zeM.i_any (k : Nat) (p : List S36 → Bool) : ∀ (l : List (List S36)) (j : Nat), (∀ x ∈ l, zcN.f k x = some (p x)) → ∃ q : Int, zeM.i k j l = some q ∧ (0 ≤ q ↔ l.any p = true)
 | [], j, _ => ⟨-1, rfl, by simp⟩
 | x :: xs, j, hp => by
  simp only [zeM.i, hp x List.mem_cons_self, Option.bind_some]
  cases h : p x with
  | true => exact ⟨j, by simp, by simp [h]⟩
  | false =>
   obtain ⟨q, hq, hq2⟩ := zeM.i_any k p xs (j + 1) (fun y hy => hp y (List.mem_cons_of_mem _ hy))
   exact ⟨q, by simpa using hq, by simpa [h] using hq2⟩
theorem zeM.eq_any (k : Nat) (p : List S36 → Bool) (l : List (List S36)) (hp : ∀ x ∈ l, zcN.f k x = some (p x)) : zeM.f k l = some (l.any p) := by
 obtain ⟨q, hq, hq2⟩ := zeM.i_any k p l 0 hp
 unfold zeM.f
 rw [hq, Option.bind_some]
 by_cases h : 0 ≤ q
 ·rw [decide_eq_true h, hq2.1 h]
 ·rw [decide_eq_false h, Bool.eq_false_iff.2 (fun e => h (hq2.2 e))]

def ztD.f (k : Nat) (l0 : List (List (S36))) : Option (Bool) := (zsW.f l0).bind fun t431 => ((zrP.f t431 1 24).bind fun t432 => (if t432 = true then ((zeM.f k l0).bind fun t433 => (some (!t433))) else (some false)))
theorem ztD.mono : ∀ a0 k, LeO (ztD.f k a0) (ztD.f (k + 1) a0) := by
 intro a0 k
 unfold ztD.f
 repeat' first
   | (with_reducible exact zeM.mono _ _)
   | (with_reducible exact LeO.refl _)
   | (with_reducible exact LeO.none _)
   | (with_reducible refine LeO.ite ?_ ?_)
   | (with_reducible refine LeO.bind ?_ (fun _ => ?_))
   | exact zeM.mono _ _
   | exact LeO.none _
   | refine LeO.ite ?_ ?_
   | refine LeO.bind ?_ (fun _ => ?_)
set_option maxHeartbeats 8000000 in
set_option maxRecDepth 100000 in
theorem ztD.calls (k : Nat) (A0 : Option Addr) (c0 : Nat) (l0 : List (List (S36))) (r : Bool) (w : World) (hG : LaidV w) (hr0 : Kd.C (Kd.slice 36 k36) w A0 l0.length l0) (hc0 : l0.length ≤ c0) (h : ztD.f k l0 = some r) :
  Calls Tryd.prog 25 #[.slice A0 l0.length c0] w fun e w' => e = .returned (.bool r) ∧ Below w.heap.size w w' := by
 have HR0 := zpS hr0
 have HC0 := zpS hc0
 clear hr0 hc0
 have HB := zpS (Below.refl w.heap.size w)
 have H : ((zsW.f l0).bind fun t431 => ((zrP.f t431 1 24).bind fun t432 => (if t432 = true then ((zeM.f k l0).bind fun t433 => (some (!t433))) else (some false)))) = some r := h
 clear h
 replace H := Option.bind_eq_some_iff.mp H
 obtain ⟨t431, A20, H⟩ := H
 replace H : ((zrP.f t431 1 24).bind fun t432 => (if t432 = true then ((zeM.f k l0).bind fun t433 => (some (!t433))) else (some false))) = some r := H
 have A2 := zpS A20
 clear A20
 replace H := Option.bind_eq_some_iff.mp H
 obtain ⟨t432, A30, H⟩ := H
 replace H : (if t432 = true then ((zeM.f k l0).bind fun t433 => (some (!t433))) else (some false)) = some r := H
 have A3 := zpS A30
 clear A30
 by_cases c4 : t432 = true
 ·subst c4
  have H1 : ((zeM.f k l0).bind fun t433 => (some (!t433))) = some r := by rw [if_pos rfl] at H; exact H
  clear H
  have H := H1
  clear H1
  replace H := Option.bind_eq_some_iff.mp H
  obtain ⟨t433, A50, H⟩ := H
  replace H : (some (!t433)) = some r := H
  have A5 := zpS A50
  clear A50
  obtain rfl := Option.some.inj H
  go_enter Tryd.func25, Tryd.ntmps25
  go_wp2_with (first | ((with_reducible refine zgK (f := 68) rfl ?_); refine zqQ (some 4) rfl rfl Tryd.func68 (by kernel_rfl) rfl #[.slice A0 l0.length c0] rfl (by (try simp only [List.map_toArray, List.map_cons, List.map_nil]); first | done | rfl | (simp only [List.length_drop, List.length_take]; rfl)) ?_; (with_reducible refine (zsW.calls _ _ l0 t431 _ ?side1 ?side2 A2.out).mono ?_); (case side1 => repeat (first | exact HR0.out | (with_reducible refine Kd.C_alloc ?_ _) | (with_reducible refine Kd.C_drewN ?_ _) | (with_reducible refine Kd.C_drew ?_))); (case side2 => exact HC0.out); rintro e w' ⟨rfl, ⟨nd, rfl⟩⟩; refine ⟨_, rfl, ?_⟩) | ((with_reducible refine zgK (f := 54) rfl ?_); refine zqQ (some 5) rfl rfl Tryd.func54 (by kernel_rfl) rfl #[.int .i64 t431, .int .i64 1, .int .i64 24] rfl (by (try simp only [List.map_toArray, List.map_cons, List.map_nil]); first | done | rfl | (simp only [List.length_drop, List.length_take]; rfl)) ?_; (with_reducible refine (zrP.calls t431 1 24 true _ A3.out).mono ?_); rintro e w' ⟨rfl, ⟨nd, rfl⟩⟩; refine ⟨_, rfl, ?_⟩) | (go_at_call 69; (with_reducible refine (zeM.calls k _ _ l0  t433 _ ?side3 ?side1 ?side2 A5.out).mono ?_); (case side1 => repeat (first | exact HR0.out | (with_reducible refine Kd.C_alloc ?_ _) | (with_reducible refine Kd.C_drewN ?_ _) | (with_reducible refine Kd.C_drew ?_))); (case side2 => exact HC0.out); (case side3 => exact LaidV.below hG bb_); rintro e w6 ⟨rfl, hb⟩; have n0_ := (ns_ hb); clear HB; have HB := n0_; clear n0_; (try clear hb); (try clear hb2)))
  go_ret
  exact ⟨by first | rfl | (simp [ziS, znJ] <;> rfl) | (simp [*, ziS, znJ] <;> rfl), bb_⟩
 ·replace c4 := Bool.eq_false_iff.mpr c4
  subst c4
  have H1 : (some false) = some r := by rw [if_neg (show ¬ (false = true) by decide)] at H; exact H
  clear H
  have H := H1
  clear H1
  obtain rfl := Option.some.inj H
  go_enter Tryd.func25, Tryd.ntmps25
  go_wp2_with (first | ((with_reducible refine zgK (f := 68) rfl ?_); refine zqQ (some 4) rfl rfl Tryd.func68 (by kernel_rfl) rfl #[.slice A0 l0.length c0] rfl (by (try simp only [List.map_toArray, List.map_cons, List.map_nil]); first | done | rfl | (simp only [List.length_drop, List.length_take]; rfl)) ?_; (with_reducible refine (zsW.calls _ _ l0 t431 _ ?side1 ?side2 A2.out).mono ?_); (case side1 => repeat (first | exact HR0.out | (with_reducible refine Kd.C_alloc ?_ _) | (with_reducible refine Kd.C_drewN ?_ _) | (with_reducible refine Kd.C_drew ?_))); (case side2 => exact HC0.out); rintro e w' ⟨rfl, ⟨nd, rfl⟩⟩; refine ⟨_, rfl, ?_⟩) | ((with_reducible refine zgK (f := 54) rfl ?_); refine zqQ (some 5) rfl rfl Tryd.func54 (by kernel_rfl) rfl #[.int .i64 t431, .int .i64 1, .int .i64 24] rfl (by (try simp only [List.map_toArray, List.map_cons, List.map_nil]); first | done | rfl | (simp only [List.length_drop, List.length_take]; rfl)) ?_; (with_reducible refine (zrP.calls t431 1 24 false _ A3.out).mono ?_); rintro e w' ⟨rfl, ⟨nd, rfl⟩⟩; refine ⟨_, rfl, ?_⟩))
  go_ret
  exact ⟨by first | rfl | (simp [ziS, znJ] <;> rfl) | (simp [*, ziS, znJ] <;> rfl), bb_⟩

def zaT.f (a0_0 : Int) (a0_1 : Int) (a0_2 : Int) (a1_0 : Int) (a1_1 : Int) (a1_2 : Int) : Option (Bool) := if a0_0 = a1_0 then (if a0_1 = a1_1 then (if a0_2 = a1_2 then (some true) else (some false)) else (some false)) else (some false)
set_option maxHeartbeats 8000000 in
set_option maxRecDepth 100000 in
theorem zaT.calls (a0_0 : Int) (a0_1 : Int) (a0_2 : Int) (a1_0 : Int) (a1_1 : Int) (a1_2 : Int) (r : Bool) (w : World) (h : zaT.f a0_0 a0_1 a0_2 a1_0 a1_1 a1_2 = some r) :
  Calls Tryd.prog 43 #[.agg #[.int .i64 a0_0, .int .i64 a0_1, .int .i64 a0_2], .agg #[.int .i64 a1_0, .int .i64 a1_1, .int .i64 a1_2]] w fun e w' => e = .returned (.bool r) ∧ Below w.heap.size w w' := by
 have hu34 := Tryd.underlying34
 have HB := zpS (Below.refl w.heap.size w)
 have H : (if a0_0 = a1_0 then (if a0_1 = a1_1 then (if a0_2 = a1_2 then (some true) else (some false)) else (some false)) else (some false)) = some r := h
 clear h
 by_cases c3 : a0_0 = a1_0
 ·rw [if_pos c3] at H
  have c3b0 : (a0_0 == a1_0) = true := beq_iff_eq.mpr c3
  have c3b1 : (a0_0 != a1_0) = false := bne_eq_false_iff_eq.mpr c3
  clear c3
  by_cases c4 : a0_1 = a1_1
  ·rw [if_pos c4] at H
   have c4b0 : (a0_1 == a1_1) = true := beq_iff_eq.mpr c4
   have c4b1 : (a0_1 != a1_1) = false := bne_eq_false_iff_eq.mpr c4
   clear c4
   by_cases c5 : a0_2 = a1_2
   ·rw [if_pos c5] at H
    have c5b0 : (a0_2 == a1_2) = true := beq_iff_eq.mpr c5
    have c5b1 : (a0_2 != a1_2) = false := bne_eq_false_iff_eq.mpr c5
    clear c5
    obtain rfl := Option.some.inj H
    go_enter Tryd.func43, Tryd.ntmps43
    go_wp2_with (first | ((with_reducible refine zpZ (N := 2) rfl ?_); refine bx_ 2 #[.int .i64 a0_0, .int .i64 a0_1, .int .i64 a0_2] 34 ?_; intro gb434 hg w6 hbox hb; have n0_ := (ns_ hb); have n1_ := zpS (hbox); have n2_ := (ng_ hg); have n3_ := n2_; clear HB; have HB := n0_; have BK434 := n1_; have GW434 := n2_; have GE434 := n3_; clear n0_ n1_ n2_ n3_; clear hb hbox hg) | ((with_reducible refine zpZ (N := 3) rfl ?_); refine bx_ 3 #[.int .i64 a1_0, .int .i64 a1_1, .int .i64 a1_2] 34 ?_; intro gb435 hg w7 hbox hb; have n0_ := zpS (zgM (g := gb434) (o := .cells #[.int .i64 a0_0, .int .i64 a0_1, .int .i64 a0_2] 34 (0, 0)) bk_ hb); have n1_ := (ns_ hb); have n2_ := zpS (hbox); have n3_ := (ng_ hg); have n4_ := n3_; have n5_ := zpS ((by rw [hg]; exact Nat.ne_of_lt (zmN (g := gb434) (o := .cells #[.int .i64 a0_0, .int .i64 a0_1, .int .i64 a0_2] 34 (0, 0)) bk_) : gb434 ≠ gb435)); have n6_ := zpS ((by rw [hg]; exact Nat.ne_of_gt (zmN (g := gb434) (o := .cells #[.int .i64 a0_0, .int .i64 a0_1, .int .i64 a0_2] 34 (0, 0)) bk_) : gb435 ≠ gb434)); clear BK434; clear HB; have BK434 := n0_; have HB := n1_; have BK435 := n2_; have GW435 := n3_; have GE435 := n4_; have NB434_435 := n5_; have NB435_434 := n6_; clear n0_ n1_ n2_ n3_ n4_ n5_ n6_; clear hb hbox hg; have hnb8 := NB434_435.out; have hnc8 := NB435_434.out; obtain ⟨hcz9_0, hcz9_1, hcz9_2⟩ := zdT BK434.out; obtain ⟨hfz9_0, hfz9_1, hfz9_2⟩ := zqD BK434.out; obtain ⟨hcz10_0, hcz10_1, hcz10_2⟩ := zdT BK435.out; obtain ⟨hfz10_0, hfz10_1, hfz10_2⟩ := zqD BK435.out))
    go_ret
    exact ⟨by first | rfl | (simp [ziS, znJ] <;> rfl) | (simp [*, ziS, znJ] <;> rfl), bb_⟩
   ·rw [if_neg c5] at H
    have c5b0 : (a0_2 == a1_2) = false := beq_eq_false_iff_ne.mpr c5
    have c5b1 : (a0_2 != a1_2) = true := bne_iff_ne.mpr c5
    obtain rfl := Option.some.inj H
    go_enter Tryd.func43, Tryd.ntmps43
    go_wp2_with (first | ((with_reducible refine zpZ (N := 2) rfl ?_); refine bx_ 2 #[.int .i64 a0_0, .int .i64 a0_1, .int .i64 a0_2] 34 ?_; intro gb434 hg w11 hbox hb; have n0_ := (ns_ hb); have n1_ := zpS (hbox); have n2_ := (ng_ hg); have n3_ := n2_; clear HB; have HB := n0_; have BK434 := n1_; have GW434 := n2_; have GE434 := n3_; clear n0_ n1_ n2_ n3_; clear hb hbox hg) | ((with_reducible refine zpZ (N := 3) rfl ?_); refine bx_ 3 #[.int .i64 a1_0, .int .i64 a1_1, .int .i64 a1_2] 34 ?_; intro gb435 hg w12 hbox hb; have n0_ := zpS (zgM (g := gb434) (o := .cells #[.int .i64 a0_0, .int .i64 a0_1, .int .i64 a0_2] 34 (0, 0)) bk_ hb); have n1_ := (ns_ hb); have n2_ := zpS (hbox); have n3_ := (ng_ hg); have n4_ := n3_; have n5_ := zpS ((by rw [hg]; exact Nat.ne_of_lt (zmN (g := gb434) (o := .cells #[.int .i64 a0_0, .int .i64 a0_1, .int .i64 a0_2] 34 (0, 0)) bk_) : gb434 ≠ gb435)); have n6_ := zpS ((by rw [hg]; exact Nat.ne_of_gt (zmN (g := gb434) (o := .cells #[.int .i64 a0_0, .int .i64 a0_1, .int .i64 a0_2] 34 (0, 0)) bk_) : gb435 ≠ gb434)); clear BK434; clear HB; have BK434 := n0_; have HB := n1_; have BK435 := n2_; have GW435 := n3_; have GE435 := n4_; have NB434_435 := n5_; have NB435_434 := n6_; clear n0_ n1_ n2_ n3_ n4_ n5_ n6_; clear hb hbox hg; have hnb13 := NB434_435.out; have hnc13 := NB435_434.out; obtain ⟨hcz14_0, hcz14_1, hcz14_2⟩ := zdT BK434.out; obtain ⟨hfz14_0, hfz14_1, hfz14_2⟩ := zqD BK434.out; obtain ⟨hcz15_0, hcz15_1, hcz15_2⟩ := zdT BK435.out; obtain ⟨hfz15_0, hfz15_1, hfz15_2⟩ := zqD BK435.out))
    go_ret
    exact ⟨by first | rfl | (simp [ziS, znJ] <;> rfl) | (simp [*, ziS, znJ] <;> rfl), bb_⟩
  ·rw [if_neg c4] at H
   have c4b0 : (a0_1 == a1_1) = false := beq_eq_false_iff_ne.mpr c4
   have c4b1 : (a0_1 != a1_1) = true := bne_iff_ne.mpr c4
   obtain rfl := Option.some.inj H
   go_enter Tryd.func43, Tryd.ntmps43
   go_wp2_with (first | ((with_reducible refine zpZ (N := 2) rfl ?_); refine bx_ 2 #[.int .i64 a0_0, .int .i64 a0_1, .int .i64 a0_2] 34 ?_; intro gb434 hg w16 hbox hb; have n0_ := (ns_ hb); have n1_ := zpS (hbox); have n2_ := (ng_ hg); have n3_ := n2_; clear HB; have HB := n0_; have BK434 := n1_; have GW434 := n2_; have GE434 := n3_; clear n0_ n1_ n2_ n3_; clear hb hbox hg) | ((with_reducible refine zpZ (N := 3) rfl ?_); refine bx_ 3 #[.int .i64 a1_0, .int .i64 a1_1, .int .i64 a1_2] 34 ?_; intro gb435 hg w17 hbox hb; have n0_ := zpS (zgM (g := gb434) (o := .cells #[.int .i64 a0_0, .int .i64 a0_1, .int .i64 a0_2] 34 (0, 0)) bk_ hb); have n1_ := (ns_ hb); have n2_ := zpS (hbox); have n3_ := (ng_ hg); have n4_ := n3_; have n5_ := zpS ((by rw [hg]; exact Nat.ne_of_lt (zmN (g := gb434) (o := .cells #[.int .i64 a0_0, .int .i64 a0_1, .int .i64 a0_2] 34 (0, 0)) bk_) : gb434 ≠ gb435)); have n6_ := zpS ((by rw [hg]; exact Nat.ne_of_gt (zmN (g := gb434) (o := .cells #[.int .i64 a0_0, .int .i64 a0_1, .int .i64 a0_2] 34 (0, 0)) bk_) : gb435 ≠ gb434)); clear BK434; clear HB; have BK434 := n0_; have HB := n1_; have BK435 := n2_; have GW435 := n3_; have GE435 := n4_; have NB434_435 := n5_; have NB435_434 := n6_; clear n0_ n1_ n2_ n3_ n4_ n5_ n6_; clear hb hbox hg; have hnb18 := NB434_435.out; have hnc18 := NB435_434.out; obtain ⟨hcz19_0, hcz19_1, hcz19_2⟩ := zdT BK434.out; obtain ⟨hfz19_0, hfz19_1, hfz19_2⟩ := zqD BK434.out; obtain ⟨hcz20_0, hcz20_1, hcz20_2⟩ := zdT BK435.out; obtain ⟨hfz20_0, hfz20_1, hfz20_2⟩ := zqD BK435.out))
   go_ret
   exact ⟨by first | rfl | (simp [ziS, znJ] <;> rfl) | (simp [*, ziS, znJ] <;> rfl), bb_⟩
 ·rw [if_neg c3] at H
  have c3b0 : (a0_0 == a1_0) = false := beq_eq_false_iff_ne.mpr c3
  have c3b1 : (a0_0 != a1_0) = true := bne_iff_ne.mpr c3
  obtain rfl := Option.some.inj H
  go_enter Tryd.func43, Tryd.ntmps43
  go_wp2_with (first | ((with_reducible refine zpZ (N := 2) rfl ?_); refine bx_ 2 #[.int .i64 a0_0, .int .i64 a0_1, .int .i64 a0_2] 34 ?_; intro gb434 hg w21 hbox hb; have n0_ := (ns_ hb); have n1_ := zpS (hbox); have n2_ := (ng_ hg); have n3_ := n2_; clear HB; have HB := n0_; have BK434 := n1_; have GW434 := n2_; have GE434 := n3_; clear n0_ n1_ n2_ n3_; clear hb hbox hg) | ((with_reducible refine zpZ (N := 3) rfl ?_); refine bx_ 3 #[.int .i64 a1_0, .int .i64 a1_1, .int .i64 a1_2] 34 ?_; intro gb435 hg w22 hbox hb; have n0_ := zpS (zgM (g := gb434) (o := .cells #[.int .i64 a0_0, .int .i64 a0_1, .int .i64 a0_2] 34 (0, 0)) bk_ hb); have n1_ := (ns_ hb); have n2_ := zpS (hbox); have n3_ := (ng_ hg); have n4_ := n3_; have n5_ := zpS ((by rw [hg]; exact Nat.ne_of_lt (zmN (g := gb434) (o := .cells #[.int .i64 a0_0, .int .i64 a0_1, .int .i64 a0_2] 34 (0, 0)) bk_) : gb434 ≠ gb435)); have n6_ := zpS ((by rw [hg]; exact Nat.ne_of_gt (zmN (g := gb434) (o := .cells #[.int .i64 a0_0, .int .i64 a0_1, .int .i64 a0_2] 34 (0, 0)) bk_) : gb435 ≠ gb434)); clear BK434; clear HB; have BK434 := n0_; have HB := n1_; have BK435 := n2_; have GW435 := n3_; have GE435 := n4_; have NB434_435 := n5_; have NB435_434 := n6_; clear n0_ n1_ n2_ n3_ n4_ n5_ n6_; clear hb hbox hg; have hnb23 := NB434_435.out; have hnc23 := NB435_434.out; obtain ⟨hcz24_0, hcz24_1, hcz24_2⟩ := zdT BK434.out; obtain ⟨hfz24_0, hfz24_1, hfz24_2⟩ := zqD BK434.out; obtain ⟨hcz25_0, hcz25_1, hcz25_2⟩ := zdT BK435.out; obtain ⟨hfz25_0, hfz25_1, hfz25_2⟩ := zqD BK435.out))
  go_ret
  exact ⟨by first | rfl | (simp [ziS, znJ] <;> rfl) | (simp [*, ziS, znJ] <;> rfl), bb_⟩

def zkR.f (a0_0 : Int) (a0_1 : Int) (a0_2 : Int) (a0_3 : Int) (a0_4 : Int) (a0_5 : Int) (a1_0 : Int) (a1_1 : Int) (a1_2 : Int) (a1_3 : Int) (a1_4 : Int) (a1_5 : Int) : Option (Bool) := (zaT.f a0_0 a0_1 a0_2 a1_0 a1_1 a1_2).bind fun t438 => (if t438 = true then ((zaT.f a0_3 a0_4 a0_5 a1_3 a1_4 a1_5).bind fun t439 => (if t439 = true then (some true) else (some false))) else (some false))
set_option maxHeartbeats 8000000 in
set_option maxRecDepth 100000 in
theorem zkR.calls (a0_0 : Int) (a0_1 : Int) (a0_2 : Int) (a0_3 : Int) (a0_4 : Int) (a0_5 : Int) (a1_0 : Int) (a1_1 : Int) (a1_2 : Int) (a1_3 : Int) (a1_4 : Int) (a1_5 : Int) (r : Bool) (w : World) (h : zkR.f a0_0 a0_1 a0_2 a0_3 a0_4 a0_5 a1_0 a1_1 a1_2 a1_3 a1_4 a1_5 = some r) :
  Calls Tryd.prog 49 #[.agg #[.int .i64 a0_0, .int .i64 a0_1, .int .i64 a0_2, .int .i64 a0_3, .int .i64 a0_4, .int .i64 a0_5], .agg #[.int .i64 a1_0, .int .i64 a1_1, .int .i64 a1_2, .int .i64 a1_3, .int .i64 a1_4, .int .i64 a1_5]] w fun e w' => e = .returned (.bool r) ∧ Below w.heap.size w w' := by
 have hu36 := Tryd.underlying36
 have hu34 := Tryd.underlying34
 have HB := zpS (Below.refl w.heap.size w)
 have H : ((zaT.f a0_0 a0_1 a0_2 a1_0 a1_1 a1_2).bind fun t438 => (if t438 = true then ((zaT.f a0_3 a0_4 a0_5 a1_3 a1_4 a1_5).bind fun t439 => (if t439 = true then (some true) else (some false))) else (some false))) = some r := h
 clear h
 replace H := Option.bind_eq_some_iff.mp H
 obtain ⟨t438, A30, H⟩ := H
 replace H : (if t438 = true then ((zaT.f a0_3 a0_4 a0_5 a1_3 a1_4 a1_5).bind fun t439 => (if t439 = true then (some true) else (some false))) else (some false)) = some r := H
 have A3 := zpS A30
 clear A30
 by_cases c4 : t438 = true
 ·subst c4
  have H1 : ((zaT.f a0_3 a0_4 a0_5 a1_3 a1_4 a1_5).bind fun t439 => (if t439 = true then (some true) else (some false))) = some r := by rw [if_pos rfl] at H; exact H
  clear H
  have H := H1
  clear H1
  replace H := Option.bind_eq_some_iff.mp H
  obtain ⟨t439, A50, H⟩ := H
  replace H : (if t439 = true then (some true) else (some false)) = some r := H
  have A5 := zpS A50
  clear A50
  by_cases c6 : t439 = true
  ·subst c6
   have H1 : (some true) = some r := by rw [if_pos rfl] at H; exact H
   clear H
   have H := H1
   clear H1
   obtain rfl := Option.some.inj H
   go_enter Tryd.func49, Tryd.ntmps49
   go_wp2_with (first | ((with_reducible refine zpZ (N := 2) rfl ?_); refine bx_ 2 #[.int .i64 a0_0, .int .i64 a0_1, .int .i64 a0_2, .int .i64 a0_3, .int .i64 a0_4, .int .i64 a0_5] 36 ?_; intro gb436 hg w7 hbox hb; have n0_ := (ns_ hb); have n1_ := zpS (hbox); have n2_ := (ng_ hg); have n3_ := n2_; clear HB; have HB := n0_; have BK436 := n1_; have GW436 := n2_; have GE436 := n3_; clear n0_ n1_ n2_ n3_; clear hb hbox hg) | ((with_reducible refine zpZ (N := 3) rfl ?_); refine bx_ 3 #[.int .i64 a1_0, .int .i64 a1_1, .int .i64 a1_2, .int .i64 a1_3, .int .i64 a1_4, .int .i64 a1_5] 36 ?_; intro gb437 hg w8 hbox hb; have n0_ := zpS (zgM (g := gb436) (o := .cells #[.int .i64 a0_0, .int .i64 a0_1, .int .i64 a0_2, .int .i64 a0_3, .int .i64 a0_4, .int .i64 a0_5] 36 (0, 0)) bk_ hb); have n1_ := (ns_ hb); have n2_ := zpS (hbox); have n3_ := (ng_ hg); have n4_ := n3_; have n5_ := zpS ((by rw [hg]; exact Nat.ne_of_lt (zmN (g := gb436) (o := .cells #[.int .i64 a0_0, .int .i64 a0_1, .int .i64 a0_2, .int .i64 a0_3, .int .i64 a0_4, .int .i64 a0_5] 36 (0, 0)) bk_) : gb436 ≠ gb437)); have n6_ := zpS ((by rw [hg]; exact Nat.ne_of_gt (zmN (g := gb436) (o := .cells #[.int .i64 a0_0, .int .i64 a0_1, .int .i64 a0_2, .int .i64 a0_3, .int .i64 a0_4, .int .i64 a0_5] 36 (0, 0)) bk_) : gb437 ≠ gb436)); clear BK436; clear HB; have BK436 := n0_; have HB := n1_; have BK437 := n2_; have GW437 := n3_; have GE437 := n4_; have NB436_437 := n5_; have NB437_436 := n6_; clear n0_ n1_ n2_ n3_ n4_ n5_ n6_; clear hb hbox hg; have hnb9 := NB436_437.out; have hnc9 := NB437_436.out; obtain ⟨hcz10_0, hcz10_1, hcz10_2, hcz10_3, hcz10_4, hcz10_5⟩ := zrN BK436.out; obtain ⟨hfz10_0, hfz10_1, hfz10_2, hfz10_3, hfz10_4, hfz10_5⟩ := zoQ BK436.out; obtain ⟨hcz11_0, hcz11_1, hcz11_2, hcz11_3, hcz11_4, hcz11_5⟩ := zrN BK437.out; obtain ⟨hfz11_0, hfz11_1, hfz11_2, hfz11_3, hfz11_4, hfz11_5⟩ := zoQ BK437.out) | ((with_reducible refine zgK (f := 43) rfl ?_); refine zqQ (some 9) rfl rfl Tryd.func43 (by kernel_rfl) rfl #[.agg #[.int .i64 a0_0, .int .i64 a0_1, .int .i64 a0_2], .agg #[.int .i64 a1_0, .int .i64 a1_1, .int .i64 a1_2]] rfl (by (try simp only [List.map_toArray, List.map_cons, List.map_nil]); first | done | rfl | (simp only [List.length_drop, List.length_take]; rfl)) ?_; (with_reducible refine (zaT.calls a0_0 a0_1 a0_2 a1_0 a1_1 a1_2 true _ A3.out).mono ?_); rintro e w12 ⟨rfl, hb⟩; refine ⟨_, rfl, ?_⟩; have n0_ := zpS (zgM (g := gb436) (o := .cells #[.int .i64 a0_0, .int .i64 a0_1, .int .i64 a0_2, .int .i64 a0_3, .int .i64 a0_4, .int .i64 a0_5] 36 (0, 0)) bk_ hb); have n1_ := zpS (zgM (g := gb437) (o := .cells #[.int .i64 a1_0, .int .i64 a1_1, .int .i64 a1_2, .int .i64 a1_3, .int .i64 a1_4, .int .i64 a1_5] 36 (0, 0)) bk_ hb); have n2_ := (ns_ hb); clear BK436; clear BK437; clear HB; have BK436 := n0_; have BK437 := n1_; have HB := n2_; clear n0_ n1_ n2_; (try clear hb); (try clear hb2); obtain ⟨hcz13_0, hcz13_1, hcz13_2, hcz13_3, hcz13_4, hcz13_5⟩ := zrN BK436.out; obtain ⟨hfz13_0, hfz13_1, hfz13_2, hfz13_3, hfz13_4, hfz13_5⟩ := zoQ BK436.out; obtain ⟨hcz14_0, hcz14_1, hcz14_2, hcz14_3, hcz14_4, hcz14_5⟩ := zrN BK437.out; obtain ⟨hfz14_0, hfz14_1, hfz14_2, hfz14_3, hfz14_4, hfz14_5⟩ := zoQ BK437.out) | ((with_reducible refine zgK (f := 43) rfl ?_); refine zqQ (some 15) rfl rfl Tryd.func43 (by kernel_rfl) rfl #[.agg #[.int .i64 a0_3, .int .i64 a0_4, .int .i64 a0_5], .agg #[.int .i64 a1_3, .int .i64 a1_4, .int .i64 a1_5]] rfl (by (try simp only [List.map_toArray, List.map_cons, List.map_nil]); first | done | rfl | (simp only [List.length_drop, List.length_take]; rfl)) ?_; (with_reducible refine (zaT.calls a0_3 a0_4 a0_5 a1_3 a1_4 a1_5 true _ A5.out).mono ?_); rintro e w15 ⟨rfl, hb⟩; refine ⟨_, rfl, ?_⟩; have n0_ := zpS (zgM (g := gb436) (o := .cells #[.int .i64 a0_0, .int .i64 a0_1, .int .i64 a0_2, .int .i64 a0_3, .int .i64 a0_4, .int .i64 a0_5] 36 (0, 0)) bk_ hb); have n1_ := zpS (zgM (g := gb437) (o := .cells #[.int .i64 a1_0, .int .i64 a1_1, .int .i64 a1_2, .int .i64 a1_3, .int .i64 a1_4, .int .i64 a1_5] 36 (0, 0)) bk_ hb); have n2_ := (ns_ hb); clear BK436; clear BK437; clear HB; have BK436 := n0_; have BK437 := n1_; have HB := n2_; clear n0_ n1_ n2_; (try clear hb); (try clear hb2)))
   go_ret
   exact ⟨by first | rfl | (simp [ziS, znJ] <;> rfl) | (simp [*, ziS, znJ] <;> rfl), bb_⟩
  ·replace c6 := Bool.eq_false_iff.mpr c6
   subst c6
   have H1 : (some false) = some r := by rw [if_neg (show ¬ (false = true) by decide)] at H; exact H
   clear H
   have H := H1
   clear H1
   obtain rfl := Option.some.inj H
   go_enter Tryd.func49, Tryd.ntmps49
   go_wp2_with (first | ((with_reducible refine zpZ (N := 2) rfl ?_); refine bx_ 2 #[.int .i64 a0_0, .int .i64 a0_1, .int .i64 a0_2, .int .i64 a0_3, .int .i64 a0_4, .int .i64 a0_5] 36 ?_; intro gb436 hg w16 hbox hb; have n0_ := (ns_ hb); have n1_ := zpS (hbox); have n2_ := (ng_ hg); have n3_ := n2_; clear HB; have HB := n0_; have BK436 := n1_; have GW436 := n2_; have GE436 := n3_; clear n0_ n1_ n2_ n3_; clear hb hbox hg) | ((with_reducible refine zpZ (N := 3) rfl ?_); refine bx_ 3 #[.int .i64 a1_0, .int .i64 a1_1, .int .i64 a1_2, .int .i64 a1_3, .int .i64 a1_4, .int .i64 a1_5] 36 ?_; intro gb437 hg w17 hbox hb; have n0_ := zpS (zgM (g := gb436) (o := .cells #[.int .i64 a0_0, .int .i64 a0_1, .int .i64 a0_2, .int .i64 a0_3, .int .i64 a0_4, .int .i64 a0_5] 36 (0, 0)) bk_ hb); have n1_ := (ns_ hb); have n2_ := zpS (hbox); have n3_ := (ng_ hg); have n4_ := n3_; have n5_ := zpS ((by rw [hg]; exact Nat.ne_of_lt (zmN (g := gb436) (o := .cells #[.int .i64 a0_0, .int .i64 a0_1, .int .i64 a0_2, .int .i64 a0_3, .int .i64 a0_4, .int .i64 a0_5] 36 (0, 0)) bk_) : gb436 ≠ gb437)); have n6_ := zpS ((by rw [hg]; exact Nat.ne_of_gt (zmN (g := gb436) (o := .cells #[.int .i64 a0_0, .int .i64 a0_1, .int .i64 a0_2, .int .i64 a0_3, .int .i64 a0_4, .int .i64 a0_5] 36 (0, 0)) bk_) : gb437 ≠ gb436)); clear BK436; clear HB; have BK436 := n0_; have HB := n1_; have BK437 := n2_; have GW437 := n3_; have GE437 := n4_; have NB436_437 := n5_; have NB437_436 := n6_; clear n0_ n1_ n2_ n3_ n4_ n5_ n6_; clear hb hbox hg; have hnb18 := NB436_437.out; have hnc18 := NB437_436.out; obtain ⟨hcz19_0, hcz19_1, hcz19_2, hcz19_3, hcz19_4, hcz19_5⟩ := zrN BK436.out; obtain ⟨hfz19_0, hfz19_1, hfz19_2, hfz19_3, hfz19_4, hfz19_5⟩ := zoQ BK436.out; obtain ⟨hcz20_0, hcz20_1, hcz20_2, hcz20_3, hcz20_4, hcz20_5⟩ := zrN BK437.out; obtain ⟨hfz20_0, hfz20_1, hfz20_2, hfz20_3, hfz20_4, hfz20_5⟩ := zoQ BK437.out) | ((with_reducible refine zgK (f := 43) rfl ?_); refine zqQ (some 9) rfl rfl Tryd.func43 (by kernel_rfl) rfl #[.agg #[.int .i64 a0_0, .int .i64 a0_1, .int .i64 a0_2], .agg #[.int .i64 a1_0, .int .i64 a1_1, .int .i64 a1_2]] rfl (by (try simp only [List.map_toArray, List.map_cons, List.map_nil]); first | done | rfl | (simp only [List.length_drop, List.length_take]; rfl)) ?_; (with_reducible refine (zaT.calls a0_0 a0_1 a0_2 a1_0 a1_1 a1_2 true _ A3.out).mono ?_); rintro e w21 ⟨rfl, hb⟩; refine ⟨_, rfl, ?_⟩; have n0_ := zpS (zgM (g := gb436) (o := .cells #[.int .i64 a0_0, .int .i64 a0_1, .int .i64 a0_2, .int .i64 a0_3, .int .i64 a0_4, .int .i64 a0_5] 36 (0, 0)) bk_ hb); have n1_ := zpS (zgM (g := gb437) (o := .cells #[.int .i64 a1_0, .int .i64 a1_1, .int .i64 a1_2, .int .i64 a1_3, .int .i64 a1_4, .int .i64 a1_5] 36 (0, 0)) bk_ hb); have n2_ := (ns_ hb); clear BK436; clear BK437; clear HB; have BK436 := n0_; have BK437 := n1_; have HB := n2_; clear n0_ n1_ n2_; (try clear hb); (try clear hb2); obtain ⟨hcz22_0, hcz22_1, hcz22_2, hcz22_3, hcz22_4, hcz22_5⟩ := zrN BK436.out; obtain ⟨hfz22_0, hfz22_1, hfz22_2, hfz22_3, hfz22_4, hfz22_5⟩ := zoQ BK436.out; obtain ⟨hcz23_0, hcz23_1, hcz23_2, hcz23_3, hcz23_4, hcz23_5⟩ := zrN BK437.out; obtain ⟨hfz23_0, hfz23_1, hfz23_2, hfz23_3, hfz23_4, hfz23_5⟩ := zoQ BK437.out) | ((with_reducible refine zgK (f := 43) rfl ?_); refine zqQ (some 15) rfl rfl Tryd.func43 (by kernel_rfl) rfl #[.agg #[.int .i64 a0_3, .int .i64 a0_4, .int .i64 a0_5], .agg #[.int .i64 a1_3, .int .i64 a1_4, .int .i64 a1_5]] rfl (by (try simp only [List.map_toArray, List.map_cons, List.map_nil]); first | done | rfl | (simp only [List.length_drop, List.length_take]; rfl)) ?_; (with_reducible refine (zaT.calls a0_3 a0_4 a0_5 a1_3 a1_4 a1_5 false _ A5.out).mono ?_); rintro e w24 ⟨rfl, hb⟩; refine ⟨_, rfl, ?_⟩; have n0_ := zpS (zgM (g := gb436) (o := .cells #[.int .i64 a0_0, .int .i64 a0_1, .int .i64 a0_2, .int .i64 a0_3, .int .i64 a0_4, .int .i64 a0_5] 36 (0, 0)) bk_ hb); have n1_ := zpS (zgM (g := gb437) (o := .cells #[.int .i64 a1_0, .int .i64 a1_1, .int .i64 a1_2, .int .i64 a1_3, .int .i64 a1_4, .int .i64 a1_5] 36 (0, 0)) bk_ hb); have n2_ := (ns_ hb); clear BK436; clear BK437; clear HB; have BK436 := n0_; have BK437 := n1_; have HB := n2_; clear n0_ n1_ n2_; (try clear hb); (try clear hb2)))
   go_ret
   exact ⟨by first | rfl | (simp [ziS, znJ] <;> rfl) | (simp [*, ziS, znJ] <;> rfl), bb_⟩
 ·replace c4 := Bool.eq_false_iff.mpr c4
  subst c4
  have H1 : (some false) = some r := by rw [if_neg (show ¬ (false = true) by decide)] at H; exact H
  clear H
  have H := H1
  clear H1
  obtain rfl := Option.some.inj H
  go_enter Tryd.func49, Tryd.ntmps49
  go_wp2_with (first | ((with_reducible refine zpZ (N := 2) rfl ?_); refine bx_ 2 #[.int .i64 a0_0, .int .i64 a0_1, .int .i64 a0_2, .int .i64 a0_3, .int .i64 a0_4, .int .i64 a0_5] 36 ?_; intro gb436 hg w25 hbox hb; have n0_ := (ns_ hb); have n1_ := zpS (hbox); have n2_ := (ng_ hg); have n3_ := n2_; clear HB; have HB := n0_; have BK436 := n1_; have GW436 := n2_; have GE436 := n3_; clear n0_ n1_ n2_ n3_; clear hb hbox hg) | ((with_reducible refine zpZ (N := 3) rfl ?_); refine bx_ 3 #[.int .i64 a1_0, .int .i64 a1_1, .int .i64 a1_2, .int .i64 a1_3, .int .i64 a1_4, .int .i64 a1_5] 36 ?_; intro gb437 hg w26 hbox hb; have n0_ := zpS (zgM (g := gb436) (o := .cells #[.int .i64 a0_0, .int .i64 a0_1, .int .i64 a0_2, .int .i64 a0_3, .int .i64 a0_4, .int .i64 a0_5] 36 (0, 0)) bk_ hb); have n1_ := (ns_ hb); have n2_ := zpS (hbox); have n3_ := (ng_ hg); have n4_ := n3_; have n5_ := zpS ((by rw [hg]; exact Nat.ne_of_lt (zmN (g := gb436) (o := .cells #[.int .i64 a0_0, .int .i64 a0_1, .int .i64 a0_2, .int .i64 a0_3, .int .i64 a0_4, .int .i64 a0_5] 36 (0, 0)) bk_) : gb436 ≠ gb437)); have n6_ := zpS ((by rw [hg]; exact Nat.ne_of_gt (zmN (g := gb436) (o := .cells #[.int .i64 a0_0, .int .i64 a0_1, .int .i64 a0_2, .int .i64 a0_3, .int .i64 a0_4, .int .i64 a0_5] 36 (0, 0)) bk_) : gb437 ≠ gb436)); clear BK436; clear HB; have BK436 := n0_; have HB := n1_; have BK437 := n2_; have GW437 := n3_; have GE437 := n4_; have NB436_437 := n5_; have NB437_436 := n6_; clear n0_ n1_ n2_ n3_ n4_ n5_ n6_; clear hb hbox hg; have hnb27 := NB436_437.out; have hnc27 := NB437_436.out; obtain ⟨hcz28_0, hcz28_1, hcz28_2, hcz28_3, hcz28_4, hcz28_5⟩ := zrN BK436.out; obtain ⟨hfz28_0, hfz28_1, hfz28_2, hfz28_3, hfz28_4, hfz28_5⟩ := zoQ BK436.out; obtain ⟨hcz29_0, hcz29_1, hcz29_2, hcz29_3, hcz29_4, hcz29_5⟩ := zrN BK437.out; obtain ⟨hfz29_0, hfz29_1, hfz29_2, hfz29_3, hfz29_4, hfz29_5⟩ := zoQ BK437.out) | ((with_reducible refine zgK (f := 43) rfl ?_); refine zqQ (some 9) rfl rfl Tryd.func43 (by kernel_rfl) rfl #[.agg #[.int .i64 a0_0, .int .i64 a0_1, .int .i64 a0_2], .agg #[.int .i64 a1_0, .int .i64 a1_1, .int .i64 a1_2]] rfl (by (try simp only [List.map_toArray, List.map_cons, List.map_nil]); first | done | rfl | (simp only [List.length_drop, List.length_take]; rfl)) ?_; (with_reducible refine (zaT.calls a0_0 a0_1 a0_2 a1_0 a1_1 a1_2 false _ A3.out).mono ?_); rintro e w30 ⟨rfl, hb⟩; refine ⟨_, rfl, ?_⟩; have n0_ := zpS (zgM (g := gb436) (o := .cells #[.int .i64 a0_0, .int .i64 a0_1, .int .i64 a0_2, .int .i64 a0_3, .int .i64 a0_4, .int .i64 a0_5] 36 (0, 0)) bk_ hb); have n1_ := zpS (zgM (g := gb437) (o := .cells #[.int .i64 a1_0, .int .i64 a1_1, .int .i64 a1_2, .int .i64 a1_3, .int .i64 a1_4, .int .i64 a1_5] 36 (0, 0)) bk_ hb); have n2_ := (ns_ hb); clear BK436; clear BK437; clear HB; have BK436 := n0_; have BK437 := n1_; have HB := n2_; clear n0_ n1_ n2_; (try clear hb); (try clear hb2)))
  go_ret
  exact ⟨by first | rfl | (simp [ziS, znJ] <;> rfl) | (simp [*, ziS, znJ] <;> rfl), bb_⟩

end Go.Proofs.YtmajpmofeddknaaDoor.PFnExactValidPlaces
