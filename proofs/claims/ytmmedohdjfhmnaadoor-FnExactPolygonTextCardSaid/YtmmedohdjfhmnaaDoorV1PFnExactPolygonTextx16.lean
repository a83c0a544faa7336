-- Printed for this claim by this session's program pp.py, which drives the kit's print with additions. Not trusted: Lean checks it.
import Derived.Test.YtmmedohdjfhmnaaDoorV1PFnExactPolygonTextx0
import Derived.Test.YtmmedohdjfhmnaaDoorV1PFnExactPolygonTextx10
import Derived.Test.YtmmedohdjfhmnaaDoorV1PFnExactPolygonTextx11
import Derived.Test.YtmmedohdjfhmnaaDoorV1PFnExactPolygonTextx12
import Derived.Test.YtmmedohdjfhmnaaDoorV1PFnExactPolygonTextx13
import Derived.Test.YtmmedohdjfhmnaaDoorV1PFnExactPolygonTextx15
namespace Go.Proofs.YtmmedohdjfhmnaaDoor.PFnExactPolygonText
open Go.RowKit Go.Proofs.YtmmedohdjfhmnaaDoorW.PrintWords Go.Proofs.YtmmedohdjfhmnaaDoorW.PrintLast Go.Proofs.YtmmedohdjfhmnaaDoorW.PrintMore
attribute [local go_sem] zbB ziC zrC zhD znE zuB znH zkT   -- for this text's walks alone
set_option linter.unusedVariables false
set_option linter.unusedSimpArgs false

def ziA.f (k : Nat) (a0_0 : Int) (a0_1 : Int) (a0_2 : Int) (a1_0 : Int) (a1_1 : Int) (a1_2 : Int) : Option (Int) := (zpR.f k a0_0 a0_1 a0_2 a1_0 a1_1 a1_2).bind fun bt428 => ((zyE.f k bt428.1 bt428.2.1 bt428.2.2).bind fun t431 => (some t431))
theorem ziA.mono : ∀ a0 a1 a2 a3 a4 a5 k, LeO (ziA.f k a0 a1 a2 a3 a4 a5) (ziA.f (k + 1) a0 a1 a2 a3 a4 a5) := by
 intro a0 a1 a2 a3 a4 a5 k
 unfold ziA.f
 repeat' first
   | (with_reducible exact zpR.mono _ _ _ _ _ _ _)
   | (with_reducible exact zyE.mono _ _ _ _)
   | (with_reducible exact LeO.refl _)
   | (with_reducible exact LeO.none _)
   | (with_reducible refine LeO.ite ?_ ?_)
   | (with_reducible refine LeO.bind ?_ (fun _ => ?_))
   | exact zpR.mono _ _ _ _ _ _ _
   | exact zyE.mono _ _ _ _
   | exact LeO.none _
   | refine LeO.ite ?_ ?_
   | refine LeO.bind ?_ (fun _ => ?_)
set_option maxHeartbeats 8000000 in
set_option maxRecDepth 100000 in
theorem ziA.calls (k : Nat) (a0_0 : Int) (a0_1 : Int) (a0_2 : Int) (a1_0 : Int) (a1_1 : Int) (a1_2 : Int) (r : Int) (w : World) (h : ziA.f k a0_0 a0_1 a0_2 a1_0 a1_1 a1_2 = some r) :
  Calls Tryd.prog 60 #[.agg #[.int .i64 a0_0, .int .i64 a0_1, .int .i64 a0_2], .agg #[.int .i64 a1_0, .int .i64 a1_1, .int .i64 a1_2]] w fun e w' => e = .returned (.int .i64 r) ∧ Below w.heap.size w w' := by
 have hu31 := Tryd.underlying31
 have HB := zpS (Below.refl w.heap.size w)
 have H : ((zpR.f k a0_0 a0_1 a0_2 a1_0 a1_1 a1_2).bind fun bt428 => ((zyE.f k bt428.1 bt428.2.1 bt428.2.2).bind fun t431 => (some t431))) = some r := h
 clear h
 replace H := Option.bind_eq_some_iff.mp H
 obtain ⟨⟨t428, t429, t430⟩, A30, H⟩ := H
 replace H : ((zyE.f k t428 t429 t430).bind fun t431 => (some t431)) = some r := H
 have A3 := zpS A30
 clear A30
 replace H := Option.bind_eq_some_iff.mp H
 obtain ⟨t431, A40, H⟩ := H
 replace H : (some t431) = some r := H
 have A4 := zpS A40
 clear A40
 obtain rfl := Option.some.inj H
 go_enter Tryd.func60, Tryd.ntmps60
 go_wp2_with (first | ((with_reducible refine zpZ (N := 2) rfl ?_); refine bx_ 2 #[.int .i64 a0_0, .int .i64 a0_1, .int .i64 a0_2] 31 ?_; intro gb426 hg w5 hbox hb; have n0_ := (ns_ hb); have n1_ := zpS (hbox); have n2_ := (ng_ hg); have n3_ := n2_; clear HB; have HB := n0_; have BK426 := n1_; have GW426 := n2_; have GE426 := n3_; clear n0_ n1_ n2_ n3_; clear hb hbox hg) | ((with_reducible refine zpZ (N := 3) rfl ?_); refine bx_ 3 #[.int .i64 a1_0, .int .i64 a1_1, .int .i64 a1_2] 31 ?_; intro gb427 hg w6 hbox hb; have n0_ := zpS (zgM (g := gb426) (o := .cells #[.int .i64 a0_0, .int .i64 a0_1, .int .i64 a0_2] 31 (0, 0)) bk_ hb); have n1_ := (ns_ hb); have n2_ := zpS (hbox); have n3_ := (ng_ hg); have n4_ := n3_; have n5_ := zpS ((by rw [hg]; exact Nat.ne_of_lt (zmN (g := gb426) (o := .cells #[.int .i64 a0_0, .int .i64 a0_1, .int .i64 a0_2] 31 (0, 0)) bk_) : gb426 ≠ gb427)); have n6_ := zpS ((by rw [hg]; exact Nat.ne_of_gt (zmN (g := gb426) (o := .cells #[.int .i64 a0_0, .int .i64 a0_1, .int .i64 a0_2] 31 (0, 0)) bk_) : gb427 ≠ gb426)); clear BK426; clear HB; have BK426 := n0_; have HB := n1_; have BK427 := n2_; have GW427 := n3_; have GE427 := n4_; have NB426_427 := n5_; have NB427_426 := n6_; clear n0_ n1_ n2_ n3_ n4_ n5_ n6_; clear hb hbox hg; have hnb7 := NB426_427.out; have hnc7 := NB427_426.out; obtain ⟨hcz8_0, hcz8_1, hcz8_2⟩ := zdT BK426.out; obtain ⟨hfz8_0, hfz8_1, hfz8_2⟩ := zqD BK426.out; obtain ⟨hcz9_0, hcz9_1, hcz9_2⟩ := zdT BK427.out; obtain ⟨hfz9_0, hfz9_1, hfz9_2⟩ := zqD BK427.out) | ((with_reducible refine zgK (f := 70) rfl ?_); refine zqQ (some 7) rfl rfl Tryd.func70 (by kernel_rfl) rfl #[.agg #[.int .i64 a0_0, .int .i64 a0_1, .int .i64 a0_2], .agg #[.int .i64 a1_0, .int .i64 a1_1, .int .i64 a1_2]] rfl (by (try simp only [List.map_toArray, List.map_cons, List.map_nil]); first | done | rfl | (simp only [List.length_drop, List.length_take]; rfl)) ?_; (with_reducible refine (zpR.calls k a0_0 a0_1 a0_2 a1_0 a1_1 a1_2 t428 t429 t430 _ A3.out).mono ?_); rintro e w10 ⟨rfl, hb⟩; refine ⟨_, rfl, ?_⟩; have n0_ := zpS (zgM (g := gb426) (o := .cells #[.int .i64 a0_0, .int .i64 a0_1, .int .i64 a0_2] 31 (0, 0)) bk_ hb); have n1_ := zpS (zgM (g := gb427) (o := .cells #[.int .i64 a1_0, .int .i64 a1_1, .int .i64 a1_2] 31 (0, 0)) bk_ hb); have n2_ := (ns_ hb); clear BK426; clear BK427; clear HB; have BK426 := n0_; have BK427 := n1_; have HB := n2_; clear n0_ n1_ n2_; (try clear hb); (try clear hb2)) | ((with_reducible refine zgK (f := 59) rfl ?_); refine zqQ (some 8) rfl rfl Tryd.func59 (by kernel_rfl) rfl #[.agg #[.int .i64 t428, .int .i64 t429, .int .i64 t430]] rfl (by (try simp only [List.map_toArray, List.map_cons, List.map_nil]); first | done | rfl | (simp only [List.length_drop, List.length_take]; rfl)) ?_; (with_reducible refine (zyE.calls k t428 t429 t430 t431 _ A4.out).mono ?_); rintro e w11 ⟨rfl, hb⟩; refine ⟨_, rfl, ?_⟩; have n0_ := zpS (zgM (g := gb426) (o := .cells #[.int .i64 a0_0, .int .i64 a0_1, .int .i64 a0_2] 31 (0, 0)) bk_ hb); have n1_ := zpS (zgM (g := gb427) (o := .cells #[.int .i64 a1_0, .int .i64 a1_1, .int .i64 a1_2] 31 (0, 0)) bk_ hb); have n2_ := (ns_ hb); clear BK426; clear BK427; clear HB; have BK426 := n0_; have BK427 := n1_; have HB := n2_; clear n0_ n1_ n2_; (try clear hb); (try clear hb2)))
 go_ret
 exact ⟨by first | rfl | (simp [ziS, znJ] <;> rfl) | (simp [*, ziS, znJ] <;> rfl), bb_⟩

def zmC.f (k : Nat) (a0_0 : Int) (a0_1 : Int) (a0_2 : Int) (a0_3 : Int) (a0_4 : Int) (a0_5 : Int) (a1_0 : Int) (a1_1 : Int) (a1_2 : Int) (a1_3 : Int) (a1_4 : Int) (a1_5 : Int) : Option (Int) := (ziA.f k a0_0 a0_1 a0_2 a1_0 a1_1 a1_2).bind fun t434 => (if t434 = 0 then ((ziA.f k a0_3 a0_4 a0_5 a1_3 a1_4 a1_5).bind fun t435 => (some t435)) else (some t434))
theorem zmC.mono : ∀ a0 a1 a2 a3 a4 a5 a6 a7 a8 a9 a10 a11 k, LeO (zmC.f k a0 a1 a2 a3 a4 a5 a6 a7 a8 a9 a10 a11) (zmC.f (k + 1) a0 a1 a2 a3 a4 a5 a6 a7 a8 a9 a10 a11) := by
 intro a0 a1 a2 a3 a4 a5 a6 a7 a8 a9 a10 a11 k
 unfold zmC.f
 repeat' first
   | (with_reducible exact ziA.mono _ _ _ _ _ _ _)
   | (with_reducible exact LeO.refl _)
   | (with_reducible exact LeO.none _)
   | (with_reducible refine LeO.ite ?_ ?_)
   | (with_reducible refine LeO.bind ?_ (fun _ => ?_))
   | exact ziA.mono _ _ _ _ _ _ _
   | exact LeO.none _
   | refine LeO.ite ?_ ?_
   | refine LeO.bind ?_ (fun _ => ?_)
set_option maxHeartbeats 8000000 in
set_option maxRecDepth 100000 in
theorem zmC.calls (k : Nat) (a0_0 : Int) (a0_1 : Int) (a0_2 : Int) (a0_3 : Int) (a0_4 : Int) (a0_5 : Int) (a1_0 : Int) (a1_1 : Int) (a1_2 : Int) (a1_3 : Int) (a1_4 : Int) (a1_5 : Int) (r : Int) (w : World) (h : zmC.f k a0_0 a0_1 a0_2 a0_3 a0_4 a0_5 a1_0 a1_1 a1_2 a1_3 a1_4 a1_5 = some r) :
  Calls Tryd.prog 42 #[.agg #[.int .i64 a0_0, .int .i64 a0_1, .int .i64 a0_2, .int .i64 a0_3, .int .i64 a0_4, .int .i64 a0_5], .agg #[.int .i64 a1_0, .int .i64 a1_1, .int .i64 a1_2, .int .i64 a1_3, .int .i64 a1_4, .int .i64 a1_5]] w fun e w' => e = .returned (.int .i64 r) ∧ Below w.heap.size w w' := by
 have hu33 := Tryd.underlying33
 have hu31 := Tryd.underlying31
 have HB := zpS (Below.refl w.heap.size w)
 have H : ((ziA.f k a0_0 a0_1 a0_2 a1_0 a1_1 a1_2).bind fun t434 => (if t434 = 0 then ((ziA.f k a0_3 a0_4 a0_5 a1_3 a1_4 a1_5).bind fun t435 => (some t435)) else (some t434))) = some r := h
 clear h
 replace H := Option.bind_eq_some_iff.mp H
 obtain ⟨t434, A30, H⟩ := H
 replace H : (if t434 = 0 then ((ziA.f k a0_3 a0_4 a0_5 a1_3 a1_4 a1_5).bind fun t435 => (some t435)) else (some t434)) = some r := H
 have A3 := zpS A30
 clear A30
 by_cases c4 : t434 = 0
 ·rw [if_pos c4] at H
  have c4b0 : (t434 == 0) = true := beq_iff_eq.mpr c4
  have c4b1 : (t434 != 0) = false := bne_eq_false_iff_eq.mpr c4
  clear c4
  replace H := Option.bind_eq_some_iff.mp H
  obtain ⟨t435, A50, H⟩ := H
  replace H : (some t435) = some r := H
  have A5 := zpS A50
  clear A50
  obtain rfl := Option.some.inj H
  go_enter Tryd.func42, Tryd.ntmps42
  go_wp2_with (first | ((with_reducible refine zpZ (N := 2) rfl ?_); refine bx_ 2 #[.int .i64 a0_0, .int .i64 a0_1, .int .i64 a0_2, .int .i64 a0_3, .int .i64 a0_4, .int .i64 a0_5] 33 ?_; intro gb432 hg w6 hbox hb; have n0_ := (ns_ hb); have n1_ := zpS (hbox); have n2_ := (ng_ hg); have n3_ := n2_; clear HB; have HB := n0_; have BK432 := n1_; have GW432 := n2_; have GE432 := n3_; clear n0_ n1_ n2_ n3_; clear hb hbox hg) | ((with_reducible refine zpZ (N := 3) rfl ?_); refine bx_ 3 #[.int .i64 a1_0, .int .i64 a1_1, .int .i64 a1_2, .int .i64 a1_3, .int .i64 a1_4, .int .i64 a1_5] 33 ?_; intro gb433 hg w7 hbox hb; have n0_ := zpS (zgM (g := gb432) (o := .cells #[.int .i64 a0_0, .int .i64 a0_1, .int .i64 a0_2, .int .i64 a0_3, .int .i64 a0_4, .int .i64 a0_5] 33 (0, 0)) bk_ hb); have n1_ := (ns_ hb); have n2_ := zpS (hbox); have n3_ := (ng_ hg); have n4_ := n3_; have n5_ := zpS ((by rw [hg]; exact Nat.ne_of_lt (zmN (g := gb432) (o := .cells #[.int .i64 a0_0, .int .i64 a0_1, .int .i64 a0_2, .int .i64 a0_3, .int .i64 a0_4, .int .i64 a0_5] 33 (0, 0)) bk_) : gb432 ≠ gb433)); have n6_ := zpS ((by rw [hg]; exact Nat.ne_of_gt (zmN (g := gb432) (o := .cells #[.int .i64 a0_0, .int .i64 a0_1, .int .i64 a0_2, .int .i64 a0_3, .int .i64 a0_4, .int .i64 a0_5] 33 (0, 0)) bk_) : gb433 ≠ gb432)); clear BK432; clear HB; have BK432 := n0_; have HB := n1_; have BK433 := n2_; have GW433 := n3_; have GE433 := n4_; have NB432_433 := n5_; have NB433_432 := n6_; clear n0_ n1_ n2_ n3_ n4_ n5_ n6_; clear hb hbox hg; have hnb8 := NB432_433.out; have hnc8 := NB433_432.out; obtain ⟨hcz9_0, hcz9_1, hcz9_2, hcz9_3, hcz9_4, hcz9_5⟩ := zrN BK432.out; obtain ⟨hfz9_0, hfz9_1, hfz9_2, hfz9_3, hfz9_4, hfz9_5⟩ := zoO BK432.out; obtain ⟨hcz10_0, hcz10_1, hcz10_2, hcz10_3, hcz10_4, hcz10_5⟩ := zrN BK433.out; obtain ⟨hfz10_0, hfz10_1, hfz10_2, hfz10_3, hfz10_4, hfz10_5⟩ := zoO BK433.out) | ((with_reducible refine zgK (f := 60) rfl ?_); refine zqQ (some 10) rfl rfl Tryd.func60 (by kernel_rfl) rfl #[.agg #[.int .i64 a0_0, .int .i64 a0_1, .int .i64 a0_2], .agg #[.int .i64 a1_0, .int .i64 a1_1, .int .i64 a1_2]] rfl (by (try simp only [List.map_toArray, List.map_cons, List.map_nil]); first | done | rfl | (simp only [List.length_drop, List.length_take]; rfl)) ?_; (with_reducible refine (ziA.calls k a0_0 a0_1 a0_2 a1_0 a1_1 a1_2 t434 _ A3.out).mono ?_); rintro e w11 ⟨rfl, hb⟩; refine ⟨_, rfl, ?_⟩; have n0_ := zpS (zgM (g := gb432) (o := .cells #[.int .i64 a0_0, .int .i64 a0_1, .int .i64 a0_2, .int .i64 a0_3, .int .i64 a0_4, .int .i64 a0_5] 33 (0, 0)) bk_ hb); have n1_ := zpS (zgM (g := gb433) (o := .cells #[.int .i64 a1_0, .int .i64 a1_1, .int .i64 a1_2, .int .i64 a1_3, .int .i64 a1_4, .int .i64 a1_5] 33 (0, 0)) bk_ hb); have n2_ := (ns_ hb); clear BK432; clear BK433; clear HB; have BK432 := n0_; have BK433 := n1_; have HB := n2_; clear n0_ n1_ n2_; (try clear hb); (try clear hb2); obtain ⟨hcz12_0, hcz12_1, hcz12_2, hcz12_3, hcz12_4, hcz12_5⟩ := zrN BK432.out; obtain ⟨hfz12_0, hfz12_1, hfz12_2, hfz12_3, hfz12_4, hfz12_5⟩ := zoO BK432.out; obtain ⟨hcz13_0, hcz13_1, hcz13_2, hcz13_3, hcz13_4, hcz13_5⟩ := zrN BK433.out; obtain ⟨hfz13_0, hfz13_1, hfz13_2, hfz13_3, hfz13_4, hfz13_5⟩ := zoO BK433.out) | ((with_reducible refine zgK (f := 60) rfl ?_); refine zqQ (some 18) rfl rfl Tryd.func60 (by kernel_rfl) rfl #[.agg #[.int .i64 a0_3, .int .i64 a0_4, .int .i64 a0_5], .agg #[.int .i64 a1_3, .int .i64 a1_4, .int .i64 a1_5]] rfl (by (try simp only [List.map_toArray, List.map_cons, List.map_nil]); first | done | rfl | (simp only [List.length_drop, List.length_take]; rfl)) ?_; (with_reducible refine (ziA.calls k a0_3 a0_4 a0_5 a1_3 a1_4 a1_5 t435 _ A5.out).mono ?_); rintro e w14 ⟨rfl, hb⟩; refine ⟨_, rfl, ?_⟩; have n0_ := zpS (zgM (g := gb432) (o := .cells #[.int .i64 a0_0, .int .i64 a0_1, .int .i64 a0_2, .int .i64 a0_3, .int .i64 a0_4, .int .i64 a0_5] 33 (0, 0)) bk_ hb); have n1_ := zpS (zgM (g := gb433) (o := .cells #[.int .i64 a1_0, .int .i64 a1_1, .int .i64 a1_2, .int .i64 a1_3, .int .i64 a1_4, .int .i64 a1_5] 33 (0, 0)) bk_ hb); have n2_ := (ns_ hb); clear BK432; clear BK433; clear HB; have BK432 := n0_; have BK433 := n1_; have HB := n2_; clear n0_ n1_ n2_; (try clear hb); (try clear hb2)))
  go_ret
  exact ⟨by first | rfl | (simp [ziS, znJ] <;> rfl) | (simp [*, ziS, znJ] <;> rfl), bb_⟩
 ·rw [if_neg c4] at H
  have c4b0 : (t434 == 0) = false := beq_eq_false_iff_ne.mpr c4
  have c4b1 : (t434 != 0) = true := bne_iff_ne.mpr c4
  obtain rfl := Option.some.inj H
  go_enter Tryd.func42, Tryd.ntmps42
  go_wp2_with (first | ((with_reducible refine zpZ (N := 2) rfl ?_); refine bx_ 2 #[.int .i64 a0_0, .int .i64 a0_1, .int .i64 a0_2, .int .i64 a0_3, .int .i64 a0_4, .int .i64 a0_5] 33 ?_; intro gb432 hg w15 hbox hb; have n0_ := (ns_ hb); have n1_ := zpS (hbox); have n2_ := (ng_ hg); have n3_ := n2_; clear HB; have HB := n0_; have BK432 := n1_; have GW432 := n2_; have GE432 := n3_; clear n0_ n1_ n2_ n3_; clear hb hbox hg) | ((with_reducible refine zpZ (N := 3) rfl ?_); refine bx_ 3 #[.int .i64 a1_0, .int .i64 a1_1, .int .i64 a1_2, .int .i64 a1_3, .int .i64 a1_4, .int .i64 a1_5] 33 ?_; intro gb433 hg w16 hbox hb; have n0_ := zpS (zgM (g := gb432) (o := .cells #[.int .i64 a0_0, .int .i64 a0_1, .int .i64 a0_2, .int .i64 a0_3, .int .i64 a0_4, .int .i64 a0_5] 33 (0, 0)) bk_ hb); have n1_ := (ns_ hb); have n2_ := zpS (hbox); have n3_ := (ng_ hg); have n4_ := n3_; have n5_ := zpS ((by rw [hg]; exact Nat.ne_of_lt (zmN (g := gb432) (o := .cells #[.int .i64 a0_0, .int .i64 a0_1, .int .i64 a0_2, .int .i64 a0_3, .int .i64 a0_4, .int .i64 a0_5] 33 (0, 0)) bk_) : gb432 ≠ gb433)); have n6_ := zpS ((by rw [hg]; exact Nat.ne_of_gt (zmN (g := gb432) (o := .cells #[.int .i64 a0_0, .int .i64 a0_1, .int .i64 a0_2, .int .i64 a0_3, .int .i64 a0_4, .int .i64 a0_5] 33 (0, 0)) bk_) : gb433 ≠ gb432)); clear BK432; clear HB; have BK432 := n0_; have HB := n1_; have BK433 := n2_; have GW433 := n3_; have GE433 := n4_; have NB432_433 := n5_; have NB433_432 := n6_; clear n0_ n1_ n2_ n3_ n4_ n5_ n6_; clear hb hbox hg; have hnb17 := NB432_433.out; have hnc17 := NB433_432.out; obtain ⟨hcz18_0, hcz18_1, hcz18_2, hcz18_3, hcz18_4, hcz18_5⟩ := zrN BK432.out; obtain ⟨hfz18_0, hfz18_1, hfz18_2, hfz18_3, hfz18_4, hfz18_5⟩ := zoO BK432.out; obtain ⟨hcz19_0, hcz19_1, hcz19_2, hcz19_3, hcz19_4, hcz19_5⟩ := zrN BK433.out; obtain ⟨hfz19_0, hfz19_1, hfz19_2, hfz19_3, hfz19_4, hfz19_5⟩ := zoO BK433.out) | ((with_reducible refine zgK (f := 60) rfl ?_); refine zqQ (some 10) rfl rfl Tryd.func60 (by kernel_rfl) rfl #[.agg #[.int .i64 a0_0, .int .i64 a0_1, .int .i64 a0_2], .agg #[.int .i64 a1_0, .int .i64 a1_1, .int .i64 a1_2]] rfl (by (try simp only [List.map_toArray, List.map_cons, List.map_nil]); first | done | rfl | (simp only [List.length_drop, List.length_take]; rfl)) ?_; (with_reducible refine (ziA.calls k a0_0 a0_1 a0_2 a1_0 a1_1 a1_2 t434 _ A3.out).mono ?_); rintro e w20 ⟨rfl, hb⟩; refine ⟨_, rfl, ?_⟩; have n0_ := zpS (zgM (g := gb432) (o := .cells #[.int .i64 a0_0, .int .i64 a0_1, .int .i64 a0_2, .int .i64 a0_3, .int .i64 a0_4, .int .i64 a0_5] 33 (0, 0)) bk_ hb); have n1_ := zpS (zgM (g := gb433) (o := .cells #[.int .i64 a1_0, .int .i64 a1_1, .int .i64 a1_2, .int .i64 a1_3, .int .i64 a1_4, .int .i64 a1_5] 33 (0, 0)) bk_ hb); have n2_ := (ns_ hb); clear BK432; clear BK433; clear HB; have BK432 := n0_; have BK433 := n1_; have HB := n2_; clear n0_ n1_ n2_; (try clear hb); (try clear hb2)))
  go_ret
  exact ⟨by first | rfl | (simp [ziS, znJ] <;> rfl) | (simp [*, ziS, znJ] <;> rfl), bb_⟩

def ztP.l0 : Nat → List (S33) → Int → List (S33) → Int → Int → Option (Int)
 | 0, _, _, _, _, _ => none
 | k + 1, x0, x3, x6, x7, x8 => if x8 < x7 then (if 0 ≤ x8 then (if x8 < (x6.length : Int) then (if 0 ≤ x3 then (if x3 < (x0.length : Int) then ((zmC.f k ((zdH x6 x8).f0.f0) ((zdH x6 x8).f0.f1) ((zdH x6 x8).f0.f2) ((zdH x6 x8).f1.f0) ((zdH x6 x8).f1.f1) ((zdH x6 x8).f1.f2) ((zdH x0 x3).f0.f0) ((zdH x0 x3).f0.f1) ((zdH x0 x3).f0.f2) ((zdH x0 x3).f1.f0) ((zdH x0 x3).f1.f1) ((zdH x0 x3).f1.f2)).bind fun t439 => (if t439 < 0 then (ztP.l0 k x0 x8 x6 x7 (wrap64 (x8 + 1))) else (ztP.l0 k x0 x3 x6 x7 (wrap64 (x8 + 1))))) else (none)) else (none)) else (none)) else (none)) else (some x3)
def ztP.f (k : Nat) (l0 : List (S33)) : Option (Int) := ztP.l0 k l0 0 l0 (l0.length : Int) 0
theorem ztP.mono_l : ∀ k, (∀ y0 y1 y2 y3 y4, LeO (ztP.l0 k y0 y1 y2 y3 y4) (ztP.l0 (k + 1) y0 y1 y2 y3 y4))
 | 0 => fun _ _ _ _ _ r h => by simp [ztP.l0] at h
 | k + 1 => by
  have ih0 := ztP.mono_l k
  ·intro y0 y1 y2 y3 y4
   unfold ztP.l0
   repeat' first
   | (with_reducible exact ih0 _ _ _ _ _)
   | (with_reducible exact zmC.mono _ _ _ _ _ _ _ _ _ _ _ _ _)
   | (with_reducible exact LeO.refl _)
   | (with_reducible exact LeO.none _)
   | (with_reducible refine LeO.ite ?_ ?_)
   | (with_reducible refine LeO.bind ?_ (fun _ => ?_))
   | exact ih0 _ _ _ _ _
   | exact zmC.mono _ _ _ _ _ _ _ _ _ _ _ _ _
   | exact LeO.none _
   | refine LeO.ite ?_ ?_
   | refine LeO.bind ?_ (fun _ => ?_)
theorem ztP.mono : ∀ a0 k, LeO (ztP.f k a0) (ztP.f (k + 1) a0) := by
 intro a0 k
 have ih0 := ztP.mono_l k
 unfold ztP.f
 repeat' first
   | (with_reducible exact ih0 _ _ _ _ _)
   | (with_reducible exact zmC.mono _ _ _ _ _ _ _ _ _ _ _ _ _)
   | (with_reducible exact LeO.refl _)
   | (with_reducible exact LeO.none _)
   | (with_reducible refine LeO.ite ?_ ?_)
   | (with_reducible refine LeO.bind ?_ (fun _ => ?_))
   | exact ih0 _ _ _ _ _
   | exact zmC.mono _ _ _ _ _ _ _ _ _ _ _ _ _
   | exact LeO.none _
   | refine LeO.ite ?_ ?_
   | refine LeO.bind ?_ (fun _ => ?_)
set_option maxHeartbeats 8000000 in
set_option maxRecDepth 100000 in
theorem ztP.calls (k : Nat) (A0 : Option Addr) (c0 : Nat) (l0 : List (S33)) (r : Int) (w : World) (hr0 : Kd.C k33 w A0 l0.length l0) (hc0 : l0.length ≤ c0) (h : ztP.f k l0 = some r) :
  Calls Tryd.prog 27 #[.slice A0 l0.length c0] w fun e w' => e = .returned (.int .i64 r) ∧ Below w.heap.size w w' := by
 have hu33 := Tryd.underlying33
 have HR0 := zpS hr0
 have HC0 := zpS hc0
 clear hr0 hc0
 have HB := zpS (Below.refl w.heap.size w)
 have H : (ztP.l0 k l0 0 l0 (l0.length : Int) 0) = some r := h
 clear h
 have H' := zpS H
 clear H
 go_enter Tryd.func27, Tryd.ntmps27
 go_wp2
 (try go_simp)
 go_loopg [3, 8] k (fun kq v3 v8 w' => ∃ (x3_1 : Int) (x8_1 : Int), v3 = .int .i64 x3_1 ∧ v8 = .int .i64 x8_1 ∧ Aside0 (ztP.l0 kq l0 x3_1 l0 (l0.length : Int) x8_1 = some r) ∧ Aside0 (kq ≤ k) ∧ Aside0 (Below w.heap.size w w'))
 case atStart => exact ⟨(0), (0), (by first | rfl | (simp; done) | (simp [*]; done)), (by first | rfl | (simp; done) | (simp [*]; done)), H', ⟨Nat.le_refl _⟩, ⟨bb_⟩⟩
 case round =>
  clear H'
  obtain ⟨x3_1, x8_1, rfl, rfl, HA, HK1, HB⟩ := hrel
  cases gk with
  | zero => exact absurd HA.out (by simp [ztP.l0])
  | succ k1 =>
   have H := HA.out
   clear HA
   simp only [ztP.l0] at H
   by_cases c2 : x8_1 < (l0.length : Int)
   ·rw [if_pos c2] at H
    have c2b0 : decide (x8_1 < (l0.length : Int)) = true := decide_eq_true c2
    clear c2
    by_cases c3 : 0 ≤ x8_1
    ·rw [if_pos c3] at H
     have c3b0 : decide (0 ≤ x8_1) = true := decide_eq_true c3
     clear c3
     by_cases c4 : x8_1 < (l0.length : Int)
     ·rw [if_pos c4] at H
      have c4b0 : decide (x8_1 < (l0.length : Int)) = true := decide_eq_true c4
      clear c4
      by_cases c5 : 0 ≤ x3_1
      ·rw [if_pos c5] at H
       have c5b0 : decide (0 ≤ x3_1) = true := decide_eq_true c5
       clear c5
       by_cases c6 : x3_1 < (l0.length : Int)
       ·rw [if_pos c6] at H
        have c6b0 : decide (x3_1 < (l0.length : Int)) = true := decide_eq_true c6
        clear c6
        replace H := Option.bind_eq_some_iff.mp H
        obtain ⟨t439, A70, H⟩ := H
        replace H : (if t439 < 0 then (ztP.l0 k1 l0 x8_1 l0 (l0.length : Int) (wrap64 (x8_1 + 1))) else (ztP.l0 k1 l0 x3_1 l0 (l0.length : Int) (wrap64 (x8_1 + 1)))) = some r := H
        have A7 := zpS A70
        clear A70
        by_cases c8 : t439 < 0
        ·rw [if_pos c8] at H
         have c8b0 : decide (t439 < 0) = true := decide_eq_true c8
         clear c8
         have H' := zpS H
         clear H
         have p436 : 0 ≤ (x8_1 : Int) := of_decide_eq_true (by first | (with_reducible assumption) | assumption)
         have q436 : x8_1 < (l0.length : Int) := of_decide_eq_true (by first | (with_reducible assumption) | assumption)
         obtain ⟨ad436, e436, hx436_0, hx436_1, hx436_2, hx436_3, hx436_4, hx436_5⟩ := zuR HR0.out x8_1 p436 q436
         cases e436
         replace hx436_0 := zeA HB.out hx436_0
         replace hx436_1 := zeA HB.out hx436_1
         replace hx436_2 := zeA HB.out hx436_2
         replace hx436_3 := zeA HB.out hx436_3
         replace hx436_4 := zeA HB.out hx436_4
         replace hx436_5 := zeA HB.out hx436_5
         replace p436 := eq_true p436
         replace q436 := eq_true q436
         try go_wp2_with (first | ((with_reducible refine zpZ (N := 5) rfl ?_); refine bx_ 5 #[.int .i64 0, .int .i64 0, .int .i64 0, .int .i64 0, .int .i64 0, .int .i64 0] 33 ?_; intro gb437 hg w9 hbox hb; have n0_ := (ns_ hb); have n1_ := zpS (hbox); have n2_ := (ng_ hg); have n3_ := n2_; clear HB; have HB := n0_; have BK437 := n1_; have GW437 := n2_; have GE437 := n3_; clear n0_ n1_ n2_ n3_; clear hb hbox hg; obtain ⟨hcz10_0, hcz10_1, hcz10_2, hcz10_3, hcz10_4, hcz10_5⟩ := zrN BK437.out; obtain ⟨hfz10_0, hfz10_1, hfz10_2, hfz10_3, hfz10_4, hfz10_5⟩ := zoO BK437.out))
         have n0_ : Aside0 (((((((w9.setCell ⟨gb437, 0, none⟩ (.int .i64 ((zdH l0 x8_1).f0.f0))).setCell ⟨gb437, 1, none⟩ (.int .i64 ((zdH l0 x8_1).f0.f1))).setCell ⟨gb437, 2, none⟩ (.int .i64 ((zdH l0 x8_1).f0.f2))).setCell ⟨gb437, 3, none⟩ (.int .i64 ((zdH l0 x8_1).f1.f0))).setCell ⟨gb437, 4, none⟩ (.int .i64 ((zdH l0 x8_1).f1.f1))).setCell ⟨gb437, 5, none⟩ (.int .i64 ((zdH l0 x8_1).f1.f2))).heap[gb437]? = some (.cells #[.int .i64 ((zdH l0 x8_1).f0.f0), .int .i64 ((zdH l0 x8_1).f0.f1), .int .i64 ((zdH l0 x8_1).f0.f2), .int .i64 ((zdH l0 x8_1).f1.f0), .int .i64 ((zdH l0 x8_1).f1.f1), .int .i64 ((zdH l0 x8_1).f1.f2)] 33 (0, 0))) := ⟨by (with_reducible repeat (first | apply zuW | apply ztN | apply zqY)); refine zlL (cs := #[.int .i64 ((zdH l0 x8_1).f0.f0), .int .i64 ((zdH l0 x8_1).f0.f1), .int .i64 ((zdH l0 x8_1).f0.f2), .int .i64 ((zdH l0 x8_1).f1.f0), .int .i64 ((zdH l0 x8_1).f1.f1), .int .i64 0]) ?_ 5 _ rfl; (with_reducible repeat (first | apply zuW | apply ztN | apply zqY)); refine zlL (cs := #[.int .i64 ((zdH l0 x8_1).f0.f0), .int .i64 ((zdH l0 x8_1).f0.f1), .int .i64 ((zdH l0 x8_1).f0.f2), .int .i64 ((zdH l0 x8_1).f1.f0), .int .i64 0, .int .i64 0]) ?_ 4 _ rfl; (with_reducible repeat (first | apply zuW | apply ztN | apply zqY)); refine zlL (cs := #[.int .i64 ((zdH l0 x8_1).f0.f0), .int .i64 ((zdH l0 x8_1).f0.f1), .int .i64 ((zdH l0 x8_1).f0.f2), .int .i64 0, .int .i64 0, .int .i64 0]) ?_ 3 _ rfl; (with_reducible repeat (first | apply zuW | apply ztN | apply zqY)); refine zlL (cs := #[.int .i64 ((zdH l0 x8_1).f0.f0), .int .i64 ((zdH l0 x8_1).f0.f1), .int .i64 0, .int .i64 0, .int .i64 0, .int .i64 0]) ?_ 2 _ rfl; (with_reducible repeat (first | apply zuW | apply ztN | apply zqY)); refine zlL (cs := #[.int .i64 ((zdH l0 x8_1).f0.f0), .int .i64 0, .int .i64 0, .int .i64 0, .int .i64 0, .int .i64 0]) ?_ 1 _ rfl; (with_reducible repeat (first | apply zuW | apply ztN | apply zqY)); refine zlL (cs := #[.int .i64 0, .int .i64 0, .int .i64 0, .int .i64 0, .int .i64 0, .int .i64 0]) ?_ 0 _ rfl; (with_reducible repeat (first | apply zuW | apply ztN | apply zqY)); exact BK437.out⟩
         have n1_ : Aside0 (Below w.heap.size w ((((((w9.setCell ⟨gb437, 0, none⟩ (.int .i64 ((zdH l0 x8_1).f0.f0))).setCell ⟨gb437, 1, none⟩ (.int .i64 ((zdH l0 x8_1).f0.f1))).setCell ⟨gb437, 2, none⟩ (.int .i64 ((zdH l0 x8_1).f0.f2))).setCell ⟨gb437, 3, none⟩ (.int .i64 ((zdH l0 x8_1).f1.f0))).setCell ⟨gb437, 4, none⟩ (.int .i64 ((zdH l0 x8_1).f1.f1))).setCell ⟨gb437, 5, none⟩ (.int .i64 ((zdH l0 x8_1).f1.f2)))) := ⟨bb_⟩
         (try clear BK437)
         (try clear HB)
         generalize ((((((w9.setCell ⟨gb437, 0, none⟩ (.int .i64 ((zdH l0 x8_1).f0.f0))).setCell ⟨gb437, 1, none⟩ (.int .i64 ((zdH l0 x8_1).f0.f1))).setCell ⟨gb437, 2, none⟩ (.int .i64 ((zdH l0 x8_1).f0.f2))).setCell ⟨gb437, 3, none⟩ (.int .i64 ((zdH l0 x8_1).f1.f0))).setCell ⟨gb437, 4, none⟩ (.int .i64 ((zdH l0 x8_1).f1.f1))).setCell ⟨gb437, 5, none⟩ (.int .i64 ((zdH l0 x8_1).f1.f2))) = w11 at n0_ n1_ ⊢
         have BK437 := n0_
         have HB := n1_
         clear n0_ n1_
         have n0_ := zpS (ztN BK437.out)
         have n1_ := zpS (zvF HB.out)
         clear BK437
         clear HB
         have BK437 := n0_
         have HB := n1_
         clear n0_ n1_
         have p438 : 0 ≤ (x3_1 : Int) := of_decide_eq_true (by first | (with_reducible assumption) | assumption)
         have q438 : x3_1 < (l0.length : Int) := of_decide_eq_true (by first | (with_reducible assumption) | assumption)
         obtain ⟨ad438, e438, hx438_0, hx438_1, hx438_2, hx438_3, hx438_4, hx438_5⟩ := zuR HR0.out x3_1 p438 q438
         have hw438_5 := hx438_5
         have hw438_4 := hx438_4
         have hw438_3 := hx438_3
         have hw438_2 := hx438_2
         have hw438_1 := hx438_1
         have hw438_0 := hx438_0
         obtain rfl : ad436 = ad438 := (by injection e438)
         replace hx438_0 := zeA HB.out hx438_0
         replace hx438_1 := zeA HB.out hx438_1
         replace hx438_2 := zeA HB.out hx438_2
         replace hx438_3 := zeA HB.out hx438_3
         replace hx438_4 := zeA HB.out hx438_4
         replace hx438_5 := zeA HB.out hx438_5
         replace p438 := eq_true p438
         replace q438 := eq_true q438
         refine zpB (n := 7) (S := fun w' => w'.cell? ⟨gb437, 0, none⟩ = some (.int .i64 ((zdH l0 x8_1).f0.f0)) ∧ w'.cell? ⟨gb437, 1, none⟩ = some (.int .i64 ((zdH l0 x8_1).f0.f1)) ∧ w'.cell? ⟨gb437, 2, none⟩ = some (.int .i64 ((zdH l0 x8_1).f0.f2)) ∧ w'.cell? ⟨gb437, 3, none⟩ = some (.int .i64 ((zdH l0 x8_1).f1.f0)) ∧ w'.cell? ⟨gb437, 4, none⟩ = some (.int .i64 ((zdH l0 x8_1).f1.f1)) ∧ w'.cell? ⟨gb437, 5, none⟩ = some (.int .i64 ((zdH l0 x8_1).f1.f2)) ∧ w'.cell? (ad436.add ((x3_1).toNat * 6)) = some (.int .i64 ((zdH l0 x3_1).f0.f0)) ∧ w'.cell? ⟨(ad436.add ((x3_1).toNat * 6)).block, (ad436.add ((x3_1).toNat * 6)).off + 1, none⟩ = some (.int .i64 ((zdH l0 x3_1).f0.f1)) ∧ w'.cell? ⟨(ad436.add ((x3_1).toNat * 6)).block, (ad436.add ((x3_1).toNat * 6)).off + 2, none⟩ = some (.int .i64 ((zdH l0 x3_1).f0.f2)) ∧ w'.cell? ⟨(ad436.add ((x3_1).toNat * 6)).block, (ad436.add ((x3_1).toNat * 6)).off + 3, none⟩ = some (.int .i64 ((zdH l0 x3_1).f1.f0)) ∧ w'.cell? ⟨(ad436.add ((x3_1).toNat * 6)).block, (ad436.add ((x3_1).toNat * 6)).off + 4, none⟩ = some (.int .i64 ((zdH l0 x3_1).f1.f1)) ∧ w'.cell? ⟨(ad436.add ((x3_1).toNat * 6)).block, (ad436.add ((x3_1).toNat * 6)).off + 5, none⟩ = some (.int .i64 ((zdH l0 x3_1).f1.f2))) (ds := []) #[false, false, false, false, false, false, false] (by kernel_rfl) rfl rfl ⟨(zzS BK437.out 0).trans rfl, (zzS BK437.out 1).trans rfl, (zzS BK437.out 2).trans rfl, (zzS BK437.out 3).trans rfl, (zzS BK437.out 4).trans rfl, (zzS BK437.out 5).trans rfl, (zeA HB.out hw438_0), (zeA HB.out hw438_1), (zeA HB.out hw438_2), (zeA HB.out hw438_3), (zeA HB.out hw438_4), (zeA HB.out hw438_5)⟩ (fun hHeld => ?_)
         generalize w11.drew = w12 at BK437 HB hx438_0 hx438_1 hx438_2 hx438_3 hx438_4 hx438_5 hHeld ⊢
         refine ztK (i := 1) (N := some 14) (v := ?_) (a' := ?_) (bl_ 7 2) rfl rfl (by kernel_rfl) (fun _ _ _ h => h) (Or.inl ⟨by rfl, ?_⟩) ?_ ?_
         rotate_left
         ·intro w'
          go_simp
          with_reducible rfl
         rotate_left
         ·simp only [Act.put, List.setIfInBounds_toArray, List.set_cons_zero, List.set_cons_succ, zcM, ziJ]
          rfl
         refine ztK (i := 2) (N := some 15) (v := ?_) (a' := ?_) (bl_ 7 6) rfl rfl (by kernel_rfl) (fun _ _ _ h => h) (Or.inl ⟨by rfl, ?_⟩) ?_ ?_
         rotate_left
         ·intro w'
          go_simp
          with_reducible rfl
         rotate_left
         ·simp only [Act.put, List.setIfInBounds_toArray, List.set_cons_zero, List.set_cons_succ, zcM, ziJ]
          rfl
         refine ztK (i := 3) (N := some 16) (v := ?_) (a' := ?_) (bl_ 7 14) rfl rfl (by kernel_rfl) (fun _ _ _ h => h) (Or.inl ⟨by rfl, ?_⟩) ?_ ?_
         rotate_left
         ·intro w'
          go_simp
          with_reducible rfl
         rotate_left
         ·simp only [Act.put, List.setIfInBounds_toArray, List.set_cons_zero, List.set_cons_succ, zcM, ziJ]
          rfl
         refine take_ (i := 0) (N := some 13) (v := ?_) (a' := ?_) (bl_ 7 15) rfl rfl (by kernel_rfl) (fun _ _ _ h => h) (Or.inl ⟨by rfl, ?_⟩) hHeld ?_ ?_
         rotate_left
         ·rintro w' ⟨s0, s1, s2, s3, s4, s5, s6, s7, s8, s9, s10, s11⟩
          go_simp
          with_reducible rfl
         rotate_left
         ·simp only [Act.put, List.setIfInBounds_toArray, List.set_cons_zero, List.set_cons_succ, zcM, ziJ]
          rfl
         refine take_ (i := 4) (N := some 17) (v := ?_) (a' := ?_) (bl_ 7 31) rfl rfl (by kernel_rfl) (fun _ _ _ h => h) (Or.inl ⟨by rfl, ?_⟩) hHeld ?_ ?_
         rotate_left
         ·rintro w' ⟨s0, s1, s2, s3, s4, s5, s6, s7, s8, s9, s10, s11⟩
          go_simp
          with_reducible rfl
         rotate_left
         ·simp only [Act.put, List.setIfInBounds_toArray, List.set_cons_zero, List.set_cons_succ, zcM, ziJ]
          rfl
         refine zdC (i := 5) (N := some 18) (bl_ 7 63) rfl rfl (by kernel_rfl) (by decide) (fun K hK => ?_)
         refine zqW Tryd.func42 (by kernel_rfl) rfl #[.agg #[.int .i64 ((zdH l0 x8_1).f0.f0), .int .i64 ((zdH l0 x8_1).f0.f1), .int .i64 ((zdH l0 x8_1).f0.f2), .int .i64 ((zdH l0 x8_1).f1.f0), .int .i64 ((zdH l0 x8_1).f1.f1), .int .i64 ((zdH l0 x8_1).f1.f2)], .agg #[.int .i64 ((zdH l0 x3_1).f0.f0), .int .i64 ((zdH l0 x3_1).f0.f1), .int .i64 ((zdH l0 x3_1).f0.f2), .int .i64 ((zdH l0 x3_1).f1.f0), .int .i64 ((zdH l0 x3_1).f1.f1), .int .i64 ((zdH l0 x3_1).f1.f2)]] (by rfl) rfl rfl (by (try simp only [List.map_toArray, List.map_cons, List.map_nil]); first | done | rfl | (simp only [List.length_drop, List.length_take]; rfl)) ?_
         with_reducible refine (zmC.calls k1 ((zdH l0 x8_1).f0.f0) ((zdH l0 x8_1).f0.f1) ((zdH l0 x8_1).f0.f2) ((zdH l0 x8_1).f1.f0) ((zdH l0 x8_1).f1.f1) ((zdH l0 x8_1).f1.f2) ((zdH l0 x3_1).f0.f0) ((zdH l0 x3_1).f0.f1) ((zdH l0 x3_1).f0.f2) ((zdH l0 x3_1).f1.f0) ((zdH l0 x3_1).f1.f1) ((zdH l0 x3_1).f1.f2) t439 _ A7.out).mono ?_
         rintro e w13 ⟨rfl, hb⟩
         refine ⟨_, rfl, ?_⟩
         have n0_ := zpS (zgM (g := gb437) (o := .cells #[.int .i64 ((zdH l0 x8_1).f0.f0), .int .i64 ((zdH l0 x8_1).f0.f1), .int .i64 ((zdH l0 x8_1).f0.f2), .int .i64 ((zdH l0 x8_1).f1.f0), .int .i64 ((zdH l0 x8_1).f1.f1), .int .i64 ((zdH l0 x8_1).f1.f2)] 33 (0, 0)) bk_ hb)
         have n1_ := (ns_ hb)
         clear BK437
         clear HB
         have BK437 := n0_
         have HB := n1_
         clear n0_ n1_
         (try clear hb)
         (try clear hb2)
         (try clear hk)
         (try clear hi)
         refine hK.out _ _ ⟨(zzS BK437.out 0).trans rfl, (zzS BK437.out 1).trans rfl, (zzS BK437.out 2).trans rfl, (zzS BK437.out 3).trans rfl, (zzS BK437.out 4).trans rfl, (zzS BK437.out 5).trans rfl, (zeA HB.out hw438_0), (zeA HB.out hw438_1), (zeA HB.out hw438_2), (zeA HB.out hw438_3), (zeA HB.out hw438_4), (zeA HB.out hw438_5)⟩ (fun hHeld => ?_)
         clear hK K
         refine zaN (a' := ?_) ?_ ?_
         rotate_left
         ·show Act.put _ (some 18) _ = _
          simp only [Act.put, List.setIfInBounds_toArray, List.set_cons_zero, List.set_cons_succ, zcM, ziJ]
          rfl
         refine ztK (i := 6) (N := some 19) (v := ?_) (a' := ?_) (bl_ 7 127) rfl rfl (by kernel_rfl) (fun _ _ _ h => h) (Or.inl ⟨by rfl, ?_⟩) ?_ ?_
         rotate_left
         ·intro w'
          go_simp
          with_reducible rfl
         rotate_left
         ·simp only [Act.put, List.setIfInBounds_toArray, List.set_cons_zero, List.set_cons_succ, zcM, ziJ]
          rfl
         refine znK (by kernel_rfl) ?_
         try go_wp2
         go_roundg k1
         case measure => have := HK1.out; omega
         case rel => exact ⟨(x8_1), (wrap64 (x8_1 + 1)), (by first | rfl | (simp; done) | (simp [*]; done)), (by first | rfl | (simp; done) | (simp [*]; done)), H', ⟨by have := HK1.out; omega⟩, ⟨bb_⟩⟩
        ·rw [if_neg c8] at H
         have c8b0 : decide (t439 < 0) = false := decide_eq_false c8
         clear c8
         have H' := zpS H
         clear H
         have p436 : 0 ≤ (x8_1 : Int) := of_decide_eq_true (by first | (with_reducible assumption) | assumption)
         have q436 : x8_1 < (l0.length : Int) := of_decide_eq_true (by first | (with_reducible assumption) | assumption)
         obtain ⟨ad436, e436, hx436_0, hx436_1, hx436_2, hx436_3, hx436_4, hx436_5⟩ := zuR HR0.out x8_1 p436 q436
         cases e436
         replace hx436_0 := zeA HB.out hx436_0
         replace hx436_1 := zeA HB.out hx436_1
         replace hx436_2 := zeA HB.out hx436_2
         replace hx436_3 := zeA HB.out hx436_3
         replace hx436_4 := zeA HB.out hx436_4
         replace hx436_5 := zeA HB.out hx436_5
         replace p436 := eq_true p436
         replace q436 := eq_true q436
         try go_wp2_with (first | ((with_reducible refine zpZ (N := 5) rfl ?_); refine bx_ 5 #[.int .i64 0, .int .i64 0, .int .i64 0, .int .i64 0, .int .i64 0, .int .i64 0] 33 ?_; intro gb437 hg w14 hbox hb; have n0_ := (ns_ hb); have n1_ := zpS (hbox); have n2_ := (ng_ hg); have n3_ := n2_; clear HB; have HB := n0_; have BK437 := n1_; have GW437 := n2_; have GE437 := n3_; clear n0_ n1_ n2_ n3_; clear hb hbox hg; obtain ⟨hcz15_0, hcz15_1, hcz15_2, hcz15_3, hcz15_4, hcz15_5⟩ := zrN BK437.out; obtain ⟨hfz15_0, hfz15_1, hfz15_2, hfz15_3, hfz15_4, hfz15_5⟩ := zoO BK437.out))
         have n0_ : Aside0 (((((((w14.setCell ⟨gb437, 0, none⟩ (.int .i64 ((zdH l0 x8_1).f0.f0))).setCell ⟨gb437, 1, none⟩ (.int .i64 ((zdH l0 x8_1).f0.f1))).setCell ⟨gb437, 2, none⟩ (.int .i64 ((zdH l0 x8_1).f0.f2))).setCell ⟨gb437, 3, none⟩ (.int .i64 ((zdH l0 x8_1).f1.f0))).setCell ⟨gb437, 4, none⟩ (.int .i64 ((zdH l0 x8_1).f1.f1))).setCell ⟨gb437, 5, none⟩ (.int .i64 ((zdH l0 x8_1).f1.f2))).heap[gb437]? = some (.cells #[.int .i64 ((zdH l0 x8_1).f0.f0), .int .i64 ((zdH l0 x8_1).f0.f1), .int .i64 ((zdH l0 x8_1).f0.f2), .int .i64 ((zdH l0 x8_1).f1.f0), .int .i64 ((zdH l0 x8_1).f1.f1), .int .i64 ((zdH l0 x8_1).f1.f2)] 33 (0, 0))) := ⟨by (with_reducible repeat (first | apply zuW | apply ztN | apply zqY)); refine zlL (cs := #[.int .i64 ((zdH l0 x8_1).f0.f0), .int .i64 ((zdH l0 x8_1).f0.f1), .int .i64 ((zdH l0 x8_1).f0.f2), .int .i64 ((zdH l0 x8_1).f1.f0), .int .i64 ((zdH l0 x8_1).f1.f1), .int .i64 0]) ?_ 5 _ rfl; (with_reducible repeat (first | apply zuW | apply ztN | apply zqY)); refine zlL (cs := #[.int .i64 ((zdH l0 x8_1).f0.f0), .int .i64 ((zdH l0 x8_1).f0.f1), .int .i64 ((zdH l0 x8_1).f0.f2), .int .i64 ((zdH l0 x8_1).f1.f0), .int .i64 0, .int .i64 0]) ?_ 4 _ rfl; (with_reducible repeat (first | apply zuW | apply ztN | apply zqY)); refine zlL (cs := #[.int .i64 ((zdH l0 x8_1).f0.f0), .int .i64 ((zdH l0 x8_1).f0.f1), .int .i64 ((zdH l0 x8_1).f0.f2), .int .i64 0, .int .i64 0, .int .i64 0]) ?_ 3 _ rfl; (with_reducible repeat (first | apply zuW | apply ztN | apply zqY)); refine zlL (cs := #[.int .i64 ((zdH l0 x8_1).f0.f0), .int .i64 ((zdH l0 x8_1).f0.f1), .int .i64 0, .int .i64 0, .int .i64 0, .int .i64 0]) ?_ 2 _ rfl; (with_reducible repeat (first | apply zuW | apply ztN | apply zqY)); refine zlL (cs := #[.int .i64 ((zdH l0 x8_1).f0.f0), .int .i64 0, .int .i64 0, .int .i64 0, .int .i64 0, .int .i64 0]) ?_ 1 _ rfl; (with_reducible repeat (first | apply zuW | apply ztN | apply zqY)); refine zlL (cs := #[.int .i64 0, .int .i64 0, .int .i64 0, .int .i64 0, .int .i64 0, .int .i64 0]) ?_ 0 _ rfl; (with_reducible repeat (first | apply zuW | apply ztN | apply zqY)); exact BK437.out⟩
         have n1_ : Aside0 (Below w.heap.size w ((((((w14.setCell ⟨gb437, 0, none⟩ (.int .i64 ((zdH l0 x8_1).f0.f0))).setCell ⟨gb437, 1, none⟩ (.int .i64 ((zdH l0 x8_1).f0.f1))).setCell ⟨gb437, 2, none⟩ (.int .i64 ((zdH l0 x8_1).f0.f2))).setCell ⟨gb437, 3, none⟩ (.int .i64 ((zdH l0 x8_1).f1.f0))).setCell ⟨gb437, 4, none⟩ (.int .i64 ((zdH l0 x8_1).f1.f1))).setCell ⟨gb437, 5, none⟩ (.int .i64 ((zdH l0 x8_1).f1.f2)))) := ⟨bb_⟩
         (try clear BK437)
         (try clear HB)
         generalize ((((((w14.setCell ⟨gb437, 0, none⟩ (.int .i64 ((zdH l0 x8_1).f0.f0))).setCell ⟨gb437, 1, none⟩ (.int .i64 ((zdH l0 x8_1).f0.f1))).setCell ⟨gb437, 2, none⟩ (.int .i64 ((zdH l0 x8_1).f0.f2))).setCell ⟨gb437, 3, none⟩ (.int .i64 ((zdH l0 x8_1).f1.f0))).setCell ⟨gb437, 4, none⟩ (.int .i64 ((zdH l0 x8_1).f1.f1))).setCell ⟨gb437, 5, none⟩ (.int .i64 ((zdH l0 x8_1).f1.f2))) = w16 at n0_ n1_ ⊢
         have BK437 := n0_
         have HB := n1_
         clear n0_ n1_
         have n0_ := zpS (ztN BK437.out)
         have n1_ := zpS (zvF HB.out)
         clear BK437
         clear HB
         have BK437 := n0_
         have HB := n1_
         clear n0_ n1_
         have p438 : 0 ≤ (x3_1 : Int) := of_decide_eq_true (by first | (with_reducible assumption) | assumption)
         have q438 : x3_1 < (l0.length : Int) := of_decide_eq_true (by first | (with_reducible assumption) | assumption)
         obtain ⟨ad438, e438, hx438_0, hx438_1, hx438_2, hx438_3, hx438_4, hx438_5⟩ := zuR HR0.out x3_1 p438 q438
         have hw438_5 := hx438_5
         have hw438_4 := hx438_4
         have hw438_3 := hx438_3
         have hw438_2 := hx438_2
         have hw438_1 := hx438_1
         have hw438_0 := hx438_0
         obtain rfl : ad436 = ad438 := (by injection e438)
         replace hx438_0 := zeA HB.out hx438_0
         replace hx438_1 := zeA HB.out hx438_1
         replace hx438_2 := zeA HB.out hx438_2
         replace hx438_3 := zeA HB.out hx438_3
         replace hx438_4 := zeA HB.out hx438_4
         replace hx438_5 := zeA HB.out hx438_5
         replace p438 := eq_true p438
         replace q438 := eq_true q438
         refine zpB (n := 7) (S := fun w' => w'.cell? ⟨gb437, 0, none⟩ = some (.int .i64 ((zdH l0 x8_1).f0.f0)) ∧ w'.cell? ⟨gb437, 1, none⟩ = some (.int .i64 ((zdH l0 x8_1).f0.f1)) ∧ w'.cell? ⟨gb437, 2, none⟩ = some (.int .i64 ((zdH l0 x8_1).f0.f2)) ∧ w'.cell? ⟨gb437, 3, none⟩ = some (.int .i64 ((zdH l0 x8_1).f1.f0)) ∧ w'.cell? ⟨gb437, 4, none⟩ = some (.int .i64 ((zdH l0 x8_1).f1.f1)) ∧ w'.cell? ⟨gb437, 5, none⟩ = some (.int .i64 ((zdH l0 x8_1).f1.f2)) ∧ w'.cell? (ad436.add ((x3_1).toNat * 6)) = some (.int .i64 ((zdH l0 x3_1).f0.f0)) ∧ w'.cell? ⟨(ad436.add ((x3_1).toNat * 6)).block, (ad436.add ((x3_1).toNat * 6)).off + 1, none⟩ = some (.int .i64 ((zdH l0 x3_1).f0.f1)) ∧ w'.cell? ⟨(ad436.add ((x3_1).toNat * 6)).block, (ad436.add ((x3_1).toNat * 6)).off + 2, none⟩ = some (.int .i64 ((zdH l0 x3_1).f0.f2)) ∧ w'.cell? ⟨(ad436.add ((x3_1).toNat * 6)).block, (ad436.add ((x3_1).toNat * 6)).off + 3, none⟩ = some (.int .i64 ((zdH l0 x3_1).f1.f0)) ∧ w'.cell? ⟨(ad436.add ((x3_1).toNat * 6)).block, (ad436.add ((x3_1).toNat * 6)).off + 4, none⟩ = some (.int .i64 ((zdH l0 x3_1).f1.f1)) ∧ w'.cell? ⟨(ad436.add ((x3_1).toNat * 6)).block, (ad436.add ((x3_1).toNat * 6)).off + 5, none⟩ = some (.int .i64 ((zdH l0 x3_1).f1.f2))) (ds := []) #[false, false, false, false, false, false, false] (by kernel_rfl) rfl rfl ⟨(zzS BK437.out 0).trans rfl, (zzS BK437.out 1).trans rfl, (zzS BK437.out 2).trans rfl, (zzS BK437.out 3).trans rfl, (zzS BK437.out 4).trans rfl, (zzS BK437.out 5).trans rfl, (zeA HB.out hw438_0), (zeA HB.out hw438_1), (zeA HB.out hw438_2), (zeA HB.out hw438_3), (zeA HB.out hw438_4), (zeA HB.out hw438_5)⟩ (fun hHeld => ?_)
         generalize w16.drew = w17 at BK437 HB hx438_0 hx438_1 hx438_2 hx438_3 hx438_4 hx438_5 hHeld ⊢
         refine ztK (i := 1) (N := some 14) (v := ?_) (a' := ?_) (bl_ 7 2) rfl rfl (by kernel_rfl) (fun _ _ _ h => h) (Or.inl ⟨by rfl, ?_⟩) ?_ ?_
         rotate_left
         ·intro w'
          go_simp
          with_reducible rfl
         rotate_left
         ·simp only [Act.put, List.setIfInBounds_toArray, List.set_cons_zero, List.set_cons_succ, zcM, ziJ]
          rfl
         refine ztK (i := 2) (N := some 15) (v := ?_) (a' := ?_) (bl_ 7 6) rfl rfl (by kernel_rfl) (fun _ _ _ h => h) (Or.inl ⟨by rfl, ?_⟩) ?_ ?_
         rotate_left
         ·intro w'
          go_simp
          with_reducible rfl
         rotate_left
         ·simp only [Act.put, List.setIfInBounds_toArray, List.set_cons_zero, List.set_cons_succ, zcM, ziJ]
          rfl
         refine ztK (i := 3) (N := some 16) (v := ?_) (a' := ?_) (bl_ 7 14) rfl rfl (by kernel_rfl) (fun _ _ _ h => h) (Or.inl ⟨by rfl, ?_⟩) ?_ ?_
         rotate_left
         ·intro w'
          go_simp
          with_reducible rfl
         rotate_left
         ·simp only [Act.put, List.setIfInBounds_toArray, List.set_cons_zero, List.set_cons_succ, zcM, ziJ]
          rfl
         refine take_ (i := 0) (N := some 13) (v := ?_) (a' := ?_) (bl_ 7 15) rfl rfl (by kernel_rfl) (fun _ _ _ h => h) (Or.inl ⟨by rfl, ?_⟩) hHeld ?_ ?_
         rotate_left
         ·rintro w' ⟨s0, s1, s2, s3, s4, s5, s6, s7, s8, s9, s10, s11⟩
          go_simp
          with_reducible rfl
         rotate_left
         ·simp only [Act.put, List.setIfInBounds_toArray, List.set_cons_zero, List.set_cons_succ, zcM, ziJ]
          rfl
         refine take_ (i := 4) (N := some 17) (v := ?_) (a' := ?_) (bl_ 7 31) rfl rfl (by kernel_rfl) (fun _ _ _ h => h) (Or.inl ⟨by rfl, ?_⟩) hHeld ?_ ?_
         rotate_left
         ·rintro w' ⟨s0, s1, s2, s3, s4, s5, s6, s7, s8, s9, s10, s11⟩
          go_simp
          with_reducible rfl
         rotate_left
         ·simp only [Act.put, List.setIfInBounds_toArray, List.set_cons_zero, List.set_cons_succ, zcM, ziJ]
          rfl
         refine zdC (i := 5) (N := some 18) (bl_ 7 63) rfl rfl (by kernel_rfl) (by decide) (fun K hK => ?_)
         refine zqW Tryd.func42 (by kernel_rfl) rfl #[.agg #[.int .i64 ((zdH l0 x8_1).f0.f0), .int .i64 ((zdH l0 x8_1).f0.f1), .int .i64 ((zdH l0 x8_1).f0.f2), .int .i64 ((zdH l0 x8_1).f1.f0), .int .i64 ((zdH l0 x8_1).f1.f1), .int .i64 ((zdH l0 x8_1).f1.f2)], .agg #[.int .i64 ((zdH l0 x3_1).f0.f0), .int .i64 ((zdH l0 x3_1).f0.f1), .int .i64 ((zdH l0 x3_1).f0.f2), .int .i64 ((zdH l0 x3_1).f1.f0), .int .i64 ((zdH l0 x3_1).f1.f1), .int .i64 ((zdH l0 x3_1).f1.f2)]] (by rfl) rfl rfl (by (try simp only [List.map_toArray, List.map_cons, List.map_nil]); first | done | rfl | (simp only [List.length_drop, List.length_take]; rfl)) ?_
         with_reducible refine (zmC.calls k1 ((zdH l0 x8_1).f0.f0) ((zdH l0 x8_1).f0.f1) ((zdH l0 x8_1).f0.f2) ((zdH l0 x8_1).f1.f0) ((zdH l0 x8_1).f1.f1) ((zdH l0 x8_1).f1.f2) ((zdH l0 x3_1).f0.f0) ((zdH l0 x3_1).f0.f1) ((zdH l0 x3_1).f0.f2) ((zdH l0 x3_1).f1.f0) ((zdH l0 x3_1).f1.f1) ((zdH l0 x3_1).f1.f2) t439 _ A7.out).mono ?_
         rintro e w18 ⟨rfl, hb⟩
         refine ⟨_, rfl, ?_⟩
         have n0_ := zpS (zgM (g := gb437) (o := .cells #[.int .i64 ((zdH l0 x8_1).f0.f0), .int .i64 ((zdH l0 x8_1).f0.f1), .int .i64 ((zdH l0 x8_1).f0.f2), .int .i64 ((zdH l0 x8_1).f1.f0), .int .i64 ((zdH l0 x8_1).f1.f1), .int .i64 ((zdH l0 x8_1).f1.f2)] 33 (0, 0)) bk_ hb)
         have n1_ := (ns_ hb)
         clear BK437
         clear HB
         have BK437 := n0_
         have HB := n1_
         clear n0_ n1_
         (try clear hb)
         (try clear hb2)
         (try clear hk)
         (try clear hi)
         refine hK.out _ _ ⟨(zzS BK437.out 0).trans rfl, (zzS BK437.out 1).trans rfl, (zzS BK437.out 2).trans rfl, (zzS BK437.out 3).trans rfl, (zzS BK437.out 4).trans rfl, (zzS BK437.out 5).trans rfl, (zeA HB.out hw438_0), (zeA HB.out hw438_1), (zeA HB.out hw438_2), (zeA HB.out hw438_3), (zeA HB.out hw438_4), (zeA HB.out hw438_5)⟩ (fun hHeld => ?_)
         clear hK K
         refine zaN (a' := ?_) ?_ ?_
         rotate_left
         ·show Act.put _ (some 18) _ = _
          simp only [Act.put, List.setIfInBounds_toArray, List.set_cons_zero, List.set_cons_succ, zcM, ziJ]
          rfl
         refine ztK (i := 6) (N := some 19) (v := ?_) (a' := ?_) (bl_ 7 127) rfl rfl (by kernel_rfl) (fun _ _ _ h => h) (Or.inl ⟨by rfl, ?_⟩) ?_ ?_
         rotate_left
         ·intro w'
          go_simp
          with_reducible rfl
         rotate_left
         ·simp only [Act.put, List.setIfInBounds_toArray, List.set_cons_zero, List.set_cons_succ, zcM, ziJ]
          rfl
         refine znK (by kernel_rfl) ?_
         try go_wp2
         go_roundg k1
         case measure => have := HK1.out; omega
         case rel => exact ⟨(x3_1), (wrap64 (x8_1 + 1)), (by first | rfl | (simp; done) | (simp [*]; done)), (by first | rfl | (simp; done) | (simp [*]; done)), H', ⟨by have := HK1.out; omega⟩, ⟨bb_⟩⟩
       ·rw [if_neg c6] at H
        exact absurd H (by simp)
      ·rw [if_neg c5] at H
       exact absurd H (by simp)
     ·rw [if_neg c4] at H
      exact absurd H (by simp)
    ·rw [if_neg c3] at H
     exact absurd H (by simp)
   ·rw [if_neg c2] at H
    have c2b0 : decide (x8_1 < (l0.length : Int)) = false := decide_eq_false c2
    clear c2
    obtain rfl := Option.some.inj H
    go_wp2
    go_ret
    exact ⟨by first | rfl | (simp [ziS, znJ] <;> rfl) | (simp [*, ziS, znJ] <;> rfl), bb_⟩

def zoR.f (k : Nat) (l0 : List (S33)) : Option (Bool) := (zuU.f l0).bind fun t440 => ((zrP.f t440 3 16).bind fun t441 => (if t441 = true then ((zmH.f l0).bind fun t442 => (if t442 = true then ((zjY.f k l0).bind fun t443 => (if t443 = true then ((ztP.f k l0).bind fun t444 => (some (t444 == 0))) else (some false))) else (some false))) else (some false)))
theorem zoR.mono : ∀ a0 k, LeO (zoR.f k a0) (zoR.f (k + 1) a0) := by
 intro a0 k
 unfold zoR.f
 repeat' first
   | (with_reducible exact zjY.mono _ _)
   | (with_reducible exact ztP.mono _ _)
   | (with_reducible exact LeO.refl _)
   | (with_reducible exact LeO.none _)
   | (with_reducible refine LeO.ite ?_ ?_)
   | (with_reducible refine LeO.bind ?_ (fun _ => ?_))
   | exact zjY.mono _ _
   | exact ztP.mono _ _
   | exact LeO.none _
   | refine LeO.ite ?_ ?_
   | refine LeO.bind ?_ (fun _ => ?_)
set_option maxHeartbeats 8000000 in
set_option maxRecDepth 100000 in
theorem zoR.calls (k : Nat) (A0 : Option Addr) (c0 : Nat) (l0 : List (S33)) (r : Bool) (w : World) (hG : LaidV w) (hr0 : Kd.C k33 w A0 l0.length l0) (hc0 : l0.length ≤ c0) (h : zoR.f k l0 = some r) :
  Calls Tryd.prog 12 #[.slice A0 l0.length c0] w fun e w' => e = .returned (.bool r) ∧ Below w.heap.size w w' := by
 have HR0 := zpS hr0
 have HC0 := zpS hc0
 clear hr0 hc0
 have HB := zpS (Below.refl w.heap.size w)
 have H : ((zuU.f l0).bind fun t440 => ((zrP.f t440 3 16).bind fun t441 => (if t441 = true then ((zmH.f l0).bind fun t442 => (if t442 = true then ((zjY.f k l0).bind fun t443 => (if t443 = true then ((ztP.f k l0).bind fun t444 => (some (t444 == 0))) else (some false))) else (some false))) else (some false)))) = some r := h
 clear h
 replace H := Option.bind_eq_some_iff.mp H
 obtain ⟨t440, A20, H⟩ := H
 replace H : ((zrP.f t440 3 16).bind fun t441 => (if t441 = true then ((zmH.f l0).bind fun t442 => (if t442 = true then ((zjY.f k l0).bind fun t443 => (if t443 = true then ((ztP.f k l0).bind fun t444 => (some (t444 == 0))) else (some false))) else (some false))) else (some false))) = some r := H
 have A2 := zpS A20
 clear A20
 replace H := Option.bind_eq_some_iff.mp H
 obtain ⟨t441, A30, H⟩ := H
 replace H : (if t441 = true then ((zmH.f l0).bind fun t442 => (if t442 = true then ((zjY.f k l0).bind fun t443 => (if t443 = true then ((ztP.f k l0).bind fun t444 => (some (t444 == 0))) else (some false))) else (some false))) else (some false)) = some r := H
 have A3 := zpS A30
 clear A30
 by_cases c4 : t441 = true
 ·subst c4
  have H1 : ((zmH.f l0).bind fun t442 => (if t442 = true then ((zjY.f k l0).bind fun t443 => (if t443 = true then ((ztP.f k l0).bind fun t444 => (some (t444 == 0))) else (some false))) else (some false))) = some r := by rw [if_pos rfl] at H; exact H
  clear H
  have H := H1
  clear H1
  replace H := Option.bind_eq_some_iff.mp H
  obtain ⟨t442, A50, H⟩ := H
  replace H : (if t442 = true then ((zjY.f k l0).bind fun t443 => (if t443 = true then ((ztP.f k l0).bind fun t444 => (some (t444 == 0))) else (some false))) else (some false)) = some r := H
  have A5 := zpS A50
  clear A50
  by_cases c6 : t442 = true
  ·subst c6
   have H1 : ((zjY.f k l0).bind fun t443 => (if t443 = true then ((ztP.f k l0).bind fun t444 => (some (t444 == 0))) else (some false))) = some r := by rw [if_pos rfl] at H; exact H
   clear H
   have H := H1
   clear H1
   replace H := Option.bind_eq_some_iff.mp H
   obtain ⟨t443, A70, H⟩ := H
   replace H : (if t443 = true then ((ztP.f k l0).bind fun t444 => (some (t444 == 0))) else (some false)) = some r := H
   have A7 := zpS A70
   clear A70
   by_cases c8 : t443 = true
   ·subst c8
    have H1 : ((ztP.f k l0).bind fun t444 => (some (t444 == 0))) = some r := by rw [if_pos rfl] at H; exact H
    clear H
    have H := H1
    clear H1
    replace H := Option.bind_eq_some_iff.mp H
    obtain ⟨t444, A90, H⟩ := H
    replace H : (some (t444 == 0)) = some r := H
    have A9 := zpS A90
    clear A90
    obtain rfl := Option.some.inj H
    go_enter Tryd.func12, Tryd.ntmps12
    go_wp2_with (first | ((with_reducible refine zgK (f := 24) rfl ?_); refine zqQ (some 4) rfl rfl Tryd.func24 (by kernel_rfl) rfl #[.slice A0 l0.length c0] rfl (by (try simp only [List.map_toArray, List.map_cons, List.map_nil]); first | done | rfl | (simp only [List.length_drop, List.length_take]; rfl)) ?_; (with_reducible refine (zuU.calls _ _ l0 t440 _ ?side1 ?side2 A2.out).mono ?_); (case side1 => repeat (first | exact HR0.out | (with_reducible refine Kd.C_alloc ?_ _) | (with_reducible refine Kd.C_drewN ?_ _) | (with_reducible refine Kd.C_drew ?_))); (case side2 => exact HC0.out); rintro e w' ⟨rfl, ⟨nd, rfl⟩⟩; refine ⟨_, rfl, ?_⟩) | ((with_reducible refine zgK (f := 23) rfl ?_); refine zqQ (some 5) rfl rfl Tryd.func23 (by kernel_rfl) rfl #[.int .i64 t440, .int .i64 3, .int .i64 16] rfl (by (try simp only [List.map_toArray, List.map_cons, List.map_nil]); first | done | rfl | (simp only [List.length_drop, List.length_take]; rfl)) ?_; (with_reducible refine (zrP.calls t440 3 16 true _ A3.out).mono ?_); rintro e w' ⟨rfl, ⟨nd, rfl⟩⟩; refine ⟨_, rfl, ?_⟩) | (go_at_call 25; (with_reducible refine (zmH.calls _ _ l0 true _ ?side1 ?side2 A5.out).mono ?_); (case side1 => repeat (first | exact HR0.out | (with_reducible refine Kd.C_alloc ?_ _) | (with_reducible refine Kd.C_drewN ?_ _) | (with_reducible refine Kd.C_drew ?_))); (case side2 => exact HC0.out); rintro e w10 ⟨rfl, hb⟩; have n0_ := (ns_ hb); clear HB; have HB := n0_; clear n0_; (try clear hb); (try clear hb2)) | (go_at_call 26; (with_reducible refine (zjY.calls k _ _ l0 true _ ?side3 ?side1 ?side2 A7.out).mono ?_); (case side1 => repeat (first | exact (Kd.C_below HR0.out HB.out) | (with_reducible refine Kd.C_alloc ?_ _) | (with_reducible refine Kd.C_drewN ?_ _) | (with_reducible refine Kd.C_drew ?_))); (case side2 => exact HC0.out); (case side3 => exact LaidV.below hG bb_); rintro e w11 ⟨rfl, hb⟩; have n0_ := (ns_ hb); clear HB; have HB := n0_; clear n0_; (try clear hb); (try clear hb2)) | (go_at_call 27; (with_reducible refine (ztP.calls k _ _ l0 t444 _ ?side1 ?side2 A9.out).mono ?_); (case side1 => repeat (first | exact (Kd.C_below HR0.out HB.out) | (with_reducible refine Kd.C_alloc ?_ _) | (with_reducible refine Kd.C_drewN ?_ _) | (with_reducible refine Kd.C_drew ?_))); (case side2 => exact HC0.out); rintro e w12 ⟨rfl, hb⟩; have n0_ := (ns_ hb); clear HB; have HB := n0_; clear n0_; (try clear hb); (try clear hb2)))
    go_ret
    exact ⟨by first | rfl | (simp [ziS, znJ] <;> rfl) | (simp [*, ziS, znJ] <;> rfl), bb_⟩
   ·replace c8 := Bool.eq_false_iff.mpr c8
    subst c8
    have H1 : (some false) = some r := by rw [if_neg (show ¬ (false = true) by decide)] at H; exact H
    clear H
    have H := H1
    clear H1
    obtain rfl := Option.some.inj H
    go_enter Tryd.func12, Tryd.ntmps12
    go_wp2_with (first | ((with_reducible refine zgK (f := 24) rfl ?_); refine zqQ (some 4) rfl rfl Tryd.func24 (by kernel_rfl) rfl #[.slice A0 l0.length c0] rfl (by (try simp only [List.map_toArray, List.map_cons, List.map_nil]); first | done | rfl | (simp only [List.length_drop, List.length_take]; rfl)) ?_; (with_reducible refine (zuU.calls _ _ l0 t440 _ ?side1 ?side2 A2.out).mono ?_); (case side1 => repeat (first | exact HR0.out | (with_reducible refine Kd.C_alloc ?_ _) | (with_reducible refine Kd.C_drewN ?_ _) | (with_reducible refine Kd.C_drew ?_))); (case side2 => exact HC0.out); rintro e w' ⟨rfl, ⟨nd, rfl⟩⟩; refine ⟨_, rfl, ?_⟩) | ((with_reducible refine zgK (f := 23) rfl ?_); refine zqQ (some 5) rfl rfl Tryd.func23 (by kernel_rfl) rfl #[.int .i64 t440, .int .i64 3, .int .i64 16] rfl (by (try simp only [List.map_toArray, List.map_cons, List.map_nil]); first | done | rfl | (simp only [List.length_drop, List.length_take]; rfl)) ?_; (with_reducible refine (zrP.calls t440 3 16 true _ A3.out).mono ?_); rintro e w' ⟨rfl, ⟨nd, rfl⟩⟩; refine ⟨_, rfl, ?_⟩) | (go_at_call 25; (with_reducible refine (zmH.calls _ _ l0 true _ ?side1 ?side2 A5.out).mono ?_); (case side1 => repeat (first | exact HR0.out | (with_reducible refine Kd.C_alloc ?_ _) | (with_reducible refine Kd.C_drewN ?_ _) | (with_reducible refine Kd.C_drew ?_))); (case side2 => exact HC0.out); rintro e w13 ⟨rfl, hb⟩; have n0_ := (ns_ hb); clear HB; have HB := n0_; clear n0_; (try clear hb); (try clear hb2)) | (go_at_call 26; (with_reducible refine (zjY.calls k _ _ l0 false _ ?side3 ?side1 ?side2 A7.out).mono ?_); (case side1 => repeat (first | exact (Kd.C_below HR0.out HB.out) | (with_reducible refine Kd.C_alloc ?_ _) | (with_reducible refine Kd.C_drewN ?_ _) | (with_reducible refine Kd.C_drew ?_))); (case side2 => exact HC0.out); (case side3 => exact LaidV.below hG bb_); rintro e w14 ⟨rfl, hb⟩; have n0_ := (ns_ hb); clear HB; have HB := n0_; clear n0_; (try clear hb); (try clear hb2)))
    go_ret
    exact ⟨by first | rfl | (simp [ziS, znJ] <;> rfl) | (simp [*, ziS, znJ] <;> rfl), bb_⟩
  ·replace c6 := Bool.eq_false_iff.mpr c6
   subst c6
   have H1 : (some false) = some r := by rw [if_neg (show ¬ (false = true) by decide)] at H; exact H
   clear H
   have H := H1
   clear H1
   obtain rfl := Option.some.inj H
   go_enter Tryd.func12, Tryd.ntmps12
   go_wp2_with (first | ((with_reducible refine zgK (f := 24) rfl ?_); refine zqQ (some 4) rfl rfl Tryd.func24 (by kernel_rfl) rfl #[.slice A0 l0.length c0] rfl (by (try simp only [List.map_toArray, List.map_cons, List.map_nil]); first | done | rfl | (simp only [List.length_drop, List.length_take]; rfl)) ?_; (with_reducible refine (zuU.calls _ _ l0 t440 _ ?side1 ?side2 A2.out).mono ?_); (case side1 => repeat (first | exact HR0.out | (with_reducible refine Kd.C_alloc ?_ _) | (with_reducible refine Kd.C_drewN ?_ _) | (with_reducible refine Kd.C_drew ?_))); (case side2 => exact HC0.out); rintro e w' ⟨rfl, ⟨nd, rfl⟩⟩; refine ⟨_, rfl, ?_⟩) | ((with_reducible refine zgK (f := 23) rfl ?_); refine zqQ (some 5) rfl rfl Tryd.func23 (by kernel_rfl) rfl #[.int .i64 t440, .int .i64 3, .int .i64 16] rfl (by (try simp only [List.map_toArray, List.map_cons, List.map_nil]); first | done | rfl | (simp only [List.length_drop, List.length_take]; rfl)) ?_; (with_reducible refine (zrP.calls t440 3 16 true _ A3.out).mono ?_); rintro e w' ⟨rfl, ⟨nd, rfl⟩⟩; refine ⟨_, rfl, ?_⟩) | (go_at_call 25; (with_reducible refine (zmH.calls _ _ l0 false _ ?side1 ?side2 A5.out).mono ?_); (case side1 => repeat (first | exact HR0.out | (with_reducible refine Kd.C_alloc ?_ _) | (with_reducible refine Kd.C_drewN ?_ _) | (with_reducible refine Kd.C_drew ?_))); (case side2 => exact HC0.out); rintro e w15 ⟨rfl, hb⟩; have n0_ := (ns_ hb); clear HB; have HB := n0_; clear n0_; (try clear hb); (try clear hb2)))
   go_ret
   exact ⟨by first | rfl | (simp [ziS, znJ] <;> rfl) | (simp [*, ziS, znJ] <;> rfl), bb_⟩
 ·replace c4 := Bool.eq_false_iff.mpr c4
  subst c4
  have H1 : (some false) = some r := by rw [if_neg (show ¬ (false = true) by decide)] at H; exact H
  clear H
  have H := H1
  clear H1
  obtain rfl := Option.some.inj H
  go_enter Tryd.func12, Tryd.ntmps12
  go_wp2_with (first | ((with_reducible refine zgK (f := 24) rfl ?_); refine zqQ (some 4) rfl rfl Tryd.func24 (by kernel_rfl) rfl #[.slice A0 l0.length c0] rfl (by (try simp only [List.map_toArray, List.map_cons, List.map_nil]); first | done | rfl | (simp only [List.length_drop, List.length_take]; rfl)) ?_; (with_reducible refine (zuU.calls _ _ l0 t440 _ ?side1 ?side2 A2.out).mono ?_); (case side1 => repeat (first | exact HR0.out | (with_reducible refine Kd.C_alloc ?_ _) | (with_reducible refine Kd.C_drewN ?_ _) | (with_reducible refine Kd.C_drew ?_))); (case side2 => exact HC0.out); rintro e w' ⟨rfl, ⟨nd, rfl⟩⟩; refine ⟨_, rfl, ?_⟩) | ((with_reducible refine zgK (f := 23) rfl ?_); refine zqQ (some 5) rfl rfl Tryd.func23 (by kernel_rfl) rfl #[.int .i64 t440, .int .i64 3, .int .i64 16] rfl (by (try simp only [List.map_toArray, List.map_cons, List.map_nil]); first | done | rfl | (simp only [List.length_drop, List.length_take]; rfl)) ?_; (with_reducible refine (zrP.calls t440 3 16 false _ A3.out).mono ?_); rintro e w' ⟨rfl, ⟨nd, rfl⟩⟩; refine ⟨_, rfl, ?_⟩))
  go_ret
  exact ⟨by first | rfl | (simp [ziS, znJ] <;> rfl) | (simp [*, ziS, znJ] <;> rfl), bb_⟩

def strconv_FormatInt.f (a0 a1 : Int) : Option ByteArray := if a1 = 10 then (if -9223372036854775808 ≤ a0 ∧ a0 ≤ 9223372036854775807 then some ⟨(Lib.itoa a0).toArray⟩ else none) else none
theorem strconv_FormatInt.calls (a0 a1 : Int) (r : ByteArray) (w : World) (hG : LaidV w) (h : strconv_FormatInt.f a0 a1 = some r) :
  Calls Tryd.prog 76 #[.int .i64 a0, .int .i64 a1] w fun e w' => e = .returned (.string r) ∧ Below w.heap.size w w' := by
 unfold strconv_FormatInt.f at h
 by_cases h1 : a1 = 10
 ·rw [if_pos h1] at h
  subst h1
  by_cases h2 : -9223372036854775808 ≤ a0 ∧ a0 ≤ 9223372036854775807
  ·rw [if_pos h2] at h
   obtain rfl := Option.some.inj h
   refine (Tryd.strconv_FormatInt_10 a0 h2.1 h2.2 w hG.v2).mono ?_
   rintro e w' ⟨rfl, k, os, rfl⟩
   exact ⟨rfl, rfl, rfl, rfl, by show w.heap.size ≤ (w.heap ++ os).size; rw [Array.size_append]; omega, fun i hi => Array.getElem?_append_left hi⟩
  ·rw [if_neg h2] at h; cases h
 ·rw [if_neg h1] at h; cases h

def zcN.f (a0 : Int) : Option (ByteArray) := (strconv_FormatInt.f a0 10).bind fun t445 => (some t445)
set_option maxHeartbeats 8000000 in
set_option maxRecDepth 100000 in
theorem zcN.calls (a0 : Int) (r : ByteArray) (w : World) (hG : LaidV w) (h : zcN.f a0 = some r) :
  Calls Tryd.prog 61 #[.int .i64 a0] w fun e w' => e = .returned (.string r) ∧ Below w.heap.size w w' := by
 have HB := zpS (Below.refl w.heap.size w)
 have H : ((strconv_FormatInt.f a0 10).bind fun t445 => (some t445)) = some r := h
 clear h
 replace H := Option.bind_eq_some_iff.mp H
 obtain ⟨t445, A20, H⟩ := H
 replace H : (some t445) = some r := H
 have A2 := zpS A20
 clear A20
 obtain rfl := Option.some.inj H
 go_enter Tryd.func61, Tryd.ntmps61
 go_wp2_with (first | ((with_reducible refine zgK (f := 76) rfl ?_); refine zqQ (some 4) rfl rfl Tryd.func76 (by kernel_rfl) rfl #[.int .i64 a0, .int .i64 10] rfl (by (try simp only [List.map_toArray, List.map_cons, List.map_nil]); first | done | rfl | (simp only [List.length_drop, List.length_take]; rfl)) ?_; (with_reducible refine (strconv_FormatInt.calls a0 10 t445 _ ?side1 A2.out).mono ?_); (case side1 => exact LaidV.below hG bb_); rintro e w3 ⟨rfl, hb⟩; refine ⟨_, rfl, ?_⟩; have n0_ := (ns_ hb); clear HB; have HB := n0_; clear n0_; (try clear hb); (try clear hb2)))
 go_ret
 exact ⟨by first | rfl | (simp [ziS, znJ] <;> rfl) | (simp [*, ziS, znJ] <;> rfl), bb_⟩

end Go.Proofs.YtmmedohdjfhmnaaDoor.PFnExactPolygonText
