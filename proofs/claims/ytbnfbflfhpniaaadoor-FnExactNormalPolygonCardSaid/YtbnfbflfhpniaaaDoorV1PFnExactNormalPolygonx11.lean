-- Printed for this claim by this session's program pp.py, which drives the kit's print with additions. Not trusted: Lean checks it.
import Derived.Test.YtbnfbflfhpniaaaDoorV1PFnExactNormalPolygonx0
import Derived.Test.YtbnfbflfhpniaaaDoorV1PFnExactNormalPolygonx10
namespace Go.Proofs.YtbnfbflfhpniaaaDoor.PFnExactNormalPolygon
open Go.RowKit Go.Proofs.YtbnfbflfhpniaaaDoorW.PrintWords Go.Proofs.YtbnfbflfhpniaaaDoorW.PrintLast Go.Proofs.YtbnfbflfhpniaaaDoorW.PrintMore
attribute [local go_sem] zbB ziC zrC zhD znE zuB znH zkT   -- for this text's walks alone
set_option linter.unusedVariables false
set_option maxHeartbeats 8000000
set_option maxRecDepth 100000
set_option linter.unusedSimpArgs false

def zmC.f (k : Nat) (a0_0 : Int) (a0_1 : Int) (a0_2 : Int) (a0_3 : Int) (a0_4 : Int) (a0_5 : Int) (a1_0 : Int) (a1_1 : Int) (a1_2 : Int) (a1_3 : Int) (a1_4 : Int) (a1_5 : Int) : Option (Int) := (ziA.f k a0_0 a0_1 a0_2 a1_0 a1_1 a1_2).bind fun t368 => (if t368 = 0 then ((ziA.f k a0_3 a0_4 a0_5 a1_3 a1_4 a1_5).bind fun t369 => (some t369)) else (some t368))
theorem zmC.mono : ∀ a0 a1 a2 a3 a4 a5 a6 a7 a8 a9 a10 a11 k, LeO (zmC.f k a0 a1 a2 a3 a4 a5 a6 a7 a8 a9 a10 a11) (zmC.f (k + 1) a0 a1 a2 a3 a4 a5 a6 a7 a8 a9 a10 a11) := by
 intro a0 a1 a2 a3 a4 a5 a6 a7 a8 a9 a10 a11 k
 unfold zmC.f
 repeat' first
   | (with_reducible exact ziA.mono _ _ _ _ _ _ _)
   | (with_reducible exact LeO.refl _)
   | (with_reducible exact LeO.none _)
   | (with_reducible refine LeO.ite ?_ ?_)
   | (with_reducible refine LeO.bind ?_ (fun _ => ?_))
   | exact ziA.mono _ _ _ _ _ _ _
   | exact LeO.none _
   | refine LeO.ite ?_ ?_
   | refine LeO.bind ?_ (fun _ => ?_)
theorem zmC.calls (k : Nat) (a0_0 : Int) (a0_1 : Int) (a0_2 : Int) (a0_3 : Int) (a0_4 : Int) (a0_5 : Int) (a1_0 : Int) (a1_1 : Int) (a1_2 : Int) (a1_3 : Int) (a1_4 : Int) (a1_5 : Int) (r : Int) (w : World) (h : zmC.f k a0_0 a0_1 a0_2 a0_3 a0_4 a0_5 a1_0 a1_1 a1_2 a1_3 a1_4 a1_5 = some r) :
  Calls Tryd.prog 44 #[.agg #[.int .i64 a0_0, .int .i64 a0_1, .int .i64 a0_2, .int .i64 a0_3, .int .i64 a0_4, .int .i64 a0_5], .agg #[.int .i64 a1_0, .int .i64 a1_1, .int .i64 a1_2, .int .i64 a1_3, .int .i64 a1_4, .int .i64 a1_5]] w fun e w' => e = .returned (.int .i64 r) ∧ Below w.heap.size w w' := by
 have hu35 := Tryd.underlying35
 have hu33 := Tryd.underlying33
 have HB := zpS (Below.refl w.heap.size w)
 have H : ((ziA.f k a0_0 a0_1 a0_2 a1_0 a1_1 a1_2).bind fun t368 => (if t368 = 0 then ((ziA.f k a0_3 a0_4 a0_5 a1_3 a1_4 a1_5).bind fun t369 => (some t369)) else (some t368))) = some r := h
 clear h
 replace H := Option.bind_eq_some_iff.mp H
 obtain ⟨t368, A30, H⟩ := H
 replace H : (if t368 = 0 then ((ziA.f k a0_3 a0_4 a0_5 a1_3 a1_4 a1_5).bind fun t369 => (some t369)) else (some t368)) = some r := H
 have A3 := zpS A30
 clear A30
 by_cases c4 : t368 = 0
 ·rw [if_pos c4] at H
  have c4b0 : (t368 == 0) = true := beq_iff_eq.mpr c4
  have c4b1 : (t368 != 0) = false := bne_eq_false_iff_eq.mpr c4
  clear c4
  replace H := Option.bind_eq_some_iff.mp H
  obtain ⟨t369, A50, H⟩ := H
  replace H : (some t369) = some r := H
  have A5 := zpS A50
  clear A50
  obtain rfl := Option.some.inj H
  go_enter Tryd.func44, Tryd.ntmps44
  go_wp2_with (first | ((with_reducible refine zpZ (N := 2) rfl ?_); refine bx_ 2 #[.int .i64 a0_0, .int .i64 a0_1, .int .i64 a0_2, .int .i64 a0_3, .int .i64 a0_4, .int .i64 a0_5] 35 ?_; intro gb366 hg w6 hbox hb; have n0_ := (ns_ hb); have n1_ := zpS (hbox); have n2_ := (ng_ hg); have n3_ := n2_; clear HB; have HB := n0_; have BK366 := n1_; have GW366 := n2_; have GE366 := n3_; clear n0_ n1_ n2_ n3_; clear hb hbox hg) | ((with_reducible refine zpZ (N := 3) rfl ?_); refine bx_ 3 #[.int .i64 a1_0, .int .i64 a1_1, .int .i64 a1_2, .int .i64 a1_3, .int .i64 a1_4, .int .i64 a1_5] 35 ?_; intro gb367 hg w7 hbox hb; have n0_ := zpS (zgM (g := gb366) (o := .cells #[.int .i64 a0_0, .int .i64 a0_1, .int .i64 a0_2, .int .i64 a0_3, .int .i64 a0_4, .int .i64 a0_5] 35 (0, 0)) bk_ hb); have n1_ := (ns_ hb); have n2_ := zpS (hbox); have n3_ := (ng_ hg); have n4_ := n3_; have n5_ := zpS ((by rw [hg]; exact Nat.ne_of_lt (zmN (g := gb366) (o := .cells #[.int .i64 a0_0, .int .i64 a0_1, .int .i64 a0_2, .int .i64 a0_3, .int .i64 a0_4, .int .i64 a0_5] 35 (0, 0)) bk_) : gb366 ≠ gb367)); have n6_ := zpS ((by rw [hg]; exact Nat.ne_of_gt (zmN (g := gb366) (o := .cells #[.int .i64 a0_0, .int .i64 a0_1, .int .i64 a0_2, .int .i64 a0_3, .int .i64 a0_4, .int .i64 a0_5] 35 (0, 0)) bk_) : gb367 ≠ gb366)); clear BK366; clear HB; have BK366 := n0_; have HB := n1_; have BK367 := n2_; have GW367 := n3_; have GE367 := n4_; have NB366_367 := n5_; have NB367_366 := n6_; clear n0_ n1_ n2_ n3_ n4_ n5_ n6_; clear hb hbox hg; have hnb8 := NB366_367.out; have hnc8 := NB367_366.out; obtain ⟨hcz9_0, hcz9_1, hcz9_2, hcz9_3, hcz9_4, hcz9_5⟩ := zrN BK366.out; obtain ⟨hfz9_0, hfz9_1, hfz9_2, hfz9_3, hfz9_4, hfz9_5⟩ := zoO BK366.out; obtain ⟨hcz10_0, hcz10_1, hcz10_2, hcz10_3, hcz10_4, hcz10_5⟩ := zrN BK367.out; obtain ⟨hfz10_0, hfz10_1, hfz10_2, hfz10_3, hfz10_4, hfz10_5⟩ := zoO BK367.out) | ((with_reducible refine zgK (f := 53) rfl ?_); refine zqQ (some 10) rfl rfl Tryd.func53 (by kernel_rfl) rfl #[.agg #[.int .i64 a0_0, .int .i64 a0_1, .int .i64 a0_2], .agg #[.int .i64 a1_0, .int .i64 a1_1, .int .i64 a1_2]] rfl (by (try simp only [List.map_toArray, List.map_cons, List.map_nil]); first | done | rfl | (simp only [List.length_drop, List.length_take]; rfl)) ?_; (with_reducible refine (ziA.calls k a0_0 a0_1 a0_2 a1_0 a1_1 a1_2 t368 _ A3.out).mono ?_); rintro e w11 ⟨rfl, hb⟩; refine ⟨_, rfl, ?_⟩; have n0_ := zpS (zgM (g := gb366) (o := .cells #[.int .i64 a0_0, .int .i64 a0_1, .int .i64 a0_2, .int .i64 a0_3, .int .i64 a0_4, .int .i64 a0_5] 35 (0, 0)) bk_ hb); have n1_ := zpS (zgM (g := gb367) (o := .cells #[.int .i64 a1_0, .int .i64 a1_1, .int .i64 a1_2, .int .i64 a1_3, .int .i64 a1_4, .int .i64 a1_5] 35 (0, 0)) bk_ hb); have n2_ := (ns_ hb); clear BK366; clear BK367; clear HB; have BK366 := n0_; have BK367 := n1_; have HB := n2_; clear n0_ n1_ n2_; (try clear hb); (try clear hb2); obtain ⟨hcz12_0, hcz12_1, hcz12_2, hcz12_3, hcz12_4, hcz12_5⟩ := zrN BK366.out; obtain ⟨hfz12_0, hfz12_1, hfz12_2, hfz12_3, hfz12_4, hfz12_5⟩ := zoO BK366.out; obtain ⟨hcz13_0, hcz13_1, hcz13_2, hcz13_3, hcz13_4, hcz13_5⟩ := zrN BK367.out; obtain ⟨hfz13_0, hfz13_1, hfz13_2, hfz13_3, hfz13_4, hfz13_5⟩ := zoO BK367.out) | ((with_reducible refine zgK (f := 53) rfl ?_); refine zqQ (some 18) rfl rfl Tryd.func53 (by kernel_rfl) rfl #[.agg #[.int .i64 a0_3, .int .i64 a0_4, .int .i64 a0_5], .agg #[.int .i64 a1_3, .int .i64 a1_4, .int .i64 a1_5]] rfl (by (try simp only [List.map_toArray, List.map_cons, List.map_nil]); first | done | rfl | (simp only [List.length_drop, List.length_take]; rfl)) ?_; (with_reducible refine (ziA.calls k a0_3 a0_4 a0_5 a1_3 a1_4 a1_5 t369 _ A5.out).mono ?_); rintro e w14 ⟨rfl, hb⟩; refine ⟨_, rfl, ?_⟩; have n0_ := zpS (zgM (g := gb366) (o := .cells #[.int .i64 a0_0, .int .i64 a0_1, .int .i64 a0_2, .int .i64 a0_3, .int .i64 a0_4, .int .i64 a0_5] 35 (0, 0)) bk_ hb); have n1_ := zpS (zgM (g := gb367) (o := .cells #[.int .i64 a1_0, .int .i64 a1_1, .int .i64 a1_2, .int .i64 a1_3, .int .i64 a1_4, .int .i64 a1_5] 35 (0, 0)) bk_ hb); have n2_ := (ns_ hb); clear BK366; clear BK367; clear HB; have BK366 := n0_; have BK367 := n1_; have HB := n2_; clear n0_ n1_ n2_; (try clear hb); (try clear hb2)))
  go_ret
  exact ⟨by first | rfl | (simp [ziS, znJ] <;> rfl) | (simp [*, ziS, znJ] <;> rfl), bb_⟩
 ·rw [if_neg c4] at H
  have c4b0 : (t368 == 0) = false := beq_eq_false_iff_ne.mpr c4
  have c4b1 : (t368 != 0) = true := bne_iff_ne.mpr c4
  obtain rfl := Option.some.inj H
  go_enter Tryd.func44, Tryd.ntmps44
  go_wp2_with (first | ((with_reducible refine zpZ (N := 2) rfl ?_); refine bx_ 2 #[.int .i64 a0_0, .int .i64 a0_1, .int .i64 a0_2, .int .i64 a0_3, .int .i64 a0_4, .int .i64 a0_5] 35 ?_; intro gb366 hg w15 hbox hb; have n0_ := (ns_ hb); have n1_ := zpS (hbox); have n2_ := (ng_ hg); have n3_ := n2_; clear HB; have HB := n0_; have BK366 := n1_; have GW366 := n2_; have GE366 := n3_; clear n0_ n1_ n2_ n3_; clear hb hbox hg) | ((with_reducible refine zpZ (N := 3) rfl ?_); refine bx_ 3 #[.int .i64 a1_0, .int .i64 a1_1, .int .i64 a1_2, .int .i64 a1_3, .int .i64 a1_4, .int .i64 a1_5] 35 ?_; intro gb367 hg w16 hbox hb; have n0_ := zpS (zgM (g := gb366) (o := .cells #[.int .i64 a0_0, .int .i64 a0_1, .int .i64 a0_2, .int .i64 a0_3, .int .i64 a0_4, .int .i64 a0_5] 35 (0, 0)) bk_ hb); have n1_ := (ns_ hb); have n2_ := zpS (hbox); have n3_ := (ng_ hg); have n4_ := n3_; have n5_ := zpS ((by rw [hg]; exact Nat.ne_of_lt (zmN (g := gb366) (o := .cells #[.int .i64 a0_0, .int .i64 a0_1, .int .i64 a0_2, .int .i64 a0_3, .int .i64 a0_4, .int .i64 a0_5] 35 (0, 0)) bk_) : gb366 ≠ gb367)); have n6_ := zpS ((by rw [hg]; exact Nat.ne_of_gt (zmN (g := gb366) (o := .cells #[.int .i64 a0_0, .int .i64 a0_1, .int .i64 a0_2, .int .i64 a0_3, .int .i64 a0_4, .int .i64 a0_5] 35 (0, 0)) bk_) : gb367 ≠ gb366)); clear BK366; clear HB; have BK366 := n0_; have HB := n1_; have BK367 := n2_; have GW367 := n3_; have GE367 := n4_; have NB366_367 := n5_; have NB367_366 := n6_; clear n0_ n1_ n2_ n3_ n4_ n5_ n6_; clear hb hbox hg; have hnb17 := NB366_367.out; have hnc17 := NB367_366.out; obtain ⟨hcz18_0, hcz18_1, hcz18_2, hcz18_3, hcz18_4, hcz18_5⟩ := zrN BK366.out; obtain ⟨hfz18_0, hfz18_1, hfz18_2, hfz18_3, hfz18_4, hfz18_5⟩ := zoO BK366.out; obtain ⟨hcz19_0, hcz19_1, hcz19_2, hcz19_3, hcz19_4, hcz19_5⟩ := zrN BK367.out; obtain ⟨hfz19_0, hfz19_1, hfz19_2, hfz19_3, hfz19_4, hfz19_5⟩ := zoO BK367.out) | ((with_reducible refine zgK (f := 53) rfl ?_); refine zqQ (some 10) rfl rfl Tryd.func53 (by kernel_rfl) rfl #[.agg #[.int .i64 a0_0, .int .i64 a0_1, .int .i64 a0_2], .agg #[.int .i64 a1_0, .int .i64 a1_1, .int .i64 a1_2]] rfl (by (try simp only [List.map_toArray, List.map_cons, List.map_nil]); first | done | rfl | (simp only [List.length_drop, List.length_take]; rfl)) ?_; (with_reducible refine (ziA.calls k a0_0 a0_1 a0_2 a1_0 a1_1 a1_2 t368 _ A3.out).mono ?_); rintro e w20 ⟨rfl, hb⟩; refine ⟨_, rfl, ?_⟩; have n0_ := zpS (zgM (g := gb366) (o := .cells #[.int .i64 a0_0, .int .i64 a0_1, .int .i64 a0_2, .int .i64 a0_3, .int .i64 a0_4, .int .i64 a0_5] 35 (0, 0)) bk_ hb); have n1_ := zpS (zgM (g := gb367) (o := .cells #[.int .i64 a1_0, .int .i64 a1_1, .int .i64 a1_2, .int .i64 a1_3, .int .i64 a1_4, .int .i64 a1_5] 35 (0, 0)) bk_ hb); have n2_ := (ns_ hb); clear BK366; clear BK367; clear HB; have BK366 := n0_; have BK367 := n1_; have HB := n2_; clear n0_ n1_ n2_; (try clear hb); (try clear hb2)))
  go_ret
  exact ⟨by first | rfl | (simp [ziS, znJ] <;> rfl) | (simp [*, ziS, znJ] <;> rfl), bb_⟩

def ztP.l0 : Nat → List (S35) → Int → List (S35) → Int → Int → Option (Int)
 | 0, _, _, _, _, _ => none
 | k + 1, x0, x3, x6, x7, x8 => if x8 < x7 then (if 0 ≤ x8 then (if x8 < (x6.length : Int) then (if 0 ≤ x3 then (if x3 < (x0.length : Int) then ((zmC.f k ((zmE x6 x8).f0.f0) ((zmE x6 x8).f0.f1) ((zmE x6 x8).f0.f2) ((zmE x6 x8).f1.f0) ((zmE x6 x8).f1.f1) ((zmE x6 x8).f1.f2) ((zmE x0 x3).f0.f0) ((zmE x0 x3).f0.f1) ((zmE x0 x3).f0.f2) ((zmE x0 x3).f1.f0) ((zmE x0 x3).f1.f1) ((zmE x0 x3).f1.f2)).bind fun t373 => (if t373 < 0 then (ztP.l0 k x0 x8 x6 x7 (wrap64 (x8 + 1))) else (ztP.l0 k x0 x3 x6 x7 (wrap64 (x8 + 1))))) else (none)) else (none)) else (none)) else (none)) else (some x3)
def ztP.f (k : Nat) (l0 : List (S35)) : Option (Int) := ztP.l0 k l0 0 l0 (l0.length : Int) 0
theorem ztP.mono_l : ∀ k, (∀ y0 y1 y2 y3 y4, LeO (ztP.l0 k y0 y1 y2 y3 y4) (ztP.l0 (k + 1) y0 y1 y2 y3 y4))
 | 0 => fun _ _ _ _ _ r h => by simp [ztP.l0] at h
 | k + 1 => by
  have ih0 := ztP.mono_l k
  ·intro y0 y1 y2 y3 y4
   unfold ztP.l0
   repeat' first
   | (with_reducible exact ih0 _ _ _ _ _)
   | (with_reducible exact zmC.mono _ _ _ _ _ _ _ _ _ _ _ _ _)
   | (with_reducible exact LeO.refl _)
   | (with_reducible exact LeO.none _)
   | (with_reducible refine LeO.ite ?_ ?_)
   | (with_reducible refine LeO.bind ?_ (fun _ => ?_))
   | exact ih0 _ _ _ _ _
   | exact zmC.mono _ _ _ _ _ _ _ _ _ _ _ _ _
   | exact LeO.none _
   | refine LeO.ite ?_ ?_
   | refine LeO.bind ?_ (fun _ => ?_)
theorem ztP.mono : ∀ a0 k, LeO (ztP.f k a0) (ztP.f (k + 1) a0) := by
 intro a0 k
 have ih0 := ztP.mono_l k
 unfold ztP.f
 repeat' first
   | (with_reducible exact ih0 _ _ _ _ _)
   | (with_reducible exact zmC.mono _ _ _ _ _ _ _ _ _ _ _ _ _)
   | (with_reducible exact LeO.refl _)
   | (with_reducible exact LeO.none _)
   | (with_reducible refine LeO.ite ?_ ?_)
   | (with_reducible refine LeO.bind ?_ (fun _ => ?_))
   | exact ih0 _ _ _ _ _
   | exact zmC.mono _ _ _ _ _ _ _ _ _ _ _ _ _
   | exact LeO.none _
   | refine LeO.ite ?_ ?_
   | refine LeO.bind ?_ (fun _ => ?_)
theorem ztP.calls (k : Nat) (A0 : Option Addr) (c0 : Nat) (l0 : List (S35)) (r : Int) (w : World) (hr0 : Kd.C k35 w A0 l0.length l0) (hc0 : l0.length ≤ c0) (h : ztP.f k l0 = some r) :
  Calls Tryd.prog 32 #[.slice A0 l0.length c0] w fun e w' => e = .returned (.int .i64 r) ∧ Below w.heap.size w w' := by
 have hu35 := Tryd.underlying35
 have HR0 := zpS hr0
 have HC0 := zpS hc0
 clear hr0 hc0
 have HB := zpS (Below.refl w.heap.size w)
 have H : (ztP.l0 k l0 0 l0 (l0.length : Int) 0) = some r := h
 clear h
 have H' := zpS H
 clear H
 go_enter Tryd.func32, Tryd.ntmps32
 go_wp2
 (try go_simp)
 go_loopg [3, 8] k (fun kq v3 v8 w' => ∃ (x3_1 : Int) (x8_1 : Int), v3 = .int .i64 x3_1 ∧ v8 = .int .i64 x8_1 ∧ Aside0 (ztP.l0 kq l0 x3_1 l0 (l0.length : Int) x8_1 = some r) ∧ Aside0 (kq ≤ k) ∧ Aside0 (Below w.heap.size w w'))
 case atStart => exact ⟨(0), (0), (by first | rfl | (simp; done) | (simp [*]; done)), (by first | rfl | (simp; done) | (simp [*]; done)), H', ⟨Nat.le_refl _⟩, ⟨bb_⟩⟩
 case round =>
  clear H'
  obtain ⟨x3_1, x8_1, rfl, rfl, HA, HK1, HB⟩ := hrel
  cases gk with
  | zero => exact absurd HA.out (by simp [ztP.l0])
  | succ k1 =>
   have H := HA.out
   clear HA
   simp only [ztP.l0] at H
   by_cases c2 : x8_1 < (l0.length : Int)
   ·rw [if_pos c2] at H
    have c2b0 : decide (x8_1 < (l0.length : Int)) = true := decide_eq_true c2
    clear c2
    by_cases c3 : 0 ≤ x8_1
    ·rw [if_pos c3] at H
     have c3b0 : decide (0 ≤ x8_1) = true := decide_eq_true c3
     clear c3
     by_cases c4 : x8_1 < (l0.length : Int)
     ·rw [if_pos c4] at H
      have c4b0 : decide (x8_1 < (l0.length : Int)) = true := decide_eq_true c4
      clear c4
      by_cases c5 : 0 ≤ x3_1
      ·rw [if_pos c5] at H
       have c5b0 : decide (0 ≤ x3_1) = true := decide_eq_true c5
       clear c5
       by_cases c6 : x3_1 < (l0.length : Int)
       ·rw [if_pos c6] at H
        have c6b0 : decide (x3_1 < (l0.length : Int)) = true := decide_eq_true c6
        clear c6
        replace H := Option.bind_eq_some_iff.mp H
        obtain ⟨t373, A70, H⟩ := H
        replace H : (if t373 < 0 then (ztP.l0 k1 l0 x8_1 l0 (l0.length : Int) (wrap64 (x8_1 + 1))) else (ztP.l0 k1 l0 x3_1 l0 (l0.length : Int) (wrap64 (x8_1 + 1)))) = some r := H
        have A7 := zpS A70
        clear A70
        by_cases c8 : t373 < 0
        ·rw [if_pos c8] at H
         have c8b0 : decide (t373 < 0) = true := decide_eq_true c8
         clear c8
         have H' := zpS H
         clear H
         have p370 : 0 ≤ (x8_1 : Int) := dt_
         have q370 : x8_1 < (l0.length : Int) := dt_
         obtain ⟨ad370, e370, hx370_0, hx370_1, hx370_2, hx370_3, hx370_4, hx370_5⟩ := zcN HR0.out x8_1 p370 q370
         cases e370
         replace hx370_0 := zeA HB.out hx370_0
         replace hx370_1 := zeA HB.out hx370_1
         replace hx370_2 := zeA HB.out hx370_2
         replace hx370_3 := zeA HB.out hx370_3
         replace hx370_4 := zeA HB.out hx370_4
         replace hx370_5 := zeA HB.out hx370_5
         replace p370 := eq_true p370
         replace q370 := eq_true q370
         try go_wp2_with (first | ((with_reducible refine zpZ (N := 5) rfl ?_); refine bx_ 5 #[.int .i64 0, .int .i64 0, .int .i64 0, .int .i64 0, .int .i64 0, .int .i64 0] 35 ?_; intro gb371 hg w9 hbox hb; have n0_ := (ns_ hb); have n1_ := zpS (hbox); have n2_ := (ng_ hg); have n3_ := n2_; clear HB; have HB := n0_; have BK371 := n1_; have GW371 := n2_; have GE371 := n3_; clear n0_ n1_ n2_ n3_; clear hb hbox hg; obtain ⟨hcz10_0, hcz10_1, hcz10_2, hcz10_3, hcz10_4, hcz10_5⟩ := zrN BK371.out; obtain ⟨hfz10_0, hfz10_1, hfz10_2, hfz10_3, hfz10_4, hfz10_5⟩ := zoO BK371.out))
         have n0_ : Aside0 (((((((w9.setCell ⟨gb371, 0, none⟩ (.int .i64 ((zmE l0 x8_1).f0.f0))).setCell ⟨gb371, 1, none⟩ (.int .i64 ((zmE l0 x8_1).f0.f1))).setCell ⟨gb371, 2, none⟩ (.int .i64 ((zmE l0 x8_1).f0.f2))).setCell ⟨gb371, 3, none⟩ (.int .i64 ((zmE l0 x8_1).f1.f0))).setCell ⟨gb371, 4, none⟩ (.int .i64 ((zmE l0 x8_1).f1.f1))).setCell ⟨gb371, 5, none⟩ (.int .i64 ((zmE l0 x8_1).f1.f2))).heap[gb371]? = some (.cells #[.int .i64 ((zmE l0 x8_1).f0.f0), .int .i64 ((zmE l0 x8_1).f0.f1), .int .i64 ((zmE l0 x8_1).f0.f2), .int .i64 ((zmE l0 x8_1).f1.f0), .int .i64 ((zmE l0 x8_1).f1.f1), .int .i64 ((zmE l0 x8_1).f1.f2)] 35 (0, 0))) := ⟨by (with_reducible repeat (first | apply zuW | apply ztN | apply zqY)); refine zlL (cs := #[.int .i64 ((zmE l0 x8_1).f0.f0), .int .i64 ((zmE l0 x8_1).f0.f1), .int .i64 ((zmE l0 x8_1).f0.f2), .int .i64 ((zmE l0 x8_1).f1.f0), .int .i64 ((zmE l0 x8_1).f1.f1), .int .i64 0]) ?_ 5 _ rfl; (with_reducible repeat (first | apply zuW | apply ztN | apply zqY)); refine zlL (cs := #[.int .i64 ((zmE l0 x8_1).f0.f0), .int .i64 ((zmE l0 x8_1).f0.f1), .int .i64 ((zmE l0 x8_1).f0.f2), .int .i64 ((zmE l0 x8_1).f1.f0), .int .i64 0, .int .i64 0]) ?_ 4 _ rfl; (with_reducible repeat (first | apply zuW | apply ztN | apply zqY)); refine zlL (cs := #[.int .i64 ((zmE l0 x8_1).f0.f0), .int .i64 ((zmE l0 x8_1).f0.f1), .int .i64 ((zmE l0 x8_1).f0.f2), .int .i64 0, .int .i64 0, .int .i64 0]) ?_ 3 _ rfl; (with_reducible repeat (first | apply zuW | apply ztN | apply zqY)); refine zlL (cs := #[.int .i64 ((zmE l0 x8_1).f0.f0), .int .i64 ((zmE l0 x8_1).f0.f1), .int .i64 0, .int .i64 0, .int .i64 0, .int .i64 0]) ?_ 2 _ rfl; (with_reducible repeat (first | apply zuW | apply ztN | apply zqY)); refine zlL (cs := #[.int .i64 ((zmE l0 x8_1).f0.f0), .int .i64 0, .int .i64 0, .int .i64 0, .int .i64 0, .int .i64 0]) ?_ 1 _ rfl; (with_reducible repeat (first | apply zuW | apply ztN | apply zqY)); refine zlL (cs := #[.int .i64 0, .int .i64 0, .int .i64 0, .int .i64 0, .int .i64 0, .int .i64 0]) ?_ 0 _ rfl; (with_reducible repeat (first | apply zuW | apply ztN | apply zqY)); exact BK371.out⟩
         have n1_ : Aside0 (Below w.heap.size w ((((((w9.setCell ⟨gb371, 0, none⟩ (.int .i64 ((zmE l0 x8_1).f0.f0))).setCell ⟨gb371, 1, none⟩ (.int .i64 ((zmE l0 x8_1).f0.f1))).setCell ⟨gb371, 2, none⟩ (.int .i64 ((zmE l0 x8_1).f0.f2))).setCell ⟨gb371, 3, none⟩ (.int .i64 ((zmE l0 x8_1).f1.f0))).setCell ⟨gb371, 4, none⟩ (.int .i64 ((zmE l0 x8_1).f1.f1))).setCell ⟨gb371, 5, none⟩ (.int .i64 ((zmE l0 x8_1).f1.f2)))) := ⟨bb_⟩
         (try clear BK371)
         (try clear HB)
         generalize ((((((w9.setCell ⟨gb371, 0, none⟩ (.int .i64 ((zmE l0 x8_1).f0.f0))).setCell ⟨gb371, 1, none⟩ (.int .i64 ((zmE l0 x8_1).f0.f1))).setCell ⟨gb371, 2, none⟩ (.int .i64 ((zmE l0 x8_1).f0.f2))).setCell ⟨gb371, 3, none⟩ (.int .i64 ((zmE l0 x8_1).f1.f0))).setCell ⟨gb371, 4, none⟩ (.int .i64 ((zmE l0 x8_1).f1.f1))).setCell ⟨gb371, 5, none⟩ (.int .i64 ((zmE l0 x8_1).f1.f2))) = w11 at n0_ n1_ ⊢
         have BK371 := n0_
         have HB := n1_
         clear n0_ n1_
         have n0_ := zpS (ztN BK371.out)
         have n1_ := zpS (zvF HB.out)
         clear BK371
         clear HB
         have BK371 := n0_
         have HB := n1_
         clear n0_ n1_
         have p372 : 0 ≤ (x3_1 : Int) := dt_
         have q372 : x3_1 < (l0.length : Int) := dt_
         obtain ⟨ad372, e372, hx372_0, hx372_1, hx372_2, hx372_3, hx372_4, hx372_5⟩ := zcN HR0.out x3_1 p372 q372
         have hw372_5 := hx372_5
         have hw372_4 := hx372_4
         have hw372_3 := hx372_3
         have hw372_2 := hx372_2
         have hw372_1 := hx372_1
         have hw372_0 := hx372_0
         obtain rfl : ad370 = ad372 := (by injection e372)
         replace hx372_0 := zeA HB.out hx372_0
         replace hx372_1 := zeA HB.out hx372_1
         replace hx372_2 := zeA HB.out hx372_2
         replace hx372_3 := zeA HB.out hx372_3
         replace hx372_4 := zeA HB.out hx372_4
         replace hx372_5 := zeA HB.out hx372_5
         replace p372 := eq_true p372
         replace q372 := eq_true q372
         refine zpB (n := 7) (S := fun w' => w'.cell? ⟨gb371, 0, none⟩ = some (.int .i64 ((zmE l0 x8_1).f0.f0)) ∧ w'.cell? ⟨gb371, 1, none⟩ = some (.int .i64 ((zmE l0 x8_1).f0.f1)) ∧ w'.cell? ⟨gb371, 2, none⟩ = some (.int .i64 ((zmE l0 x8_1).f0.f2)) ∧ w'.cell? ⟨gb371, 3, none⟩ = some (.int .i64 ((zmE l0 x8_1).f1.f0)) ∧ w'.cell? ⟨gb371, 4, none⟩ = some (.int .i64 ((zmE l0 x8_1).f1.f1)) ∧ w'.cell? ⟨gb371, 5, none⟩ = some (.int .i64 ((zmE l0 x8_1).f1.f2)) ∧ w'.cell? (ad370.add ((x3_1).toNat * 6)) = some (.int .i64 ((zmE l0 x3_1).f0.f0)) ∧ w'.cell? ⟨(ad370.add ((x3_1).toNat * 6)).block, (ad370.add ((x3_1).toNat * 6)).off + 1, none⟩ = some (.int .i64 ((zmE l0 x3_1).f0.f1)) ∧ w'.cell? ⟨(ad370.add ((x3_1).toNat * 6)).block, (ad370.add ((x3_1).toNat * 6)).off + 2, none⟩ = some (.int .i64 ((zmE l0 x3_1).f0.f2)) ∧ w'.cell? ⟨(ad370.add ((x3_1).toNat * 6)).block, (ad370.add ((x3_1).toNat * 6)).off + 3, none⟩ = some (.int .i64 ((zmE l0 x3_1).f1.f0)) ∧ w'.cell? ⟨(ad370.add ((x3_1).toNat * 6)).block, (ad370.add ((x3_1).toNat * 6)).off + 4, none⟩ = some (.int .i64 ((zmE l0 x3_1).f1.f1)) ∧ w'.cell? ⟨(ad370.add ((x3_1).toNat * 6)).block, (ad370.add ((x3_1).toNat * 6)).off + 5, none⟩ = some (.int .i64 ((zmE l0 x3_1).f1.f2))) (ds := []) #[false, false, false, false, false, false, false] (by kernel_rfl) rfl rfl ⟨(zzS BK371.out 0).trans rfl, (zzS BK371.out 1).trans rfl, (zzS BK371.out 2).trans rfl, (zzS BK371.out 3).trans rfl, (zzS BK371.out 4).trans rfl, (zzS BK371.out 5).trans rfl, (zeA HB.out hw372_0), (zeA HB.out hw372_1), (zeA HB.out hw372_2), (zeA HB.out hw372_3), (zeA HB.out hw372_4), (zeA HB.out hw372_5)⟩ (fun hHeld => ?_)
         generalize w11.drew = w12 at BK371 HB hx372_0 hx372_1 hx372_2 hx372_3 hx372_4 hx372_5 hHeld ⊢
         refine ztK (i := 1) (N := some 14) (v := ?_) (a' := ?_) (bl_ 7 2) rfl rfl (by kernel_rfl) (fun _ _ _ h => h) (Or.inl ⟨by rfl, ?_⟩) ?_ ?_
         rotate_left
         ·intro w'
          go_simp
          with_reducible rfl
         rotate_left
         ·simp only [Act.put, List.setIfInBounds_toArray, List.set_cons_zero, List.set_cons_succ, zcM, ziK]
          rfl
         refine ztK (i := 2) (N := some 15) (v := ?_) (a' := ?_) (bl_ 7 6) rfl rfl (by kernel_rfl) (fun _ _ _ h => h) (Or.inl ⟨by rfl, ?_⟩) ?_ ?_
         rotate_left
         ·intro w'
          go_simp
          with_reducible rfl
         rotate_left
         ·simp only [Act.put, List.setIfInBounds_toArray, List.set_cons_zero, List.set_cons_succ, zcM, ziK]
          rfl
         refine ztK (i := 3) (N := some 16) (v := ?_) (a' := ?_) (bl_ 7 14) rfl rfl (by kernel_rfl) (fun _ _ _ h => h) (Or.inl ⟨by rfl, ?_⟩) ?_ ?_
         rotate_left
         ·intro w'
          go_simp
          with_reducible rfl
         rotate_left
         ·simp only [Act.put, List.setIfInBounds_toArray, List.set_cons_zero, List.set_cons_succ, zcM, ziK]
          rfl
         refine take_ (i := 0) (N := some 13) (v := ?_) (a' := ?_) (bl_ 7 15) rfl rfl (by kernel_rfl) (fun _ _ _ h => h) (Or.inl ⟨by rfl, ?_⟩) hHeld ?_ ?_
         rotate_left
         ·rintro w' ⟨s0, s1, s2, s3, s4, s5, s6, s7, s8, s9, s10, s11⟩
          go_simp
          with_reducible rfl
         rotate_left
         ·simp only [Act.put, List.setIfInBounds_toArray, List.set_cons_zero, List.set_cons_succ, zcM, ziK]
          rfl
         refine take_ (i := 4) (N := some 17) (v := ?_) (a' := ?_) (bl_ 7 31) rfl rfl (by kernel_rfl) (fun _ _ _ h => h) (Or.inl ⟨by rfl, ?_⟩) hHeld ?_ ?_
         rotate_left
         ·rintro w' ⟨s0, s1, s2, s3, s4, s5, s6, s7, s8, s9, s10, s11⟩
          go_simp
          with_reducible rfl
         rotate_left
         ·simp only [Act.put, List.setIfInBounds_toArray, List.set_cons_zero, List.set_cons_succ, zcM, ziK]
          rfl
         refine zdC (i := 5) (N := some 18) (bl_ 7 63) rfl rfl (by kernel_rfl) (by decide) (fun K hK => ?_)
         refine zqW Tryd.func44 (by kernel_rfl) rfl #[.agg #[.int .i64 ((zmE l0 x8_1).f0.f0), .int .i64 ((zmE l0 x8_1).f0.f1), .int .i64 ((zmE l0 x8_1).f0.f2), .int .i64 ((zmE l0 x8_1).f1.f0), .int .i64 ((zmE l0 x8_1).f1.f1), .int .i64 ((zmE l0 x8_1).f1.f2)], .agg #[.int .i64 ((zmE l0 x3_1).f0.f0), .int .i64 ((zmE l0 x3_1).f0.f1), .int .i64 ((zmE l0 x3_1).f0.f2), .int .i64 ((zmE l0 x3_1).f1.f0), .int .i64 ((zmE l0 x3_1).f1.f1), .int .i64 ((zmE l0 x3_1).f1.f2)]] (by rfl) rfl rfl (by (try simp only [List.map_toArray, List.map_cons, List.map_nil]); first | done | rfl | (simp only [List.length_drop, List.length_take]; rfl)) ?_
         with_reducible refine (zmC.calls k1 ((zmE l0 x8_1).f0.f0) ((zmE l0 x8_1).f0.f1) ((zmE l0 x8_1).f0.f2) ((zmE l0 x8_1).f1.f0) ((zmE l0 x8_1).f1.f1) ((zmE l0 x8_1).f1.f2) ((zmE l0 x3_1).f0.f0) ((zmE l0 x3_1).f0.f1) ((zmE l0 x3_1).f0.f2) ((zmE l0 x3_1).f1.f0) ((zmE l0 x3_1).f1.f1) ((zmE l0 x3_1).f1.f2) t373 _ A7.out).mono ?_
         rintro e w13 ⟨rfl, hb⟩
         refine ⟨_, rfl, ?_⟩
         have n0_ := zpS (zgM (g := gb371) (o := .cells #[.int .i64 ((zmE l0 x8_1).f0.f0), .int .i64 ((zmE l0 x8_1).f0.f1), .int .i64 ((zmE l0 x8_1).f0.f2), .int .i64 ((zmE l0 x8_1).f1.f0), .int .i64 ((zmE l0 x8_1).f1.f1), .int .i64 ((zmE l0 x8_1).f1.f2)] 35 (0, 0)) bk_ hb)
         have n1_ := (ns_ hb)
         clear BK371
         clear HB
         have BK371 := n0_
         have HB := n1_
         clear n0_ n1_
         (try clear hb)
         (try clear hb2)
         (try clear hk)
         (try clear hi)
         refine hK.out _ _ ⟨(zzS BK371.out 0).trans rfl, (zzS BK371.out 1).trans rfl, (zzS BK371.out 2).trans rfl, (zzS BK371.out 3).trans rfl, (zzS BK371.out 4).trans rfl, (zzS BK371.out 5).trans rfl, (zeA HB.out hw372_0), (zeA HB.out hw372_1), (zeA HB.out hw372_2), (zeA HB.out hw372_3), (zeA HB.out hw372_4), (zeA HB.out hw372_5)⟩ (fun hHeld => ?_)
         clear hK K
         refine zaN (a' := ?_) ?_ ?_
         rotate_left
         ·show Act.put _ (some 18) _ = _
          simp only [Act.put, List.setIfInBounds_toArray, List.set_cons_zero, List.set_cons_succ, zcM, ziK]
          rfl
         refine ztK (i := 6) (N := some 19) (v := ?_) (a' := ?_) (bl_ 7 127) rfl rfl (by kernel_rfl) (fun _ _ _ h => h) (Or.inl ⟨by rfl, ?_⟩) ?_ ?_
         rotate_left
         ·intro w'
          go_simp
          with_reducible rfl
         rotate_left
         ·simp only [Act.put, List.setIfInBounds_toArray, List.set_cons_zero, List.set_cons_succ, zcM, ziK]
          rfl
         refine znK (by kernel_rfl) ?_
         try go_wp2
         go_roundg k1
         case measure => have := HK1.out; omega
         case rel => exact ⟨(x8_1), (wrap64 (x8_1 + 1)), (by first | rfl | (simp; done) | (simp [*]; done)), (by first | rfl | (simp; done) | (simp [*]; done)), H', ⟨by have := HK1.out; omega⟩, ⟨bb_⟩⟩
        ·rw [if_neg c8] at H
         have c8b0 : decide (t373 < 0) = false := decide_eq_false c8
         clear c8
         have H' := zpS H
         clear H
         have p370 : 0 ≤ (x8_1 : Int) := dt_
         have q370 : x8_1 < (l0.length : Int) := dt_
         obtain ⟨ad370, e370, hx370_0, hx370_1, hx370_2, hx370_3, hx370_4, hx370_5⟩ := zcN HR0.out x8_1 p370 q370
         cases e370
         replace hx370_0 := zeA HB.out hx370_0
         replace hx370_1 := zeA HB.out hx370_1
         replace hx370_2 := zeA HB.out hx370_2
         replace hx370_3 := zeA HB.out hx370_3
         replace hx370_4 := zeA HB.out hx370_4
         replace hx370_5 := zeA HB.out hx370_5
         replace p370 := eq_true p370
         replace q370 := eq_true q370
         try go_wp2_with (first | ((with_reducible refine zpZ (N := 5) rfl ?_); refine bx_ 5 #[.int .i64 0, .int .i64 0, .int .i64 0, .int .i64 0, .int .i64 0, .int .i64 0] 35 ?_; intro gb371 hg w14 hbox hb; have n0_ := (ns_ hb); have n1_ := zpS (hbox); have n2_ := (ng_ hg); have n3_ := n2_; clear HB; have HB := n0_; have BK371 := n1_; have GW371 := n2_; have GE371 := n3_; clear n0_ n1_ n2_ n3_; clear hb hbox hg; obtain ⟨hcz15_0, hcz15_1, hcz15_2, hcz15_3, hcz15_4, hcz15_5⟩ := zrN BK371.out; obtain ⟨hfz15_0, hfz15_1, hfz15_2, hfz15_3, hfz15_4, hfz15_5⟩ := zoO BK371.out))
         have n0_ : Aside0 (((((((w14.setCell ⟨gb371, 0, none⟩ (.int .i64 ((zmE l0 x8_1).f0.f0))).setCell ⟨gb371, 1, none⟩ (.int .i64 ((zmE l0 x8_1).f0.f1))).setCell ⟨gb371, 2, none⟩ (.int .i64 ((zmE l0 x8_1).f0.f2))).setCell ⟨gb371, 3, none⟩ (.int .i64 ((zmE l0 x8_1).f1.f0))).setCell ⟨gb371, 4, none⟩ (.int .i64 ((zmE l0 x8_1).f1.f1))).setCell ⟨gb371, 5, none⟩ (.int .i64 ((zmE l0 x8_1).f1.f2))).heap[gb371]? = some (.cells #[.int .i64 ((zmE l0 x8_1).f0.f0), .int .i64 ((zmE l0 x8_1).f0.f1), .int .i64 ((zmE l0 x8_1).f0.f2), .int .i64 ((zmE l0 x8_1).f1.f0), .int .i64 ((zmE l0 x8_1).f1.f1), .int .i64 ((zmE l0 x8_1).f1.f2)] 35 (0, 0))) := ⟨by (with_reducible repeat (first | apply zuW | apply ztN | apply zqY)); refine zlL (cs := #[.int .i64 ((zmE l0 x8_1).f0.f0), .int .i64 ((zmE l0 x8_1).f0.f1), .int .i64 ((zmE l0 x8_1).f0.f2), .int .i64 ((zmE l0 x8_1).f1.f0), .int .i64 ((zmE l0 x8_1).f1.f1), .int .i64 0]) ?_ 5 _ rfl; (with_reducible repeat (first | apply zuW | apply ztN | apply zqY)); refine zlL (cs := #[.int .i64 ((zmE l0 x8_1).f0.f0), .int .i64 ((zmE l0 x8_1).f0.f1), .int .i64 ((zmE l0 x8_1).f0.f2), .int .i64 ((zmE l0 x8_1).f1.f0), .int .i64 0, .int .i64 0]) ?_ 4 _ rfl; (with_reducible repeat (first | apply zuW | apply ztN | apply zqY)); refine zlL (cs := #[.int .i64 ((zmE l0 x8_1).f0.f0), .int .i64 ((zmE l0 x8_1).f0.f1), .int .i64 ((zmE l0 x8_1).f0.f2), .int .i64 0, .int .i64 0, .int .i64 0]) ?_ 3 _ rfl; (with_reducible repeat (first | apply zuW | apply ztN | apply zqY)); refine zlL (cs := #[.int .i64 ((zmE l0 x8_1).f0.f0), .int .i64 ((zmE l0 x8_1).f0.f1), .int .i64 0, .int .i64 0, .int .i64 0, .int .i64 0]) ?_ 2 _ rfl; (with_reducible repeat (first | apply zuW | apply ztN | apply zqY)); refine zlL (cs := #[.int .i64 ((zmE l0 x8_1).f0.f0), .int .i64 0, .int .i64 0, .int .i64 0, .int .i64 0, .int .i64 0]) ?_ 1 _ rfl; (with_reducible repeat (first | apply zuW | apply ztN | apply zqY)); refine zlL (cs := #[.int .i64 0, .int .i64 0, .int .i64 0, .int .i64 0, .int .i64 0, .int .i64 0]) ?_ 0 _ rfl; (with_reducible repeat (first | apply zuW | apply ztN | apply zqY)); exact BK371.out⟩
         have n1_ : Aside0 (Below w.heap.size w ((((((w14.setCell ⟨gb371, 0, none⟩ (.int .i64 ((zmE l0 x8_1).f0.f0))).setCell ⟨gb371, 1, none⟩ (.int .i64 ((zmE l0 x8_1).f0.f1))).setCell ⟨gb371, 2, none⟩ (.int .i64 ((zmE l0 x8_1).f0.f2))).setCell ⟨gb371, 3, none⟩ (.int .i64 ((zmE l0 x8_1).f1.f0))).setCell ⟨gb371, 4, none⟩ (.int .i64 ((zmE l0 x8_1).f1.f1))).setCell ⟨gb371, 5, none⟩ (.int .i64 ((zmE l0 x8_1).f1.f2)))) := ⟨bb_⟩
         (try clear BK371)
         (try clear HB)
         generalize ((((((w14.setCell ⟨gb371, 0, none⟩ (.int .i64 ((zmE l0 x8_1).f0.f0))).setCell ⟨gb371, 1, none⟩ (.int .i64 ((zmE l0 x8_1).f0.f1))).setCell ⟨gb371, 2, none⟩ (.int .i64 ((zmE l0 x8_1).f0.f2))).setCell ⟨gb371, 3, none⟩ (.int .i64 ((zmE l0 x8_1).f1.f0))).setCell ⟨gb371, 4, none⟩ (.int .i64 ((zmE l0 x8_1).f1.f1))).setCell ⟨gb371, 5, none⟩ (.int .i64 ((zmE l0 x8_1).f1.f2))) = w16 at n0_ n1_ ⊢
         have BK371 := n0_
         have HB := n1_
         clear n0_ n1_
         have n0_ := zpS (ztN BK371.out)
         have n1_ := zpS (zvF HB.out)
         clear BK371
         clear HB
         have BK371 := n0_
         have HB := n1_
         clear n0_ n1_
         have p372 : 0 ≤ (x3_1 : Int) := dt_
         have q372 : x3_1 < (l0.length : Int) := dt_
         obtain ⟨ad372, e372, hx372_0, hx372_1, hx372_2, hx372_3, hx372_4, hx372_5⟩ := zcN HR0.out x3_1 p372 q372
         have hw372_5 := hx372_5
         have hw372_4 := hx372_4
         have hw372_3 := hx372_3
         have hw372_2 := hx372_2
         have hw372_1 := hx372_1
         have hw372_0 := hx372_0
         obtain rfl : ad370 = ad372 := (by injection e372)
         replace hx372_0 := zeA HB.out hx372_0
         replace hx372_1 := zeA HB.out hx372_1
         replace hx372_2 := zeA HB.out hx372_2
         replace hx372_3 := zeA HB.out hx372_3
         replace hx372_4 := zeA HB.out hx372_4
         replace hx372_5 := zeA HB.out hx372_5
         replace p372 := eq_true p372
         replace q372 := eq_true q372
         refine zpB (n := 7) (S := fun w' => w'.cell? ⟨gb371, 0, none⟩ = some (.int .i64 ((zmE l0 x8_1).f0.f0)) ∧ w'.cell? ⟨gb371, 1, none⟩ = some (.int .i64 ((zmE l0 x8_1).f0.f1)) ∧ w'.cell? ⟨gb371, 2, none⟩ = some (.int .i64 ((zmE l0 x8_1).f0.f2)) ∧ w'.cell? ⟨gb371, 3, none⟩ = some (.int .i64 ((zmE l0 x8_1).f1.f0)) ∧ w'.cell? ⟨gb371, 4, none⟩ = some (.int .i64 ((zmE l0 x8_1).f1.f1)) ∧ w'.cell? ⟨gb371, 5, none⟩ = some (.int .i64 ((zmE l0 x8_1).f1.f2)) ∧ w'.cell? (ad370.add ((x3_1).toNat * 6)) = some (.int .i64 ((zmE l0 x3_1).f0.f0)) ∧ w'.cell? ⟨(ad370.add ((x3_1).toNat * 6)).block, (ad370.add ((x3_1).toNat * 6)).off + 1, none⟩ = some (.int .i64 ((zmE l0 x3_1).f0.f1)) ∧ w'.cell? ⟨(ad370.add ((x3_1).toNat * 6)).block, (ad370.add ((x3_1).toNat * 6)).off + 2, none⟩ = some (.int .i64 ((zmE l0 x3_1).f0.f2)) ∧ w'.cell? ⟨(ad370.add ((x3_1).toNat * 6)).block, (ad370.add ((x3_1).toNat * 6)).off + 3, none⟩ = some (.int .i64 ((zmE l0 x3_1).f1.f0)) ∧ w'.cell? ⟨(ad370.add ((x3_1).toNat * 6)).block, (ad370.add ((x3_1).toNat * 6)).off + 4, none⟩ = some (.int .i64 ((zmE l0 x3_1).f1.f1)) ∧ w'.cell? ⟨(ad370.add ((x3_1).toNat * 6)).block, (ad370.add ((x3_1).toNat * 6)).off + 5, none⟩ = some (.int .i64 ((zmE l0 x3_1).f1.f2))) (ds := []) #[false, false, false, false, false, false, false] (by kernel_rfl) rfl rfl ⟨(zzS BK371.out 0).trans rfl, (zzS BK371.out 1).trans rfl, (zzS BK371.out 2).trans rfl, (zzS BK371.out 3).trans rfl, (zzS BK371.out 4).trans rfl, (zzS BK371.out 5).trans rfl, (zeA HB.out hw372_0), (zeA HB.out hw372_1), (zeA HB.out hw372_2), (zeA HB.out hw372_3), (zeA HB.out hw372_4), (zeA HB.out hw372_5)⟩ (fun hHeld => ?_)
         generalize w16.drew = w17 at BK371 HB hx372_0 hx372_1 hx372_2 hx372_3 hx372_4 hx372_5 hHeld ⊢
         refine ztK (i := 1) (N := some 14) (v := ?_) (a' := ?_) (bl_ 7 2) rfl rfl (by kernel_rfl) (fun _ _ _ h => h) (Or.inl ⟨by rfl, ?_⟩) ?_ ?_
         rotate_left
         ·intro w'
          go_simp
          with_reducible rfl
         rotate_left
         ·simp only [Act.put, List.setIfInBounds_toArray, List.set_cons_zero, List.set_cons_succ, zcM, ziK]
          rfl
         refine ztK (i := 2) (N := some 15) (v := ?_) (a' := ?_) (bl_ 7 6) rfl rfl (by kernel_rfl) (fun _ _ _ h => h) (Or.inl ⟨by rfl, ?_⟩) ?_ ?_
         rotate_left
         ·intro w'
          go_simp
          with_reducible rfl
         rotate_left
         ·simp only [Act.put, List.setIfInBounds_toArray, List.set_cons_zero, List.set_cons_succ, zcM, ziK]
          rfl
         refine ztK (i := 3) (N := some 16) (v := ?_) (a' := ?_) (bl_ 7 14) rfl rfl (by kernel_rfl) (fun _ _ _ h => h) (Or.inl ⟨by rfl, ?_⟩) ?_ ?_
         rotate_left
         ·intro w'
          go_simp
          with_reducible rfl
         rotate_left
         ·simp only [Act.put, List.setIfInBounds_toArray, List.set_cons_zero, List.set_cons_succ, zcM, ziK]
          rfl
         refine take_ (i := 0) (N := some 13) (v := ?_) (a' := ?_) (bl_ 7 15) rfl rfl (by kernel_rfl) (fun _ _ _ h => h) (Or.inl ⟨by rfl, ?_⟩) hHeld ?_ ?_
         rotate_left
         ·rintro w' ⟨s0, s1, s2, s3, s4, s5, s6, s7, s8, s9, s10, s11⟩
          go_simp
          with_reducible rfl
         rotate_left
         ·simp only [Act.put, List.setIfInBounds_toArray, List.set_cons_zero, List.set_cons_succ, zcM, ziK]
          rfl
         refine take_ (i := 4) (N := some 17) (v := ?_) (a' := ?_) (bl_ 7 31) rfl rfl (by kernel_rfl) (fun _ _ _ h => h) (Or.inl ⟨by rfl, ?_⟩) hHeld ?_ ?_
         rotate_left
         ·rintro w' ⟨s0, s1, s2, s3, s4, s5, s6, s7, s8, s9, s10, s11⟩
          go_simp
          with_reducible rfl
         rotate_left
         ·simp only [Act.put, List.setIfInBounds_toArray, List.set_cons_zero, List.set_cons_succ, zcM, ziK]
          rfl
         refine zdC (i := 5) (N := some 18) (bl_ 7 63) rfl rfl (by kernel_rfl) (by decide) (fun K hK => ?_)
         refine zqW Tryd.func44 (by kernel_rfl) rfl #[.agg #[.int .i64 ((zmE l0 x8_1).f0.f0), .int .i64 ((zmE l0 x8_1).f0.f1), .int .i64 ((zmE l0 x8_1).f0.f2), .int .i64 ((zmE l0 x8_1).f1.f0), .int .i64 ((zmE l0 x8_1).f1.f1), .int .i64 ((zmE l0 x8_1).f1.f2)], .agg #[.int .i64 ((zmE l0 x3_1).f0.f0), .int .i64 ((zmE l0 x3_1).f0.f1), .int .i64 ((zmE l0 x3_1).f0.f2), .int .i64 ((zmE l0 x3_1).f1.f0), .int .i64 ((zmE l0 x3_1).f1.f1), .int .i64 ((zmE l0 x3_1).f1.f2)]] (by rfl) rfl rfl (by (try simp only [List.map_toArray, List.map_cons, List.map_nil]); first | done | rfl | (simp only [List.length_drop, List.length_take]; rfl)) ?_
         with_reducible refine (zmC.calls k1 ((zmE l0 x8_1).f0.f0) ((zmE l0 x8_1).f0.f1) ((zmE l0 x8_1).f0.f2) ((zmE l0 x8_1).f1.f0) ((zmE l0 x8_1).f1.f1) ((zmE l0 x8_1).f1.f2) ((zmE l0 x3_1).f0.f0) ((zmE l0 x3_1).f0.f1) ((zmE l0 x3_1).f0.f2) ((zmE l0 x3_1).f1.f0) ((zmE l0 x3_1).f1.f1) ((zmE l0 x3_1).f1.f2) t373 _ A7.out).mono ?_
         rintro e w18 ⟨rfl, hb⟩
         refine ⟨_, rfl, ?_⟩
         have n0_ := zpS (zgM (g := gb371) (o := .cells #[.int .i64 ((zmE l0 x8_1).f0.f0), .int .i64 ((zmE l0 x8_1).f0.f1), .int .i64 ((zmE l0 x8_1).f0.f2), .int .i64 ((zmE l0 x8_1).f1.f0), .int .i64 ((zmE l0 x8_1).f1.f1), .int .i64 ((zmE l0 x8_1).f1.f2)] 35 (0, 0)) bk_ hb)
         have n1_ := (ns_ hb)
         clear BK371
         clear HB
         have BK371 := n0_
         have HB := n1_
         clear n0_ n1_
         (try clear hb)
         (try clear hb2)
         (try clear hk)
         (try clear hi)
         refine hK.out _ _ ⟨(zzS BK371.out 0).trans rfl, (zzS BK371.out 1).trans rfl, (zzS BK371.out 2).trans rfl, (zzS BK371.out 3).trans rfl, (zzS BK371.out 4).trans rfl, (zzS BK371.out 5).trans rfl, (zeA HB.out hw372_0), (zeA HB.out hw372_1), (zeA HB.out hw372_2), (zeA HB.out hw372_3), (zeA HB.out hw372_4), (zeA HB.out hw372_5)⟩ (fun hHeld => ?_)
         clear hK K
         refine zaN (a' := ?_) ?_ ?_
         rotate_left
         ·show Act.put _ (some 18) _ = _
          simp only [Act.put, List.setIfInBounds_toArray, List.set_cons_zero, List.set_cons_succ, zcM, ziK]
          rfl
         refine ztK (i := 6) (N := some 19) (v := ?_) (a' := ?_) (bl_ 7 127) rfl rfl (by kernel_rfl) (fun _ _ _ h => h) (Or.inl ⟨by rfl, ?_⟩) ?_ ?_
         rotate_left
         ·intro w'
          go_simp
          with_reducible rfl
         rotate_left
         ·simp only [Act.put, List.setIfInBounds_toArray, List.set_cons_zero, List.set_cons_succ, zcM, ziK]
          rfl
         refine znK (by kernel_rfl) ?_
         try go_wp2
         go_roundg k1
         case measure => have := HK1.out; omega
         case rel => exact ⟨(x3_1), (wrap64 (x8_1 + 1)), (by first | rfl | (simp; done) | (simp [*]; done)), (by first | rfl | (simp; done) | (simp [*]; done)), H', ⟨by have := HK1.out; omega⟩, ⟨bb_⟩⟩
       ·rw [if_neg c6] at H
        exact absurd H (by simp)
      ·rw [if_neg c5] at H
       exact absurd H (by simp)
     ·rw [if_neg c4] at H
      exact absurd H (by simp)
    ·rw [if_neg c3] at H
     exact absurd H (by simp)
   ·rw [if_neg c2] at H
    have c2b0 : decide (x8_1 < (l0.length : Int)) = false := decide_eq_false c2
    clear c2
    obtain rfl := Option.some.inj H
    go_wp2
    go_ret
    exact ⟨by first | rfl | (simp [ziS, znJ] <;> rfl) | (simp [*, ziS, znJ] <;> rfl), bb_⟩

-- NOT PRINTED: function 45 (impl_Point_45)

def zlT.f (a0 : Int) : Option (List S35) := if 0 ≤ a0 ∧ a0 ≤ 2932031007401 then some [] else none
theorem zlT.calls (a0 : Int) (r : List S35) (w : World) (h : zlT.f a0 = some r) :
  Calls Tryd.prog 45 #[.slice none 0 0, .int .i64 a0] w fun e w' => ∃ v0_ : Value, e = .returned (v0_) ∧ Kd.R k35 35 w' w.heap.size (fun _ => True) v0_ r ∧ Below w.heap.size w w' := by
 have HB := zpS (Below.refl w.heap.size w)
 unfold zlT.f at h
 by_cases hc : 0 ≤ a0 ∧ a0 ≤ 2932031007401
 ·rw [if_pos hc] at h
  obtain rfl := Option.some.inj h
  clear h
  obtain ⟨h0, h1⟩ := hc
  have hn : a0.toNat * 48 ≤ 140737488355328 := by omega
  have HN := zpS hn
  clear hn
  by_cases hp : 0 < a0
  ·go_enter Tryd.func45, Tryd.ntmps45
   go_wp2_with (first | (at_builtin; refine Kd.R_append_zeros k35 (w0 := w) w.heap.size rfl (.tmp 20) (.tmp 21) 24 3 35 (.agg #[(.int .i64 0), (.int .i64 0), (.int .i64 0), (.int .i64 0), (.int .i64 0), (.int .i64 0)]) 48 rfl Tryd.underlying24 Tryd.underlying3 info35 rfl (by decide) (by omega) (.slice none 0 0) [] z35 (a0 : Int) (fun _ => True) rfl rfl (k35_mkM _ _ _ z35) ?aF ?aO h0 ?aB ?aS ?aL ?_; (case aF => exact fun _ _ => trivial); (case aO => exact Kd.R_nil _ _ _ _ _); (case aB => exact HB.out); (case aS => exact Nat.le_refl _); (case aL => have := HN.out; simpa using this); intro v1 w5 ho hb hg hat; have n0_ := zpS hb; have n1_ := zpS ho; clear HB; have HB := n0_; have HO := n1_; clear n0_ n1_; clear ho hb hg hat; obtain ⟨A1, c1, rfl⟩ := Kd.R_slice HO.out))
   go_ret
   exact ⟨_, rfl, by simpa using Kd.R_take HO.out (Nat.zero_le _), HB.out⟩
  ·obtain rfl : a0 = 0 := by omega
   go_enter Tryd.func45, Tryd.ntmps45
   go_wp2
   go_ret
   exact ⟨_, rfl, Kd.R_nil _ _ _ _ _, Below.refl _ _⟩
 ·rw [if_neg hc] at h; cases h

mutual
def ziJ.l0 : Nat → List (List (S35)) → Int → List (List (S35)) → Int → Int → Option ((List (S35)))
 | 0, _, _, _, _, _ => none
 | k + 1, x0, x3, x9, x10, x11 => if x11 < x10 then (if 0 ≤ x11 then (if x11 < (x9.length : Int) then (if (wrap64 (x3 + ((rd_L7 x9 x11).length : Int))) < 0 then (none) else (ziJ.l0 k x0 (wrap64 (x3 + ((rd_L7 x9 x11).length : Int))) x9 x10 (wrap64 (x11 + 1)))) else (none)) else (none)) else ((zlT.f x3).bind fun t375 => (ziJ.l1 k t375 x0 (x0.length : Int) 0))
def ziJ.l1 : Nat → List (S35) → List (List (S35)) → Int → Int → Option ((List (S35)))
 | 0, _, _, _, _ => none
 | k + 1, x6, x25, x26, x27 => if x27 < x26 then (if 0 ≤ x27 then (if x27 < (x25.length : Int) then (if x6.length + (rd_L7 x25 x27).length < 2932031007402 then (ziJ.l1 k (x6 ++ (rd_L7 x25 x27)) x25 x26 (wrap64 (x27 + 1))) else (none)) else (none)) else (none)) else (some x6)
end
def ziJ.f (k : Nat) (l0 : List (List (S35))) : Option ((List (S35))) := ziJ.l0 k l0 0 l0 (l0.length : Int) 0
theorem ziJ.mono_l : ∀ k, (∀ y0 y1 y2 y3 y4, LeO (ziJ.l0 k y0 y1 y2 y3 y4) (ziJ.l0 (k + 1) y0 y1 y2 y3 y4)) ∧ (∀ y0 y1 y2 y3, LeO (ziJ.l1 k y0 y1 y2 y3) (ziJ.l1 (k + 1) y0 y1 y2 y3))
 | 0 => ⟨fun _ _ _ _ _ r h => by simp [ziJ.l0] at h, fun _ _ _ _ r h => by simp [ziJ.l1] at h⟩
 | k + 1 => by
  obtain ⟨ih0, ih1⟩ := ziJ.mono_l k
  refine ⟨?_, ?_⟩
  ·intro y0 y1 y2 y3 y4
   unfold ziJ.l0
   repeat' first
   | (with_reducible exact ih0 _ _ _ _ _)
   | (with_reducible exact ih1 _ _ _ _)
   | (with_reducible exact LeO.refl _)
   | (with_reducible exact LeO.none _)
   | (with_reducible refine LeO.ite ?_ ?_)
   | (with_reducible refine LeO.bind ?_ (fun _ => ?_))
   | exact ih0 _ _ _ _ _
   | exact ih1 _ _ _ _
   | exact LeO.none _
   | refine LeO.ite ?_ ?_
   | refine LeO.bind ?_ (fun _ => ?_)
  ·intro y0 y1 y2 y3
   unfold ziJ.l1
   repeat' first
   | (with_reducible exact ih0 _ _ _ _ _)
   | (with_reducible exact ih1 _ _ _ _)
   | (with_reducible exact LeO.refl _)
   | (with_reducible exact LeO.none _)
   | (with_reducible refine LeO.ite ?_ ?_)
   | (with_reducible refine LeO.bind ?_ (fun _ => ?_))
   | exact ih0 _ _ _ _ _
   | exact ih1 _ _ _ _
   | exact LeO.none _
   | refine LeO.ite ?_ ?_
   | refine LeO.bind ?_ (fun _ => ?_)
theorem ziJ.mono : ∀ a0 k, LeO (ziJ.f k a0) (ziJ.f (k + 1) a0) := by
 intro a0 k
 obtain ⟨ih0, ih1⟩ := ziJ.mono_l k
 unfold ziJ.f
 repeat' first
   | (with_reducible exact ih0 _ _ _ _ _)
   | (with_reducible exact ih1 _ _ _ _)
   | (with_reducible exact LeO.refl _)
   | (with_reducible exact LeO.none _)
   | (with_reducible refine LeO.ite ?_ ?_)
   | (with_reducible refine LeO.bind ?_ (fun _ => ?_))
   | exact ih0 _ _ _ _ _
   | exact ih1 _ _ _ _
   | exact LeO.none _
   | refine LeO.ite ?_ ?_
   | refine LeO.bind ?_ (fun _ => ?_)
theorem ziJ.calls (k : Nat) (A0 : Option Addr) (c0 : Nat) (l0 : List (List (S35))) (r : List (S35)) (w : World) (hr0 : Kd.C (Kd.slice 35 k35) w A0 l0.length l0) (hc0 : l0.length ≤ c0) (h : ziJ.f k l0 = some r) :
  Calls Tryd.prog 33 #[.slice A0 l0.length c0] w fun e w' => ∃ v0_ : Value, e = .returned (v0_) ∧ Kd.R k35 35 w' w.heap.size (fun _ => True) v0_ r ∧ Below w.heap.size w w' := by
 have HR0 := zpS hr0
 have HC0 := zpS hc0
 clear hr0 hc0
 have HB := zpS (Below.refl w.heap.size w)
 have H : (ziJ.l0 k l0 0 l0 (l0.length : Int) 0) = some r := h
 clear h
 have H' := zpS H
 clear H
 go_enter Tryd.func33, Tryd.ntmps33
 go_wp2
 (try go_simp)
 go_loopg [3, 11] k (fun kq v3 v11 w' => ∃ (x3_1 : Int) (x11_1 : Int), v3 = .int .i64 x3_1 ∧ v11 = .int .i64 x11_1 ∧ Aside0 (ziJ.l0 kq l0 x3_1 l0 (l0.length : Int) x11_1 = some r) ∧ Aside0 (kq ≤ k) ∧ Aside0 (Below w.heap.size w w'))
 case atStart => exact ⟨(0), (0), (by first | rfl | (simp; done) | (simp [*]; done)), (by first | rfl | (simp; done) | (simp [*]; done)), H', ⟨Nat.le_refl _⟩, ⟨bb_⟩⟩
 case round =>
  clear H'
  obtain ⟨x3_1, x11_1, rfl, rfl, HA, HK1, HB⟩ := hrel
  cases gk with
  | zero => exact absurd HA.out (by simp [ziJ.l0])
  | succ k1 =>
   have H := HA.out
   clear HA
   simp only [ziJ.l0] at H
   by_cases c2 : x11_1 < (l0.length : Int)
   ·rw [if_pos c2] at H
    have c2b0 : decide (x11_1 < (l0.length : Int)) = true := decide_eq_true c2
    clear c2
    by_cases c3 : 0 ≤ x11_1
    ·rw [if_pos c3] at H
     have c3b0 : decide (0 ≤ x11_1) = true := decide_eq_true c3
     clear c3
     by_cases c4 : x11_1 < (l0.length : Int)
     ·rw [if_pos c4] at H
      have c4b0 : decide (x11_1 < (l0.length : Int)) = true := decide_eq_true c4
      clear c4
      by_cases c5 : (wrap64 (x3_1 + ((rd_L7 l0 x11_1).length : Int))) < 0
      ·rw [if_pos c5] at H
       exact absurd H (by simp)
      ·rw [if_neg c5] at H
       have c5b0 : decide ((wrap64 (x3_1 + ((rd_L7 l0 x11_1).length : Int))) < 0) = false := decide_eq_false c5
       clear c5
       have H' := zpS H
       clear H
       have p374 : 0 ≤ (x11_1 : Int) := dt_
       have q374 : x11_1 < (l0.length : Int) := dt_
       obtain ⟨ad374, A374_0, c374_0, e374, hx374_0, hl374_0, hi374_0⟩ := at_L7 HR0.out x11_1 p374 q374
       cases e374
       replace hx374_0 := zeA HB.out hx374_0
       have HR374_0 := zpS hi374_0
       have HC374_0 := zpS hl374_0
       clear hi374_0 hl374_0
       replace p374 := eq_true p374
       replace q374 := eq_true q374
       go_wp2
       go_roundg k1
       case measure => have := HK1.out; omega
       case rel => exact ⟨(wrap64 (x3_1 + ((rd_L7 l0 x11_1).length : Int))), (wrap64 (x11_1 + 1)), (by first | rfl | (simp; done) | (simp [*]; done)), (by first | rfl | (simp; done) | (simp [*]; done)), H', ⟨by have := HK1.out; omega⟩, ⟨bb_⟩⟩
     ·rw [if_neg c4] at H
      exact absurd H (by simp)
    ·rw [if_neg c3] at H
     exact absurd H (by simp)
   ·rw [if_neg c2] at H
    have c2b0 : decide (x11_1 < (l0.length : Int)) = false := decide_eq_false c2
    clear c2
    replace H := Option.bind_eq_some_iff.mp H
    obtain ⟨t375, A60, H⟩ := H
    replace H : (ziJ.l1 k1 t375 l0 (l0.length : Int) 0) = some r := H
    have A6 := zpS A60
    clear A60
    have H' := zpS H
    clear H
    go_wp2_with (first | ((with_reducible refine zgK (f := 45) rfl ?_); refine zqQ (some 24) rfl rfl Tryd.func45 (by kernel_rfl) rfl #[.slice none 0 0, .int .i64 x3_1] rfl (by (try simp only [List.map_toArray, List.map_cons, List.map_nil]); first | done | rfl | (simp only [List.length_drop, List.length_take]; rfl)) ?_; (with_reducible refine (zlT.calls  x3_1 t375 _ A6.out).mono ?_); rintro e w7 ⟨v376, rfl, ho0, hb⟩; refine ⟨_, rfl, ?_⟩; have n0_ := zpS (Kd.R_lower ho0 (zuA bb_)); have n1_ := (ns_ hb); clear HB; have HO377 := n0_; have HB := n1_; clear n0_ n1_; (try clear hb); (try clear hb2); (try clear ho0)))
    (try go_simp)
    go_loopg [6, 27] k1 (fun kq v6 v27 w' => ∃ (x6_2 : List (S35)) (x27_2 : Int), v27 = .int .i64 x27_2 ∧ Aside0 (ziJ.l1 kq x6_2 l0 (l0.length : Int) x27_2 = some r) ∧ Aside0 (kq ≤ k1) ∧ Aside0 (Kd.R k35 35 w' w.heap.size (fun _ => True) v6 x6_2) ∧ Aside0 (Below w.heap.size w w'))
    case atStart => exact ⟨(t375), (0), (by first | rfl | (simp; done) | (simp [*]; done)), H', ⟨Nat.le_refl _⟩, ⟨by (with_reducible repeat (first | apply Kd.R_alloc | apply Kd.R_drewN | apply Kd.R_drew)); exact HO377.out⟩, ⟨bb_⟩⟩
    case round =>
     clear H'
     try clear c2
     try clear c2b0
     try clear p2
     try clear c3
     try clear c3b0
     try clear p3
     try clear q3
     try clear hx3
     try clear c4
     try clear c4b0
     try clear c5
     try clear c5b0
     try clear p6
     try clear hx374_0
     try clear p374
     try clear q374
     obtain ⟨x6_2, x27_2, rfl, HA, HK2, HO_6, HB⟩ := hrel
     cases gk with
     | zero => exact absurd HA.out (by simp [ziJ.l1])
     | succ k2 =>
      have H := HA.out
      clear HA
      simp only [ziJ.l1] at H
      by_cases c8 : x27_2 < (l0.length : Int)
      ·rw [if_pos c8] at H
       have c8b0 : decide (x27_2 < (l0.length : Int)) = true := decide_eq_true c8
       clear c8
       by_cases c9 : 0 ≤ x27_2
       ·rw [if_pos c9] at H
        have c9b0 : decide (0 ≤ x27_2) = true := decide_eq_true c9
        clear c9
        by_cases c10 : x27_2 < (l0.length : Int)
        ·rw [if_pos c10] at H
         have c10b0 : decide (x27_2 < (l0.length : Int)) = true := decide_eq_true c10
         clear c10
         by_cases c11 : x6_2.length + (rd_L7 l0 x27_2).length < 2932031007402
         ·rw [if_pos c11] at H
          have LMc11 := zpS c11
          clear c11
          obtain ⟨y379, hy379⟩ : ∃ y_ : List (S35), y_ = (x6_2 ++ (rd_L7 l0 x27_2)) := ⟨_, rfl⟩
          replace H : (ziJ.l1 k2 y379 l0 (l0.length : Int) (wrap64 (x27_2 + 1))) = some r := by first | (rw [hy379]; with_reducible exact H) | (have H2_ := (Option.bind_some _ _).symm.trans H; rw [hy379]; with_reducible exact H2_) | (have H2_ := (Option.bind_some _ _).symm.trans H; with_reducible exact H2_) | with_reducible exact H | (rw [hy379]; exact H) | exact H
          have Ny379 := zpS hy379
          clear hy379
          have H' := zpS H
          clear H
          have p378 : 0 ≤ (x27_2 : Int) := dt_
          have q378 : x27_2 < (l0.length : Int) := dt_
          obtain ⟨ad378, A378_0, c378_0, e378, hx378_0, hl378_0, hi378_0⟩ := at_L7 HR0.out x27_2 p378 q378
          cases e378
          replace hx378_0 := zeA HB.out hx378_0
          have HR378_0 := zpS hi378_0
          have HC378_0 := zpS hl378_0
          clear hi378_0 hl378_0
          replace p378 := eq_true p378
          replace q378 := eq_true q378
          go_wp2_with (first | ((with_reducible refine zcL (b := .append) (xs := #[.tmp 31, .tmp 32]) rfl ?_); at_builtin; refine Kd.R_append_rows k35 (w0 := w) w.heap.size rfl (.tmp 31) (.tmp 32) 24 35 (.agg #[(.int .i64 0), (.int .i64 0), (.int .i64 0), (.int .i64 0), (.int .i64 0), (.int .i64 0)]) 48 rfl Tryd.underlying24 info35 rfl (by decide) (by omega) u6 x6_2 (rd_L7 l0 x27_2) _ _ _ (fun _ => True) (fun _ => False) rfl rfl ?aO ?aR (fun _ _ h => h) (fun _ h => h.elim) ?aF ?aB ?aS ?aL ?_; (case aR => repeat (first | exact (Kd.C_below HR378_0.out HB.out) | (with_reducible refine Kd.C_alloc ?_ _) | (with_reducible refine Kd.C_drewN ?_ _) | (with_reducible refine Kd.C_drew ?_))); (case aB => exact bb_); (case aF => exact (fun _ _ => trivial)); (case aO => exact (by (with_reducible repeat (first | apply Kd.R_alloc | apply Kd.R_drewN | apply Kd.R_drew)); exact HO_6.out)); (case aS => exact (zuA bb_)); (case aL => have := LMc11.out; omega); intro v380 w12 ho hb hg hat; rw [← Ny379.out] at ho; have n0_ := zpS (hb); have n1_ := zpS (ho); clear HB; clear HO_6; have HB := n0_; have HO381 := n1_; clear n0_ n1_; clear ho hb hg hat))
          go_roundg k2
          case measure => have := HK1.out; have := HK2.out; omega
          case rel => exact ⟨(y379), (wrap64 (x27_2 + 1)), (by first | rfl | (simp; done) | (simp [*]; done)), H', ⟨by have := HK1.out; have := HK2.out; omega⟩, ⟨by (with_reducible repeat (first | apply Kd.R_alloc | apply Kd.R_drewN | apply Kd.R_drew)); exact HO381.out⟩, ⟨bb_⟩⟩
         ·rw [if_neg c11] at H
          exact absurd H (by simp)
        ·rw [if_neg c10] at H
         exact absurd H (by simp)
       ·rw [if_neg c9] at H
        exact absurd H (by simp)
      ·rw [if_neg c8] at H
       have c8b0 : decide (x27_2 < (l0.length : Int)) = false := decide_eq_false c8
       clear c8
       obtain rfl := Option.some.inj H
       go_wp2
       go_ret
       exact ⟨_, by first | rfl | (simp [ziS, znJ] <;> rfl) | (simp [*, ziS, znJ] <;> rfl), by (with_reducible repeat (first | apply Kd.R_alloc | apply Kd.R_drewN | apply Kd.R_drew)); exact HO_6.out, bb_⟩

end Go.Proofs.YtbnfbflfhpniaaaDoor.PFnExactNormalPolygon
